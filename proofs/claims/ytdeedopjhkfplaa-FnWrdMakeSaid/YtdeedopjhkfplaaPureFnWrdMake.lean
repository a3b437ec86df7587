/-
  A word is a place and a mark. Conditions: none.
-/
import Derived.Test.YtdeedopjhkfplaaGFnWrdMakex1
import Derived.Test.YtdeedopjhkfplaaGFnWrdMakex2
import Derived.Test.YtdeedopjhkfplaaGFnWrdMakex3
namespace Go.Proofs.Ytdeedopjhkfplaa.Pure
open Go.RowKit Go.Proofs.Ytdeedopjhkfplaa.GFnWrdMake Go.Proofs.YtdeedopjhkfplaaW.PrintWords Go.Proofs.YtdeedopjhkfplaaW.PrintLast
set_option linter.unusedVariables false
set_option linter.unusedSimpArgs false

namespace FnWrdMake_
theorem wrap_nat {i : Nat} (h : i ≤ 40000000) : wrap64 (i : Int) = i := by unfold wrap64; omega
theorem wrap_succ {i : Nat} (h : i ≤ 40000000) : wrap64 ((i : Int) + 1) = ((i + 1 : Nat) : Int) := by unfold wrap64; omega
theorem wrap_pred {i : Nat} (h0 : 0 < i) (h : i ≤ 40000000) : wrap64 ((i : Int) - 1) = ((i - 1 : Nat) : Int) := by unfold wrap64; omega
theorem some_of_ext {α : Type} {ys zs : List α} (hl : ys.length = zs.length) (h : ∀ j, j < zs.length → ys[j]? = zs[j]?) : ys = zs := by
  apply List.ext_getElem?
  intro j
  by_cases hj : j < zs.length
  · exact h j hj
  · rw [List.getElem?_eq_none (by omega), List.getElem?_eq_none (by omega)]

theorem rd_nat (xs : List Int) (i : Nat) (h : i < xs.length) : rd xs (i : Int) = xs[i] := by simp [rd, h]

theorem l1In_eq (a b c : Int) : spec_l1In.f a b c = some (decide (b ≤ a ∧ a ≤ c)) := by
  unfold spec_l1In.f
  by_cases h : a ≥ b
  · rw [if_pos h]; congr 1; exact decide_eq_decide.2 ⟨fun h2 => ⟨h, h2⟩, fun h2 => h2.2⟩
  · rw [if_neg h]; congr 1; exact (decide_eq_false (fun h2 => h h2.1)).symm

theorem isWord_eq (a : Int) : impl_isWord.f a = some (decide (0 ≤ a ∧ a ≤ 19)) := by
  unfold impl_isWord.f
  by_cases h : a ≥ 0
  · rw [if_pos h]; congr 1; exact decide_eq_decide.2 ⟨fun h2 => ⟨h, h2⟩, fun h2 => h2.2⟩
  · rw [if_neg h]; congr 1; exact (decide_eq_false (fun h2 => h h2.1)).symm

/-- To which place a word leads. -/
def wto (w : Int) : Int := if 0 ≤ w ∧ w ≤ 19 then wrap64 (Int.tdiv w 2) else 0
theorem wto_range (w : Int) : 0 ≤ wto w ∧ wto w ≤ 9 := by
  unfold wto
  split
  · rename_i h
    rw [Int.tdiv_eq_ediv_of_nonneg h.1]; unfold wrap64; omega
  · omega
theorem specWrdTo_eq (w : Int) : spec_WrdTo.f w = some (wto w) := by
  unfold spec_WrdTo.f wto
  rw [l1In_eq]; simp only [Option.bind_some, decide_eq_true_eq]; split <;> rfl
theorem implWrdTo_eq (w : Int) : impl_WrdTo.f w = some (wto w) := by
  unfold impl_WrdTo.f wto
  rw [isWord_eq]; simp only [Option.bind_some, decide_eq_true_eq]; split <;> rfl

/-- Whether a word is marked. -/
def wmk (w : Int) : Bool := decide (0 ≤ w ∧ w ≤ 19) && (Int.tmod w 2 == 1)
theorem specWrdMark_eq (w : Int) : spec_WrdMark.f w = some (wmk w) := by
  unfold spec_WrdMark.f wmk
  rw [l1In_eq]; simp only [Option.bind_some, decide_eq_true_eq]; split <;> rename_i h <;> simp [h]
theorem implWrdMark_eq (w : Int) : impl_WrdMark.f w = some (wmk w) := by
  unfold impl_WrdMark.f wmk
  rw [isWord_eq]; simp only [Option.bind_some, decide_eq_true_eq]; split <;> rename_i h <;> simp [h]

/-- The word of a place. -/
def wmake (t : Int) (m : Bool) : Int := if 0 ≤ t ∧ t ≤ 9 then (if m = true then 2 * t + 1 else 2 * t) else 0
theorem specWrdMake_eq (t : Int) (m : Bool) : spec_WrdMake.f t m = some (wmake t m) := by
  unfold spec_WrdMake.f wmake
  rw [l1In_eq]; simp only [Option.bind_some, decide_eq_true_eq]
  by_cases h : 0 ≤ t ∧ t ≤ 9
  · rw [if_pos h, if_pos h, show wrap64 (2 * t) = 2 * t from by unfold wrap64; omega, show wrap64 (2 * t + 1) = 2 * t + 1 from by unfold wrap64; omega]
    cases m <;> rfl
  · rw [if_neg h, if_neg h]
theorem implWrdMake_eq (t : Int) (m : Bool) (k : Nat) (hk : 0 < k) : impl_WrdMake.f k t m = some (wmake t m) := by
  obtain ⟨k, rfl⟩ : ∃ j, k = j + 1 := ⟨k - 1, by omega⟩
  unfold impl_WrdMake.f wmake
  simp only [impl_WrdMake.j0]
  by_cases h : 0 ≤ t ∧ t ≤ 9
  · rw [if_pos h, if_neg (by omega), show wrap64 (2 * t) = 2 * t from by unfold wrap64; omega, show wrap64 (2 * t + 1) = 2 * t + 1 from by unfold wrap64; omega, decide_eq_false (p := t > 9) (by omega)]
    cases m <;> rfl
  · rw [if_neg h]
    by_cases h1 : t < 0
    · rw [if_pos h1]; rfl
    · rw [if_neg h1, decide_eq_true (p := t > 9) (by omega)]; rfl
theorem wmake_back (u : Int) (h0 : 0 ≤ u) (h1 : u ≤ 19) : wmake (wto u) (wmk u) = u := by
  unfold wmake wto wmk
  rw [if_pos (show 0 ≤ u ∧ u ≤ 19 from ⟨h0, h1⟩), Int.tdiv_eq_ediv_of_nonneg h0, Int.tmod_eq_emod_of_nonneg h0, show wrap64 (u / 2) = u / 2 from by unfold wrap64; omega, if_pos (by omega), decide_eq_true (show 0 ≤ u ∧ u ≤ 19 from ⟨h0, h1⟩)]
  by_cases h : u % 2 = 1
  · rw [if_pos (by simp [h])]; omega
  · rw [if_neg (by simp [h])]; omega
theorem wto_make (t : Int) (m : Bool) (h : 0 ≤ t ∧ t ≤ 9) : wto (wmake t m) = t ∧ wmk (wmake t m) = m := by
  unfold wmake
  rw [if_pos h]
  cases m
  · rw [if_neg (by simp)]
    unfold wto wmk
    rw [if_pos (by omega), Int.tdiv_eq_ediv_of_nonneg (by omega), Int.tmod_eq_emod_of_nonneg (by omega), show wrap64 (2 * t / 2) = t from by unfold wrap64; omega]
    refine ⟨rfl, ?_⟩
    have : ¬ (2 * t % 2 = 1) := by omega
    simp [this]
  · rw [if_pos rfl]
    unfold wto wmk
    rw [if_pos (by omega), Int.tdiv_eq_ediv_of_nonneg (by omega), Int.tmod_eq_emod_of_nonneg (by omega), show wrap64 ((2 * t + 1) / 2) = t from by unfold wrap64; omega]
    refine ⟨rfl, ?_⟩
    have h3 : (2 * t + 1) % 2 = 1 := by omega
    rw [decide_eq_true (by omega), h3]; rfl

theorem xor_nat (a b : Nat) (ha : a < 4611686018427387904) (hb : b < 4611686018427387904) : Go.bits .xor .i64 (a : Int) (b : Int) = ((a ^^^ b : Nat) : Int) := by
  have hx : a ^^^ b < 2 ^ 62 := Nat.xor_lt_two_pow (by omega) (by omega)
  have h1 : (BitVec.ofInt 64 (a : Int)).toNat = a := by rw [BitVec.ofInt_natCast, BitVec.toNat_ofNat]; exact Nat.mod_eq_of_lt (by omega)
  have h2 : (BitVec.ofInt 64 (b : Int)).toNat = b := by rw [BitVec.ofInt_natCast, BitVec.toNat_ofNat]; exact Nat.mod_eq_of_lt (by omega)
  show IntKind.i64.wrap ((BitVec.ofInt 64 (a : Int) ^^^ BitVec.ofInt 64 (b : Int)).toNat : Int) = _
  rw [BitVec.toNat_xor, h1, h2]
  simp only [IntKind.wrap, IntKind.bits, IntKind.signed]
  simp
  omega
/-- A code: bytes, not too many. -/
def Cd (xs : List Int) : Prop := xs.length ≤ 3000 ∧ ∀ x ∈ xs, 0 ≤ x ∧ x ≤ 255
theorem Cd.rd {xs : List Int} (h : Cd xs) (i : Nat) (hi : i < xs.length) : ∃ a : Nat, a ≤ 255 ∧ rd xs (i : Int) = (a : Int) := by
  have := h.2 _ (List.getElem_mem hi)
  exact ⟨xs[i].toNat, by omega, by rw [rd_nat xs i hi]; omega⟩
theorem tmod_nat (a b : Nat) : Int.tmod (a : Int) (b : Int) = ((a % b : Nat) : Int) := by rw [Int.tmod_eq_emod_of_nonneg (by omega)]; rfl
theorem tdiv_nat (a b : Nat) : Int.tdiv (a : Int) (b : Int) = ((a / b : Nat) : Int) := by rw [Int.tdiv_eq_ediv_of_nonneg (by omega)]; rfl
theorem wrapn (e : Int) (n : Nat) (h : e = (n : Int)) (hn : n < 9000000000000000000) : wrap64 e = (n : Int) := by subst h; unfold wrap64; omega
theorem pick_eq (xs : List Int) (hx : Cd xs) (p : Nat) (hp : p ≤ 1000000) (n : Nat) (hn : 0 < n) (hn2 : n ≤ 100000) (k : Nat) (hk : 0 < k) : ∃ r : Nat, r < n ∧ spec_l20Rd_pick.f k xs (p : Int) (n : Int) = some ((r : Int), ((p + 1 : Nat) : Int)) := by
  obtain ⟨k, rfl⟩ : ∃ m, k = m + 1 := ⟨k - 1, by omega⟩
  unfold spec_l20Rd_pick.f
  rw [if_neg (by omega), wrap_succ (by omega)]
  have h1 : wrap64 (((p + 1 : Nat) : Int) - 1) = (p : Int) := by unfold wrap64; omega
  simp only [spec_l20Rd_pick.j0, h1]
  by_cases h0 : xs.length = 0
  · refine ⟨0, hn, ?_⟩
    rw [if_pos (by simp [h0])]; rfl
  · have hl : 0 < xs.length := by omega
    rw [if_neg (by simp only [beq_iff_eq]; omega)]
    by_cases h2 : p < xs.length
    · obtain ⟨a, ha, ea⟩ := hx.rd p h2
      rw [if_pos (by omega), if_pos (by omega), if_neg (by omega), ea, wrapn _ a rfl (by omega), tmod_nat]
      exact ⟨a % n, Nat.mod_lt _ hn, rfl⟩
    · rw [if_neg (by omega), if_neg (by omega)]
      have e7 : wrap64 ((wrap64 ((p : Int) * 7)) + 3) = ((p * 7 + 3 : Nat) : Int) := by
        rw [wrapn ((p : Int) * 7) (p * 7) (by omega) (by omega)]; exact wrapn _ _ (by omega) (by omega)
      have m1 : p % xs.length < xs.length := Nat.mod_lt _ hl
      have m2 : (p * 7 + 3) % xs.length < xs.length := Nat.mod_lt _ hl
      rw [e7, tmod_nat, tmod_nat, tdiv_nat, if_pos (by omega), if_pos (by omega), if_pos (by omega), if_pos (by omega), if_neg (by omega)]
      obtain ⟨a, ha, ea⟩ := hx.rd _ m1
      obtain ⟨b, hb, eb⟩ := hx.rd _ m2
      have hq : p / xs.length ≤ p := Nat.div_le_self _ _
      generalize p / xs.length = q at hq ⊢
      have ex : wrap64 ((wrap64 ((wrap64 ((wrap64 ((wrap64 (rd xs ((p % xs.length : Nat) : Int))) * 131)) + (wrap64 ((wrap64 (rd xs (((p * 7 + 3) % xs.length : Nat) : Int))) * 1117)))) + (wrap64 ((p : Int) * 29)))) + (wrap64 ((wrap64 (q : Int)) * 53))) = ((a * 131 + b * 1117 + p * 29 + q * 53 : Nat) : Int) := by
        rw [ea, eb, wrapn (a : Int) a rfl (by omega), wrapn (b : Int) b rfl (by omega), wrapn (q : Int) q rfl (by omega), wrapn ((a : Int) * 131) (a * 131) (by omega) (by omega), wrapn ((b : Int) * 1117) (b * 1117) (by omega) (by omega), wrapn ((p : Int) * 29) (p * 29) (by omega) (by omega), wrapn ((q : Int) * 53) (q * 53) (by omega) (by omega)]
        rw [wrapn (((a * 131 : Nat) : Int) + ((b * 1117 : Nat) : Int)) (a * 131 + b * 1117) (by omega) (by omega), wrapn (((a * 131 + b * 1117 : Nat) : Int) + ((p * 29 : Nat) : Int)) (a * 131 + b * 1117 + p * 29) (by omega) (by omega), wrapn (((a * 131 + b * 1117 + p * 29 : Nat) : Int) + ((q * 53 : Nat) : Int)) (a * 131 + b * 1117 + p * 29 + q * 53) (by omega) (by omega)]
      rw [ex]
      generalize hX : a * 131 + b * 1117 + p * 29 + q * 53 = X
      have hXb : X ≤ 100000000 := by omega
      have ed : Int.tdiv (X : Int) 64 = ((X / 64 : Nat) : Int) := tdiv_nat X 64
      rw [ed, wrapn _ (X / 64) rfl (by omega), xor_nat X (X / 64) (by omega) (by omega), tmod_nat]
      exact ⟨_, Nat.mod_lt _ hn, rfl⟩

theorem open_eq (l : List Int) (hw : ∀ x ∈ l, (Lit.int .u8 x).wf = true) : ∃ xs, Cd xs ∧ spec_l20Open.f l = some (xs, 0) := by
  have hb : ∀ x ∈ l, 0 ≤ x ∧ x ≤ 255 := fun x hx => by
    have := hw x hx
    simp [Lit.wf, IntKind.min, IntKind.max, IntKind.signed, IntKind.bits] at this
    omega
  unfold spec_l20Open.f
  by_cases h : l.length ≤ 3000
  · rw [if_neg (by omega)]; exact ⟨l, ⟨h, hb⟩, rfl⟩
  · rw [if_pos (by omega), if_pos (by omega)]
    exact ⟨l.take 3000, ⟨by rw [List.length_take]; omega, fun x hx => hb x (List.mem_of_mem_take hx)⟩, rfl⟩

theorem tgOk_eq (k : Nat) (hk : 5 < k) : laws_tgOk.f k = some true := by
  obtain ⟨k, rfl⟩ : ∃ m, k = m + 1 := ⟨k - 1, by omega⟩
  unfold laws_tgOk.f impl_MapOk.f
  simp [impl_MapOk.l0]

theorem drawTo (l : List Int) (hw : ∀ x ∈ l, (Lit.int .u8 x).wf = true) (k : Nat) (hk : 10 < k) : ∃ u, spec_DrawWrdTo.f k l = some u := by
  obtain ⟨xs, hx, e⟩ := open_eq l hw
  unfold spec_DrawWrdTo.f
  rw [e]; simp only [Option.bind_some]
  obtain ⟨r1, hr1, e1⟩ := pick_eq xs hx 0 (by omega) 22 (by omega) (by omega) k (by omega)
  obtain ⟨r2, hr2, e2⟩ := pick_eq xs hx 1 (by omega) 22 (by omega) (by omega) k (by omega)
  obtain ⟨r3, hr3, e3⟩ := pick_eq xs hx 2 (by omega) 6 (by omega) (by omega) k (by omega)
  rw [show spec_l20Rd_pick.f k xs 0 22 = _ from e1]; simp only [Option.bind_some]
  rw [show spec_l20Rd_pick.f k xs ((0 + 1 : Nat) : Int) 22 = _ from e2]; simp only [Option.bind_some]
  rw [show spec_l20Rd_pick.f k xs ((1 + 1 : Nat) : Int) 6 = _ from e3]; simp only [Option.bind_some]
  rw [if_pos (by omega), if_pos (by simp; omega)]
  exact ⟨_, rfl⟩
theorem drawMake (l : List Int) (hw : ∀ x ∈ l, (Lit.int .u8 x).wf = true) (k : Nat) (hk : 10 < k) : ∃ t m, spec_DrawWrdMake.f k l = some (t, m) := by
  obtain ⟨xs, hx, e⟩ := open_eq l hw
  unfold spec_DrawWrdMake.f
  rw [e]; simp only [Option.bind_some]
  obtain ⟨r1, hr1, e1⟩ := pick_eq xs hx 0 (by omega) 9 (by omega) (by omega) k (by omega)
  obtain ⟨r2, hr2, e2⟩ := pick_eq xs hx 1 (by omega) 6 (by omega) (by omega) k (by omega)
  obtain ⟨r3, hr3, e3⟩ := pick_eq xs hx 2 (by omega) 2 (by omega) (by omega) k (by omega)
  rw [show spec_l20Rd_pick.f k xs 0 9 = _ from e1]; simp only [Option.bind_some]
  rw [show spec_l20Rd_pick.f k xs ((0 + 1 : Nat) : Int) 6 = _ from e2]; simp only [Option.bind_some]
  rw [show spec_l20Rd_pick.f k xs ((1 + 1 : Nat) : Int) 2 = _ from e3]; simp only [Option.bind_some]
  rw [if_pos (by omega), if_pos (by simp; omega)]
  exact ⟨_, _, rfl⟩
theorem final : laws_FnWrdMake.Pure := by
  intro l l2 hm _ hw hm2 _ hw2
  refine ⟨2000000, ?_⟩
  unfold laws_FnWrdMake.f
  by_cases hn : l.length ≤ 1048576
  · rw [if_neg (by omega)]
    by_cases hn2 : l2.length ≤ 1048576
    · rw [if_neg (by omega)]
      obtain ⟨t, m, e1⟩ := drawMake l hw 2000000 (by omega)
      obtain ⟨u, e2⟩ := drawTo l2 hw2 2000000 (by omega)
      have tail : (if t < 0 then (if wmake t m = 0 then ((laws_tgOk.f 2000000).bind fun t155 => (some t155)) else (some false)) else (if t > 9 then (if wmake t m = 0 then ((laws_tgOk.f 2000000).bind fun t156 => (some t156)) else (some false)) else ((impl_WrdTo.f (wmake t m)).bind fun t157 => (if t157 = t then ((impl_WrdMark.f (wmake t m)).bind fun t158 => (if (t158 == m) = true then ((laws_tgOk.f 2000000).bind fun t159 => (some t159)) else (some false))) else (some false))))) = some true := by
        rw [tgOk_eq _ (by omega)]; simp only [Option.bind_some]
        by_cases h0 : t < 0
        · rw [if_pos h0, if_pos (by unfold wmake; rw [if_neg (by omega)])]
        · rw [if_neg h0]
          by_cases h1 : t > 9
          · rw [if_pos h1, if_pos (by unfold wmake; rw [if_neg (by omega)])]
          · rw [if_neg h1, implWrdTo_eq]; simp only [Option.bind_some]
            have hb := wto_make t m (by omega)
            rw [if_pos hb.1, implWrdMark_eq]; simp only [Option.bind_some]
            rw [if_pos (by rw [hb.2]; simp)]
      simp only [e1, e2, Option.bind_some, implWrdMake_eq _ _ 2000000 (by omega), specWrdMake_eq, implWrdTo_eq, specWrdTo_eq, implWrdMark_eq, specWrdMark_eq, if_true, bne_self_eq_false, Bool.false_eq_true, if_false] at tail ⊢
      by_cases g0 : u ≥ 0
      · rw [if_pos g0]
        by_cases g1 : u ≤ 19
        · rw [if_pos g1, if_pos (wmake_back u g0 g1)]; exact tail
        · rw [if_neg g1]; exact tail
      · rw [if_neg g0]; exact tail
    · rw [if_pos (by omega)]
  · rw [if_pos (by omega)]
end FnWrdMake_

theorem FnWrdMake : laws_FnWrdMake.Pure := FnWrdMake_.final

end Go.Proofs.Ytdeedopjhkfplaa.Pure
