/-
  What may be asked has just what it has. Conditions: none.
-/
import Derived.Test.YtdeedopjhkfplaaGFnOpOkx1
import Derived.Test.YtdeedopjhkfplaaGFnOpOkx2
import Derived.Test.YtdeedopjhkfplaaGFnOpOkx3
import Derived.Test.YtdeedopjhkfplaaGFnOpOkx4
namespace Go.Proofs.Ytdeedopjhkfplaa.Pure
open Go.RowKit Go.Proofs.Ytdeedopjhkfplaa.GFnOpOk Go.Proofs.YtdeedopjhkfplaaW.PrintWords Go.Proofs.YtdeedopjhkfplaaW.PrintLast
set_option linter.unusedVariables false
set_option linter.unusedSimpArgs false

namespace FnOpOk_
theorem wrap_nat {i : Nat} (h : i ≤ 40000000) : wrap64 (i : Int) = i := by unfold wrap64; omega
theorem wrap_succ {i : Nat} (h : i ≤ 40000000) : wrap64 ((i : Int) + 1) = ((i + 1 : Nat) : Int) := by unfold wrap64; omega
theorem wrap_pred {i : Nat} (h0 : 0 < i) (h : i ≤ 40000000) : wrap64 ((i : Int) - 1) = ((i - 1 : Nat) : Int) := by unfold wrap64; omega
theorem some_of_ext {α : Type} {ys zs : List α} (hl : ys.length = zs.length) (h : ∀ j, j < zs.length → ys[j]? = zs[j]?) : ys = zs := by
  apply List.ext_getElem?
  intro j
  by_cases hj : j < zs.length
  · exact h j hj
  · rw [List.getElem?_eq_none (by omega), List.getElem?_eq_none (by omega)]

theorem rd_nat (xs : List Int) (i : Nat) (h : i < xs.length) : rd xs (i : Int) = xs[i] := by simp [rd, h]

theorem l1In_eq (a b c : Int) : spec_l1In.f a b c = some (decide (b ≤ a ∧ a ≤ c)) := by
  unfold spec_l1In.f
  by_cases h : a ≥ b
  · rw [if_pos h]; congr 1; exact decide_eq_decide.2 ⟨fun h2 => ⟨h, h2⟩, fun h2 => h2.2⟩
  · rw [if_neg h]; congr 1; exact (decide_eq_false (fun h2 => h h2.1)).symm

theorem isKey_eq (a : Int) : impl_isKey.f a = some (decide (0 ≤ a ∧ a ≤ 99)) := by
  unfold impl_isKey.f
  by_cases h : a ≥ 0
  · rw [if_pos h]; congr 1; exact decide_eq_decide.2 ⟨fun h2 => ⟨h, h2⟩, fun h2 => h2.2⟩
  · rw [if_neg h]; congr 1; exact (decide_eq_false (fun h2 => h h2.1)).symm

theorem isVal_eq (a : Int) : impl_isVal.f a = some (decide (0 ≤ a ∧ a ≤ 999)) := by
  unfold impl_isVal.f
  by_cases h : a ≥ 0
  · rw [if_pos h]; congr 1; exact decide_eq_decide.2 ⟨fun h2 => ⟨h, h2⟩, fun h2 => h2.2⟩
  · rw [if_neg h]; congr 1; exact (decide_eq_false (fun h2 => h h2.1)).symm

/-- What may be asked. -/
def opB (a b c : Int) : Bool :=
  if a = 1 ∨ a = 3 ∨ a = 9 ∨ a = 10 then decide (0 ≤ b ∧ b ≤ 99) && c == 0
  else if a = 2 then decide (0 ≤ b ∧ b ≤ 99) && decide (0 ≤ c ∧ c ≤ 999)
  else if a = 5 ∨ a = 7 then b == 0 && decide (0 ≤ c ∧ c ≤ 999)
  else if a = 4 ∨ a = 6 ∨ a = 8 ∨ a = 11 ∨ a = 12 then b == 0 && c == 0
  else false
theorem ite_some {p q : Prop} [Decidable p] [Decidable q] : (if p then some (decide q) else some false) = some (decide p && decide q) := by by_cases h : p <;> simp [h]
theorem ite_some' {p : Prop} [Decidable p] {q : Bool} : (if p then some q else some false) = some (decide p && q) := by by_cases h : p <;> simp [h]
theorem kinds (P : Int → Prop) (h1 : P 1) (h2 : P 2) (h3 : P 3) (h4 : P 4) (h5 : P 5) (h6 : P 6) (h7 : P 7) (h8 : P 8) (h9 : P 9) (h10 : P 10) (h11 : P 11) (h12 : P 12) (h : ∀ a, a ≠ 1 → a ≠ 2 → a ≠ 3 → a ≠ 4 → a ≠ 5 → a ≠ 6 → a ≠ 7 → a ≠ 8 → a ≠ 9 → a ≠ 10 → a ≠ 11 → a ≠ 12 → P a) (a : Int) : P a := by
  by_cases e1 : a = 1; · exact e1 ▸ h1
  by_cases e2 : a = 2; · exact e2 ▸ h2
  by_cases e3 : a = 3; · exact e3 ▸ h3
  by_cases e4 : a = 4; · exact e4 ▸ h4
  by_cases e5 : a = 5; · exact e5 ▸ h5
  by_cases e6 : a = 6; · exact e6 ▸ h6
  by_cases e7 : a = 7; · exact e7 ▸ h7
  by_cases e8 : a = 8; · exact e8 ▸ h8
  by_cases e9 : a = 9; · exact e9 ▸ h9
  by_cases e10 : a = 10; · exact e10 ▸ h10
  by_cases e11 : a = 11; · exact e11 ▸ h11
  by_cases e12 : a = 12; · exact e12 ▸ h12
  exact h a e1 e2 e3 e4 e5 e6 e7 e8 e9 e10 e11 e12
theorem specOpOk_eq (K : Nat) (a b c : Int) : spec_OpOk.f (K + 5) a b c = some (opB a b c) := by
  revert a
  apply kinds
  case h => intro a e1 e2 e3 e4 e5 e6 e7 e8 e9 e10 e11 e12; simp [spec_OpOk.f, spec_OpOk.j0, l1In_eq, opB, e1, e2, e3, e4, e5, e6, e7, e8, e9, e10, e11, e12]
  all_goals simp [spec_OpOk.f, spec_OpOk.j0, l1In_eq, opB, ite_some, ite_some', -Bool.decide_and] <;> rfl
theorem implOpOk_eq (K : Nat) (a b c : Int) : impl_OpOk.f (K + 5) a b c = some (opB a b c) := by
  revert a
  apply kinds
  case h => intro a e1 e2 e3 e4 e5 e6 e7 e8 e9 e10 e11 e12; simp [impl_OpOk.f, impl_OpOk.j0, impl_OpOk.j1, isKey_eq, isVal_eq, opB, e1, e2, e3, e4, e5, e6, e7, e8, e9, e10, e11, e12]
  all_goals simp [impl_OpOk.f, impl_OpOk.j0, impl_OpOk.j1, isKey_eq, isVal_eq, opB, ite_some, ite_some', -Bool.decide_and] <;> rfl

theorem xor_nat (a b : Nat) (ha : a < 4611686018427387904) (hb : b < 4611686018427387904) : Go.bits .xor .i64 (a : Int) (b : Int) = ((a ^^^ b : Nat) : Int) := by
  have hx : a ^^^ b < 2 ^ 62 := Nat.xor_lt_two_pow (by omega) (by omega)
  have h1 : (BitVec.ofInt 64 (a : Int)).toNat = a := by rw [BitVec.ofInt_natCast, BitVec.toNat_ofNat]; exact Nat.mod_eq_of_lt (by omega)
  have h2 : (BitVec.ofInt 64 (b : Int)).toNat = b := by rw [BitVec.ofInt_natCast, BitVec.toNat_ofNat]; exact Nat.mod_eq_of_lt (by omega)
  show IntKind.i64.wrap ((BitVec.ofInt 64 (a : Int) ^^^ BitVec.ofInt 64 (b : Int)).toNat : Int) = _
  rw [BitVec.toNat_xor, h1, h2]
  simp only [IntKind.wrap, IntKind.bits, IntKind.signed]
  simp
  omega
/-- A code: bytes, not too many. -/
def Cd (xs : List Int) : Prop := xs.length ≤ 3000 ∧ ∀ x ∈ xs, 0 ≤ x ∧ x ≤ 255
theorem Cd.rd {xs : List Int} (h : Cd xs) (i : Nat) (hi : i < xs.length) : ∃ a : Nat, a ≤ 255 ∧ rd xs (i : Int) = (a : Int) := by
  have := h.2 _ (List.getElem_mem hi)
  exact ⟨xs[i].toNat, by omega, by rw [rd_nat xs i hi]; omega⟩
theorem tmod_nat (a b : Nat) : Int.tmod (a : Int) (b : Int) = ((a % b : Nat) : Int) := by rw [Int.tmod_eq_emod_of_nonneg (by omega)]; rfl
theorem tdiv_nat (a b : Nat) : Int.tdiv (a : Int) (b : Int) = ((a / b : Nat) : Int) := by rw [Int.tdiv_eq_ediv_of_nonneg (by omega)]; rfl
theorem wrapn (e : Int) (n : Nat) (h : e = (n : Int)) (hn : n < 9000000000000000000) : wrap64 e = (n : Int) := by subst h; unfold wrap64; omega
theorem pick_eq (xs : List Int) (hx : Cd xs) (p : Nat) (hp : p ≤ 1000000) (n : Nat) (hn : 0 < n) (hn2 : n ≤ 100000) (k : Nat) (hk : 0 < k) : ∃ r : Nat, r < n ∧ spec_l20Rd_pick.f k xs (p : Int) (n : Int) = some ((r : Int), ((p + 1 : Nat) : Int)) := by
  obtain ⟨k, rfl⟩ : ∃ m, k = m + 1 := ⟨k - 1, by omega⟩
  unfold spec_l20Rd_pick.f
  rw [if_neg (by omega), wrap_succ (by omega)]
  have h1 : wrap64 (((p + 1 : Nat) : Int) - 1) = (p : Int) := by unfold wrap64; omega
  simp only [spec_l20Rd_pick.j0, h1]
  by_cases h0 : xs.length = 0
  · refine ⟨0, hn, ?_⟩
    rw [if_pos (by simp [h0])]; rfl
  · have hl : 0 < xs.length := by omega
    rw [if_neg (by simp only [beq_iff_eq]; omega)]
    by_cases h2 : p < xs.length
    · obtain ⟨a, ha, ea⟩ := hx.rd p h2
      rw [if_pos (by omega), if_pos (by omega), if_neg (by omega), ea, wrapn _ a rfl (by omega), tmod_nat]
      exact ⟨a % n, Nat.mod_lt _ hn, rfl⟩
    · rw [if_neg (by omega), if_neg (by omega)]
      have e7 : wrap64 ((wrap64 ((p : Int) * 7)) + 3) = ((p * 7 + 3 : Nat) : Int) := by
        rw [wrapn ((p : Int) * 7) (p * 7) (by omega) (by omega)]; exact wrapn _ _ (by omega) (by omega)
      have m1 : p % xs.length < xs.length := Nat.mod_lt _ hl
      have m2 : (p * 7 + 3) % xs.length < xs.length := Nat.mod_lt _ hl
      rw [e7, tmod_nat, tmod_nat, tdiv_nat, if_pos (by omega), if_pos (by omega), if_pos (by omega), if_pos (by omega), if_neg (by omega)]
      obtain ⟨a, ha, ea⟩ := hx.rd _ m1
      obtain ⟨b, hb, eb⟩ := hx.rd _ m2
      have hq : p / xs.length ≤ p := Nat.div_le_self _ _
      generalize p / xs.length = q at hq ⊢
      have ex : wrap64 ((wrap64 ((wrap64 ((wrap64 ((wrap64 (rd xs ((p % xs.length : Nat) : Int))) * 131)) + (wrap64 ((wrap64 (rd xs (((p * 7 + 3) % xs.length : Nat) : Int))) * 1117)))) + (wrap64 ((p : Int) * 29)))) + (wrap64 ((wrap64 (q : Int)) * 53))) = ((a * 131 + b * 1117 + p * 29 + q * 53 : Nat) : Int) := by
        rw [ea, eb, wrapn (a : Int) a rfl (by omega), wrapn (b : Int) b rfl (by omega), wrapn (q : Int) q rfl (by omega), wrapn ((a : Int) * 131) (a * 131) (by omega) (by omega), wrapn ((b : Int) * 1117) (b * 1117) (by omega) (by omega), wrapn ((p : Int) * 29) (p * 29) (by omega) (by omega), wrapn ((q : Int) * 53) (q * 53) (by omega) (by omega)]
        rw [wrapn (((a * 131 : Nat) : Int) + ((b * 1117 : Nat) : Int)) (a * 131 + b * 1117) (by omega) (by omega), wrapn (((a * 131 + b * 1117 : Nat) : Int) + ((p * 29 : Nat) : Int)) (a * 131 + b * 1117 + p * 29) (by omega) (by omega), wrapn (((a * 131 + b * 1117 + p * 29 : Nat) : Int) + ((q * 53 : Nat) : Int)) (a * 131 + b * 1117 + p * 29 + q * 53) (by omega) (by omega)]
      rw [ex]
      generalize hX : a * 131 + b * 1117 + p * 29 + q * 53 = X
      have hXb : X ≤ 100000000 := by omega
      have ed : Int.tdiv (X : Int) 64 = ((X / 64 : Nat) : Int) := tdiv_nat X 64
      rw [ed, wrapn _ (X / 64) rfl (by omega), xor_nat X (X / 64) (by omega) (by omega), tmod_nat]
      exact ⟨_, Nat.mod_lt _ hn, rfl⟩

theorem odd_eq (xs : List Int) (hx : Cd xs) (p : Nat) (hp : p ≤ 1000000) (n : Nat) (hn : 0 < n) (hn2 : n ≤ 100000) (k : Nat) (hk : 0 < k) : ∃ b : Bool, spec_l20Rd_odd.f k xs (p : Int) (n : Int) = some (b, ((p + 1 : Nat) : Int)) := by
  obtain ⟨r, _, h⟩ := pick_eq xs hx p hp n hn hn2 k hk
  unfold spec_l20Rd_odd.f
  rw [h]
  exact ⟨_, rfl⟩

theorem open_eq (l : List Int) (hw : ∀ x ∈ l, (Lit.int .u8 x).wf = true) : ∃ xs, Cd xs ∧ spec_l20Open.f l = some (xs, 0) := by
  have hb : ∀ x ∈ l, 0 ≤ x ∧ x ≤ 255 := fun x hx => by
    have := hw x hx
    simp [Lit.wf, IntKind.min, IntKind.max, IntKind.signed, IntKind.bits] at this
    omega
  unfold spec_l20Open.f
  by_cases h : l.length ≤ 3000
  · rw [if_neg (by omega)]; exact ⟨l, ⟨h, hb⟩, rfl⟩
  · rw [if_pos (by omega), if_pos (by omega)]
    exact ⟨l.take 3000, ⟨by rw [List.length_take]; omega, fun x hx => hb x (List.mem_of_mem_take hx)⟩, rfl⟩

theorem tgOk_eq (k : Nat) (hk : 5 < k) : laws_tgOk.f k = some true := by
  obtain ⟨k, rfl⟩ : ∃ m, k = m + 1 := ⟨k - 1, by omega⟩
  unfold laws_tgOk.f impl_MapOk.f
  simp [impl_MapOk.l0]

theorem opj4 (xs : List Int) (hx : Cd xs) (n : Nat) (hn : 0 < n) (hn2 : n ≤ 1000) (k p : Nat) (hp : p ≤ 1000) (hk : 20 < k) (a b c : Int) : ∃ a' b' c' : Int, ∃ q : Nat, spec_l20Op.j4 k (n : Int) xs (p : Int) a b c = some (a', b', c', (q : Int)) := by
  obtain ⟨k, rfl⟩ : ∃ m, k = m + 1 := ⟨k - 1, by omega⟩
  simp only [spec_l20Op.j4]
  obtain ⟨o, ho⟩ := odd_eq xs hx p (by omega) n hn (by omega) k (by omega)
  rw [ho]; simp only [Option.bind_some]
  cases o
  · rw [if_neg (by simp)]; exact ⟨a, b, c, p + 1, rfl⟩
  · rw [if_pos rfl]
    obtain ⟨r, hr, e⟩ := pick_eq xs hx (p + 1) (by omega) 3 (by omega) (by omega) k (by omega)
    rw [show spec_l20Rd_pick.f k xs ((p + 1 : Nat) : Int) 3 = _ from e]
    simp only [Option.bind_some]
    by_cases h0 : (r : Int) = 0
    · rw [if_pos h0]
      obtain ⟨r2, hr2, e2⟩ := pick_eq xs hx (p + 1 + 1) (by omega) 12 (by omega) (by omega) k (by omega)
      rw [show spec_l20Rd_pick.f k xs ((p + 1 + 1 : Nat) : Int) 12 = _ from e2]
      simp only [Option.bind_some]
      obtain ⟨r3, hr3, e3⟩ := pick_eq xs hx (p + 1 + 1 + 1) (by omega) 4 (by omega) (by omega) k (by omega)
      rw [show spec_l20Rd_pick.f k xs ((p + 1 + 1 + 1 : Nat) : Int) 4 = _ from e3]
      simp only [Option.bind_some]
      rw [if_pos (by omega), if_pos (by simp; omega)]
      exact ⟨_, _, _, _, rfl⟩
    · rw [if_neg h0]
      obtain ⟨r3, hr3, e3⟩ := pick_eq xs hx (p + 1 + 1) (by omega) 3 (by omega) (by omega) k (by omega)
      by_cases h1 : (r : Int) = 1
      · rw [if_pos h1]
        rw [show spec_l20Rd_pick.f k xs ((p + 1 + 1 : Nat) : Int) 3 = _ from e3]
        simp only [Option.bind_some]
        rw [if_pos (by omega), if_pos (by simp; omega)]
        exact ⟨_, _, _, _, rfl⟩
      · rw [if_neg h1]
        rw [show spec_l20Rd_pick.f k xs ((p + 1 + 1 : Nat) : Int) 3 = _ from e3]
        simp only [Option.bind_some]
        rw [if_pos (by omega), if_pos (by simp; omega)]
        exact ⟨_, _, _, _, rfl⟩
theorem opj3 (xs : List Int) (hx : Cd xs) (n : Nat) (hn : 0 < n) (hn2 : n ≤ 1000) (k p : Nat) (hp : p ≤ 900) (hk : 30 < k) (a b c : Int) : ∃ a' b' c' : Int, ∃ q : Nat, spec_l20Op.j3 k (n : Int) xs (p : Int) a b c = some (a', b', c', (q : Int)) := by
  obtain ⟨k, rfl⟩ : ∃ m, k = m + 1 := ⟨k - 1, by omega⟩
  simp only [spec_l20Op.j3]
  by_cases h : a = 2
  · rw [if_pos h]
    obtain ⟨r, hr, e⟩ := pick_eq xs hx p (by omega) 20 (by omega) (by omega) k (by omega)
    rw [show spec_l20Rd_pick.f k xs (p : Int) 20 = _ from e]
    exact opj4 xs hx n hn hn2 k (p + 1) (by omega) (by omega) _ _ _
  · rw [if_neg h]; exact opj4 xs hx n hn hn2 k p (by omega) (by omega) _ _ _
theorem opj2 (xs : List Int) (hx : Cd xs) (n : Nat) (hn : 0 < n) (hn2 : n ≤ 1000) (k p : Nat) (hp : p ≤ 800) (hk : 40 < k) (t : Bool) (a b c : Int) : ∃ a' b' c' : Int, ∃ q : Nat, spec_l20Op.j2 k (n : Int) t xs (p : Int) a b c = some (a', b', c', (q : Int)) := by
  obtain ⟨k, rfl⟩ : ∃ m, k = m + 1 := ⟨k - 1, by omega⟩
  simp only [spec_l20Op.j2]
  cases t
  · rw [if_neg (by simp)]; exact opj3 xs hx n hn hn2 k p (by omega) (by omega) _ _ _
  · rw [if_pos rfl]
    obtain ⟨r1, hr1, e1⟩ := pick_eq xs hx p (by omega) 4 (by omega) (by omega) k (by omega)
    obtain ⟨r2, hr2, e2⟩ := pick_eq xs hx (p + 1) (by omega) 4 (by omega) (by omega) k (by omega)
    obtain ⟨r3, hr3, e3⟩ := pick_eq xs hx (p + 1 + 1) (by omega) 8 (by omega) (by omega) k (by omega)
    obtain ⟨r4, hr4, e4⟩ := pick_eq xs hx (p + 1 + 1 + 1) (by omega) 100 (by omega) (by omega) k (by omega)
    obtain ⟨r5, hr5, e5⟩ := pick_eq xs hx (p + 1 + 1 + 1 + 1) (by omega) 4 (by omega) (by omega) k (by omega)
    rw [show spec_l20Rd_pick.f k xs (p : Int) 4 = _ from e1]
    simp only [Option.bind_some]
    rw [show spec_l20Rd_pick.f k xs ((p + 1 : Nat) : Int) 4 = _ from e2]
    simp only [Option.bind_some]
    rw [show spec_l20Rd_pick.f k xs ((p + 1 + 1 : Nat) : Int) 8 = _ from e3]
    simp only [Option.bind_some]
    rw [show spec_l20Rd_pick.f k xs ((p + 1 + 1 + 1 : Nat) : Int) 100 = _ from e4]
    simp only [Option.bind_some]
    rw [show spec_l20Rd_pick.f k xs ((p + 1 + 1 + 1 + 1 : Nat) : Int) 4 = _ from e5]
    simp only [Option.bind_some]
    rw [if_pos (by omega), if_pos (by simp; omega)]
    exact opj3 xs hx n hn hn2 k (p + 1 + 1 + 1 + 1 + 1) (by omega) (by omega) _ _ _
theorem opj1 (xs : List Int) (hx : Cd xs) (n : Nat) (hn : 0 < n) (hn2 : n ≤ 1000) (k p : Nat) (hp : p ≤ 700) (hk : 50 < k) (a b c : Int) : ∃ a' b' c' : Int, ∃ q : Nat, spec_l20Op.j1 k (n : Int) xs (p : Int) a b c = some (a', b', c', (q : Int)) := by
  obtain ⟨k, rfl⟩ : ∃ m, k = m + 1 := ⟨k - 1, by omega⟩
  simp only [spec_l20Op.j1]
  by_cases h : a < 4
  · rw [if_pos h]; exact opj2 xs hx n hn hn2 k p (by omega) (by omega) _ _ _ _
  · rw [if_neg h]
    by_cases h2 : a = 9
    · rw [if_pos h2]; exact opj2 xs hx n hn hn2 k p (by omega) (by omega) _ _ _ _
    · rw [if_neg h2]; exact opj2 xs hx n hn hn2 k p (by omega) (by omega) _ _ _ _
theorem opj0 (xs : List Int) (hx : Cd xs) (n : Nat) (hn : 0 < n) (hn2 : n ≤ 1000) (k p : Nat) (hp : p ≤ 600) (hk : 60 < k) (t : Bool) (a b c : Int) : ∃ a' b' c' : Int, ∃ q : Nat, spec_l20Op.j0 k (n : Int) t xs (p : Int) a b c = some (a', b', c', (q : Int)) := by
  obtain ⟨k, rfl⟩ : ∃ m, k = m + 1 := ⟨k - 1, by omega⟩
  simp only [spec_l20Op.j0]
  cases t
  · rw [if_neg (by simp)]; exact opj1 xs hx n hn hn2 k p (by omega) (by omega) _ _ _
  · rw [if_pos rfl]
    obtain ⟨r, hr, e⟩ := pick_eq xs hx p (by omega) 20 (by omega) (by omega) k (by omega)
    rw [show spec_l20Rd_pick.f k xs (p : Int) 20 = _ from e]
    exact opj1 xs hx n hn hn2 k (p + 1) (by omega) (by omega) _ _ _
theorem op_eq (xs : List Int) (hx : Cd xs) (n : Nat) (hn : 0 < n) (hn2 : n ≤ 1000) (k p : Nat) (hp : p ≤ 500) (hk : 70 < k) : ∃ a' b' c' : Int, ∃ q : Nat, spec_l20Op.f k xs (p : Int) (n : Int) = some (a', b', c', (q : Int)) := by
  unfold spec_l20Op.f
  obtain ⟨r, hr, e⟩ := pick_eq xs hx p (by omega) 18 (by omega) (by omega) k (by omega)
  simp only [Option.bind_some]
  rw [show spec_l20Rd_pick.f k xs (p : Int) 18 = _ from e]
  simp only [Option.bind_some]
  rw [if_pos (by omega), if_pos (by simp; omega)]
  by_cases h : rd [1, 2, 2, 2, 3, 3, 4, 5, 5, 6, 7, 7, 8, 9, 10, 10, 11, 12] (r : Int) = 5
  · rw [if_pos h]; exact opj0 xs hx n hn hn2 k (p + 1) (by omega) (by omega) _ _ _ _
  · rw [if_neg h]; exact opj0 xs hx n hn hn2 k (p + 1) (by omega) (by omega) _ _ _ _

theorem opB_key (a c : Int) : opB a 100 c = false := by
  unfold opB
  split
  · simp
  · split
    · simp
    · split
      · simp
      · split <;> simp
theorem opB_val (a b : Int) : opB a b 1000 = false := by
  unfold opB
  split
  · simp
  · split
    · simp
    · split
      · simp
      · split <;> simp
theorem opB_has (a b c : Int) (h : opB a b c = true) : (1 ≤ a ∧ a ≤ 12) ∧ (c = 0 ∨ a = 2 ∨ a = 5 ∨ a = 7) := by
  unfold opB at h
  split at h
  · simp only [Bool.and_eq_true, beq_iff_eq] at h; omega
  · split at h
    · omega
    · split at h
      · omega
      · split at h
        · simp only [Bool.and_eq_true, beq_iff_eq] at h; omega
        · cases h
theorem final : laws_FnOpOk.Pure := by
  intro l hm _ hw
  obtain ⟨K, hK⟩ : ∃ K, 3000000 ≤ K := ⟨3000000, Nat.le_refl _⟩
  refine ⟨K + 5, ?_⟩
  unfold laws_FnOpOk.f
  by_cases hn : l.length ≤ 1048576
  · rw [if_neg (by omega)]
    obtain ⟨xs, hx, e⟩ := open_eq l hw
    obtain ⟨a, b, c, q, h3⟩ := op_eq xs hx 2 (by omega) (by omega) (K + 5) 0 (by omega) (by omega)
    have hd : spec_DrawOpOk.f (K + 5) l = some (a, b, c) := by
      unfold spec_DrawOpOk.f
      rw [e]; simp only [Option.bind_some]
      rw [show spec_l20Op.f (K + 5) xs 0 2 = _ from h3]; rfl
    rw [hd]; simp only [Option.bind_some, specOpOk_eq, implOpOk_eq, opB_key, opB_val, tgOk_eq (K + 5) (by omega), bne_self_eq_false, Bool.false_eq_true, if_false]
    by_cases hb : opB a b c = true
    · rw [if_pos hb]
      obtain ⟨h1, h2⟩ := opB_has a b c hb
      by_cases g0 : c = 0
      · rw [if_pos g0, if_pos h1.1, decide_eq_true h1.2]
      · rw [if_neg g0]
        by_cases g1 : a = 2
        · rw [if_pos g1, if_pos h1.1, decide_eq_true h1.2]
        · rw [if_neg g1]
          by_cases g2 : a = 5
          · rw [if_pos g2, if_pos h1.1, decide_eq_true h1.2]
          · rw [if_neg g2, if_pos (by omega), if_pos h1.1, decide_eq_true h1.2]
    · rw [if_neg hb]
  · rw [if_pos (by omega)]
end FnOpOk_

theorem FnOpOk : laws_FnOpOk.Pure := FnOpOk_.final

end Go.Proofs.Ytdeedopjhkfplaa.Pure
