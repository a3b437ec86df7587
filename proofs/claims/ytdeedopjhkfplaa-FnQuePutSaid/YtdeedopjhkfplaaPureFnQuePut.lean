/-
  QuePut is the reference's; the one put is taken behind those that stood. Conditions: none.
-/
import Derived.Test.YtdeedopjhkfplaaGFnQuePutx1
import Derived.Test.YtdeedopjhkfplaaGFnQuePutx2
import Derived.Test.YtdeedopjhkfplaaGFnQuePutx3
import Derived.Test.YtdeedopjhkfplaaGFnQuePutx4
import Derived.Test.YtdeedopjhkfplaaGFnQuePutx5
import Derived.Test.YtdeedopjhkfplaaGFnQuePutx6
namespace Go.Proofs.Ytdeedopjhkfplaa.Pure
open Go.RowKit Go.Proofs.Ytdeedopjhkfplaa.GFnQuePut Go.Proofs.YtdeedopjhkfplaaW.PrintWords Go.Proofs.YtdeedopjhkfplaaW.PrintLast
set_option linter.unusedVariables false
set_option linter.unusedSimpArgs false

namespace FnQuePut_
theorem wrap_nat {i : Nat} (h : i ≤ 40000000) : wrap64 (i : Int) = i := by unfold wrap64; omega
theorem wrap_succ {i : Nat} (h : i ≤ 40000000) : wrap64 ((i : Int) + 1) = ((i + 1 : Nat) : Int) := by unfold wrap64; omega
theorem wrap_pred {i : Nat} (h0 : 0 < i) (h : i ≤ 40000000) : wrap64 ((i : Int) - 1) = ((i - 1 : Nat) : Int) := by unfold wrap64; omega
theorem some_of_ext {α : Type} {ys zs : List α} (hl : ys.length = zs.length) (h : ∀ j, j < zs.length → ys[j]? = zs[j]?) : ys = zs := by
  apply List.ext_getElem?
  intro j
  by_cases hj : j < zs.length
  · exact h j hj
  · rw [List.getElem?_eq_none (by omega), List.getElem?_eq_none (by omega)]

theorem rd_nat (xs : List Int) (i : Nat) (h : i < xs.length) : rd xs (i : Int) = xs[i] := by simp [rd, h]

theorem l1In_eq (a b c : Int) : spec_l1In.f a b c = some (decide (b ≤ a ∧ a ≤ c)) := by
  unfold spec_l1In.f
  by_cases h : a ≥ b
  · rw [if_pos h]; congr 1; exact decide_eq_decide.2 ⟨fun h2 => ⟨h, h2⟩, fun h2 => h2.2⟩
  · rw [if_neg h]; congr 1; exact (decide_eq_false (fun h2 => h h2.1)).symm

theorem isKey_eq (a : Int) : impl_isKey.f a = some (decide (0 ≤ a ∧ a ≤ 99)) := by
  unfold impl_isKey.f
  by_cases h : a ≥ 0
  · rw [if_pos h]; congr 1; exact decide_eq_decide.2 ⟨fun h2 => ⟨h, h2⟩, fun h2 => h2.2⟩
  · rw [if_neg h]; congr 1; exact (decide_eq_false (fun h2 => h h2.1)).symm

theorem isVal_eq (a : Int) : impl_isVal.f a = some (decide (0 ≤ a ∧ a ≤ 999)) := by
  unfold impl_isVal.f
  by_cases h : a ≥ 0
  · rw [if_pos h]; congr 1; exact decide_eq_decide.2 ⟨fun h2 => ⟨h, h2⟩, fun h2 => h2.2⟩
  · rw [if_neg h]; congr 1; exact (decide_eq_false (fun h2 => h h2.1)).symm

/-- A value is ok. -/
def VOk (v : Int) : Prop := 0 ≤ v ∧ v ≤ 999
instance (v : Int) : Decidable (VOk v) := by unfold VOk; infer_instance
/-- Values are ok. -/
def lokB (xs : List Int) : Bool := decide (xs.length ≤ 8) && xs.all fun v => decide (VOk v)
theorem specListOk_l0 (xs : List Int) (hn : xs.length ≤ 1048576) (d : Nat) : ∀ (k i : Nat), i + d = xs.length → d < k → spec_ListOk.l0 k xs (i : Int) = some ((xs.drop i).all fun v => decide (VOk v)) := by
  induction d with
  | zero =>
    intro k i hi hk
    obtain ⟨k, rfl⟩ : ∃ m, k = m + 1 := ⟨k - 1, by omega⟩
    simp only [spec_ListOk.l0]; rw [if_neg (by omega), List.drop_eq_nil_of_le (by omega)]; rfl
  | succ d ih =>
    intro k i hi hk
    obtain ⟨k, rfl⟩ : ∃ m, k = m + 1 := ⟨k - 1, by omega⟩
    have hi' : i < xs.length := by omega
    simp only [spec_ListOk.l0, l1In_eq, Option.bind_some, decide_eq_true_eq]
    rw [if_pos (by omega), if_pos (by omega), rd_nat _ _ hi', wrap_succ (by omega), List.drop_eq_getElem_cons hi', List.all_cons]
    by_cases h : 0 ≤ xs[i] ∧ xs[i] ≤ 999
    · rw [if_pos h, ih k (i + 1) (by omega) (by omega), decide_eq_true (p := VOk xs[i]) h]; rfl
    · rw [if_neg h, decide_eq_false (p := VOk xs[i]) h]; rfl
theorem specListOk_eq (xs : List Int) (hn : xs.length ≤ 1048576) (k : Nat) (hk : xs.length < k) : spec_ListOk.f k xs = some (lokB xs) := by
  unfold spec_ListOk.f lokB
  by_cases h : xs.length ≤ 8
  · rw [if_neg (by omega), decide_eq_true h]
    exact specListOk_l0 xs hn xs.length k 0 (by omega) hk
  · rw [if_pos (by omega), decide_eq_false h]; rfl
theorem indexFunc_l0 (xs : List Int) (hn : xs.length ≤ 1048576) (d : Nat) : ∀ (k i : Nat), i + d = xs.length → d < k → ∃ j : Int, slices_IndexFunc_int_int.l0 k xs (xs.length : Int) (i : Int) = some j ∧ (j ≥ 0 ↔ ¬ ((xs.drop i).all fun v => decide (VOk v)) = true) := by
  induction d with
  | zero =>
    intro k i hi hk
    obtain ⟨k, rfl⟩ : ∃ m, k = m + 1 := ⟨k - 1, by omega⟩
    simp only [slices_IndexFunc_int_int.l0]
    refine ⟨-1, by rw [if_neg (by omega)], ?_⟩
    rw [List.drop_eq_nil_of_le (by omega)]; simp
  | succ d ih =>
    intro k i hi hk
    obtain ⟨k, rfl⟩ : ∃ m, k = m + 1 := ⟨k - 1, by omega⟩
    have hi' : i < xs.length := by omega
    have hf : impl_ListOk_1.f xs[i] = some (!decide (VOk xs[i])) := by unfold impl_ListOk_1.f; rw [isVal_eq]; rfl
    simp only [slices_IndexFunc_int_int.l0]
    rw [if_pos (by omega), if_pos (by omega), if_pos (by omega), rd_nat _ _ hi', hf, wrap_succ (by omega), List.drop_eq_getElem_cons hi', List.all_cons]
    simp only [Option.bind_some]
    by_cases h : VOk xs[i]
    · rw [decide_eq_true h, if_neg (by simp)]
      obtain ⟨j, h1, h2⟩ := ih k (i + 1) (by omega) (by omega)
      exact ⟨j, h1, by rw [h2]; simp⟩
    · rw [decide_eq_false h, if_pos (show (!false) = true from rfl)]
      exact ⟨(i : Int), rfl, by simp⟩
theorem implListOk_eq (xs : List Int) (hn : xs.length ≤ 1048576) (k : Nat) (hk : xs.length < k) : impl_ListOk.f k xs = some (lokB xs) := by
  unfold impl_ListOk.f lokB slices_ContainsFunc_int_int.f slices_IndexFunc_int_int.f
  by_cases h : xs.length ≤ 8
  · rw [if_pos (by omega), decide_eq_true h]
    obtain ⟨j, h1, h2⟩ := indexFunc_l0 xs hn xs.length k 0 (by omega) hk
    rw [show slices_IndexFunc_int_int.l0 k xs (xs.length : Int) 0 = _ from h1]
    simp only [Option.bind_some, Bool.true_and]
    rw [List.drop_zero] at h2
    congr 1
    by_cases h3 : j ≥ 0
    · rw [decide_eq_true h3]
      have := h2.1 h3
      simp only [Bool.not_eq_true] at this
      rw [this]; rfl
    · rw [decide_eq_false h3]
      have : (xs.all fun v => decide (VOk v)) = true := by
        cases hx : (xs.all fun v => decide (VOk v))
        · exact absurd (h2.2 (by rw [hx]; simp)) h3
        · rfl
      rw [this]; rfl
  · rw [if_neg (by omega), decide_eq_false h]; rfl

theorem cloneI_eq (l : List Int) (hn : l.length ≤ 1048576) : slices_Clone_int_int.f l = some l := by
  unfold slices_Clone_int_int.f
  simp only [Option.bind_some, List.nil_append, List.length_nil]
  rw [if_pos (by omega)]

/-- What ListTake tells. -/
def takeS (xs : List Int) : List Int × Int × Int := if lokB xs = true then (if xs.length = 0 then ([], 1, 0) else (xs.drop 1, 2, rd xs 0)) else ([], 0, 0)
theorem takeS_length (xs : List Int) : (takeS xs).1.length ≤ xs.length := by
  unfold takeS
  split
  · split
    · exact Nat.zero_le _
    · rw [List.length_drop]; omega
  · exact Nat.zero_le _

theorem implListTake_eq (xs : List Int) (hn : xs.length ≤ 1048576) (k : Nat) (hk : xs.length < k) : impl_ListTake.f k xs = some (takeS xs) := by
  unfold impl_ListTake.f takeS
  rw [implListOk_eq xs hn k hk]
  simp only [Option.bind_some]
  by_cases h : lokB xs = true
  · rw [if_pos h, if_pos h]
    by_cases h0 : xs.length = 0
    · rw [if_pos (by omega), if_pos h0]; rfl
    · rw [if_neg (by omega), if_neg h0, if_pos (by omega), cloneI_eq _ (by rw [List.length_drop]; omega)]
      simp only [Option.bind_some]
      rw [if_pos (by omega)]; rfl
  · rw [if_neg h, if_neg h]

theorem insI_eq (l : List Int) (p : Nat) (x : Int) (hp : p ≤ l.length) (hn : l.length ≤ 1000000) : slices_Insert_int_int.f l (p : Int) [x] = some (l.take p ++ [x] ++ l.drop p) := by
  unfold slices_Insert_int_int.f Go.Proofs.Ytdeedopjhkfplaa.Ins3.f
  rw [if_pos (by omega), if_pos (by omega), if_pos hn, if_pos (show [x].length = 1 from rfl), Int.toNat_natCast]
theorem lok_length {xs : List Int} (h : lokB xs = true) : xs.length ≤ 8 := by
  unfold lokB at h
  rw [Bool.and_eq_true, decide_eq_true_eq] at h
  exact h.1
/-- What is told of one that is added; r: how the values stand then. -/
def addS (xs : List Int) (x : Int) (r : List Int) : List Int × Int × Int := if lokB xs = true ∧ VOk x then (if xs.length = 8 then (xs, 3, 0) else (r, 2, 0)) else ([], 0, 0)
theorem addS_length (xs : List Int) (x : Int) (r : List Int) (hr : r.length = xs.length + 1) : (addS xs x r).1.length ≤ xs.length + 1 := by
  unfold addS
  split
  · split
    · exact Nat.le_succ _
    · exact Nat.le_of_eq hr
  · exact Nat.zero_le _
theorem implAdded_eq (xs : List Int) (x : Int) (p : Nat) (hp : p ≤ xs.length) (hn : xs.length ≤ 1048576) (k : Nat) (hk : xs.length + 1 < k) : impl_added.f k xs x (p : Int) = some (addS xs x (xs.take p ++ [x] ++ xs.drop p)) := by
  obtain ⟨k, rfl⟩ : ∃ m, k = m + 1 := ⟨k - 1, by omega⟩
  unfold impl_added.f addS
  rw [implListOk_eq xs hn _ (by omega)]
  simp only [Option.bind_some, isVal_eq, impl_added.j0]
  by_cases h : lokB xs = true
  · rw [if_pos h]
    by_cases hv : VOk x
    · have h8 := lok_length h
      rw [decide_eq_true (p := 0 ≤ x ∧ x ≤ 999) hv, if_neg (show ¬ (!true) = true from by decide), if_pos (show lokB xs = true ∧ VOk x from ⟨h, hv⟩)]
      by_cases h0 : xs.length = 8
      · rw [if_pos (by omega), if_pos h0, cloneI_eq xs hn]; rfl
      · rw [if_neg (by omega), if_neg h0, cloneI_eq xs hn]
        simp only [Option.bind_some]
        rw [insI_eq xs p x hp (by omega)]; rfl
    · rw [decide_eq_false (p := 0 ≤ x ∧ x ≤ 999) hv, if_pos (show (!false) = true from rfl), if_neg (fun hh => hv hh.2)]
  · rw [if_neg h, if_pos trivial, if_neg (fun hh => h hh.1)]

theorem xor_nat (a b : Nat) (ha : a < 4611686018427387904) (hb : b < 4611686018427387904) : Go.bits .xor .i64 (a : Int) (b : Int) = ((a ^^^ b : Nat) : Int) := by
  have hx : a ^^^ b < 2 ^ 62 := Nat.xor_lt_two_pow (by omega) (by omega)
  have h1 : (BitVec.ofInt 64 (a : Int)).toNat = a := by rw [BitVec.ofInt_natCast, BitVec.toNat_ofNat]; exact Nat.mod_eq_of_lt (by omega)
  have h2 : (BitVec.ofInt 64 (b : Int)).toNat = b := by rw [BitVec.ofInt_natCast, BitVec.toNat_ofNat]; exact Nat.mod_eq_of_lt (by omega)
  show IntKind.i64.wrap ((BitVec.ofInt 64 (a : Int) ^^^ BitVec.ofInt 64 (b : Int)).toNat : Int) = _
  rw [BitVec.toNat_xor, h1, h2]
  simp only [IntKind.wrap, IntKind.bits, IntKind.signed]
  simp
  omega
/-- A code: bytes, not too many. -/
def Cd (xs : List Int) : Prop := xs.length ≤ 3000 ∧ ∀ x ∈ xs, 0 ≤ x ∧ x ≤ 255
theorem Cd.rd {xs : List Int} (h : Cd xs) (i : Nat) (hi : i < xs.length) : ∃ a : Nat, a ≤ 255 ∧ rd xs (i : Int) = (a : Int) := by
  have := h.2 _ (List.getElem_mem hi)
  exact ⟨xs[i].toNat, by omega, by rw [rd_nat xs i hi]; omega⟩
theorem tmod_nat (a b : Nat) : Int.tmod (a : Int) (b : Int) = ((a % b : Nat) : Int) := by rw [Int.tmod_eq_emod_of_nonneg (by omega)]; rfl
theorem tdiv_nat (a b : Nat) : Int.tdiv (a : Int) (b : Int) = ((a / b : Nat) : Int) := by rw [Int.tdiv_eq_ediv_of_nonneg (by omega)]; rfl
theorem wrapn (e : Int) (n : Nat) (h : e = (n : Int)) (hn : n < 9000000000000000000) : wrap64 e = (n : Int) := by subst h; unfold wrap64; omega
theorem pick_eq (xs : List Int) (hx : Cd xs) (p : Nat) (hp : p ≤ 1000000) (n : Nat) (hn : 0 < n) (hn2 : n ≤ 100000) (k : Nat) (hk : 0 < k) : ∃ r : Nat, r < n ∧ spec_l20Rd_pick.f k xs (p : Int) (n : Int) = some ((r : Int), ((p + 1 : Nat) : Int)) := by
  obtain ⟨k, rfl⟩ : ∃ m, k = m + 1 := ⟨k - 1, by omega⟩
  unfold spec_l20Rd_pick.f
  rw [if_neg (by omega), wrap_succ (by omega)]
  have h1 : wrap64 (((p + 1 : Nat) : Int) - 1) = (p : Int) := by unfold wrap64; omega
  simp only [spec_l20Rd_pick.j0, h1]
  by_cases h0 : xs.length = 0
  · refine ⟨0, hn, ?_⟩
    rw [if_pos (by simp [h0])]; rfl
  · have hl : 0 < xs.length := by omega
    rw [if_neg (by simp only [beq_iff_eq]; omega)]
    by_cases h2 : p < xs.length
    · obtain ⟨a, ha, ea⟩ := hx.rd p h2
      rw [if_pos (by omega), if_pos (by omega), if_neg (by omega), ea, wrapn _ a rfl (by omega), tmod_nat]
      exact ⟨a % n, Nat.mod_lt _ hn, rfl⟩
    · rw [if_neg (by omega), if_neg (by omega)]
      have e7 : wrap64 ((wrap64 ((p : Int) * 7)) + 3) = ((p * 7 + 3 : Nat) : Int) := by
        rw [wrapn ((p : Int) * 7) (p * 7) (by omega) (by omega)]; exact wrapn _ _ (by omega) (by omega)
      have m1 : p % xs.length < xs.length := Nat.mod_lt _ hl
      have m2 : (p * 7 + 3) % xs.length < xs.length := Nat.mod_lt _ hl
      rw [e7, tmod_nat, tmod_nat, tdiv_nat, if_pos (by omega), if_pos (by omega), if_pos (by omega), if_pos (by omega), if_neg (by omega)]
      obtain ⟨a, ha, ea⟩ := hx.rd _ m1
      obtain ⟨b, hb, eb⟩ := hx.rd _ m2
      have hq : p / xs.length ≤ p := Nat.div_le_self _ _
      generalize p / xs.length = q at hq ⊢
      have ex : wrap64 ((wrap64 ((wrap64 ((wrap64 ((wrap64 (rd xs ((p % xs.length : Nat) : Int))) * 131)) + (wrap64 ((wrap64 (rd xs (((p * 7 + 3) % xs.length : Nat) : Int))) * 1117)))) + (wrap64 ((p : Int) * 29)))) + (wrap64 ((wrap64 (q : Int)) * 53))) = ((a * 131 + b * 1117 + p * 29 + q * 53 : Nat) : Int) := by
        rw [ea, eb, wrapn (a : Int) a rfl (by omega), wrapn (b : Int) b rfl (by omega), wrapn (q : Int) q rfl (by omega), wrapn ((a : Int) * 131) (a * 131) (by omega) (by omega), wrapn ((b : Int) * 1117) (b * 1117) (by omega) (by omega), wrapn ((p : Int) * 29) (p * 29) (by omega) (by omega), wrapn ((q : Int) * 53) (q * 53) (by omega) (by omega)]
        rw [wrapn (((a * 131 : Nat) : Int) + ((b * 1117 : Nat) : Int)) (a * 131 + b * 1117) (by omega) (by omega), wrapn (((a * 131 + b * 1117 : Nat) : Int) + ((p * 29 : Nat) : Int)) (a * 131 + b * 1117 + p * 29) (by omega) (by omega), wrapn (((a * 131 + b * 1117 + p * 29 : Nat) : Int) + ((q * 53 : Nat) : Int)) (a * 131 + b * 1117 + p * 29 + q * 53) (by omega) (by omega)]
      rw [ex]
      generalize hX : a * 131 + b * 1117 + p * 29 + q * 53 = X
      have hXb : X ≤ 100000000 := by omega
      have ed : Int.tdiv (X : Int) 64 = ((X / 64 : Nat) : Int) := tdiv_nat X 64
      rw [ed, wrapn _ (X / 64) rfl (by omega), xor_nat X (X / 64) (by omega) (by omega), tmod_nat]
      exact ⟨_, Nat.mod_lt _ hn, rfl⟩

theorem odd_eq (xs : List Int) (hx : Cd xs) (p : Nat) (hp : p ≤ 1000000) (n : Nat) (hn : 0 < n) (hn2 : n ≤ 100000) (k : Nat) (hk : 0 < k) : ∃ b : Bool, spec_l20Rd_odd.f k xs (p : Int) (n : Int) = some (b, ((p + 1 : Nat) : Int)) := by
  obtain ⟨r, _, h⟩ := pick_eq xs hx p hp n hn hn2 k hk
  unfold spec_l20Rd_odd.f
  rw [h]
  exact ⟨_, rfl⟩

theorem open_eq (l : List Int) (hw : ∀ x ∈ l, (Lit.int .u8 x).wf = true) : ∃ xs, Cd xs ∧ spec_l20Open.f l = some (xs, 0) := by
  have hb : ∀ x ∈ l, 0 ≤ x ∧ x ≤ 255 := fun x hx => by
    have := hw x hx
    simp [Lit.wf, IntKind.min, IntKind.max, IntKind.signed, IntKind.bits] at this
    omega
  unfold spec_l20Open.f
  by_cases h : l.length ≤ 3000
  · rw [if_neg (by omega)]; exact ⟨l, ⟨h, hb⟩, rfl⟩
  · rw [if_pos (by omega), if_pos (by omega)]
    exact ⟨l.take 3000, ⟨by rw [List.length_take]; omega, fun x hx => hb x (List.mem_of_mem_take hx)⟩, rfl⟩

theorem vals_l0 (xs : List Int) (hx : Cd xs) (n : Nat) (hn : 0 < n) (hn2 : n ≤ 1000) (d : Nat) (hd : d ≤ 8) : ∀ (k p : Nat) (out : List Int), p + 2 * d ≤ 1000 → out.length + d ≤ 8 → d + 1 < k → ∃ ys : List Int, ∃ q : Nat, ys.length ≤ 9 ∧ q ≤ p + 2 * d + 2 ∧ spec_l20Vals.l0 k (n : Int) out (d : Int) xs (p : Int) = some (ys, (q : Int)) := by
  induction d with
  | zero =>
    intro k p out hp ho hk
    obtain ⟨k, rfl⟩ : ∃ m, k = m + 1 := ⟨k - 1, by omega⟩
    simp only [spec_l20Vals.l0]
    obtain ⟨b, hb⟩ := odd_eq xs hx p (by omega) n hn (by omega) k (by omega)
    rw [if_neg (by omega), hb]
    simp only [Option.bind_some]
    cases b
    · rw [if_neg (by simp)]; exact ⟨out, p + 1, by omega, by omega, rfl⟩
    · rw [if_pos rfl]
      obtain ⟨r, hr, e⟩ := pick_eq xs hx (p + 1) (by omega) 6 (by omega) (by omega) k (by omega)
      rw [show spec_l20Rd_pick.f k xs ((p + 1 : Nat) : Int) 6 = _ from e]
      simp only [Option.bind_some]
      rw [if_pos (by omega), if_pos (by simp; omega), if_pos (by omega)]
      exact ⟨_, p + 1 + 1, by rw [List.length_append, List.length_singleton]; omega, by omega, rfl⟩
  | succ d ih =>
    intro k p out hp ho hk
    obtain ⟨k, rfl⟩ : ∃ m, k = m + 1 := ⟨k - 1, by omega⟩
    simp only [spec_l20Vals.l0]
    obtain ⟨r, hr, e⟩ := pick_eq xs hx p (by omega) 100 (by omega) (by omega) k (by omega)
    rw [if_pos (by omega), show spec_l20Rd_pick.f k xs (p : Int) 100 = _ from e]
    simp only [Option.bind_some]
    obtain ⟨r2, hr2, e2⟩ := pick_eq xs hx (p + 1) (by omega) 3 (by omega) (by omega) k (by omega)
    rw [show spec_l20Rd_pick.f k xs ((p + 1 : Nat) : Int) 3 = _ from e2]
    simp only [Option.bind_some]
    rw [if_pos (by omega), if_pos (by simp; omega), if_pos (by omega), show wrap64 (((d + 1 : Nat) : Int) - 1) = (d : Int) from by unfold wrap64; omega]
    obtain ⟨ys, q, h1, h2, h3⟩ := ih (by omega) k (p + 1 + 1) (out ++ [rd [0, 999, (r : Int)] (r2 : Int)]) (by omega) (by rw [List.length_append, List.length_singleton]; omega) (by omega)
    exact ⟨ys, q, h1, by omega, h3⟩
theorem vals_eq (xs : List Int) (hx : Cd xs) (n : Nat) (hn : 0 < n) (hn2 : n ≤ 1000) (k p : Nat) (hp : p ≤ 100) (hk : 20 < k) : ∃ ys : List Int, ∃ q : Nat, ys.length ≤ 9 ∧ q ≤ 200 ∧ spec_l20Vals.f k xs (p : Int) (n : Int) = some (ys, (q : Int)) := by
  unfold spec_l20Vals.f
  obtain ⟨r, hr, e⟩ := pick_eq xs hx p (by omega) 5 (by omega) (by omega) k (by omega)
  simp only [Option.bind_some]
  rw [show spec_l20Rd_pick.f k xs (p : Int) 5 = _ from e]
  simp only [Option.bind_some]
  rw [if_pos (by omega), if_pos (by simp; omega)]
  have hc : ∃ d : Nat, d ≤ 8 ∧ rd [0, 1, 3, 8, 2] (r : Int) = (d : Int) := by
    obtain rfl | rfl | rfl | rfl | rfl : r = 0 ∨ r = 1 ∨ r = 2 ∨ r = 3 ∨ r = 4 := by omega
    · exact ⟨0, by omega, rfl⟩
    · exact ⟨1, by omega, rfl⟩
    · exact ⟨3, by omega, rfl⟩
    · exact ⟨8, by omega, rfl⟩
    · exact ⟨2, by omega, rfl⟩
  obtain ⟨d, hd, ed⟩ := hc
  rw [ed]
  obtain ⟨ys, q, h1, h2, h3⟩ := vals_l0 xs hx n hn hn2 d hd k (p + 1) [] (by omega) (by simp; omega) (by omega)
  exact ⟨ys, q, h1, by omega, h3⟩

theorem tgOk_eq (k : Nat) (hk : 5 < k) : laws_tgOk.f k = some true := by
  obtain ⟨k, rfl⟩ : ∃ m, k = m + 1 := ⟨k - 1, by omega⟩
  unfold laws_tgOk.f impl_MapOk.f
  simp [impl_MapOk.l0]

theorem tgInts_l0 (xs : List Int) (hn : xs.length ≤ 1048576) (d : Nat) : ∀ (k i : Nat), i + d = xs.length → d < k → laws_tgInts.l0 k xs xs (i : Int) = some true := by
  induction d with
  | zero =>
    intro k i hi hk
    obtain ⟨k, rfl⟩ : ∃ m, k = m + 1 := ⟨k - 1, by omega⟩
    simp only [laws_tgInts.l0]; rw [if_neg (by omega)]
  | succ d ih =>
    intro k i hi hk
    obtain ⟨k, rfl⟩ : ∃ m, k = m + 1 := ⟨k - 1, by omega⟩
    simp only [laws_tgInts.l0]
    rw [if_pos (by omega), if_pos (by omega), if_pos (by omega), if_pos trivial, wrap_succ (by omega)]
    exact ih k (i + 1) (by omega) (by omega)
theorem tgInts_refl (xs : List Int) (hn : xs.length ≤ 1048576) (k : Nat) (hk : xs.length < k) : laws_tgInts.f k xs xs = some true := by
  unfold laws_tgInts.f
  rw [if_pos rfl]
  exact tgInts_l0 xs hn xs.length k 0 (by omega) hk

theorem drawPush (l : List Int) (hw : ∀ x ∈ l, (Lit.int .u8 x).wf = true) : ∃ ys : List Int, ∃ x : Int, ys.length ≤ 9 ∧ spec_DrawStkPush.f 2000000 l = some (ys, x) := by
  obtain ⟨xs, hx, e⟩ := open_eq l hw
  obtain ⟨ys, q, h1, h2, h3⟩ := vals_eq xs hx 9 (by omega) (by omega) 2000000 0 (by omega) (by omega)
  have h3' : spec_l20Vals.f 2000000 xs 0 9 = some (ys, (q : Int)) := h3
  unfold spec_DrawStkPush.f
  rw [e]; simp only [Option.bind_some]
  rw [h3']; simp only [Option.bind_some]
  obtain ⟨r, hr, e1⟩ := pick_eq xs hx q (by omega) 100 (by omega) (by omega) 2000000 (by omega)
  rw [show spec_l20Rd_pick.f 2000000 xs (q : Int) 100 = _ from e1]
  simp only [Option.bind_some]
  obtain ⟨r2, hr2, e2⟩ := pick_eq xs hx (q + 1) (by omega) 5 (by omega) (by omega) 2000000 (by omega)
  rw [show spec_l20Rd_pick.f 2000000 xs ((q + 1 : Nat) : Int) 5 = _ from e2]
  simp only [Option.bind_some]
  rw [if_pos (by omega), if_pos (by simp; omega)]
  exact ⟨ys, _, h1, rfl⟩
theorem lok_iff (xs : List Int) : lokB xs = true ↔ xs.length ≤ 8 ∧ ∀ v ∈ xs, VOk v := by
  unfold lokB
  rw [Bool.and_eq_true, decide_eq_true_eq, List.all_eq_true]
  exact ⟨fun h => ⟨h.1, fun v hv => of_decide_eq_true (h.2 v hv)⟩, fun h => ⟨h.1, fun v hv => decide_eq_true (h.2 v hv)⟩⟩
theorem takeS_cons (v : Int) (t : List Int) (h : lokB (v :: t) = true) : takeS (v :: t) = (t, 2, v) := by
  unfold takeS
  rw [if_pos h, if_neg (by simp)]; rfl

theorem implQuePut_eq (xs : List Int) (x : Int) (hn : xs.length ≤ 1048576) (k : Nat) (hk : xs.length + 1 < k) : impl_QuePut.f k xs x = some (addS xs x (xs ++ [x])) := by
  unfold impl_QuePut.f
  rw [implAdded_eq xs x xs.length (Nat.le_refl _) hn k hk]
  simp only [List.take_length, List.drop_length, List.append_nil]
  rfl

theorem specQuePut_eq (xs : List Int) (x : Int) (hn : xs.length ≤ 1048576) (k : Nat) (hk : xs.length + 1 < k) : spec_QuePut.f k xs x = some (addS xs x (xs ++ [x])) := by
  obtain ⟨k, rfl⟩ : ∃ m, k = m + 1 := ⟨k - 1, by omega⟩
  unfold spec_QuePut.f addS
  rw [specListOk_eq xs hn _ (by omega)]
  simp only [Option.bind_some, l1In_eq, spec_QuePut.j0]
  by_cases h : lokB xs = true
  · rw [if_pos h]
    by_cases hv : VOk x
    · have h8 := lok_length h
      rw [decide_eq_true (p := 0 ≤ x ∧ x ≤ 999) hv, if_neg (show ¬ (!true) = true from by decide), if_pos (show lokB xs = true ∧ VOk x from ⟨h, hv⟩)]
      by_cases h0 : xs.length = 8
      · rw [if_pos (by omega), if_pos h0, if_pos (by simp; omega)]; rfl
      · rw [if_neg (by omega), if_neg h0, if_pos (by simp; omega), if_pos (by simp; omega)]; rfl
    · rw [decide_eq_false (p := 0 ≤ x ∧ x ≤ 999) hv, if_pos (show (!false) = true from rfl), if_neg (fun hh => hv hh.2)]
  · rw [if_neg h, if_pos trivial, if_neg (fun hh => h hh.1)]

theorem queLoop (ys : List Int) (x : Int) (hl : lokB ys = true) (hx : VOk x) (h8 : ys.length ≠ 8) (d : Nat) : ∀ (k i : Nat), i + d = ys.length → d + 20 < k → laws_FnQuePut.l0 k ys x (ys.drop i ++ [x]) (i : Int) 2 0 = some true := by
  have hb := (lok_iff ys).1 hl
  induction d with
  | zero =>
    intro k i hi hk
    obtain ⟨k, rfl⟩ : ∃ m, k = m + 1 := ⟨k - 1, by omega⟩
    simp only [laws_FnQuePut.l0]
    rw [if_neg (by omega), List.drop_eq_nil_of_le (by omega), List.nil_append, tgInts_refl _ (by simp) _ (by simp; omega)]
    rfl
  | succ d ih =>
    intro k i hi hk
    obtain ⟨k, rfl⟩ : ∃ m, k = m + 1 := ⟨k - 1, by omega⟩
    have hi' : i < ys.length := by omega
    have hl2 : lokB (ys[i] :: (ys.drop (i + 1) ++ [x])) = true := (lok_iff _).2 ⟨by simp; omega, fun v hv => by
      rcases List.mem_cons.1 hv with rfl | hv
      · exact hb.2 _ (List.getElem_mem hi')
      · rcases List.mem_append.1 hv with hv | hv
        · exact hb.2 v (List.mem_of_mem_drop hv)
        · rw [List.mem_singleton.1 hv]; exact hx⟩
    simp only [laws_FnQuePut.l0]
    rw [if_pos (by omega), List.drop_eq_getElem_cons hi', List.cons_append, implListTake_eq _ (by simp; omega) _ (by simp; omega), takeS_cons _ _ hl2]
    simp only [Option.bind_some]
    rw [if_pos (by omega), rd_nat _ _ hi', if_pos rfl, if_pos trivial, wrap_succ (by omega)]
    exact ih k (i + 1) (by omega) (by omega)
theorem final : laws_FnQuePut.Pure := by
  intro l hm _ hw
  refine ⟨2000000, ?_⟩
  unfold laws_FnQuePut.f
  by_cases hn : l.length ≤ 1048576
  · rw [if_neg (by omega)]
    obtain ⟨ys, x, h1, hd⟩ := drawPush l hw
    have hd2 : spec_DrawQuePut.f 2000000 l = some (ys, x) := by unfold spec_DrawQuePut.f; rw [hd]; rfl
    rw [hd2]; simp only [Option.bind_some]
    have hr := addS_length ys x (ys ++ [x]) (by simp)
    rw [implQuePut_eq ys x (by omega) _ (by omega), specQuePut_eq ys x (by omega) _ (by omega)]; simp only [Option.bind_some]
    rw [tgInts_refl _ (by omega) _ (by omega), specListOk_eq ys (by omega) _ (by omega), tgOk_eq _ (by omega)]; simp only [Option.bind_some]
    rw [if_pos trivial, if_neg (by simp)]
    by_cases hb : lokB ys = true
    · rw [if_pos hb]
      by_cases hx : VOk x
      · rw [if_neg (by have := hx.1; omega), if_neg (by have := hx.2; omega)]
        by_cases h8 : ys.length = 8
        · have ha : addS ys x (ys ++ [x]) = (ys, 3, 0) := by unfold addS; rw [if_pos ⟨hb, hx⟩, if_pos h8]
          rw [if_pos (by omega), ha]
          dsimp only
          rw [if_pos rfl, tgInts_refl ys (by omega) _ (by omega)]; rfl
        · have ha : addS ys x (ys ++ [x]) = (ys ++ [x], 2, 0) := by unfold addS; rw [if_pos ⟨hb, hx⟩, if_neg h8]
          rw [if_neg (by omega), ha]
          exact queLoop ys x hb hx h8 ys.length 2000000 0 (by omega) (by omega)
      · have ha : addS ys x (ys ++ [x]) = ([], 0, 0) := by unfold addS; rw [if_neg (fun h => hx h.2)]
        rw [ha]
        by_cases h0 : x < 0
        · rw [if_pos h0]; rfl
        · rw [if_neg h0, if_pos (by unfold VOk at hx; omega)]; rfl
    · have ha : addS ys x (ys ++ [x]) = ([], 0, 0) := by unfold addS; rw [if_neg (fun h => hb h.1)]
      rw [if_neg hb, ha]; rfl
  · rw [if_pos (by omega)]
end FnQuePut_

theorem FnQuePut : laws_FnQuePut.Pure := FnQuePut_.final

end Go.Proofs.Ytdeedopjhkfplaa.Pure
