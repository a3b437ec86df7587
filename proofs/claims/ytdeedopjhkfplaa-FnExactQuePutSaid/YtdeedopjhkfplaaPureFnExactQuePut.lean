/-
  QuePut is the reference's, for all values, and its answer is memory of its own. Conditions: none.
-/
import Derived.Test.YtdeedopjhkfplaaGFnExactQuePutx1
import Derived.Test.YtdeedopjhkfplaaGFnExactQuePutx2
import Derived.Test.YtdeedopjhkfplaaGFnExactQuePutx3
namespace Go.Proofs.Ytdeedopjhkfplaa.Pure
open Go.RowKit Go.Proofs.Ytdeedopjhkfplaa.GFnExactQuePut Go.Proofs.YtdeedopjhkfplaaW.PrintWords Go.Proofs.YtdeedopjhkfplaaW.PrintLast
set_option linter.unusedVariables false
set_option linter.unusedSimpArgs false

namespace FnExactQuePut_
theorem wrap_nat {i : Nat} (h : i ≤ 40000000) : wrap64 (i : Int) = i := by unfold wrap64; omega
theorem wrap_succ {i : Nat} (h : i ≤ 40000000) : wrap64 ((i : Int) + 1) = ((i + 1 : Nat) : Int) := by unfold wrap64; omega
theorem wrap_pred {i : Nat} (h0 : 0 < i) (h : i ≤ 40000000) : wrap64 ((i : Int) - 1) = ((i - 1 : Nat) : Int) := by unfold wrap64; omega
theorem some_of_ext {α : Type} {ys zs : List α} (hl : ys.length = zs.length) (h : ∀ j, j < zs.length → ys[j]? = zs[j]?) : ys = zs := by
  apply List.ext_getElem?
  intro j
  by_cases hj : j < zs.length
  · exact h j hj
  · rw [List.getElem?_eq_none (by omega), List.getElem?_eq_none (by omega)]

theorem rd_nat (xs : List Int) (i : Nat) (h : i < xs.length) : rd xs (i : Int) = xs[i] := by simp [rd, h]

theorem toIntS_l0 (xs : List Int) (hn : xs.length ≤ 1048576) (d : Nat) : ∀ (k i : Nat) (ys : List Int), ys.length = xs.length → i + d = xs.length → d < k → (∀ j, j < i → ys[j]? = xs[j]?) → laws_toIntS.l0 k xs ys (i : Int) = some xs := by
  induction d with
  | zero =>
    intro k i ys hl hi hk hj
    obtain ⟨k, rfl⟩ : ∃ m, k = m + 1 := ⟨k - 1, by omega⟩
    simp only [laws_toIntS.l0]; rw [if_neg (by omega)]
    congr 1
    exact some_of_ext hl (fun j hj' => hj j (by omega))
  | succ d ih =>
    intro k i ys hl hi hk hj
    obtain ⟨k, rfl⟩ : ∃ m, k = m + 1 := ⟨k - 1, by omega⟩
    simp only [laws_toIntS.l0]
    rw [if_pos (by omega), if_pos (by omega), if_pos (by omega), wrap_succ (by omega)]
    apply ih k (i + 1) _ (by simp [hl]) (by omega) (by omega)
    intro j hj'
    rw [Int.toNat_natCast, List.getElem?_set]
    by_cases h : i = j
    · subst h; rw [if_pos rfl, if_pos (by omega), rd_nat _ _ (by omega), List.getElem?_eq_getElem]
    · rw [if_neg h]; exact hj j (by omega)
theorem toIntS_eq (xs : List Int) (hn : xs.length ≤ 1048576) (k : Nat) (hk : xs.length < k) : laws_toIntS.f k xs = some xs := by
  unfold laws_toIntS.f
  rw [if_pos (by omega), if_pos (by omega)]
  exact toIntS_l0 xs hn xs.length k 0 _ (by simp) (by omega) hk (fun j hj => absurd hj (Nat.not_lt_zero j))

theorem eqIntS_l0 (xs : List Int) (hn : xs.length ≤ 1048576) (d : Nat) : ∀ (k i : Nat), i + d = xs.length → d < k → laws_eqIntS.l0 k xs xs (i : Int) = some true := by
  induction d with
  | zero =>
    intro k i hi hk
    obtain ⟨k, rfl⟩ : ∃ m, k = m + 1 := ⟨k - 1, by omega⟩
    simp only [laws_eqIntS.l0]; rw [if_neg (by omega)]
  | succ d ih =>
    intro k i hi hk
    obtain ⟨k, rfl⟩ : ∃ m, k = m + 1 := ⟨k - 1, by omega⟩
    simp only [laws_eqIntS.l0]
    rw [if_pos (by omega), if_pos (by omega), if_pos (by omega), if_pos trivial, wrap_succ (by omega)]
    exact ih k (i + 1) (by omega) (by omega)
theorem eqIntS_refl (xs : List Int) (hn : xs.length ≤ 1048576) (k : Nat) (hk : xs.length < k) : laws_eqIntS.f k xs xs = some true := by
  unfold laws_eqIntS.f
  rw [if_pos rfl]
  exact eqIntS_l0 xs hn xs.length k 0 (by omega) hk

theorem l1In_eq (a b c : Int) : spec_l1In.f a b c = some (decide (b ≤ a ∧ a ≤ c)) := by
  unfold spec_l1In.f
  by_cases h : a ≥ b
  · rw [if_pos h]; congr 1; exact decide_eq_decide.2 ⟨fun h2 => ⟨h, h2⟩, fun h2 => h2.2⟩
  · rw [if_neg h]; congr 1; exact (decide_eq_false (fun h2 => h h2.1)).symm

theorem isVal_eq (a : Int) : impl_isVal.f a = some (decide (0 ≤ a ∧ a ≤ 999)) := by
  unfold impl_isVal.f
  by_cases h : a ≥ 0
  · rw [if_pos h]; congr 1; exact decide_eq_decide.2 ⟨fun h2 => ⟨h, h2⟩, fun h2 => h2.2⟩
  · rw [if_neg h]; congr 1; exact (decide_eq_false (fun h2 => h h2.1)).symm

/-- A value is ok. -/
def VOk (v : Int) : Prop := 0 ≤ v ∧ v ≤ 999
instance (v : Int) : Decidable (VOk v) := by unfold VOk; infer_instance
/-- Values are ok. -/
def lokB (xs : List Int) : Bool := decide (xs.length ≤ 8) && xs.all fun v => decide (VOk v)
theorem specListOk_l0 (xs : List Int) (hn : xs.length ≤ 1048576) (d : Nat) : ∀ (k i : Nat), i + d = xs.length → d < k → spec_ListOk.l0 k xs (i : Int) = some ((xs.drop i).all fun v => decide (VOk v)) := by
  induction d with
  | zero =>
    intro k i hi hk
    obtain ⟨k, rfl⟩ : ∃ m, k = m + 1 := ⟨k - 1, by omega⟩
    simp only [spec_ListOk.l0]; rw [if_neg (by omega), List.drop_eq_nil_of_le (by omega)]; rfl
  | succ d ih =>
    intro k i hi hk
    obtain ⟨k, rfl⟩ : ∃ m, k = m + 1 := ⟨k - 1, by omega⟩
    have hi' : i < xs.length := by omega
    simp only [spec_ListOk.l0, l1In_eq, Option.bind_some, decide_eq_true_eq]
    rw [if_pos (by omega), if_pos (by omega), rd_nat _ _ hi', wrap_succ (by omega), List.drop_eq_getElem_cons hi', List.all_cons]
    by_cases h : 0 ≤ xs[i] ∧ xs[i] ≤ 999
    · rw [if_pos h, ih k (i + 1) (by omega) (by omega), decide_eq_true (p := VOk xs[i]) h]; rfl
    · rw [if_neg h, decide_eq_false (p := VOk xs[i]) h]; rfl
theorem specListOk_eq (xs : List Int) (hn : xs.length ≤ 1048576) (k : Nat) (hk : xs.length < k) : spec_ListOk.f k xs = some (lokB xs) := by
  unfold spec_ListOk.f lokB
  by_cases h : xs.length ≤ 8
  · rw [if_neg (by omega), decide_eq_true h]
    exact specListOk_l0 xs hn xs.length k 0 (by omega) hk
  · rw [if_pos (by omega), decide_eq_false h]; rfl
theorem indexFunc_l0 (xs : List Int) (hn : xs.length ≤ 1048576) (d : Nat) : ∀ (k i : Nat), i + d = xs.length → d < k → ∃ j : Int, slices_IndexFunc_int_int.l0 k xs (xs.length : Int) (i : Int) = some j ∧ (j ≥ 0 ↔ ¬ ((xs.drop i).all fun v => decide (VOk v)) = true) := by
  induction d with
  | zero =>
    intro k i hi hk
    obtain ⟨k, rfl⟩ : ∃ m, k = m + 1 := ⟨k - 1, by omega⟩
    simp only [slices_IndexFunc_int_int.l0]
    refine ⟨-1, by rw [if_neg (by omega)], ?_⟩
    rw [List.drop_eq_nil_of_le (by omega)]; simp
  | succ d ih =>
    intro k i hi hk
    obtain ⟨k, rfl⟩ : ∃ m, k = m + 1 := ⟨k - 1, by omega⟩
    have hi' : i < xs.length := by omega
    have hf : impl_ListOk_1.f xs[i] = some (!decide (VOk xs[i])) := by unfold impl_ListOk_1.f; rw [isVal_eq]; rfl
    simp only [slices_IndexFunc_int_int.l0]
    rw [if_pos (by omega), if_pos (by omega), if_pos (by omega), rd_nat _ _ hi', hf, wrap_succ (by omega), List.drop_eq_getElem_cons hi', List.all_cons]
    simp only [Option.bind_some]
    by_cases h : VOk xs[i]
    · rw [decide_eq_true h, if_neg (by simp)]
      obtain ⟨j, h1, h2⟩ := ih k (i + 1) (by omega) (by omega)
      exact ⟨j, h1, by rw [h2]; simp⟩
    · rw [decide_eq_false h, if_pos (show (!false) = true from rfl)]
      exact ⟨(i : Int), rfl, by simp⟩
theorem implListOk_eq (xs : List Int) (hn : xs.length ≤ 1048576) (k : Nat) (hk : xs.length < k) : impl_ListOk.f k xs = some (lokB xs) := by
  unfold impl_ListOk.f lokB slices_ContainsFunc_int_int.f slices_IndexFunc_int_int.f
  by_cases h : xs.length ≤ 8
  · rw [if_pos (by omega), decide_eq_true h]
    obtain ⟨j, h1, h2⟩ := indexFunc_l0 xs hn xs.length k 0 (by omega) hk
    rw [show slices_IndexFunc_int_int.l0 k xs (xs.length : Int) 0 = _ from h1]
    simp only [Option.bind_some, Bool.true_and]
    rw [List.drop_zero] at h2
    congr 1
    by_cases h3 : j ≥ 0
    · rw [decide_eq_true h3]
      have := h2.1 h3
      simp only [Bool.not_eq_true] at this
      rw [this]; rfl
    · rw [decide_eq_false h3]
      have : (xs.all fun v => decide (VOk v)) = true := by
        cases hx : (xs.all fun v => decide (VOk v))
        · exact absurd (h2.2 (by rw [hx]; simp)) h3
        · rfl
      rw [this]; rfl
  · rw [if_neg (by omega), decide_eq_false h]; rfl

/-- What is marked: n numbers from s on. -/
def mkL (s n : Nat) : List Int := (List.range n).map fun j => ((s + j : Nat) : Int)
theorem mkL_length (s n : Nat) : (mkL s n).length = n := by simp [mkL]
theorem mkL_get (s n j : Nat) (h : j < n) : (mkL s n)[j]? = some ((s + j : Nat) : Int) := by simp [mkL, h]
theorem markIntS_l0 (s n : Nat) (hn : n ≤ 1048576) (hs : s ≤ 20000000) (d : Nat) : ∀ (k i : Nat) (ys : List Int), ys.length = n → i + d = n → d < k → (∀ j, j < i → ys[j]? = (mkL s n)[j]?) → laws_markIntS.l0 k ys ((s + i : Nat) : Int) (i : Int) = some (((s + n : Nat) : Int), mkL s n) := by
  induction d with
  | zero =>
    intro k i ys hl hi hk hj
    obtain ⟨k, rfl⟩ : ∃ m, k = m + 1 := ⟨k - 1, by omega⟩
    simp only [laws_markIntS.l0]; rw [if_neg (by omega), show i = n by omega, some_of_ext (by rw [mkL_length]; exact hl) (fun j hj' => hj j (by rw [mkL_length] at hj'; omega))]
  | succ d ih =>
    intro k i ys hl hi hk hj
    obtain ⟨k, rfl⟩ : ∃ m, k = m + 1 := ⟨k - 1, by omega⟩
    simp only [laws_markIntS.l0]
    rw [if_pos (by omega), if_pos (by omega), wrap_succ (i := i) (by omega), wrap_succ (i := s + i) (by omega), show s + i + 1 = s + (i + 1) from by omega]
    apply ih k (i + 1) _ (by simp [hl]) (by omega) (by omega)
    intro j hj'
    rw [Int.toNat_natCast, List.getElem?_set]
    by_cases h : i = j
    · subst h; rw [if_pos rfl, if_pos (by omega), mkL_get s n i (by omega)]
    · rw [if_neg h]; exact hj j (by omega)
theorem markIntS_eq (s : Nat) (l : List Int) (hn : l.length ≤ 1048576) (hs : s ≤ 20000000) (k : Nat) (hk : l.length < k) : laws_markIntS.f k l (s : Int) = some (((s + l.length : Nat) : Int), mkL s l.length) := by
  unfold laws_markIntS.f
  exact markIntS_l0 s l.length hn hs l.length k 0 l rfl (by omega) hk (fun j hj => absurd hj (Nat.not_lt_zero j))
theorem heldIntS_l0 (s n : Nat) (hn : n ≤ 1048576) (hs : s ≤ 20000000) (d : Nat) : ∀ (k i : Nat), i + d = n → d < k → laws_heldIntS.l0 k (mkL s n) ((s + i : Nat) : Int) (i : Int) = some ((s + n : Nat) : Int) := by
  induction d with
  | zero =>
    intro k i hi hk
    obtain ⟨k, rfl⟩ : ∃ m, k = m + 1 := ⟨k - 1, by omega⟩
    simp only [laws_heldIntS.l0]; rw [if_neg (by rw [mkL_length]; omega), show i = n by omega]
  | succ d ih =>
    intro k i hi hk
    obtain ⟨k, rfl⟩ : ∃ m, k = m + 1 := ⟨k - 1, by omega⟩
    have hi' : i < (mkL s n).length := by rw [mkL_length]; omega
    have hg := mkL_get s n i (by omega)
    rw [List.getElem?_eq_getElem hi'] at hg
    simp only [laws_heldIntS.l0]
    rw [if_pos (by omega), if_pos (by omega), rd_nat _ _ hi', if_pos (Option.some.inj hg), wrap_succ (i := i) (by omega), wrap_succ (i := s + i) (by omega), show s + i + 1 = s + (i + 1) from by omega]
    exact ih k (i + 1) (by omega) (by omega)
theorem heldIntS_eq (s n : Nat) (hn : n ≤ 1048576) (hs : s ≤ 20000000) (k : Nat) (hk : n < k) : laws_heldIntS.f k (mkL s n) (s : Int) = some ((s + n : Nat) : Int) := by
  unfold laws_heldIntS.f
  exact heldIntS_l0 s n hn hs n k 0 (by omega) hk

theorem eqRes_refl (a b : Int) : laws_eqResRes.f a b a b = some true := by simp [laws_eqResRes.f]

theorem cloneI_eq (l : List Int) (hn : l.length ≤ 1048576) : slices_Clone_int_int.f l = some l := by
  unfold slices_Clone_int_int.f
  simp only [Option.bind_some, List.nil_append, List.length_nil]
  rw [if_pos (by omega)]

theorem insI_eq (l : List Int) (p : Nat) (x : Int) (hp : p ≤ l.length) (hn : l.length ≤ 1000000) : slices_Insert_int_int.f l (p : Int) [x] = some (l.take p ++ [x] ++ l.drop p) := by
  unfold slices_Insert_int_int.f Go.Proofs.Ytdeedopjhkfplaa.Ins3.f
  rw [if_pos (by omega), if_pos (by omega), if_pos hn, if_pos (show [x].length = 1 from rfl), Int.toNat_natCast]
theorem lok_length {xs : List Int} (h : lokB xs = true) : xs.length ≤ 8 := by
  unfold lokB at h
  rw [Bool.and_eq_true, decide_eq_true_eq] at h
  exact h.1
/-- What is told of one that is added; r: how the values stand then. -/
def addS (xs : List Int) (x : Int) (r : List Int) : List Int × Int × Int := if lokB xs = true ∧ VOk x then (if xs.length = 8 then (xs, 3, 0) else (r, 2, 0)) else ([], 0, 0)
theorem addS_length (xs : List Int) (x : Int) (r : List Int) (hr : r.length = xs.length + 1) : (addS xs x r).1.length ≤ xs.length + 1 := by
  unfold addS
  split
  · split
    · exact Nat.le_succ _
    · exact Nat.le_of_eq hr
  · exact Nat.zero_le _
theorem implAdded_eq (xs : List Int) (x : Int) (p : Nat) (hp : p ≤ xs.length) (hn : xs.length ≤ 1048576) (k : Nat) (hk : xs.length + 1 < k) : impl_added.f k xs x (p : Int) = some (addS xs x (xs.take p ++ [x] ++ xs.drop p)) := by
  obtain ⟨k, rfl⟩ : ∃ m, k = m + 1 := ⟨k - 1, by omega⟩
  unfold impl_added.f addS
  rw [implListOk_eq xs hn _ (by omega)]
  simp only [Option.bind_some, isVal_eq, impl_added.j0]
  by_cases h : lokB xs = true
  · rw [if_pos h]
    by_cases hv : VOk x
    · have h8 := lok_length h
      rw [decide_eq_true (p := 0 ≤ x ∧ x ≤ 999) hv, if_neg (show ¬ (!true) = true from by decide), if_pos (show lokB xs = true ∧ VOk x from ⟨h, hv⟩)]
      by_cases h0 : xs.length = 8
      · rw [if_pos (by omega), if_pos h0, cloneI_eq xs hn]; rfl
      · rw [if_neg (by omega), if_neg h0, cloneI_eq xs hn]
        simp only [Option.bind_some]
        rw [insI_eq xs p x hp (by omega)]; rfl
    · rw [decide_eq_false (p := 0 ≤ x ∧ x ≤ 999) hv, if_pos (show (!false) = true from rfl), if_neg (fun hh => hv hh.2)]
  · rw [if_neg h, if_pos trivial, if_neg (fun hh => h hh.1)]

theorem implQuePut_eq (xs : List Int) (x : Int) (hn : xs.length ≤ 1048576) (k : Nat) (hk : xs.length + 1 < k) : impl_QuePut.f k xs x = some (addS xs x (xs ++ [x])) := by
  unfold impl_QuePut.f
  rw [implAdded_eq xs x xs.length (Nat.le_refl _) hn k hk]
  simp only [List.take_length, List.drop_length, List.append_nil]
  rfl

theorem specQuePut_eq (xs : List Int) (x : Int) (hn : xs.length ≤ 1048576) (k : Nat) (hk : xs.length + 1 < k) : spec_QuePut.f k xs x = some (addS xs x (xs ++ [x])) := by
  obtain ⟨k, rfl⟩ : ∃ m, k = m + 1 := ⟨k - 1, by omega⟩
  unfold spec_QuePut.f addS
  rw [specListOk_eq xs hn _ (by omega)]
  simp only [Option.bind_some, l1In_eq, spec_QuePut.j0]
  by_cases h : lokB xs = true
  · rw [if_pos h]
    by_cases hv : VOk x
    · have h8 := lok_length h
      rw [decide_eq_true (p := 0 ≤ x ∧ x ≤ 999) hv, if_neg (show ¬ (!true) = true from by decide), if_pos (show lokB xs = true ∧ VOk x from ⟨h, hv⟩)]
      by_cases h0 : xs.length = 8
      · rw [if_pos (by omega), if_pos h0, if_pos (by simp; omega)]; rfl
      · rw [if_neg (by omega), if_neg h0, if_pos (by simp; omega), if_pos (by simp; omega)]; rfl
    · rw [decide_eq_false (p := 0 ≤ x ∧ x ≤ 999) hv, if_pos (show (!false) = true from rfl), if_neg (fun hh => hv hh.2)]
  · rw [if_neg h, if_pos trivial, if_neg (fun hh => h hh.1)]

theorem final : laws_FnExactQuePut.Pure := by
  intro l x hm _ _ _
  obtain ⟨K, hK⟩ : ∃ K, 3000000 ≤ K := ⟨3000000, Nat.le_refl _⟩
  refine ⟨K, ?_⟩
  unfold laws_FnExactQuePut.f
  by_cases hn : l.length ≤ 1048576
  · have e1 := toIntS_eq l hn K (by omega)
    have hs := specQuePut_eq l x hn K (by omega)
    have hi := implQuePut_eq l x hn K (by omega)
    have hr := addS_length l x (l ++ [x]) (by simp)
    have hr8 : (addS l x (l ++ [x])).1.length ≤ 1048576 := by
      unfold addS
      split
      · rename_i h
        have := lok_length h.1
        split <;> simp <;> omega
      · exact Nat.zero_le _
    generalize addS l x (l ++ [x]) = r at hs hi hr hr8
    obtain ⟨r, a, b⟩ := r
    dsimp only at hr hr8
    have e2 := eqIntS_refl l hn K (by omega)
    have e3 := eqIntS_refl r (by omega) K (by omega)
    have e4 := eqRes_refl a b
    have n0 : ∀ m : Nat, ¬ (((1 + m : Nat) : Int) < 0) := fun m => by omega
    have e5 : laws_markIntS.f K l 1 = _ := markIntS_eq 1 l (by omega) (by omega) K (by omega)
    have e6 : laws_markIntS.f K r 1 = _ := markIntS_eq 1 r (by omega) (by omega) K (by omega)
    have e7 : laws_heldIntS.f K (mkL 1 (r).length) 1 = _ := heldIntS_eq 1 (r).length (by omega) (by omega) K (by omega)
    rw [if_neg (by omega)]
    simp only [e1, hs, hi, Option.bind_some, e2, e3, e4, e5, e6, e7, if_true, n0, if_false]
  · rw [if_pos (by omega)]
end FnExactQuePut_

theorem FnExactQuePut : laws_FnExactQuePut.Pure := FnExactQuePut_.final

end Go.Proofs.Ytdeedopjhkfplaa.Pure
