/-
  MapOk is the reference's, for all entries. Conditions: none.
-/
import Derived.Test.YtnfnphhialoebaaPFnExactMapOkx1
import Derived.Test.YtnfnphhialoebaaPFnExactMapOkx2
namespace Go.Proofs.Ytnfnphhialoebaa.Pure
open Go.RowKit Go.Proofs.Ytnfnphhialoebaa.PFnExactMapOk Go.Proofs.YtnfnphhialoebaaW.PrintWords Go.Proofs.YtnfnphhialoebaaW.PrintLast
set_option linter.unusedVariables false
set_option linter.unusedSimpArgs false

namespace FnExactMapOk_
theorem wrap_nat {i : Nat} (h : i ≤ 40000000) : wrap64 (i : Int) = i := by unfold wrap64; omega
theorem wrap_succ {i : Nat} (h : i ≤ 40000000) : wrap64 ((i : Int) + 1) = ((i + 1 : Nat) : Int) := by unfold wrap64; omega
theorem wrap_pred {i : Nat} (h0 : 0 < i) (h : i ≤ 40000000) : wrap64 ((i : Int) - 1) = ((i - 1 : Nat) : Int) := by unfold wrap64; omega
theorem some_of_ext {α : Type} {ys zs : List α} (hl : ys.length = zs.length) (h : ∀ j, j < zs.length → ys[j]? = zs[j]?) : ys = zs := by
  apply List.ext_getElem?
  intro j
  by_cases hj : j < zs.length
  · exact h j hj
  · rw [List.getElem?_eq_none (by omega), List.getElem?_eq_none (by omega)]

theorem rd_97_nat (xs : List S97) (i : Nat) (h : i < xs.length) : rd_T97 xs (i : Int) = xs[i] := by simp [rd_T97, h]

theorem rd_83_nat (xs : List S83) (i : Nat) (h : i < xs.length) : rd_T83 xs (i : Int) = xs[i] := by simp [rd_T83, h]

def cvMapEntry (x : S97) : S83 := ⟨x.f0, x.f1⟩
theorem toMapEntryS_l0 (xs : List S97) (hn : xs.length ≤ 1048576) (d : Nat) : ∀ (k i : Nat) (ys : List S83), ys.length = xs.length → i + d = xs.length → d < k → (∀ j, j < i → ys[j]? = (xs.map cvMapEntry)[j]?) → laws_toMapEntryS.l0 k xs ys (i : Int) = some (xs.map cvMapEntry) := by
  induction d with
  | zero =>
    intro k i ys hl hi hk hj
    obtain ⟨k, rfl⟩ : ∃ m, k = m + 1 := ⟨k - 1, by omega⟩
    simp only [laws_toMapEntryS.l0]; rw [if_neg (by omega)]
    congr 1
    exact some_of_ext (by simpa using hl) (fun j hj' => hj j (by rw [List.length_map] at hj'; omega))
  | succ d ih =>
    intro k i ys hl hi hk hj
    obtain ⟨k, rfl⟩ : ∃ m, k = m + 1 := ⟨k - 1, by omega⟩
    simp only [laws_toMapEntryS.l0, laws_toMapEntry.f, Option.bind_some]
    rw [if_pos (by omega), if_pos (by omega), if_pos (by omega), wrap_succ (by omega)]
    apply ih k (i + 1) _ (by simp [hl]) (by omega) (by omega)
    intro j hj'
    rw [Int.toNat_natCast, List.getElem?_set]
    by_cases h : i = j
    · subst h; rw [if_pos rfl, if_pos (by omega), rd_97_nat _ _ (by omega), List.getElem?_eq_getElem (by rw [List.length_map]; omega), List.getElem_map]; rfl
    · rw [if_neg h]; exact hj j (by omega)
theorem toMapEntryS_eq (xs : List S97) (hn : xs.length ≤ 1048576) (k : Nat) (hk : xs.length < k) : laws_toMapEntryS.f k xs = some (xs.map cvMapEntry) := by
  unfold laws_toMapEntryS.f
  rw [if_pos (by omega), if_pos (by omega)]
  exact toMapEntryS_l0 xs hn xs.length k 0 _ (by simp) (by omega) hk (fun j hj => absurd hj (Nat.not_lt_zero j))

theorem eqMapEntryS_l0 (xs : List S83) (hn : xs.length ≤ 1048576) (d : Nat) : ∀ (k i : Nat), i + d = xs.length → d < k → laws_eqMapEntryS.l0 k xs xs (i : Int) = some true := by
  induction d with
  | zero =>
    intro k i hi hk
    obtain ⟨k, rfl⟩ : ∃ m, k = m + 1 := ⟨k - 1, by omega⟩
    simp only [laws_eqMapEntryS.l0]; rw [if_neg (by omega)]
  | succ d ih =>
    intro k i hi hk
    obtain ⟨k, rfl⟩ : ∃ m, k = m + 1 := ⟨k - 1, by omega⟩
    simp only [laws_eqMapEntryS.l0]
    rw [if_pos (by omega), if_pos (by omega), if_pos (by omega), wrap_succ (by omega)]
    rw [show laws_eqMapEntry.f (rd_T83 xs (i : Int)).f0 (rd_T83 xs (i : Int)).f1 (rd_T83 xs (i : Int)).f0 (rd_T83 xs (i : Int)).f1 = some true from by simp [laws_eqMapEntry.f]]
    simp only [Option.bind_some, if_true]
    exact ih k (i + 1) (by omega) (by omega)
theorem eqMapEntryS_refl (xs : List S83) (hn : xs.length ≤ 1048576) (k : Nat) (hk : xs.length < k) : laws_eqMapEntryS.f k xs xs = some true := by
  unfold laws_eqMapEntryS.f
  rw [if_pos rfl]
  exact eqMapEntryS_l0 xs hn xs.length k 0 (by omega) hk

theorem szMap_eq (l : List S97) (hm : l.length ≤ 9223372036854775807) : laws_szMapMap.f l 1048576 = some (if l.length ≤ 1048576 then 1048576 - (l.length : Int) else -1) := by
  have hw : wrap64 (1048576 - (l.length : Int)) = 1048576 - (l.length : Int) := by unfold wrap64; omega
  unfold laws_szMapMap.f laws_szMapEntryS.f
  rw [hw]
  by_cases h : l.length ≤ 1048576
  · rw [if_pos h, if_neg (by omega)]; simp only [Option.bind_some]; rw [if_neg (by omega)]
  · rw [if_neg h, if_pos (by omega)]; simp

theorem toMap_eq (l : List S97) (hn : l.length ≤ 1048576) (k : Nat) (hk : l.length < k) : laws_toMapMap.f k l = some (l.map cvMapEntry) := by
  unfold laws_toMapMap.f
  rw [toMapEntryS_eq l hn k hk]; rfl

theorem eqMap_refl (l : List S83) (hn : l.length ≤ 1048576) (k : Nat) (hk : l.length < k) : laws_eqMapMap.f k l l = some true := by
  unfold laws_eqMapMap.f
  rw [eqMapEntryS_refl l hn k hk]; rfl

theorem l1In_eq (a b c : Int) : spec_l1In.f a b c = some (decide (b ≤ a ∧ a ≤ c)) := by
  unfold spec_l1In.f
  by_cases h : a ≥ b
  · rw [if_pos h]; congr 1; exact decide_eq_decide.2 ⟨fun h2 => ⟨h, h2⟩, fun h2 => h2.2⟩
  · rw [if_neg h]; congr 1; exact (decide_eq_false (fun h2 => h h2.1)).symm

theorem isKey_eq (a : Int) : impl_isKey.f a = some (decide (0 ≤ a ∧ a ≤ 99)) := by
  unfold impl_isKey.f
  by_cases h : a ≥ 0
  · rw [if_pos h]; congr 1; exact decide_eq_decide.2 ⟨fun h2 => ⟨h, h2⟩, fun h2 => h2.2⟩
  · rw [if_neg h]; congr 1; exact (decide_eq_false (fun h2 => h h2.1)).symm
theorem isVal_eq (a : Int) : impl_isVal.f a = some (decide (0 ≤ a ∧ a ≤ 999)) := by
  unfold impl_isVal.f
  by_cases h : a ≥ 0
  · rw [if_pos h]; congr 1; exact decide_eq_decide.2 ⟨fun h2 => ⟨h, h2⟩, fun h2 => h2.2⟩
  · rw [if_neg h]; congr 1; exact (decide_eq_false (fun h2 => h h2.1)).symm

/-- Entry j is ok: key and value in bounds, and the key above that ahead. -/
def EOk (xs : List S83) (j : Nat) : Prop :=
  (0 ≤ (rd_T83 xs (j : Int)).f0 ∧ (rd_T83 xs (j : Int)).f0 ≤ 99) ∧ (0 ≤ (rd_T83 xs (j : Int)).f1 ∧ (rd_T83 xs (j : Int)).f1 ≤ 999) ∧ (0 < j → (rd_T83 xs ((j - 1 : Nat) : Int)).f0 < (rd_T83 xs (j : Int)).f0)
instance (xs : List S83) (j : Nat) : Decidable (EOk xs j) := by unfold EOk; infer_instance

/-- Entries are ok. -/
def MOk (xs : List S83) : Prop := xs.length ≤ 8 ∧ ∀ j, j < xs.length → EOk xs j
instance (xs : List S83) : Decidable (MOk xs) := by unfold MOk; infer_instance
/-- As a bool. -/
def mokB (xs : List S83) : Bool := decide (MOk xs)

theorem specMapOk_step (xs : List S83) (k i : Nat) (hi : i < xs.length) (hn : xs.length ≤ 1048576) :
    spec_MapOk.l0 (k + 1) (i : Int) xs = if EOk xs i then spec_MapOk.l0 k ((i + 1 : Nat) : Int) xs else some false := by
  simp only [spec_MapOk.l0, l1In_eq, Option.bind_some, decide_eq_true_eq]
  rw [if_pos (by omega), if_pos (by omega), wrap_succ (by omega)]
  by_cases h1 : 0 ≤ (rd_T83 xs (i : Int)).f0 ∧ (rd_T83 xs (i : Int)).f0 ≤ 99
  · rw [if_pos h1]
    by_cases h2 : 0 ≤ (rd_T83 xs (i : Int)).f1 ∧ (rd_T83 xs (i : Int)).f1 ≤ 999
    · rw [if_pos h2]
      by_cases h3 : 0 < i
      · rw [wrap_pred h3 (by omega), if_pos (by omega), if_pos (by omega), if_pos (by omega)]
        by_cases h4 : (rd_T83 xs ((i - 1 : Nat) : Int)).f0 < (rd_T83 xs (i : Int)).f0
        · rw [if_neg (by omega), if_pos (show EOk xs i from ⟨h1, h2, fun _ => h4⟩)]
        · rw [if_pos (by omega), if_neg (fun h : EOk xs i => h4 (h.2.2 h3))]
      · rw [if_neg (by omega), if_pos (show EOk xs i from ⟨h1, h2, fun h => absurd h h3⟩)]
    · rw [if_neg h2, if_neg (fun h : EOk xs i => h2 h.2.1)]
  · rw [if_neg h1, if_neg (fun h : EOk xs i => h1 h.1)]
theorem specMapOk_l0 (xs : List S83) (hn : xs.length ≤ 1048576) (d : Nat) : ∀ (k i : Nat), i + d = xs.length → d < k → spec_MapOk.l0 k (i : Int) xs = if (∀ j, j < xs.length → i ≤ j → EOk xs j) then some true else some false := by
  induction d with
  | zero =>
    intro k i hi hk
    obtain ⟨k, rfl⟩ : ∃ m, k = m + 1 := ⟨k - 1, by omega⟩
    simp only [spec_MapOk.l0]; rw [if_neg (by omega), if_pos (fun j h1 h2 => absurd h2 (by omega))]
  | succ d ih =>
    intro k i hi hk
    obtain ⟨k, rfl⟩ : ∃ m, k = m + 1 := ⟨k - 1, by omega⟩
    rw [specMapOk_step xs k i (by omega) hn]
    by_cases h : EOk xs i
    · rw [if_pos h, ih k (i + 1) (by omega) (by omega)]
      by_cases h2 : ∀ j, j < xs.length → i + 1 ≤ j → EOk xs j
      · rw [if_pos h2, if_pos (fun j hj1 hj2 => by
          by_cases e : j = i
          · subst e; exact h
          · exact h2 j hj1 (by omega))]
      · rw [if_neg h2, if_neg (fun h3 => h2 (fun j hj1 hj2 => h3 j hj1 (by omega)))]
    · rw [if_neg h, if_neg (fun h3 => h (h3 i (by omega) (Nat.le_refl i)))]

theorem implMapOk_step (xs : List S83) (k i : Nat) (hi : i < xs.length) (hn : xs.length ≤ 1048576) :
    impl_MapOk.l0 (k + 1) xs (xs.length : Int) (i : Int) xs = if EOk xs i then impl_MapOk.l0 k xs (xs.length : Int) ((i + 1 : Nat) : Int) xs else some false := by
  simp only [impl_MapOk.l0, isKey_eq, isVal_eq, Option.bind_some, decide_eq_true_eq]
  rw [if_pos (by omega), if_pos (by omega), if_pos (by omega), wrap_succ (by omega)]
  by_cases h1 : 0 ≤ (rd_T83 xs (i : Int)).f0 ∧ (rd_T83 xs (i : Int)).f0 ≤ 99
  · rw [if_pos h1]
    by_cases h2 : 0 ≤ (rd_T83 xs (i : Int)).f1 ∧ (rd_T83 xs (i : Int)).f1 ≤ 999
    · rw [if_pos h2]
      by_cases h3 : 0 < i
      · rw [wrap_pred h3 (by omega), if_pos (by omega), if_pos (by omega), if_pos (by omega)]
        by_cases h4 : (rd_T83 xs ((i - 1 : Nat) : Int)).f0 < (rd_T83 xs (i : Int)).f0
        · rw [if_neg (by omega), if_pos (show EOk xs i from ⟨h1, h2, fun _ => h4⟩)]
        · rw [if_pos (by omega), if_neg (fun h : EOk xs i => h4 (h.2.2 h3))]
      · rw [if_neg (by omega), if_pos (show EOk xs i from ⟨h1, h2, fun h => absurd h h3⟩)]
    · rw [if_neg h2, if_neg (fun h : EOk xs i => h2 h.2.1)]
  · rw [if_neg h1, if_neg (fun h : EOk xs i => h1 h.1)]
theorem implMapOk_l0 (xs : List S83) (hn : xs.length ≤ 1048576) (d : Nat) : ∀ (k i : Nat), i + d = xs.length → d < k → impl_MapOk.l0 k xs (xs.length : Int) (i : Int) xs = if (∀ j, j < xs.length → i ≤ j → EOk xs j) then some (decide ((xs.length : Int) ≤ 8)) else some false := by
  induction d with
  | zero =>
    intro k i hi hk
    obtain ⟨k, rfl⟩ : ∃ m, k = m + 1 := ⟨k - 1, by omega⟩
    simp only [impl_MapOk.l0]; rw [if_neg (by omega), if_pos (fun j h1 h2 => absurd h2 (by omega))]
  | succ d ih =>
    intro k i hi hk
    obtain ⟨k, rfl⟩ : ∃ m, k = m + 1 := ⟨k - 1, by omega⟩
    rw [implMapOk_step xs k i (by omega) hn]
    by_cases h : EOk xs i
    · rw [if_pos h, ih k (i + 1) (by omega) (by omega)]
      by_cases h2 : ∀ j, j < xs.length → i + 1 ≤ j → EOk xs j
      · rw [if_pos h2, if_pos (fun j hj1 hj2 => by
          by_cases e : j = i
          · subst e; exact h
          · exact h2 j hj1 (by omega))]
      · rw [if_neg h2, if_neg (fun h3 => h2 (fun j hj1 hj2 => h3 j hj1 (by omega)))]
    · rw [if_neg h, if_neg (fun h3 => h (h3 i (by omega) (Nat.le_refl i)))]

theorem specMapOk_eq (xs : List S83) (hn : xs.length ≤ 1048576) (k : Nat) (hk : xs.length < k) : spec_MapOk.f k xs = some (mokB xs) := by
  unfold spec_MapOk.f mokB
  by_cases h8 : xs.length ≤ 8
  · rw [if_neg (by omega)]
    refine (specMapOk_l0 xs hn xs.length k 0 (by omega) hk).trans ?_
    by_cases h : ∀ j, j < xs.length → EOk xs j
    · rw [if_pos (fun j hj _ => h j hj), decide_eq_true (p := MOk xs) ⟨h8, h⟩]
    · rw [if_neg (fun h2 => h (fun j hj => h2 j hj (Nat.zero_le j))), decide_eq_false (p := MOk xs) (fun h2 => h h2.2)]
  · rw [if_pos (by omega), decide_eq_false (p := MOk xs) (fun h2 => h8 h2.1)]
theorem implMapOk_eq (xs : List S83) (hn : xs.length ≤ 1048576) (k : Nat) (hk : xs.length < k) : impl_MapOk.f k xs = some (mokB xs) := by
  unfold impl_MapOk.f mokB
  refine (implMapOk_l0 xs hn xs.length k 0 (by omega) hk).trans ?_
  by_cases h : ∀ j, j < xs.length → EOk xs j
  · rw [if_pos (fun j hj _ => h j hj)]
    congr 1
    exact decide_eq_decide.2 ⟨fun h2 => ⟨by omega, h⟩, fun h2 => by have := h2.1; omega⟩
  · rw [if_neg (fun h2 => h (fun j hj => h2 j hj (Nat.zero_le j))), decide_eq_false (p := MOk xs) (fun h2 => h h2.2)]

theorem final (l : List S97) (hm : l.length ≤ 9223372036854775807) : ∃ k, laws_FnExactMapOk.f k l = some true := by
  refine ⟨2000000, ?_⟩
  unfold laws_FnExactMapOk.f
  rw [szMap_eq l hm]
  simp only [Option.bind_some]
  by_cases hn : l.length ≤ 1048576
  · have hn' : (l.map cvMapEntry).length ≤ 1048576 := by rw [List.length_map]; exact hn
    rw [if_pos hn, if_neg (by omega), toMap_eq l hn _ (by omega)]
    simp only [Option.bind_some]
    rw [specMapOk_eq _ hn' _ (by omega), implMapOk_eq _ hn' _ (by omega)]
    simp only [Option.bind_some]
    rw [eqMap_refl _ hn' _ (by omega)]
    simp
  · rw [if_neg hn, if_pos (by omega)]
end FnExactMapOk_

theorem FnExactMapOk : ∀ (l : List S97) (hm : l.length ≤ 9223372036854775807), ∃ k, laws_FnExactMapOk.f k l = some true := FnExactMapOk_.final

end Go.Proofs.Ytnfnphhialoebaa.Pure
