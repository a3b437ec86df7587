/-
  MapCount is the reference's, for all entries and keys. Conditions: none.
-/
import Derived.Test.YtnfnphhialoebaaPFnExactMapCountx1
import Derived.Test.YtnfnphhialoebaaPFnExactMapCountx2
namespace Go.Proofs.Ytnfnphhialoebaa.Pure
open Go.RowKit Go.Proofs.Ytnfnphhialoebaa.PFnExactMapCount Go.Proofs.YtnfnphhialoebaaW.PrintWords Go.Proofs.YtnfnphhialoebaaW.PrintLast
set_option linter.unusedVariables false
set_option linter.unusedSimpArgs false

namespace FnExactMapCount_
theorem wrap_nat {i : Nat} (h : i ≤ 40000000) : wrap64 (i : Int) = i := by unfold wrap64; omega
theorem wrap_succ {i : Nat} (h : i ≤ 40000000) : wrap64 ((i : Int) + 1) = ((i + 1 : Nat) : Int) := by unfold wrap64; omega
theorem wrap_pred {i : Nat} (h0 : 0 < i) (h : i ≤ 40000000) : wrap64 ((i : Int) - 1) = ((i - 1 : Nat) : Int) := by unfold wrap64; omega
theorem some_of_ext {α : Type} {ys zs : List α} (hl : ys.length = zs.length) (h : ∀ j, j < zs.length → ys[j]? = zs[j]?) : ys = zs := by
  apply List.ext_getElem?
  intro j
  by_cases hj : j < zs.length
  · exact h j hj
  · rw [List.getElem?_eq_none (by omega), List.getElem?_eq_none (by omega)]

theorem rd_97_nat (xs : List S97) (i : Nat) (h : i < xs.length) : rd_T97 xs (i : Int) = xs[i] := by simp [rd_T97, h]

theorem rd_83_nat (xs : List S83) (i : Nat) (h : i < xs.length) : rd_T83 xs (i : Int) = xs[i] := by simp [rd_T83, h]

def cvMapEntry (x : S97) : S83 := ⟨x.f0, x.f1⟩
theorem toMapEntryS_l0 (xs : List S97) (hn : xs.length ≤ 1048576) (d : Nat) : ∀ (k i : Nat) (ys : List S83), ys.length = xs.length → i + d = xs.length → d < k → (∀ j, j < i → ys[j]? = (xs.map cvMapEntry)[j]?) → laws_toMapEntryS.l0 k xs ys (i : Int) = some (xs.map cvMapEntry) := by
  induction d with
  | zero =>
    intro k i ys hl hi hk hj
    obtain ⟨k, rfl⟩ : ∃ m, k = m + 1 := ⟨k - 1, by omega⟩
    simp only [laws_toMapEntryS.l0]; rw [if_neg (by omega)]
    congr 1
    exact some_of_ext (by simpa using hl) (fun j hj' => hj j (by rw [List.length_map] at hj'; omega))
  | succ d ih =>
    intro k i ys hl hi hk hj
    obtain ⟨k, rfl⟩ : ∃ m, k = m + 1 := ⟨k - 1, by omega⟩
    simp only [laws_toMapEntryS.l0, laws_toMapEntry.f, Option.bind_some]
    rw [if_pos (by omega), if_pos (by omega), if_pos (by omega), wrap_succ (by omega)]
    apply ih k (i + 1) _ (by simp [hl]) (by omega) (by omega)
    intro j hj'
    rw [Int.toNat_natCast, List.getElem?_set]
    by_cases h : i = j
    · subst h; rw [if_pos rfl, if_pos (by omega), rd_97_nat _ _ (by omega), List.getElem?_eq_getElem (by rw [List.length_map]; omega), List.getElem_map]; rfl
    · rw [if_neg h]; exact hj j (by omega)
theorem toMapEntryS_eq (xs : List S97) (hn : xs.length ≤ 1048576) (k : Nat) (hk : xs.length < k) : laws_toMapEntryS.f k xs = some (xs.map cvMapEntry) := by
  unfold laws_toMapEntryS.f
  rw [if_pos (by omega), if_pos (by omega)]
  exact toMapEntryS_l0 xs hn xs.length k 0 _ (by simp) (by omega) hk (fun j hj => absurd hj (Nat.not_lt_zero j))

theorem eqMapEntryS_l0 (xs : List S83) (hn : xs.length ≤ 1048576) (d : Nat) : ∀ (k i : Nat), i + d = xs.length → d < k → laws_eqMapEntryS.l0 k xs xs (i : Int) = some true := by
  induction d with
  | zero =>
    intro k i hi hk
    obtain ⟨k, rfl⟩ : ∃ m, k = m + 1 := ⟨k - 1, by omega⟩
    simp only [laws_eqMapEntryS.l0]; rw [if_neg (by omega)]
  | succ d ih =>
    intro k i hi hk
    obtain ⟨k, rfl⟩ : ∃ m, k = m + 1 := ⟨k - 1, by omega⟩
    simp only [laws_eqMapEntryS.l0]
    rw [if_pos (by omega), if_pos (by omega), if_pos (by omega), wrap_succ (by omega)]
    rw [show laws_eqMapEntry.f (rd_T83 xs (i : Int)).f0 (rd_T83 xs (i : Int)).f1 (rd_T83 xs (i : Int)).f0 (rd_T83 xs (i : Int)).f1 = some true from by simp [laws_eqMapEntry.f]]
    simp only [Option.bind_some, if_true]
    exact ih k (i + 1) (by omega) (by omega)
theorem eqMapEntryS_refl (xs : List S83) (hn : xs.length ≤ 1048576) (k : Nat) (hk : xs.length < k) : laws_eqMapEntryS.f k xs xs = some true := by
  unfold laws_eqMapEntryS.f
  rw [if_pos rfl]
  exact eqMapEntryS_l0 xs hn xs.length k 0 (by omega) hk

theorem szMap_eq (l : List S97) (hm : l.length ≤ 9223372036854775807) : laws_szMapMap.f l 1048576 = some (if l.length ≤ 1048576 then 1048576 - (l.length : Int) else -1) := by
  have hw : wrap64 (1048576 - (l.length : Int)) = 1048576 - (l.length : Int) := by unfold wrap64; omega
  unfold laws_szMapMap.f laws_szMapEntryS.f
  rw [hw]
  by_cases h : l.length ≤ 1048576
  · rw [if_pos h, if_neg (by omega)]; simp only [Option.bind_some]; rw [if_neg (by omega)]
  · rw [if_neg h, if_pos (by omega)]; simp

theorem toMap_eq (l : List S97) (hn : l.length ≤ 1048576) (k : Nat) (hk : l.length < k) : laws_toMapMap.f k l = some (l.map cvMapEntry) := by
  unfold laws_toMapMap.f
  rw [toMapEntryS_eq l hn k hk]; rfl

theorem eqMap_refl (l : List S83) (hn : l.length ≤ 1048576) (k : Nat) (hk : l.length < k) : laws_eqMapMap.f k l l = some true := by
  unfold laws_eqMapMap.f
  rw [eqMapEntryS_refl l hn k hk]; rfl

theorem implMapCount_l0 (xs : List S83) (key : Int) (hn : xs.length ≤ 1048576) (d : Nat) : ∀ (k i c : Nat), i + d = xs.length → d < k → c ≤ i → impl_MapCount.l0 k key (c : Int) xs (xs.length : Int) (i : Int) = some (((2 : Int), (c : Int) + ((xs.drop i).countP (fun e => decide (e.f0 ≥ key)) : Nat))) := by
  induction d with
  | zero =>
    intro k i c hi hk hc
    obtain ⟨k, rfl⟩ : ∃ m, k = m + 1 := ⟨k - 1, by omega⟩
    simp only [impl_MapCount.l0, impl_yes.f, Option.bind_some]; rw [if_neg (by omega), List.drop_eq_nil_of_le (by omega)]; simp
  | succ d ih =>
    intro k i c hi hk hc
    obtain ⟨k, rfl⟩ : ∃ m, k = m + 1 := ⟨k - 1, by omega⟩
    have hi' : i < xs.length := by omega
    simp only [impl_MapCount.l0, impl_yes.f, Option.bind_some]
    rw [if_pos (by omega), if_pos (by omega), if_pos (by omega), wrap_succ (i := i) (by omega), wrap_succ (i := c) (by omega), List.drop_eq_getElem_cons hi', rd_83_nat _ _ hi', List.countP_cons]
    by_cases h : xs[i].f0 ≥ key
    · rw [if_pos h, ih k (i + 1) (c + 1) (by omega) (by omega) (by omega)]; simp [h]; omega
    · rw [if_neg h, ih k (i + 1) c (by omega) (by omega) (by omega)]; simp [h]

theorem specMapCount_l0 (xs : List S83) (key : Int) (hn : xs.length ≤ 1048576) (d : Nat) : ∀ (k i c : Nat), i + d = xs.length → d < k → c ≤ i → spec_MapCount.l0 k key (c : Int) (i : Int) xs = some (((2 : Int), (c : Int) + ((xs.drop i).countP (fun e => decide (e.f0 ≥ key)) : Nat))) := by
  induction d with
  | zero =>
    intro k i c hi hk hc
    obtain ⟨k, rfl⟩ : ∃ m, k = m + 1 := ⟨k - 1, by omega⟩
    simp only [spec_MapCount.l0]; rw [if_neg (by omega), List.drop_eq_nil_of_le (by omega)]; simp
  | succ d ih =>
    intro k i c hi hk hc
    obtain ⟨k, rfl⟩ : ∃ m, k = m + 1 := ⟨k - 1, by omega⟩
    have hi' : i < xs.length := by omega
    simp only [spec_MapCount.l0]
    rw [if_pos (by omega), if_pos (by omega), wrap_succ (i := i) (by omega), wrap_succ (i := c) (by omega), List.drop_eq_getElem_cons hi', rd_83_nat _ _ hi', List.countP_cons]
    by_cases h : xs[i].f0 ≥ key
    · rw [if_pos h, ih k (i + 1) (c + 1) (by omega) (by omega) (by omega)]; simp [h]; omega
    · rw [if_neg h, ih k (i + 1) c (by omega) (by omega) (by omega)]; simp [h]

/-- How many keys there are from a key on. -/
def countS (xs : List S83) (key : Int) : Int × Int := (2, (xs.countP (fun e => decide (e.f0 ≥ key)) : Nat))
theorem implMapCount_eq (xs : List S83) (key : Int) (hn : xs.length ≤ 1048576) (k : Nat) (hk : xs.length < k) : impl_MapCount.f k xs key = some (countS xs key) := by
  unfold impl_MapCount.f countS
  refine (implMapCount_l0 xs key hn xs.length k 0 0 (by omega) hk (by omega)).trans ?_
  simp
theorem specMapCount_eq (xs : List S83) (key : Int) (hn : xs.length ≤ 1048576) (k : Nat) (hk : xs.length < k) : spec_MapCount.f k xs key = some (countS xs key) := by
  unfold spec_MapCount.f countS
  refine (specMapCount_l0 xs key hn xs.length k 0 0 (by omega) hk (by omega)).trans ?_
  simp

theorem eqRes_refl (a b : Int) : laws_eqResRes.f a b a b = some true := by simp [laws_eqResRes.f]

theorem final (l : List S97) (key : Int) (hm : l.length ≤ 9223372036854775807) (_ : (Lit.int .i64 key).wf = true) : ∃ k, laws_FnExactMapCount.f k l key = some true := by
  refine ⟨2000000, ?_⟩
  unfold laws_FnExactMapCount.f
  rw [szMap_eq l hm]
  simp only [Option.bind_some]
  by_cases hn : l.length ≤ 1048576
  · have hn' : (l.map cvMapEntry).length ≤ 1048576 := by rw [List.length_map]; exact hn
    rw [if_pos hn, if_neg (by omega), toMap_eq l hn _ (by omega)]
    simp only [Option.bind_some]
    rw [specMapCount_eq _ key hn' _ (by omega), implMapCount_eq _ key hn' _ (by omega)]
    simp only [Option.bind_some]
    rw [eqRes_refl, eqMap_refl _ hn' _ (by omega)]
    simp
  · rw [if_neg hn, if_pos (by omega)]
end FnExactMapCount_

theorem FnExactMapCount : ∀ (l : List S97) (key : Int) (hm : l.length ≤ 9223372036854775807) (_ : (Lit.int .i64 key).wf = true), ∃ k, laws_FnExactMapCount.f k l key = some true := FnExactMapCount_.final

end Go.Proofs.Ytnfnphhialoebaa.Pure
