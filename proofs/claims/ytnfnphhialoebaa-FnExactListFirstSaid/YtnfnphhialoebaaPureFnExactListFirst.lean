/-
  ListFirst is the reference's, for all values. Conditions: none.
-/
import Derived.Test.YtnfnphhialoebaaPFnExactListFirstx1
namespace Go.Proofs.Ytnfnphhialoebaa.Pure
open Go.RowKit Go.Proofs.Ytnfnphhialoebaa.PFnExactListFirst Go.Proofs.YtnfnphhialoebaaW.PrintWords Go.Proofs.YtnfnphhialoebaaW.PrintLast
set_option linter.unusedVariables false
set_option linter.unusedSimpArgs false

namespace FnExactListFirst_
theorem wrap_nat {i : Nat} (h : i ≤ 40000000) : wrap64 (i : Int) = i := by unfold wrap64; omega
theorem wrap_succ {i : Nat} (h : i ≤ 40000000) : wrap64 ((i : Int) + 1) = ((i + 1 : Nat) : Int) := by unfold wrap64; omega
theorem wrap_pred {i : Nat} (h0 : 0 < i) (h : i ≤ 40000000) : wrap64 ((i : Int) - 1) = ((i - 1 : Nat) : Int) := by unfold wrap64; omega
theorem some_of_ext {α : Type} {ys zs : List α} (hl : ys.length = zs.length) (h : ∀ j, j < zs.length → ys[j]? = zs[j]?) : ys = zs := by
  apply List.ext_getElem?
  intro j
  by_cases hj : j < zs.length
  · exact h j hj
  · rw [List.getElem?_eq_none (by omega), List.getElem?_eq_none (by omega)]

theorem rd_nat (xs : List Int) (i : Nat) (h : i < xs.length) : rd xs (i : Int) = xs[i] := by simp [rd, h]

theorem toIntS_l0 (xs : List Int) (hn : xs.length ≤ 1048576) (d : Nat) : ∀ (k i : Nat) (ys : List Int), ys.length = xs.length → i + d = xs.length → d < k → (∀ j, j < i → ys[j]? = xs[j]?) → laws_toIntS.l0 k xs ys (i : Int) = some xs := by
  induction d with
  | zero =>
    intro k i ys hl hi hk hj
    obtain ⟨k, rfl⟩ : ∃ m, k = m + 1 := ⟨k - 1, by omega⟩
    simp only [laws_toIntS.l0]; rw [if_neg (by omega)]
    congr 1
    exact some_of_ext hl (fun j hj' => hj j (by omega))
  | succ d ih =>
    intro k i ys hl hi hk hj
    obtain ⟨k, rfl⟩ : ∃ m, k = m + 1 := ⟨k - 1, by omega⟩
    simp only [laws_toIntS.l0]
    rw [if_pos (by omega), if_pos (by omega), if_pos (by omega), wrap_succ (by omega)]
    apply ih k (i + 1) _ (by simp [hl]) (by omega) (by omega)
    intro j hj'
    rw [Int.toNat_natCast, List.getElem?_set]
    by_cases h : i = j
    · subst h; rw [if_pos rfl, if_pos (by omega), rd_nat _ _ (by omega), List.getElem?_eq_getElem]
    · rw [if_neg h]; exact hj j (by omega)
theorem toIntS_eq (xs : List Int) (hn : xs.length ≤ 1048576) (k : Nat) (hk : xs.length < k) : laws_toIntS.f k xs = some xs := by
  unfold laws_toIntS.f
  rw [if_pos (by omega), if_pos (by omega)]
  exact toIntS_l0 xs hn xs.length k 0 _ (by simp) (by omega) hk (fun j hj => absurd hj (Nat.not_lt_zero j))

theorem eqIntS_l0 (xs : List Int) (hn : xs.length ≤ 1048576) (d : Nat) : ∀ (k i : Nat), i + d = xs.length → d < k → laws_eqIntS.l0 k xs xs (i : Int) = some true := by
  induction d with
  | zero =>
    intro k i hi hk
    obtain ⟨k, rfl⟩ : ∃ m, k = m + 1 := ⟨k - 1, by omega⟩
    simp only [laws_eqIntS.l0]; rw [if_neg (by omega)]
  | succ d ih =>
    intro k i hi hk
    obtain ⟨k, rfl⟩ : ∃ m, k = m + 1 := ⟨k - 1, by omega⟩
    simp only [laws_eqIntS.l0]
    rw [if_pos (by omega), if_pos (by omega), if_pos (by omega), if_pos trivial, wrap_succ (by omega)]
    exact ih k (i + 1) (by omega) (by omega)
theorem eqIntS_refl (xs : List Int) (hn : xs.length ≤ 1048576) (k : Nat) (hk : xs.length < k) : laws_eqIntS.f k xs xs = some true := by
  unfold laws_eqIntS.f
  rw [if_pos rfl]
  exact eqIntS_l0 xs hn xs.length k 0 (by omega) hk

theorem eqRes_refl (a b : Int) : laws_eqResRes.f a b a b = some true := by simp [laws_eqResRes.f]

theorem final (l : List Int) (hm : l.length ≤ 9223372036854775807) : ∃ k, laws_FnExactListFirst.f k l = some true := by
  refine ⟨2000000, ?_⟩
  unfold laws_FnExactListFirst.f
  by_cases hn : l.length ≤ 1048576
  · rw [if_neg (by omega), toIntS_eq l hn _ (by omega)]
    simp only [Option.bind_some]
    have hs : ∃ r, spec_ListFirst.f l = some r ∧ impl_ListFirst.f l = some r := by
      unfold spec_ListFirst.f impl_ListFirst.f impl_no.f impl_yes.f
      by_cases h0 : (l.length : Int) = 0
      · rw [if_pos h0, if_pos h0]; exact ⟨_, rfl, rfl⟩
      · rw [if_neg h0, if_neg h0, if_pos (by omega), if_pos (by omega)]; exact ⟨_, rfl, rfl⟩
    obtain ⟨r, h1, h2⟩ := hs
    rw [h1, h2]
    simp only [Option.bind_some]
    rw [eqRes_refl, eqIntS_refl l hn _ (by omega)]
    simp
  · rw [if_pos (by omega)]
end FnExactListFirst_

theorem FnExactListFirst : ∀ (l : List Int) (hm : l.length ≤ 9223372036854775807), ∃ k, laws_FnExactListFirst.f k l = some true := FnExactListFirst_.final

end Go.Proofs.Ytnfnphhialoebaa.Pure
