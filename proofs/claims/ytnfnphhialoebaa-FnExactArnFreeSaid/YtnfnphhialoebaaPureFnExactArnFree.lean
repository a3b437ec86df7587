/-
  ArnFree is the reference's, for all places. Conditions: none.
-/
import Derived.Test.YtnfnphhialoebaaPFnExactArnFreex1
import Derived.Test.YtnfnphhialoebaaPFnExactArnFreex2
namespace Go.Proofs.Ytnfnphhialoebaa.Pure
open Go.RowKit Go.Proofs.Ytnfnphhialoebaa.PFnExactArnFree Go.Proofs.YtnfnphhialoebaaW.PrintWords Go.Proofs.YtnfnphhialoebaaW.PrintLast
set_option linter.unusedVariables false
set_option linter.unusedSimpArgs false

namespace FnExactArnFree_
theorem wrap_nat {i : Nat} (h : i ≤ 40000000) : wrap64 (i : Int) = i := by unfold wrap64; omega
theorem wrap_succ {i : Nat} (h : i ≤ 40000000) : wrap64 ((i : Int) + 1) = ((i + 1 : Nat) : Int) := by unfold wrap64; omega
theorem wrap_pred {i : Nat} (h0 : 0 < i) (h : i ≤ 40000000) : wrap64 ((i : Int) - 1) = ((i - 1 : Nat) : Int) := by unfold wrap64; omega
theorem some_of_ext {α : Type} {ys zs : List α} (hl : ys.length = zs.length) (h : ∀ j, j < zs.length → ys[j]? = zs[j]?) : ys = zs := by
  apply List.ext_getElem?
  intro j
  by_cases hj : j < zs.length
  · exact h j hj
  · rw [List.getElem?_eq_none (by omega), List.getElem?_eq_none (by omega)]

theorem rd_100_nat (xs : List S100) (i : Nat) (h : i < xs.length) : rd_T100 xs (i : Int) = xs[i] := by simp [rd_T100, h]

theorem rd_89_nat (xs : List S89) (i : Nat) (h : i < xs.length) : rd_T89 xs (i : Int) = xs[i] := by simp [rd_T89, h]

def cvArnNode (x : S100) : S89 := ⟨x.f0, x.f1, x.f2, x.f3, x.f4, x.f5⟩
theorem toArnNodeS_l0 (xs : List S100) (hn : xs.length ≤ 1048576) (d : Nat) : ∀ (k i : Nat) (ys : List S89), ys.length = xs.length → i + d = xs.length → d < k → (∀ j, j < i → ys[j]? = (xs.map cvArnNode)[j]?) → laws_toArnNodeS.l0 k xs ys (i : Int) = some (xs.map cvArnNode) := by
  induction d with
  | zero =>
    intro k i ys hl hi hk hj
    obtain ⟨k, rfl⟩ : ∃ m, k = m + 1 := ⟨k - 1, by omega⟩
    simp only [laws_toArnNodeS.l0]; rw [if_neg (by omega)]
    congr 1
    exact some_of_ext (by simpa using hl) (fun j hj' => hj j (by rw [List.length_map] at hj'; omega))
  | succ d ih =>
    intro k i ys hl hi hk hj
    obtain ⟨k, rfl⟩ : ∃ m, k = m + 1 := ⟨k - 1, by omega⟩
    simp only [laws_toArnNodeS.l0, laws_toArnNode.f, Option.bind_some]
    rw [if_pos (by omega), if_pos (by omega), if_pos (by omega), wrap_succ (by omega)]
    apply ih k (i + 1) _ (by simp [hl]) (by omega) (by omega)
    intro j hj'
    rw [Int.toNat_natCast, List.getElem?_set]
    by_cases h : i = j
    · subst h; rw [if_pos rfl, if_pos (by omega), rd_100_nat _ _ (by omega), List.getElem?_eq_getElem (by rw [List.length_map]; omega), List.getElem_map]; rfl
    · rw [if_neg h]; exact hj j (by omega)
theorem toArnNodeS_eq (xs : List S100) (hn : xs.length ≤ 1048576) (k : Nat) (hk : xs.length < k) : laws_toArnNodeS.f k xs = some (xs.map cvArnNode) := by
  unfold laws_toArnNodeS.f
  rw [if_pos (by omega), if_pos (by omega)]
  exact toArnNodeS_l0 xs hn xs.length k 0 _ (by simp) (by omega) hk (fun j hj => absurd hj (Nat.not_lt_zero j))

theorem eqArnNodeS_l0 (xs : List S89) (hn : xs.length ≤ 1048576) (d : Nat) : ∀ (k i : Nat), i + d = xs.length → d < k → laws_eqArnNodeS.l0 k xs xs (i : Int) = some true := by
  induction d with
  | zero =>
    intro k i hi hk
    obtain ⟨k, rfl⟩ : ∃ m, k = m + 1 := ⟨k - 1, by omega⟩
    simp only [laws_eqArnNodeS.l0]; rw [if_neg (by omega)]
  | succ d ih =>
    intro k i hi hk
    obtain ⟨k, rfl⟩ : ∃ m, k = m + 1 := ⟨k - 1, by omega⟩
    simp only [laws_eqArnNodeS.l0]
    rw [if_pos (by omega), if_pos (by omega), if_pos (by omega), wrap_succ (by omega)]
    rw [show laws_eqArnNode.f (rd_T89 xs (i : Int)).f0 (rd_T89 xs (i : Int)).f1 (rd_T89 xs (i : Int)).f2 (rd_T89 xs (i : Int)).f3 (rd_T89 xs (i : Int)).f4 (rd_T89 xs (i : Int)).f5 (rd_T89 xs (i : Int)).f0 (rd_T89 xs (i : Int)).f1 (rd_T89 xs (i : Int)).f2 (rd_T89 xs (i : Int)).f3 (rd_T89 xs (i : Int)).f4 (rd_T89 xs (i : Int)).f5 = some true from by simp [laws_eqArnNode.f]]
    simp only [Option.bind_some, if_true]
    exact ih k (i + 1) (by omega) (by omega)
theorem eqArnNodeS_refl (xs : List S89) (hn : xs.length ≤ 1048576) (k : Nat) (hk : xs.length < k) : laws_eqArnNodeS.f k xs xs = some true := by
  unfold laws_eqArnNodeS.f
  rw [if_pos rfl]
  exact eqArnNodeS_l0 xs hn xs.length k 0 (by omega) hk

theorem szArn_eq (l : List S100) (a b c : Int) (hm : l.length ≤ 9223372036854775807) : laws_szArnArena.f l a b c 1048576 = some (if l.length ≤ 1048576 then 1048576 - (l.length : Int) else -1) := by
  have hw : wrap64 (1048576 - (l.length : Int)) = 1048576 - (l.length : Int) := by unfold wrap64; omega
  unfold laws_szArnArena.f laws_szArnNodeS.f
  rw [hw]
  by_cases h : l.length ≤ 1048576
  · rw [if_pos h, if_neg (by omega)]; simp only [Option.bind_some]; rw [if_neg (by omega)]
  · rw [if_neg h, if_pos (by omega)]; simp

theorem toArn_eq (l : List S100) (a b c : Int) (hn : l.length ≤ 1048576) (k : Nat) (hk : l.length < k) : laws_toArnArena.f k l a b c = some (l.map cvArnNode, a, b, c) := by
  unfold laws_toArnArena.f
  rw [toArnNodeS_eq l hn k hk]; rfl

theorem eqArn_refl (l : List S89) (a b c : Int) (hn : l.length ≤ 1048576) (k : Nat) (hk : l.length < k) : laws_eqArnArena.f k l a b c l a b c = some true := by
  unfold laws_eqArnArena.f
  rw [eqArnNodeS_refl l hn k hk]; simp

theorem implArnFree_l0 (xs : List S89)  (hn : xs.length ≤ 1048576) (d : Nat) : ∀ (k i c : Nat), i + d = xs.length → d < k → c ≤ i → impl_ArnFree.l0 k (c : Int) xs (xs.length : Int) (i : Int) = some ((c : Int) + ((xs.drop i).countP (fun e => !e.f4) : Nat)) := by
  induction d with
  | zero =>
    intro k i c hi hk hc
    obtain ⟨k, rfl⟩ : ∃ m, k = m + 1 := ⟨k - 1, by omega⟩
    simp only [impl_ArnFree.l0]; rw [if_neg (by omega), List.drop_eq_nil_of_le (by omega)]; simp
  | succ d ih =>
    intro k i c hi hk hc
    obtain ⟨k, rfl⟩ : ∃ m, k = m + 1 := ⟨k - 1, by omega⟩
    have hi' : i < xs.length := by omega
    simp only [impl_ArnFree.l0]
    rw [if_pos (by omega), if_pos (by omega), if_pos (by omega), wrap_succ (i := i) (by omega), wrap_succ (i := c) (by omega), List.drop_eq_getElem_cons hi', rd_89_nat _ _ hi', List.countP_cons]
    by_cases h : xs[i].f4 = true
    · rw [if_pos h, ih k (i + 1) c (by omega) (by omega) (by omega)]; simp [h]
    · rw [if_neg h, ih k (i + 1) (c + 1) (by omega) (by omega) (by omega)]; simp [h]; omega

theorem specArnFree_l0 (xs : List S89) (x y z : Int) (hn : xs.length ≤ 1048576) (d : Nat) : ∀ (k i c : Nat), i + d = xs.length → d < k → c ≤ i → spec_ArnFree.l0 k (c : Int) (i : Int) xs x y z = some ((c : Int) + ((xs.drop i).countP (fun e => !e.f4) : Nat)) := by
  induction d with
  | zero =>
    intro k i c hi hk hc
    obtain ⟨k, rfl⟩ : ∃ m, k = m + 1 := ⟨k - 1, by omega⟩
    simp only [spec_ArnFree.l0]; rw [if_neg (by omega), List.drop_eq_nil_of_le (by omega)]; simp
  | succ d ih =>
    intro k i c hi hk hc
    obtain ⟨k, rfl⟩ : ∃ m, k = m + 1 := ⟨k - 1, by omega⟩
    have hi' : i < xs.length := by omega
    simp only [spec_ArnFree.l0]
    rw [if_pos (by omega), if_pos (by omega), wrap_succ (i := i) (by omega), wrap_succ (i := c) (by omega), List.drop_eq_getElem_cons hi', rd_89_nat _ _ hi', List.countP_cons]
    by_cases h : xs[i].f4 = true
    · rw [if_pos h, ih k (i + 1) c (by omega) (by omega) (by omega)]; simp [h]
    · rw [if_neg h, ih k (i + 1) (c + 1) (by omega) (by omega) (by omega)]; simp [h]; omega

theorem implArnFree_eq (xs : List S89) (x y z : Int) (hn : xs.length ≤ 1048576) (k : Nat) (hk : xs.length < k) : impl_ArnFree.f k xs x y z = some ((xs.countP (fun e => !e.f4) : Nat) : Int) := by
  unfold impl_ArnFree.f
  refine (implArnFree_l0 xs hn xs.length k 0 0 (by omega) hk (by omega)).trans ?_
  simp
theorem specArnFree_eq (xs : List S89) (x y z : Int) (hn : xs.length ≤ 1048576) (k : Nat) (hk : xs.length < k) : spec_ArnFree.f k xs x y z = some ((xs.countP (fun e => !e.f4) : Nat) : Int) := by
  unfold spec_ArnFree.f
  refine (specArnFree_l0 xs x y z hn xs.length k 0 0 (by omega) hk (by omega)).trans ?_
  simp

theorem final (l : List S100) (x y z : Int) (hm : l.length ≤ 9223372036854775807) : ∃ k, laws_FnExactArnFree.f k l x y z = some true := by
  refine ⟨2000000, ?_⟩
  unfold laws_FnExactArnFree.f
  rw [szArn_eq l _ _ _ hm]
  simp only [Option.bind_some]
  by_cases hn : l.length ≤ 1048576
  · have hn' : (l.map cvArnNode).length ≤ 1048576 := by rw [List.length_map]; exact hn
    rw [if_pos hn, if_neg (by omega), toArn_eq l _ _ _ hn _ (by omega)]
    simp only [Option.bind_some]
    rw [specArnFree_eq _ _ _ _ hn' _ (by omega), implArnFree_eq _ _ _ _ hn' _ (by omega)]
    simp only [Option.bind_some]
    rw [if_pos trivial, eqArn_refl _ _ _ _ hn' _ (by omega)]
    simp
  · rw [if_neg hn, if_pos (by omega)]
end FnExactArnFree_

theorem FnExactArnFree : ∀ (l : List S100) (x y z : Int) (hm : l.length ≤ 9223372036854775807), ∃ k, laws_FnExactArnFree.f k l x y z = some true := FnExactArnFree_.final

end Go.Proofs.Ytnfnphhialoebaa.Pure
