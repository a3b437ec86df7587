/-
  ArnSwap is the reference's, for all places and numbers, and its answer is memory of its own. Conditions: none.
-/
import Derived.Test.YtmfbkcfnooieoaaGFnExactArnSwapx1
import Derived.Test.YtmfbkcfnooieoaaGFnExactArnSwapx2
import Derived.Test.YtmfbkcfnooieoaaGFnExactArnSwapx3
import Derived.Test.YtmfbkcfnooieoaaGFnExactArnSwapx4
import Derived.Test.YtmfbkcfnooieoaaGFnExactArnSwapx5
import Derived.Test.YtmfbkcfnooieoaaGFnExactArnSwapx6
import Derived.Test.YtmfbkcfnooieoaaGFnExactArnSwapx7
namespace Go.Proofs.Ytmfbkcfnooieoaa.Pure
open Go.RowKit Go.Proofs.Ytmfbkcfnooieoaa.GFnExactArnSwap Go.Proofs.YtmfbkcfnooieoaaW.PrintWords Go.Proofs.YtmfbkcfnooieoaaW.PrintLast
set_option linter.unusedVariables false
set_option linter.unusedSimpArgs false

namespace FnExactArnSwap_
theorem wrap_nat {i : Nat} (h : i ≤ 40000000) : wrap64 (i : Int) = i := by unfold wrap64; omega
theorem wrap_succ {i : Nat} (h : i ≤ 40000000) : wrap64 ((i : Int) + 1) = ((i + 1 : Nat) : Int) := by unfold wrap64; omega
theorem wrap_pred {i : Nat} (h0 : 0 < i) (h : i ≤ 40000000) : wrap64 ((i : Int) - 1) = ((i - 1 : Nat) : Int) := by unfold wrap64; omega
theorem some_of_ext {α : Type} {ys zs : List α} (hl : ys.length = zs.length) (h : ∀ j, j < zs.length → ys[j]? = zs[j]?) : ys = zs := by
  apply List.ext_getElem?
  intro j
  by_cases hj : j < zs.length
  · exact h j hj
  · rw [List.getElem?_eq_none (by omega), List.getElem?_eq_none (by omega)]

theorem rd_93_nat (xs : List S93) (i : Nat) (h : i < xs.length) : rd_T93 xs (i : Int) = xs[i] := by simp [rd_T93, h]

theorem rd_63_nat (xs : List S63) (i : Nat) (h : i < xs.length) : rd_T63 xs (i : Int) = xs[i] := by simp [rd_T63, h]

def cvArnNode (x : S93) : S63 := ⟨x.f0, x.f1, x.f2, x.f3, x.f4, x.f5⟩
theorem toArnNodeS_l0 (xs : List S93) (hn : xs.length ≤ 1048576) (d : Nat) : ∀ (k i : Nat) (ys : List S63), ys.length = xs.length → i + d = xs.length → d < k → (∀ j, j < i → ys[j]? = (xs.map cvArnNode)[j]?) → laws_toArnNodeS.l0 k xs ys (i : Int) = some (xs.map cvArnNode) := by
  induction d with
  | zero =>
    intro k i ys hl hi hk hj
    obtain ⟨k, rfl⟩ : ∃ m, k = m + 1 := ⟨k - 1, by omega⟩
    simp only [laws_toArnNodeS.l0]; rw [if_neg (by omega)]
    congr 1
    exact some_of_ext (by simpa using hl) (fun j hj' => hj j (by rw [List.length_map] at hj'; omega))
  | succ d ih =>
    intro k i ys hl hi hk hj
    obtain ⟨k, rfl⟩ : ∃ m, k = m + 1 := ⟨k - 1, by omega⟩
    simp only [laws_toArnNodeS.l0, laws_toArnNode.f, Option.bind_some]
    rw [if_pos (by omega), if_pos (by omega), if_pos (by omega), wrap_succ (by omega)]
    apply ih k (i + 1) _ (by simp [hl]) (by omega) (by omega)
    intro j hj'
    rw [Int.toNat_natCast, List.getElem?_set]
    by_cases h : i = j
    · subst h; rw [if_pos rfl, if_pos (by omega), rd_93_nat _ _ (by omega), List.getElem?_eq_getElem (by rw [List.length_map]; omega), List.getElem_map]; rfl
    · rw [if_neg h]; exact hj j (by omega)
theorem toArnNodeS_eq (xs : List S93) (hn : xs.length ≤ 1048576) (k : Nat) (hk : xs.length < k) : laws_toArnNodeS.f k xs = some (xs.map cvArnNode) := by
  unfold laws_toArnNodeS.f
  rw [if_pos (by omega), if_pos (by omega)]
  exact toArnNodeS_l0 xs hn xs.length k 0 _ (by simp) (by omega) hk (fun j hj => absurd hj (Nat.not_lt_zero j))

theorem eqArnNodeS_l0 (xs : List S63) (hn : xs.length ≤ 1048576) (d : Nat) : ∀ (k i : Nat), i + d = xs.length → d < k → laws_eqArnNodeS.l0 k xs xs (i : Int) = some true := by
  induction d with
  | zero =>
    intro k i hi hk
    obtain ⟨k, rfl⟩ : ∃ m, k = m + 1 := ⟨k - 1, by omega⟩
    simp only [laws_eqArnNodeS.l0]; rw [if_neg (by omega)]
  | succ d ih =>
    intro k i hi hk
    obtain ⟨k, rfl⟩ : ∃ m, k = m + 1 := ⟨k - 1, by omega⟩
    simp only [laws_eqArnNodeS.l0]
    rw [if_pos (by omega), if_pos (by omega), if_pos (by omega), wrap_succ (by omega)]
    rw [show laws_eqArnNode.f (rd_T63 xs (i : Int)).f0 (rd_T63 xs (i : Int)).f1 (rd_T63 xs (i : Int)).f2 (rd_T63 xs (i : Int)).f3 (rd_T63 xs (i : Int)).f4 (rd_T63 xs (i : Int)).f5 (rd_T63 xs (i : Int)).f0 (rd_T63 xs (i : Int)).f1 (rd_T63 xs (i : Int)).f2 (rd_T63 xs (i : Int)).f3 (rd_T63 xs (i : Int)).f4 (rd_T63 xs (i : Int)).f5 = some true from by simp [laws_eqArnNode.f]]
    simp only [Option.bind_some, if_true]
    exact ih k (i + 1) (by omega) (by omega)
theorem eqArnNodeS_refl (xs : List S63) (hn : xs.length ≤ 1048576) (k : Nat) (hk : xs.length < k) : laws_eqArnNodeS.f k xs xs = some true := by
  unfold laws_eqArnNodeS.f
  rw [if_pos rfl]
  exact eqArnNodeS_l0 xs hn xs.length k 0 (by omega) hk

theorem szArn_eq (l : List S93) (a b c : Int) (hm : l.length ≤ 9223372036854775807) : laws_szArnArena.f l a b c 1048576 = some (if l.length ≤ 1048576 then 1048576 - (l.length : Int) else -1) := by
  have hw : wrap64 (1048576 - (l.length : Int)) = 1048576 - (l.length : Int) := by unfold wrap64; omega
  unfold laws_szArnArena.f laws_szArnNodeS.f
  rw [hw]
  by_cases h : l.length ≤ 1048576
  · rw [if_pos h, if_neg (by omega)]; simp only [Option.bind_some]; rw [if_neg (by omega)]
  · rw [if_neg h, if_pos (by omega)]; simp

theorem toArn_eq (l : List S93) (a b c : Int) (hn : l.length ≤ 1048576) (k : Nat) (hk : l.length < k) : laws_toArnArena.f k l a b c = some (l.map cvArnNode, a, b, c) := by
  unfold laws_toArnArena.f
  rw [toArnNodeS_eq l hn k hk]; rfl

theorem eqArn_refl (l : List S63) (a b c : Int) (hn : l.length ≤ 1048576) (k : Nat) (hk : l.length < k) : laws_eqArnArena.f k l a b c l a b c = some true := by
  unfold laws_eqArnArena.f
  rw [eqArnNodeS_refl l hn k hk]; simp

theorem l1In_eq (a b c : Int) : spec_l1In.f a b c = some (decide (b ≤ a ∧ a ≤ c)) := by
  unfold spec_l1In.f
  by_cases h : a ≥ b
  · rw [if_pos h]; congr 1; exact decide_eq_decide.2 ⟨fun h2 => ⟨h, h2⟩, fun h2 => h2.2⟩
  · rw [if_neg h]; congr 1; exact (decide_eq_false (fun h2 => h h2.1)).symm

theorem isKey_eq (a : Int) : impl_isKey.f a = some (decide (0 ≤ a ∧ a ≤ 99)) := by
  unfold impl_isKey.f
  by_cases h : a ≥ 0
  · rw [if_pos h]; congr 1; exact decide_eq_decide.2 ⟨fun h2 => ⟨h, h2⟩, fun h2 => h2.2⟩
  · rw [if_neg h]; congr 1; exact (decide_eq_false (fun h2 => h h2.1)).symm

theorem isVal_eq (a : Int) : impl_isVal.f a = some (decide (0 ≤ a ∧ a ≤ 999)) := by
  unfold impl_isVal.f
  by_cases h : a ≥ 0
  · rw [if_pos h]; congr 1; exact decide_eq_decide.2 ⟨fun h2 => ⟨h, h2⟩, fun h2 => h2.2⟩
  · rw [if_neg h]; congr 1; exact (decide_eq_false (fun h2 => h h2.1)).symm

theorem isWord_eq (a : Int) : impl_isWord.f a = some (decide (0 ≤ a ∧ a ≤ 19)) := by
  unfold impl_isWord.f
  by_cases h : a ≥ 0
  · rw [if_pos h]; congr 1; exact decide_eq_decide.2 ⟨fun h2 => ⟨h, h2⟩, fun h2 => h2.2⟩
  · rw [if_neg h]; congr 1; exact (decide_eq_false (fun h2 => h h2.1)).symm

/-- Whether a word is marked. -/
def wmk (w : Int) : Bool := decide (0 ≤ w ∧ w ≤ 19) && (Int.tmod w 2 == 1)
theorem specWrdMark_eq (w : Int) : spec_WrdMark.f w = some (wmk w) := by
  unfold spec_WrdMark.f wmk
  rw [l1In_eq]; simp only [Option.bind_some, decide_eq_true_eq]; split <;> rename_i h <;> simp [h]
theorem implWrdMark_eq (w : Int) : impl_WrdMark.f w = some (wmk w) := by
  unfold impl_WrdMark.f wmk
  rw [isWord_eq]; simp only [Option.bind_some, decide_eq_true_eq]; split <;> rename_i h <;> simp [h]

/-- A place is ok. -/
def NOk (x : S63) : Prop := (0 ≤ x.f0 ∧ x.f0 ≤ 99) ∧ (0 ≤ x.f1 ∧ x.f1 ≤ 999) ∧ (0 ≤ x.f2 ∧ x.f2 ≤ 19) ∧ 0 ≤ x.f3 ∧ 0 ≤ x.f5
instance (x : S63) : Decidable (NOk x) := by unfold NOk; infer_instance
/-- The head and the numbers beside. -/
def HOk (xs : List S63) (a b c : Int) : Prop := ((rd_T63 xs 0).f4 = true ∧ (rd_T63 xs 0).f5 = 0 ∧ (rd_T63 xs 0).f0 = 0 ∧ (rd_T63 xs 0).f1 = 0 ∧ wmk (rd_T63 xs 0).f2 = false) ∧ (0 ≤ a ∧ a ≤ 9) ∧ (1 ≤ b ∧ b ≤ 9) ∧ (1 ≤ c ∧ c ≤ 9)
instance (xs : List S63) (a b c : Int) : Decidable (HOk xs a b c) := by unfold HOk; infer_instance
/-- The right shape. -/
def SOk (xs : List S63) (a b c : Int) : Prop := xs.length = 10 ∧ HOk xs a b c ∧ ∀ j : Nat, j < 10 → NOk (rd_T63 xs (j : Int))
instance (xs : List S63) (a b c : Int) : Decidable (SOk xs a b c) := by unfold SOk; infer_instance
theorem specNode_eq (x : S63) : spec_l2Node.f x.f0 x.f1 x.f2 x.f3 x.f4 x.f5 = some (decide (NOk x)) := by
  unfold spec_l2Node.f
  simp only [l1In_eq, Option.bind_some, decide_eq_true_eq]
  by_cases h0 : 0 ≤ x.f0 ∧ x.f0 ≤ 99
  · rw [if_pos h0]
    by_cases h1 : 0 ≤ x.f1 ∧ x.f1 ≤ 999
    · rw [if_pos h1]
      by_cases h2 : 0 ≤ x.f2 ∧ x.f2 ≤ 19
      · rw [if_pos h2]
        by_cases h3 : x.f5 ≥ 0
        · rw [if_pos h3]; congr 1; exact decide_eq_decide.2 ⟨fun h4 => ⟨h0, h1, h2, h4, h3⟩, fun h4 => h4.2.2.2.1⟩
        · rw [if_neg h3, decide_eq_false (fun h4 : NOk x => h3 h4.2.2.2.2)]
      · rw [if_neg h2, decide_eq_false (fun h4 : NOk x => h2 h4.2.2.1)]
    · rw [if_neg h1, decide_eq_false (fun h4 : NOk x => h1 h4.2.1)]
  · rw [if_neg h0, decide_eq_false (fun h4 : NOk x => h0 h4.1)]
theorem specShape_l0 (xs : List S63) (a b c : Int) (hl : xs.length = 10) (d : Nat) : ∀ (k i : Nat), i + d = 10 → d < k → spec_l2Shape.l0 k (i : Int) xs a b c = some (decide ((∀ j : Nat, j < 10 → i ≤ j → NOk (rd_T63 xs (j : Int))) ∧ (0 ≤ a ∧ a ≤ 9) ∧ (1 ≤ b ∧ b ≤ 9) ∧ (1 ≤ c ∧ c ≤ 9))) := by
  induction d with
  | zero =>
    intro k i hi hk
    obtain ⟨k, rfl⟩ : ∃ m, k = m + 1 := ⟨k - 1, by omega⟩
    simp only [spec_l2Shape.l0, l1In_eq, Option.bind_some, decide_eq_true_eq]
    rw [if_neg (by omega)]
    by_cases h0 : 0 ≤ a ∧ a ≤ 9
    · rw [if_pos h0]
      by_cases h1 : 1 ≤ b ∧ b ≤ 9
      · rw [if_pos h1]; congr 1; exact decide_eq_decide.2 ⟨fun h2 => ⟨fun j hj hj2 => absurd hj (by omega), h0, h1, h2⟩, fun h2 => h2.2.2.2⟩
      · rw [if_neg h1]; congr 1; exact (decide_eq_false (fun h2 => h1 h2.2.2.1)).symm
    · rw [if_neg h0]; congr 1; exact (decide_eq_false (fun h2 => h0 h2.2.1)).symm
  | succ d ih =>
    intro k i hi hk
    obtain ⟨k, rfl⟩ : ∃ m, k = m + 1 := ⟨k - 1, by omega⟩
    simp only [spec_l2Shape.l0, specNode_eq, Option.bind_some, decide_eq_true_eq]
    rw [if_pos (by omega), if_pos (by omega), if_pos (by omega), wrap_succ (by omega)]
    by_cases h : NOk (rd_T63 xs (i : Int))
    · rw [if_pos h, ih k (i + 1) (by omega) (by omega)]; congr 1
      exact decide_eq_decide.2 ⟨fun h2 => ⟨fun j hj hj2 => by
        by_cases e : j = i
        · subst e; exact h
        · exact h2.1 j hj (by omega), h2.2⟩, fun h2 => ⟨fun j hj hj2 => h2.1 j hj (by omega), h2.2⟩⟩
    · rw [if_neg h]; congr 1; exact (decide_eq_false (fun h2 => h (h2.1 i (by omega) (Nat.le_refl i)))).symm
theorem specShape_eq (xs : List S63) (a b c : Int) (k : Nat) (hk : 20 < k) : spec_l2Shape.f k xs a b c = some (decide (SOk xs a b c)) := by
  obtain ⟨k, rfl⟩ : ∃ m, k = m + 1 := ⟨k - 1, by omega⟩
  have hj1 : ∀ t, spec_l2Shape.j0 (k + 1) t xs a b c = if t = true then some false else spec_l2Shape.l0 k 0 xs a b c := fun t => by simp only [spec_l2Shape.j0]
  unfold spec_l2Shape.f
  simp only [hj1, specWrdMark_eq, Option.bind_some]
  by_cases hl : xs.length = 10
  · rw [if_pos (by omega), if_pos (by omega)]
    have h0 := specShape_l0 xs a b c hl 10 k 0 rfl (by omega)
    rw [show spec_l2Shape.l0 k 0 xs a b c = _ from h0]
    by_cases h4 : (rd_T63 xs 0).f4 = true
    · rw [if_pos h4]
      by_cases h5 : (rd_T63 xs 0).f5 = 0
      · rw [if_pos h5]
        by_cases h6 : (rd_T63 xs 0).f0 = 0
        · rw [if_pos h6]
          by_cases h7 : (rd_T63 xs 0).f1 = 0
          · rw [if_pos h7]
            cases h8 : wmk (rd_T63 xs 0).f2
            · simp only [Bool.false_eq_true, if_false]; congr 1
              exact decide_eq_decide.2 ⟨fun h => ⟨hl, ⟨⟨h4, h5, h6, h7, h8⟩, h.2⟩, fun j hj => h.1 j hj (Nat.zero_le j)⟩, fun h => ⟨fun j hj _ => h.2.2 j hj, h.2.1.2⟩⟩
            · simp only [if_true]; congr 1; exact (decide_eq_false (fun h : SOk xs a b c => by rw [h.2.1.1.2.2.2.2] at h8; cases h8)).symm
          · rw [if_neg h7, if_pos trivial, decide_eq_false (fun h : SOk xs a b c => h7 h.2.1.1.2.2.2.1)]
        · rw [if_neg h6, if_pos trivial, decide_eq_false (fun h : SOk xs a b c => h6 h.2.1.1.2.2.1)]
      · rw [if_neg h5, if_pos trivial, decide_eq_false (fun h : SOk xs a b c => h5 h.2.1.1.2.1)]
    · rw [if_neg h4, if_pos trivial, decide_eq_false (fun h : SOk xs a b c => h4 h.2.1.1.1)]
  · rw [if_neg (by omega), if_pos trivial, decide_eq_false (fun h : SOk xs a b c => hl h.1)]
theorem implShape_l0 (xs : List S63) (a b c : Int) (hl : xs.length = 10) (d : Nat) : ∀ (k i : Nat), i + d = 10 → d < k → impl_ArnArena_shaped.l0 k xs (xs.length : Int) (i : Int) xs a b c = some (decide ((∀ j : Nat, j < 10 → i ≤ j → NOk (rd_T63 xs (j : Int))) ∧ ((rd_T63 xs 0).f4 = true ∧ (rd_T63 xs 0).f5 = 0 ∧ (rd_T63 xs 0).f0 = 0 ∧ (rd_T63 xs 0).f1 = 0 ∧ wmk (rd_T63 xs 0).f2 = false))) := by
  induction d with
  | zero =>
    intro k i hi hk
    obtain ⟨k, rfl⟩ : ∃ m, k = m + 1 := ⟨k - 1, by omega⟩
    simp only [impl_ArnArena_shaped.l0, implWrdMark_eq, Option.bind_some]
    rw [if_neg (by omega), if_pos (by omega)]
    by_cases h : (((rd_T63 xs 0).f0) == 0 && (((rd_T63 xs 0).f1) == 0 && (((rd_T63 xs 0).f4) && (((rd_T63 xs 0).f5) == 0)))) = true
    · rw [if_pos h]
      simp only [Bool.and_eq_true, beq_iff_eq] at h
      cases h8 : wmk (rd_T63 xs 0).f2
      · rw [decide_eq_true (And.intro (fun j hj hj2 => absurd hj (by omega)) ⟨h.2.2.1, h.2.2.2, h.1, h.2.1, rfl⟩)]; rfl
      · congr 1; exact (decide_eq_false (fun h2 => by cases h2.2.2.2.2.2)).symm
    · rw [if_neg h]; congr 1
      refine (decide_eq_false (fun h2 => h ?_)).symm
      simp only [Bool.and_eq_true, beq_iff_eq]
      exact ⟨h2.2.2.2.1, h2.2.2.2.2.1, h2.2.1, h2.2.2.1⟩
  | succ d ih =>
    intro k i hi hk
    obtain ⟨k, rfl⟩ : ∃ m, k = m + 1 := ⟨k - 1, by omega⟩
    simp only [impl_ArnArena_shaped.l0, isKey_eq, isVal_eq, isWord_eq, Option.bind_some, decide_eq_true_eq]
    rw [if_pos (by omega), if_pos (by omega), if_pos (by omega), wrap_succ (by omega)]
    by_cases h : NOk (rd_T63 xs (i : Int))
    · rw [if_pos h.1, if_pos h.2.1, if_pos h.2.2.1, if_neg (by have := h.2.2.2.1; omega), if_neg (by have := h.2.2.2.2; omega), ih k (i + 1) (by omega) (by omega)]; congr 1
      exact decide_eq_decide.2 ⟨fun h2 => ⟨fun j hj hj2 => by
        by_cases e : j = i
        · subst e; exact h
        · exact h2.1 j hj (by omega), h2.2⟩, fun h2 => ⟨fun j hj hj2 => h2.1 j hj (by omega), h2.2⟩⟩
    · rw [decide_eq_false (fun h2 => h (h2.1 i (by omega) (Nat.le_refl i)))]
      by_cases g0 : 0 ≤ (rd_T63 xs (i : Int)).f0 ∧ (rd_T63 xs (i : Int)).f0 ≤ 99
      · rw [if_pos g0]
        by_cases g1 : 0 ≤ (rd_T63 xs (i : Int)).f1 ∧ (rd_T63 xs (i : Int)).f1 ≤ 999
        · rw [if_pos g1]
          by_cases g2 : 0 ≤ (rd_T63 xs (i : Int)).f2 ∧ (rd_T63 xs (i : Int)).f2 ≤ 19
          · rw [if_pos g2]
            by_cases g3 : (rd_T63 xs (i : Int)).f3 < 0
            · rw [if_pos g3]
            · rw [if_neg g3, if_pos (by
                by_cases g4 : (rd_T63 xs (i : Int)).f5 < 0
                · exact g4
                · exact absurd ⟨g0, g1, g2, by omega, by omega⟩ h)]
          · rw [if_neg g2]
        · rw [if_neg g1]
      · rw [if_neg g0]
theorem implShape_eq (xs : List S63) (a b c : Int) (k : Nat) (hk : 20 < k) : impl_ArnArena_shaped.f k xs a b c = some (decide (SOk xs a b c)) := by
  obtain ⟨k, rfl⟩ : ∃ m, k = m + 1 := ⟨k - 1, by omega⟩
  have hj1 : ∀ t, impl_ArnArena_shaped.j0 (k + 1) t xs a b c = if t = true then some false else impl_ArnArena_shaped.l0 k xs (xs.length : Int) 0 xs a b c := fun t => by simp only [impl_ArnArena_shaped.j0]
  unfold impl_ArnArena_shaped.f
  simp only [hj1]
  by_cases hl : xs.length = 10
  · rw [if_pos (by omega)]
    have h0 := implShape_l0 xs a b c hl 10 k 0 rfl (by omega)
    rw [show impl_ArnArena_shaped.l0 k xs (xs.length : Int) 0 xs a b c = _ from h0]
    by_cases h1 : (0 ≤ a ∧ a ≤ 9) ∧ (1 ≤ b ∧ b ≤ 9) ∧ (1 ≤ c ∧ c ≤ 9)
    · rw [if_neg (by omega), if_neg (by omega), if_neg (by omega), if_neg (by omega), if_neg (by omega), decide_eq_false (p := c > 9) (by omega)]
      simp only [Bool.false_eq_true, if_false]; congr 1
      exact decide_eq_decide.2 ⟨fun h => ⟨hl, ⟨h.2, h1⟩, fun j hj => h.1 j hj (Nat.zero_le j)⟩, fun h => ⟨fun j hj _ => h.2.2 j hj, h.2.1.1⟩⟩
    · rw [decide_eq_false (fun h : SOk xs a b c => h1 h.2.1.2)]
      by_cases g0 : a < 0
      · rw [if_pos g0]; rfl
      · rw [if_neg g0]
        by_cases g1 : a > 9
        · rw [if_pos g1]; rfl
        · rw [if_neg g1]
          by_cases g2 : b < 1
          · rw [if_pos g2]; rfl
          · rw [if_neg g2]
            by_cases g3 : b > 9
            · rw [if_pos g3]; rfl
            · rw [if_neg g3]
              by_cases g4 : c < 1
              · rw [if_pos g4]; rfl
              · rw [if_neg g4, decide_eq_true (p := c > 9) (by omega)]; rfl
  · rw [if_neg (by omega), if_pos trivial, decide_eq_false (fun h : SOk xs a b c => hl h.1)]

theorem implCopyArn_eq (l : List S63) (a b c : Int) (hn : l.length ≤ 1048576) : impl_ArnArena_copy.f l a b c = some (l, a, b, c) := by
  unfold impl_ArnArena_copy.f impl_ArnNode.f
  simp only [Option.bind_some, List.nil_append, List.length_nil]
  rw [if_pos (by omega)]; rfl
theorem specCopyArn_eq (l : List S63) (a b c : Int) (hn : l.length ≤ 1048576) : spec_l2Copy.f l a b c = some (l, a, b, c) := by
  unfold spec_l2Copy.f
  simp only [Option.bind_some, List.nil_append, List.length_nil]
  rw [if_pos (by omega)]

/-- A marked element. -/
def mkArnNode (s : Nat) : S63 := ⟨((s + 0 : Nat) : Int), ((s + 1 : Nat) : Int), ((s + 2 : Nat) : Int), ((s + 3 : Nat) : Int), (Int.tmod ((s + 4 : Nat) : Int) 3 == 0), ((s + 5 : Nat) : Int)⟩
theorem rdArnNode_set (xs : List S63) (i : Nat) (v : S63) (h : i < xs.length) : rd_T63 (xs.set i v) (i : Int) = v := by simp [rd_T63, h]
theorem markArnNodeS_step (ys : List S63) (s i k : Nat) (hi : i < ys.length) (hs : s ≤ 30000000) (hb : i ≤ 1048576) : laws_markArnNodeS.l0 (k + 1) ys (s : Int) (i : Int) = laws_markArnNodeS.l0 k (ys.set i (mkArnNode s)) ((s + 6 : Nat) : Int) ((i + 1 : Nat) : Int) := by
  have w0 := wrap_succ (i := s + 0) (by omega)
  have w1 := wrap_succ (i := s + 1) (by omega)
  have w2 := wrap_succ (i := s + 2) (by omega)
  have w3 := wrap_succ (i := s + 3) (by omega)
  have w4 := wrap_succ (i := s + 4) (by omega)
  have w5 := wrap_succ (i := s + 5) (by omega)
  simp only [Nat.add_zero, Nat.add_assoc, Nat.reduceAdd] at w0 w1 w2 w3 w4 w5
  simp only [laws_markArnNodeS.l0, Option.bind_some, Int.toNat_natCast]
  rw [if_pos (by omega), if_pos (by omega), wrap_succ (i := i) (by omega)]
  simp only [w0, w1, w2, w3, w4, w5]
  simp [rdArnNode_set, hi, List.set_set, mkArnNode]
def mkArnNodeL (s n : Nat) : List S63 := (List.range n).map fun j => mkArnNode (s + 6 * j)
theorem mkArnNodeL_length (s n : Nat) : (mkArnNodeL s n).length = n := by simp [mkArnNodeL]
theorem mkArnNodeL_get (s n j : Nat) (h : j < n) : (mkArnNodeL s n)[j]? = some (mkArnNode (s + 6 * j)) := by simp [mkArnNodeL, h]
theorem markArnNodeS_l0 (s n : Nat) (hn : n ≤ 1048576) (hs : s ≤ 10000000) (d : Nat) : ∀ (k i : Nat) (ys : List S63), ys.length = n → i + d = n → d < k → (∀ j, j < i → ys[j]? = (mkArnNodeL s n)[j]?) → laws_markArnNodeS.l0 k ys ((s + 6 * i : Nat) : Int) (i : Int) = some (((s + 6 * n : Nat) : Int), mkArnNodeL s n) := by
  induction d with
  | zero =>
    intro k i ys hl hi hk hj
    obtain ⟨k, rfl⟩ : ∃ m, k = m + 1 := ⟨k - 1, by omega⟩
    simp only [laws_markArnNodeS.l0]; rw [if_neg (by omega), show i = n by omega, some_of_ext (by rw [mkArnNodeL_length]; exact hl) (fun j hj' => hj j (by rw [mkArnNodeL_length] at hj'; omega))]
  | succ d ih =>
    intro k i ys hl hi hk hj
    obtain ⟨k, rfl⟩ : ∃ m, k = m + 1 := ⟨k - 1, by omega⟩
    rw [markArnNodeS_step ys _ i k (by omega) (by omega) (by omega), show s + 6 * i + 6 = s + 6 * (i + 1) from by omega]
    apply ih k (i + 1) _ (by simp [hl]) (by omega) (by omega)
    intro j hj'
    rw [List.getElem?_set]
    by_cases h : i = j
    · subst h; rw [if_pos rfl, if_pos (by omega), mkArnNodeL_get s n i (by omega)]
    · rw [if_neg h]; exact hj j (by omega)
theorem markArnNodeS_eq (s : Nat) (l : List S63) (hn : l.length ≤ 1048576) (hs : s ≤ 10000000) (k : Nat) (hk : l.length < k) : laws_markArnNodeS.f k l (s : Int) = some (((s + 6 * l.length : Nat) : Int), mkArnNodeL s l.length) := by
  unfold laws_markArnNodeS.f
  exact markArnNodeS_l0 s l.length hn hs l.length k 0 l rfl (by omega) hk (fun j hj => absurd hj (Nat.not_lt_zero j))

theorem markArn_eq (s : Nat) (l : List S63) (a b c : Int) (hn : l.length ≤ 1048576) (hs : s ≤ 10000000) (k : Nat) (hk : l.length < k) : laws_markArnArena.f k l a b c (s : Int) = some (((s + 6 * l.length : Nat) : Int), mkArnNodeL s l.length) := by
  unfold laws_markArnArena.f
  rw [markArnNodeS_eq s l hn hs k hk]; rfl

theorem heldArnNodeS_step (L : List S63) (s i k : Nat) (hi : i < L.length) (hs : s ≤ 30000000) (hb : i ≤ 1048576) (hg : L[i] = mkArnNode s) : laws_heldArnNodeS.l0 (k + 1) L (s : Int) (i : Int) = laws_heldArnNodeS.l0 k L ((s + 6 : Nat) : Int) ((i + 1 : Nat) : Int) := by
  have w0 := wrap_succ (i := s + 0) (by omega)
  have w1 := wrap_succ (i := s + 1) (by omega)
  have w2 := wrap_succ (i := s + 2) (by omega)
  have w3 := wrap_succ (i := s + 3) (by omega)
  have w4 := wrap_succ (i := s + 4) (by omega)
  have w5 := wrap_succ (i := s + 5) (by omega)
  simp only [Nat.add_zero, Nat.add_assoc, Nat.reduceAdd] at w0 w1 w2 w3 w4 w5
  simp only [laws_heldArnNodeS.l0]
  rw [if_pos (by omega), if_pos (by omega), rd_63_nat _ _ hi, hg, wrap_succ (i := i) (by omega)]
  simp only [mkArnNode, w0, w1, w2, w3, w4, w5, Nat.add_zero, bne_self_eq_false, Bool.false_eq_true, if_true, if_false]
theorem heldArnNodeS_l0 (s n : Nat) (hn : n ≤ 1048576) (hs : s ≤ 10000000) (d : Nat) : ∀ (k i : Nat), i + d = n → d < k → laws_heldArnNodeS.l0 k (mkArnNodeL s n) ((s + 6 * i : Nat) : Int) (i : Int) = some ((s + 6 * n : Nat) : Int) := by
  induction d with
  | zero =>
    intro k i hi hk
    obtain ⟨k, rfl⟩ : ∃ m, k = m + 1 := ⟨k - 1, by omega⟩
    simp only [laws_heldArnNodeS.l0]; rw [if_neg (by rw [mkArnNodeL_length]; omega), show i = n by omega]
  | succ d ih =>
    intro k i hi hk
    obtain ⟨k, rfl⟩ : ∃ m, k = m + 1 := ⟨k - 1, by omega⟩
    have hi' : i < (mkArnNodeL s n).length := by rw [mkArnNodeL_length]; omega
    have hg := mkArnNodeL_get s n i (by omega)
    rw [List.getElem?_eq_getElem hi'] at hg
    have hg' := Option.some.inj hg
    rw [heldArnNodeS_step _ (s + 6 * i) i k hi' (by omega) (by omega) hg', show s + 6 * i + 6 = s + 6 * (i + 1) from by omega]
    exact ih k (i + 1) (by omega) (by omega)
theorem heldArnNodeS_eq (s n : Nat) (hn : n ≤ 1048576) (hs : s ≤ 10000000) (k : Nat) (hk : n < k) : laws_heldArnNodeS.f k (mkArnNodeL s n) (s : Int) = some ((s + 6 * n : Nat) : Int) := by
  unfold laws_heldArnNodeS.f
  exact heldArnNodeS_l0 s n hn hs n k 0 (by omega) hk

theorem heldArn_eq (s n : Nat) (a b c : Int) (hn : n ≤ 1048576) (hs : s ≤ 10000000) (k : Nat) (hk : n < k) : laws_heldArnArena.f k (mkArnNodeL s n) a b c (s : Int) = some ((s + 6 * n : Nat) : Int) := by
  unfold laws_heldArnArena.f
  rw [heldArnNodeS_eq s n hn hs k hk]; simp only [Option.bind_some]; rw [if_neg (by omega)]

def swapG (xs : List S63) (a b c i w : Int) : Prop := SOk xs a b c ∧ (0 ≤ i ∧ i ≤ 9) ∧ (0 ≤ w ∧ w ≤ 19) ∧ ¬ (i = 0 ∧ wmk w = true)
instance (xs : List S63) (a b c i w : Int) : Decidable (swapG xs a b c i w) := by unfold swapG; infer_instance
def swapS (xs : List S63) (a b c i o w : Int) : List S63 × Int × Int × Int × Bool := if swapG xs a b c i w then (turnL xs i o w, a, b, c, turnOk xs i o) else ([], 0, 0, 0, false)
theorem swapS_length (xs : List S63) (a b c i o w : Int) : (swapS xs a b c i o w).1.length ≤ 10 := by
  unfold swapS; split
  · rename_i h; dsimp only; rw [turnL_length, h.1.1]; exact Nat.le_refl _
  · exact Nat.zero_le _
theorem implArnSwap_eq (xs : List S63) (a b c i o w : Int) (k : Nat) (hk : 20 < k) : impl_ArnSwap.f k xs a b c i o w = some (swapS xs a b c i o w) := by
  unfold impl_ArnSwap.f swapS
  rw [implShape_eq xs a b c k hk]
  simp only [Option.bind_some, decide_eq_true_eq, isWord_eq, implWrdMark_eq]
  by_cases h : SOk xs a b c
  · rw [if_pos h]
    have hl := h.1
    simp only [implCopyArn_eq xs a b c (by omega), Option.bind_some]
    by_cases h0 : i < 0
    · rw [if_pos h0, if_neg (fun hg => by have := hg.2.1.1; omega)]
    · rw [if_neg h0]
      by_cases h1 : i > 9
      · rw [if_pos h1, if_neg (fun hg => by have := hg.2.1.2; omega)]
      · rw [if_neg h1]
        by_cases h2 : 0 ≤ w ∧ w ≤ 19
        · rw [if_pos h2]
          by_cases h3 : i = 0
          · rw [if_pos h3]
            cases h4 : wmk w
            · rw [if_neg (by simp), if_pos ⟨h, ⟨by omega, by omega⟩, h2, fun hh => by rw [h4] at hh; exact absurd hh.2 (by simp)⟩]
            · rw [if_pos rfl, if_neg (fun hg => hg.2.2.2 ⟨h3, h4⟩)]
          · rw [if_neg h3, if_pos ⟨h, ⟨by omega, by omega⟩, h2, fun hh => h3 hh.1⟩]
        · rw [if_neg h2, if_neg (fun hg => h2 hg.2.2.1)]
  · rw [if_neg h, if_neg (fun hg => h hg.1)]
theorem specArnSwap_j0 (xs : List S63) (a b c i o w : Int) (k : Nat) (h : SOk xs a b c) (h0 : 0 ≤ i) (h1 : i ≤ 9) : spec_ArnSwap.j0 (k + 1) i o w false xs a b c = some (turnL xs i o w, a, b, c, turnOk xs i o) := by
  have hl := h.1
  simp only [spec_ArnSwap.j0]
  rw [if_neg (by simp), specCopyArn_eq xs a b c (by omega)]
  simp only [Option.bind_some]
  rw [if_pos h0, if_pos (by omega)]
  by_cases hu : (rd_T63 xs i).f2 = o
  · have ht : turnOk xs i o = true := decide_eq_true ⟨h0, by omega, hu⟩
    rw [if_pos hu, turnL, if_pos ht, ht]
  · have ht : turnOk xs i o = false := decide_eq_false (fun hh => hu hh.2.2)
    rw [if_neg hu, turnL, if_neg (by rw [ht]; simp), ht]
theorem specArnSwap_eq (xs : List S63) (a b c i o w : Int) (k : Nat) (hk : 30 < k) : spec_ArnSwap.f k xs a b c i o w = some (swapS xs a b c i o w) := by
  unfold spec_ArnSwap.f swapS
  rw [specShape_eq xs a b c k (by omega)]
  obtain ⟨k, rfl⟩ : ∃ m, k = m + 1 := ⟨k - 1, by omega⟩
  simp only [Option.bind_some, decide_eq_true_eq, l1In_eq, specWrdMark_eq]
  have hj : spec_ArnSwap.j0 (k + 1) i o w true xs a b c = some ([], 0, 0, 0, false) := by simp [spec_ArnSwap.j0]
  by_cases h : SOk xs a b c
  · rw [if_pos h]
    by_cases h1 : 0 ≤ i ∧ i ≤ 9
    · rw [if_pos h1]
      by_cases h2 : 0 ≤ w ∧ w ≤ 19
      · rw [if_pos h2]
        by_cases h3 : i = 0
        · rw [if_pos h3]
          cases h4 : wmk w
          · rw [if_pos ⟨h, h1, h2, fun hh => by rw [h4] at hh; exact absurd hh.2 (by simp)⟩, specArnSwap_j0 xs a b c i o w k h h1.1 h1.2]
          · rw [if_neg (fun hg => hg.2.2.2 ⟨h3, h4⟩), hj]
        · rw [if_neg h3, if_pos ⟨h, h1, h2, fun hh => h3 hh.1⟩, specArnSwap_j0 xs a b c i o w k h h1.1 h1.2]
      · rw [if_neg h2, if_neg (fun hg => h2 hg.2.2.1), hj]
    · rw [if_neg h1, if_neg (fun hg => h1 hg.2.1), hj]
  · rw [if_neg h, if_neg (fun hg => h hg.1), hj]

theorem final (l : List S93) (x y z : Int) (at_ : Int) (old_ : Int) (word_ : Int) (hm : l.length ≤ 9223372036854775807) (_ : (Lit.int .i64 at_).wf = true) (_ : (Lit.int .i64 old_).wf = true) (_ : (Lit.int .i64 word_).wf = true) : ∃ k, laws_FnExactArnSwap.f k l x y z at_ old_ word_ = some true := by
  obtain ⟨K, hK⟩ : ∃ K, 3000000 ≤ K := ⟨3000000, Nat.le_refl _⟩
  refine ⟨K, ?_⟩
  unfold laws_FnExactArnSwap.f
  rw [szArn_eq l _ _ _ hm]
  simp only [Option.bind_some]
  by_cases hn : l.length ≤ 1048576
  · have hn' : (l.map cvArnNode).length ≤ 1048576 := by rw [List.length_map]; exact hn
    have e1 := toArn_eq l x y z hn K (by omega)
    generalize l.map cvArnNode = L at e1 hn'
    have hs := specArnSwap_eq L x y z at_ old_ word_ K (by omega)
    have hi := implArnSwap_eq L x y z at_ old_ word_ K (by omega)
    have hr : (swapS L x y z at_ old_ word_).1.length ≤ 10 := swapS_length L x y z at_ old_ word_
    generalize swapS L x y z at_ old_ word_ = r at hs hi hr
    obtain ⟨r, x', y', z', ok_⟩ := r
    dsimp only at hr
    have e2 := eqArn_refl L x y z hn' K (by omega)
    have e3 := eqArn_refl r x' y' z' (by omega) K (by omega)
    have e5 : laws_markArnArena.f K L x y z 1 = _ := markArn_eq 1 L x y z hn' (by omega) K (by omega)
    have e6 : laws_markArnArena.f K r x' y' z' 1 = _ := markArn_eq 1 r x' y' z' (by omega) (by omega) K (by omega)
    have e7 : laws_heldArnArena.f K (mkArnNodeL 1 r.length) x' y' z' 1 = _ := heldArn_eq 1 r.length x' y' z' (by omega) (by omega) K (by omega)
    have n0 : ∀ m : Nat, ¬ (((1 + 6 * m : Nat) : Int) < 0) := fun m => by omega
    rw [if_pos hn, if_neg (by omega)]
    simp only [e1, hs, hi, Option.bind_some, e2, e3, e5, e6, e7, if_true, n0, if_false, bne_self_eq_false, Bool.false_eq_true]
  · rw [if_neg hn, if_pos (by omega)]
end FnExactArnSwap_

theorem FnExactArnSwap : ∀ (l : List S93) (x y z : Int) (at_ : Int) (old_ : Int) (word_ : Int) (hm : l.length ≤ 9223372036854775807) (_ : (Lit.int .i64 at_).wf = true) (_ : (Lit.int .i64 old_).wf = true) (_ : (Lit.int .i64 word_).wf = true), ∃ k, laws_FnExactArnSwap.f k l x y z at_ old_ word_ = some true := FnExactArnSwap_.final

end Go.Proofs.Ytmfbkcfnooieoaa.Pure
