/-
  OpOk is the reference's, for everything that may be asked. Conditions: none.
-/
import Derived.Test.YtnfnphhialoebaaPFnExactOpOkx1
import Derived.Test.YtnfnphhialoebaaPFnExactOpOkx2
namespace Go.Proofs.Ytnfnphhialoebaa.Pure
open Go.RowKit Go.Proofs.Ytnfnphhialoebaa.PFnExactOpOk Go.Proofs.YtnfnphhialoebaaW.PrintWords Go.Proofs.YtnfnphhialoebaaW.PrintLast
set_option linter.unusedVariables false
set_option linter.unusedSimpArgs false

namespace FnExactOpOk_
theorem l1In_eq (a b c : Int) : spec_l1In.f a b c = some (decide (b ≤ a ∧ a ≤ c)) := by
  unfold spec_l1In.f
  by_cases h : a ≥ b
  · rw [if_pos h]; congr 1; exact decide_eq_decide.2 ⟨fun h2 => ⟨h, h2⟩, fun h2 => h2.2⟩
  · rw [if_neg h]; congr 1; exact (decide_eq_false (fun h2 => h h2.1)).symm

theorem isKey_eq (a : Int) : impl_isKey.f a = some (decide (0 ≤ a ∧ a ≤ 99)) := by
  unfold impl_isKey.f
  by_cases h : a ≥ 0
  · rw [if_pos h]; congr 1; exact decide_eq_decide.2 ⟨fun h2 => ⟨h, h2⟩, fun h2 => h2.2⟩
  · rw [if_neg h]; congr 1; exact (decide_eq_false (fun h2 => h h2.1)).symm
theorem isVal_eq (a : Int) : impl_isVal.f a = some (decide (0 ≤ a ∧ a ≤ 999)) := by
  unfold impl_isVal.f
  by_cases h : a ≥ 0
  · rw [if_pos h]; congr 1; exact decide_eq_decide.2 ⟨fun h2 => ⟨h, h2⟩, fun h2 => h2.2⟩
  · rw [if_neg h]; congr 1; exact (decide_eq_false (fun h2 => h h2.1)).symm

/-- What may be asked. -/
def opB (a b c : Int) : Bool :=
  if a = 1 ∨ a = 3 ∨ a = 9 ∨ a = 10 then decide (0 ≤ b ∧ b ≤ 99) && c == 0
  else if a = 2 then decide (0 ≤ b ∧ b ≤ 99) && decide (0 ≤ c ∧ c ≤ 999)
  else if a = 5 ∨ a = 7 then b == 0 && decide (0 ≤ c ∧ c ≤ 999)
  else if a = 4 ∨ a = 6 ∨ a = 8 ∨ a = 11 ∨ a = 12 then b == 0 && c == 0
  else false
theorem ite_some {p q : Prop} [Decidable p] [Decidable q] : (if p then some (decide q) else some false) = some (decide p && decide q) := by by_cases h : p <;> simp [h]
theorem ite_some' {p : Prop} [Decidable p] {q : Bool} : (if p then some q else some false) = some (decide p && q) := by by_cases h : p <;> simp [h]
theorem kinds (P : Int → Prop) (h1 : P 1) (h2 : P 2) (h3 : P 3) (h4 : P 4) (h5 : P 5) (h6 : P 6) (h7 : P 7) (h8 : P 8) (h9 : P 9) (h10 : P 10) (h11 : P 11) (h12 : P 12) (h : ∀ a, a ≠ 1 → a ≠ 2 → a ≠ 3 → a ≠ 4 → a ≠ 5 → a ≠ 6 → a ≠ 7 → a ≠ 8 → a ≠ 9 → a ≠ 10 → a ≠ 11 → a ≠ 12 → P a) (a : Int) : P a := by
  by_cases e1 : a = 1; · exact e1 ▸ h1
  by_cases e2 : a = 2; · exact e2 ▸ h2
  by_cases e3 : a = 3; · exact e3 ▸ h3
  by_cases e4 : a = 4; · exact e4 ▸ h4
  by_cases e5 : a = 5; · exact e5 ▸ h5
  by_cases e6 : a = 6; · exact e6 ▸ h6
  by_cases e7 : a = 7; · exact e7 ▸ h7
  by_cases e8 : a = 8; · exact e8 ▸ h8
  by_cases e9 : a = 9; · exact e9 ▸ h9
  by_cases e10 : a = 10; · exact e10 ▸ h10
  by_cases e11 : a = 11; · exact e11 ▸ h11
  by_cases e12 : a = 12; · exact e12 ▸ h12
  exact h a e1 e2 e3 e4 e5 e6 e7 e8 e9 e10 e11 e12
theorem specOpOk_eq (a b c : Int) : spec_OpOk.f 5 a b c = some (opB a b c) := by
  revert a
  apply kinds
  case h => intro a e1 e2 e3 e4 e5 e6 e7 e8 e9 e10 e11 e12; simp [spec_OpOk.f, spec_OpOk.j0, l1In_eq, opB, e1, e2, e3, e4, e5, e6, e7, e8, e9, e10, e11, e12]
  all_goals simp [spec_OpOk.f, spec_OpOk.j0, l1In_eq, opB, ite_some, ite_some', -Bool.decide_and] <;> rfl
theorem implOpOk_eq (a b c : Int) : impl_OpOk.f 5 a b c = some (opB a b c) := by
  revert a
  apply kinds
  case h => intro a e1 e2 e3 e4 e5 e6 e7 e8 e9 e10 e11 e12; simp [impl_OpOk.f, impl_OpOk.j0, impl_OpOk.j1, isKey_eq, isVal_eq, opB, e1, e2, e3, e4, e5, e6, e7, e8, e9, e10, e11, e12]
  all_goals simp [impl_OpOk.f, impl_OpOk.j0, impl_OpOk.j1, isKey_eq, isVal_eq, opB, ite_some, ite_some', -Bool.decide_and] <;> rfl

theorem final (a b c : Int) : ∃ k, laws_FnExactOpOk.f k a b c = some true := by
  refine ⟨5, ?_⟩
  unfold laws_FnExactOpOk.f laws_toOpOp.f
  simp only [Option.bind_some]
  rw [specOpOk_eq, implOpOk_eq]
  simp
end FnExactOpOk_

theorem FnExactOpOk : ∀ (a b c : Int), ∃ k, laws_FnExactOpOk.f k a b c = some true := FnExactOpOk_.final

end Go.Proofs.Ytnfnphhialoebaa.Pure
