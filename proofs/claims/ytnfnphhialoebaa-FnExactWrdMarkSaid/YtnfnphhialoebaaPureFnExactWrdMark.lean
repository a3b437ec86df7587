/-
  WrdMark is the reference's, for every word. Conditions: none.
-/
import Derived.Test.YtnfnphhialoebaaPFnExactWrdMarkx1
namespace Go.Proofs.Ytnfnphhialoebaa.Pure
open Go.RowKit Go.Proofs.Ytnfnphhialoebaa.PFnExactWrdMark Go.Proofs.YtnfnphhialoebaaW.PrintWords Go.Proofs.YtnfnphhialoebaaW.PrintLast
set_option linter.unusedVariables false
set_option linter.unusedSimpArgs false

namespace FnExactWrdMark_
theorem l1In_eq (a b c : Int) : spec_l1In.f a b c = some (decide (b ≤ a ∧ a ≤ c)) := by
  unfold spec_l1In.f
  by_cases h : a ≥ b
  · rw [if_pos h]; congr 1; exact decide_eq_decide.2 ⟨fun h2 => ⟨h, h2⟩, fun h2 => h2.2⟩
  · rw [if_neg h]; congr 1; exact (decide_eq_false (fun h2 => h h2.1)).symm

theorem final : laws_FnExactWrdMark.Pure := by
  intro a h
  unfold laws_FnExactWrdMark.f spec_WrdMark.f impl_WrdMark.f impl_isWord.f spec_l1In.f
  by_cases h0 : a ≥ 0
  · rw [if_pos h0]
    by_cases h1 : a ≤ 19
    · simp [h1]
    · simp [h1]
  · rw [if_neg h0]; simp
end FnExactWrdMark_

theorem FnExactWrdMark : laws_FnExactWrdMark.Pure := FnExactWrdMark_.final

end Go.Proofs.Ytnfnphhialoebaa.Pure
