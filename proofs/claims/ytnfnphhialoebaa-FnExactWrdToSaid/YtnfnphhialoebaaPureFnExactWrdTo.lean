/-
  WrdTo is the reference's, for every word. Conditions: none.
-/
import Derived.Test.YtnfnphhialoebaaPFnExactWrdTox1
namespace Go.Proofs.Ytnfnphhialoebaa.Pure
open Go.RowKit Go.Proofs.Ytnfnphhialoebaa.PFnExactWrdTo Go.Proofs.YtnfnphhialoebaaW.PrintWords Go.Proofs.YtnfnphhialoebaaW.PrintLast
set_option linter.unusedVariables false
set_option linter.unusedSimpArgs false

namespace FnExactWrdTo_
theorem final : laws_FnExactWrdTo.Pure := by
  intro a h
  unfold laws_FnExactWrdTo.f spec_WrdTo.f impl_WrdTo.f impl_isWord.f spec_l1In.f
  by_cases h0 : a ≥ 0
  · rw [if_pos h0]
    by_cases h1 : a ≤ 19
    · simp [h1]
    · simp [h1]
  · rw [if_neg h0]; simp
end FnExactWrdTo_

theorem FnExactWrdTo : laws_FnExactWrdTo.Pure := FnExactWrdTo_.final

end Go.Proofs.Ytnfnphhialoebaa.Pure
