/-
  At the beginning there is nothing: for all codes. Conditions: none.
-/
import Derived.Test.YtenehkjbopdapaaGFnArnNewx1
import Derived.Test.YtenehkjbopdapaaGFnArnNewx2
import Derived.Test.YtenehkjbopdapaaGFnArnNewx3
import Derived.Test.YtenehkjbopdapaaGFnArnNewx4
import Derived.Test.YtenehkjbopdapaaGFnArnNewx5
import Derived.Test.YtenehkjbopdapaaGFnArnNewx6
import Derived.Test.YtenehkjbopdapaaGFnArnNewx7
import Derived.Test.YtenehkjbopdapaaGFnArnNewx8
import Derived.Test.YtenehkjbopdapaaGFnArnNewx9
import Derived.Test.YtenehkjbopdapaaGFnArnNewx10
import Derived.Test.YtenehkjbopdapaaGFnArnNewx11
import Derived.Test.YtenehkjbopdapaaGFnArnNewx12
namespace Go.Proofs.Ytenehkjbopdapaa.Pure
open Go.RowKit Go.Proofs.Ytenehkjbopdapaa.GFnArnNew Go.Proofs.YtenehkjbopdapaaW.PrintWords Go.Proofs.YtenehkjbopdapaaW.PrintLast
set_option linter.unusedVariables false
set_option linter.unusedSimpArgs false

namespace FnArnNew_
theorem final : laws_FnArnNew.Pure := by
  intro l _ _ _
  refine ⟨60, ?_⟩
  unfold laws_FnArnNew.f
  by_cases h : (l.length : Int) > 1048576
  · rw [if_pos h]
  · rw [if_neg h]
    decide +kernel
end FnArnNew_

theorem FnArnNew : laws_FnArnNew.Pure := FnArnNew_.final

end Go.Proofs.Ytenehkjbopdapaa.Pure
