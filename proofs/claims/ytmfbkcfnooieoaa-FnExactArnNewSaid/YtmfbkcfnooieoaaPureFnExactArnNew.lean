/-
  ArnNew is the reference's, and its answer is memory of its own. Conditions: none.
-/
import Derived.Test.YtmfbkcfnooieoaaPFnExactArnNewx1
import Derived.Test.YtmfbkcfnooieoaaPFnExactArnNewx2
import Derived.Test.YtmfbkcfnooieoaaPFnExactArnNewx3
namespace Go.Proofs.Ytmfbkcfnooieoaa.Pure
open Go.RowKit Go.Proofs.Ytmfbkcfnooieoaa.PFnExactArnNew Go.Proofs.YtmfbkcfnooieoaaW.PrintWords Go.Proofs.YtmfbkcfnooieoaaW.PrintLast
set_option linter.unusedVariables false
set_option linter.unusedSimpArgs false

namespace FnExactArnNew_
theorem final : laws_FnExactArnNew.Pure := ⟨40, by decide +kernel⟩
end FnExactArnNew_

theorem FnExactArnNew : laws_FnExactArnNew.Pure := FnExactArnNew_.final

end Go.Proofs.Ytmfbkcfnooieoaa.Pure
