/-
  PolNew is the reference's, and its answer is memory of its own. Conditions: none.
-/
import Derived.Test.YtmfbkcfnooieoaaGFnExactPolNewx1
import Derived.Test.YtmfbkcfnooieoaaGFnExactPolNewx2
import Derived.Test.YtmfbkcfnooieoaaGFnExactPolNewx3
namespace Go.Proofs.Ytmfbkcfnooieoaa.Pure
open Go.RowKit Go.Proofs.Ytmfbkcfnooieoaa.GFnExactPolNew Go.Proofs.YtmfbkcfnooieoaaW.PrintWords Go.Proofs.YtmfbkcfnooieoaaW.PrintLast
set_option linter.unusedVariables false
set_option linter.unusedSimpArgs false

namespace FnExactPolNew_
theorem final : laws_FnExactPolNew.Pure := ⟨40, by decide +kernel⟩
end FnExactPolNew_

theorem FnExactPolNew : laws_FnExactPolNew.Pure := FnExactPolNew_.final

end Go.Proofs.Ytmfbkcfnooieoaa.Pure
