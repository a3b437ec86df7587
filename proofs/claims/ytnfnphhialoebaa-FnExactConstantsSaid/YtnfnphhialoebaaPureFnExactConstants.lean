/-
  The constants are the document's. Conditions: none.
-/
import Derived.Test.YtnfnphhialoebaaPFnExactConstantsx1
namespace Go.Proofs.Ytnfnphhialoebaa.Pure
open Go.RowKit Go.Proofs.Ytnfnphhialoebaa.PFnExactConstants Go.Proofs.YtnfnphhialoebaaW.PrintWords Go.Proofs.YtnfnphhialoebaaW.PrintLast
set_option linter.unusedVariables false
set_option linter.unusedSimpArgs false

namespace FnExactConstants_
theorem final : laws_FnExactConstants.Pure := rfl
end FnExactConstants_

theorem FnExactConstants : laws_FnExactConstants.Pure := FnExactConstants_.final

end Go.Proofs.Ytnfnphhialoebaa.Pure
