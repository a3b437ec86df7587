/-
  WrdMake is the reference's, for every place and mark. Conditions: none.
-/
import Derived.Test.YtnfnphhialoebaaPFnExactWrdMakex1
namespace Go.Proofs.Ytnfnphhialoebaa.Pure
open Go.RowKit Go.Proofs.Ytnfnphhialoebaa.PFnExactWrdMake Go.Proofs.YtnfnphhialoebaaW.PrintWords Go.Proofs.YtnfnphhialoebaaW.PrintLast
set_option linter.unusedVariables false
set_option linter.unusedSimpArgs false

namespace FnExactWrdMake_
theorem final : laws_FnExactWrdMake.Pure := by
  intro a m h
  refine ⟨3, ?_⟩
  unfold laws_FnExactWrdMake.f spec_WrdMake.f impl_WrdMake.f spec_l1In.f
  simp only [impl_WrdMake.j0]
  by_cases h0 : 0 ≤ a
  · have h3 : ¬ a < 0 := by omega
    by_cases h1 : a ≤ 9
    · have h2 : ¬ 9 < a := by omega
      cases m <;> simp [h0, h1, h2, h3]
    · have h2 : 9 < a := by omega
      cases m <;> simp [h0, h1, h2, h3]
  · have h3 : a < 0 := by omega
    cases m <;> simp [h0, h3]
end FnExactWrdMake_

theorem FnExactWrdMake : laws_FnExactWrdMake.Pure := FnExactWrdMake_.final

end Go.Proofs.Ytnfnphhialoebaa.Pure
