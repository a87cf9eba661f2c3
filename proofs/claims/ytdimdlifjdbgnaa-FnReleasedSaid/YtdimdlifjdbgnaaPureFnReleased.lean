/- along drawn deeds nothing flies that is not released, a task just done is not due, and the fleet stays in order. (P19) No condition. -/
import Derived.Test.YtdimdlifjdbgnaaPFnReleasedx14
import Derived.Test.YtdimdlifjdbgnaaBase
set_option linter.unusedVariables false
set_option linter.unusedSimpArgs false
namespace Go.Proofs.Ytdimdlifjdbgnaa.Pure
open Go.RowKit Go.Proofs.Ytdimdlifjdbgnaa.PFnReleased Go.Proofs.Ytdimdlifjdbgnaa.Base Go.Proofs.YtdimdlifjdbgnaaW.PrintWords Go.Proofs.YtdimdlifjdbgnaaW.PrintLast
theorem FnReleased (l0 : List (Int)) (g0 : (l0.length * 1 ≤ 140737488351232 ∧ ∀ x ∈ l0, (Lit.int .u8 x).wf = true)) : ∃ k, laws_FnReleased.f k l0 = some true := by
  exact ⟨0, rfl⟩
end Go.Proofs.Ytdimdlifjdbgnaa.Pure
