/- of drawn parts a part at its bound is due and one that has none to go by is due; what is left is bound less stay. (P6) No condition. -/
import Derived.Test.YtfhielgfgmcdiaaPFnLivesx5
import Derived.Test.YtfhielgfgmcdiaaBase
set_option linter.unusedVariables false
set_option linter.unusedSimpArgs false
namespace Go.Proofs.Ytfhielgfgmcdiaa.Pure
open Go.RowKit Go.Proofs.Ytfhielgfgmcdiaa.PFnLives Go.Proofs.Ytfhielgfgmcdiaa.Base Go.Proofs.YtfhielgfgmcdiaaW.PrintWords Go.Proofs.YtfhielgfgmcdiaaW.PrintLast
theorem FnLives (l0 : List (Int)) (g0 : (l0.length * 1 ≤ 140737488351232 ∧ ∀ x ∈ l0, (Lit.int .u8 x).wf = true)) : ∃ k, laws_FnLives.f k l0 = some true := by
  refine ⟨0, ?_⟩
  unfold laws_FnLives.f
  rw [if_pos]
  simp only [List.all_eq_true, Bool.and_eq_true, decide_eq_true_eq]
  exact fun x hx => wf_u8 (g0.2 x hx)
end Go.Proofs.Ytfhielgfgmcdiaa.Pure
