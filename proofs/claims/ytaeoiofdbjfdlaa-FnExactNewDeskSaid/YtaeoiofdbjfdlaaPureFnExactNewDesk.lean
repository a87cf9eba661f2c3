/- The program's NewDesk answers as the reference's, owns its memory and is the same again. No condition. -/
import Derived.Test.YtaeoiofdbjfdlaaPFnExactNewDeskx7
import Derived.Test.YtaeoiofdbjfdlaaBase
set_option linter.unusedVariables false
set_option linter.unusedSimpArgs false
namespace Go.Proofs.Ytaeoiofdbjfdlaa.Pure
open Go.RowKit Go.Proofs.Ytaeoiofdbjfdlaa.PFnExactNewDesk Go.Proofs.Ytaeoiofdbjfdlaa.Base Go.Proofs.YtaeoiofdbjfdlaaW.PrintWords Go.Proofs.YtaeoiofdbjfdlaaW.PrintLast
theorem FnExactNewDesk : laws_FnExactNewDesk.Pure := ⟨40, by decide +kernel⟩
end Go.Proofs.Ytaeoiofdbjfdlaa.Pure
