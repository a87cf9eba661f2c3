-- The print's words, those that this claim comes to alone (wip/prune.py).
import Derived.Test.YtaeoiofdbjfdlaaWInv
import Derived.Test.YtaeoiofdbjfdlaaWFootNe
namespace Go.Proofs.YtaeoiofdbjfdlaaW.PrintWords
open Go.RowKit
end Go.Proofs.YtaeoiofdbjfdlaaW.PrintWords
namespace Go.Proofs.YtaeoiofdbjfdlaaW.PrintLast
section
variable {ops : Array Oper} {a : Act} {o og : Oper} {g : Nat} {t : Tmp} {u : Bool}
end
end Go.Proofs.YtaeoiofdbjfdlaaW.PrintLast
