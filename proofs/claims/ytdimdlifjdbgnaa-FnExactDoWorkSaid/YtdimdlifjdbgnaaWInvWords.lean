-- The print's words, those that this claim comes to alone (wip/prune.py).
import Derived.Test.YtdimdlifjdbgnaaWInv
import Derived.Test.YtdimdlifjdbgnaaWFootNe
namespace Go.Proofs.YtdimdlifjdbgnaaW.PrintWords
open Go.RowKit
end Go.Proofs.YtdimdlifjdbgnaaW.PrintWords
namespace Go.Proofs.YtdimdlifjdbgnaaW.PrintLast
section
variable {ops : Array Oper} {a : Act} {o og : Oper} {g : Nat} {t : Tmp} {u : Bool}
end
end Go.Proofs.YtdimdlifjdbgnaaW.PrintLast
