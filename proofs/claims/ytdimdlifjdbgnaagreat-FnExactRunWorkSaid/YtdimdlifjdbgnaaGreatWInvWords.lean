-- The print's words, those that this claim comes to alone (wip/prune.py).
import Derived.Test.YtdimdlifjdbgnaaGreatWInv
import Derived.Test.YtdimdlifjdbgnaaGreatWFootNe
namespace Go.Proofs.YtdimdlifjdbgnaaGreatW.PrintWords
open Go.RowKit
end Go.Proofs.YtdimdlifjdbgnaaGreatW.PrintWords
namespace Go.Proofs.YtdimdlifjdbgnaaGreatW.PrintLast
section
variable {ops : Array Oper} {a : Act} {o og : Oper} {g : Nat} {t : Tmp} {u : Bool}
end
end Go.Proofs.YtdimdlifjdbgnaaGreatW.PrintLast
