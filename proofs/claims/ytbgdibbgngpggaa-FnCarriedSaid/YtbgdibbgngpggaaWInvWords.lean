-- The print's words, those that this claim comes to alone (wip/prune.py).
import Derived.Test.YtbgdibbgngpggaaWInv
import Derived.Test.YtbgdibbgngpggaaWFootNe
namespace Go.Proofs.YtbgdibbgngpggaaW.PrintWords
open Go.RowKit
end Go.Proofs.YtbgdibbgngpggaaW.PrintWords
namespace Go.Proofs.YtbgdibbgngpggaaW.PrintLast
section
variable {ops : Array Oper} {a : Act} {o og : Oper} {g : Nat} {t : Tmp} {u : Bool}
end
end Go.Proofs.YtbgdibbgngpggaaW.PrintLast
