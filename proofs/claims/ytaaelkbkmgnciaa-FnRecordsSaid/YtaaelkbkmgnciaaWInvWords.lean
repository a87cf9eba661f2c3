-- The print's words, those that this claim comes to alone (wip/prune.py).
import Derived.Test.YtaaelkbkmgnciaaWInv
import Derived.Test.YtaaelkbkmgnciaaWFootNe
namespace Go.Proofs.YtaaelkbkmgnciaaW.PrintWords
open Go.RowKit
end Go.Proofs.YtaaelkbkmgnciaaW.PrintWords
namespace Go.Proofs.YtaaelkbkmgnciaaW.PrintLast
section
variable {ops : Array Oper} {a : Act} {o og : Oper} {g : Nat} {t : Tmp} {u : Bool}
end
end Go.Proofs.YtaaelkbkmgnciaaW.PrintLast
