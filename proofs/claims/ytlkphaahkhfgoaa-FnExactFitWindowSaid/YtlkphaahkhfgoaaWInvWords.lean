-- The print's words, those that this claim comes to alone (wip/prune.py).
import Derived.Test.YtlkphaahkhfgoaaWInv
import Derived.Test.YtlkphaahkhfgoaaWFootNe
namespace Go.Proofs.YtlkphaahkhfgoaaW.PrintWords
open Go.RowKit
end Go.Proofs.YtlkphaahkhfgoaaW.PrintWords
namespace Go.Proofs.YtlkphaahkhfgoaaW.PrintLast
section
variable {ops : Array Oper} {a : Act} {o og : Oper} {g : Nat} {t : Tmp} {u : Bool}
end
end Go.Proofs.YtlkphaahkhfgoaaW.PrintLast
