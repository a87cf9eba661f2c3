-- The print's words, those that this claim comes to alone (wip/prune.py).
import Derived.Test.YtdimdlifjdbgnaaGreatWWords
/-! ### 58. A guarded operation whose guard is known to want it: the same goal without the guard -/
namespace Go.Proofs.YtdimdlifjdbgnaaGreatW.PrintWords
open Go.RowKit
section
variable {P : Program} {ops : Array Oper} {rest : List Oper} {o : Oper} {a : Act} {Q : Exit → Act → World → Prop} {W : World}
end
end Go.Proofs.YtdimdlifjdbgnaaGreatW.PrintWords
