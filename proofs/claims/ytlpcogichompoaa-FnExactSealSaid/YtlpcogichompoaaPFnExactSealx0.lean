-- Written by a program of this session (wip/xprint.py) out of the translation; Lean checks it.
import Derived.Test.YtlpcogichompoaaProg
import Derived.Below
import Derived.Deep.Draws
import Derived.Deep.AppendLies
import Derived.Maps.AppendAt
import Derived.OwnWalk
import Derived.Laws.BytesArg
import Derived.Laws.MakeOwn
import Derived.Laws.OwnMore
import Derived.Deep.OwnRows
import Derived.Tactics
import Derived.Lib.ConvBytes
import Derived.Laws.Slices
import Derived.WalkKit
import Derived.KernelRfl
import Derived.RowKit3
import Derived.Deep.LoopGhost
import Derived.Deep.QuietTactic
import Derived.BigQuiet
import Derived.WideLaws
import Derived.Deep.DeepCutAuto
import Derived.Deep.CutBlock
import Derived.Deep.RegionHeld3
import Derived.Laws.Rows
import Derived.Lib.AppendStr
import Derived.ArgAppend
import Derived.Laws.IdiomCopy
import Derived.OrdersHeld
import Derived.Laws.BitsLemmas
import Derived.RowKit
import Derived.Lib.SliceRun
import Derived.Laws.Cover1
import Derived.Test.YtlpcogichompoaaWWords
import Derived.Test.YtlpcogichompoaaWLast
import Derived.Test.YtlpcogichompoaaWTab
import Derived.Test.YtlpcogichompoaaWFour
import Derived.Test.YtlpcogichompoaaWQPut
import Derived.Test.YtlpcogichompoaaWApart
import Derived.Test.YtlpcogichompoaaWArr
import Derived.Test.YtlpcogichompoaaWZeros
import Derived.Test.YtlpcogichompoaaWFoot
import Derived.Test.YtlpcogichompoaaWKept
import Derived.Test.YtlpcogichompoaaWShare
import Derived.Test.YtlpcogichompoaaWN
import Derived.Test.YtlpcogichompoaaWFootNe
import Derived.Test.YtlpcogichompoaaWAt
import Derived.Test.YtlpcogichompoaaWEqStruct
import Derived.Test.YtlpcogichompoaaWRepsOne
import Derived.Test.YtlpcogichompoaaWInv
import Derived.Test.YtlpcogichompoaaWInvWords
import Derived.Test.YtlpcogichompoaaWGuard
import Derived.Test.YtlpcogichompoaaWNEv
import Derived.Test.YtlpcogichompoaaWMore
namespace Go.Proofs.Ytlpcogichompoaa.PFnExactSeal
open Go.RowKit Go.Proofs.YtlpcogichompoaaW.PrintWords Go.Proofs.YtlpcogichompoaaW.PrintLast Go.Proofs.YtlpcogichompoaaW.PrintMore
attribute [local go_sem] max2_int min2_int max_two min_two max_three min_three max_four min_four   -- for this text's walks alone
set_option linter.unusedVariables false
set_option linter.unusedSimpArgs false



def errW : Option Int → Value
  | none => .nilIface
  | some c => .iface 0 (.int .i64 c)
theorem errW_none : errW none = .nilIface := rfl
theorem errW_some (c : Int) : errW (some c) = .iface 0 (.int .i64 c) := rfl

theorem info3 : (Try.prog.info? 3).map (fun i => (i.zero, i.size, i.bytes)) = some (some (.int .i64 0), 1, 8) := by kernel_rfl
theorem info5 : (Try.prog.info? 5).map (fun i => (i.zero, i.size, i.bytes)) = some (some (.int .u8 0), 1, 1) := by kernel_rfl
-- the values' own types

end Go.Proofs.Ytlpcogichompoaa.PFnExactSeal
