/-
  No cell of these rows narrows 'for every input' (looked for: loops, veiled, ifaces, maps, wideKeys, modest, calm, conditions, laid).
  DERIVED. THE GIVEN ROWS OF THIS SEAT. 10 by the template 'for every input the law returns true; each argument reads behind the call as it read before'; 0 by the template 'total and deterministic' (their statements: YtbgdibbgngpggaaTotals.lean).
  GIVEN WITH THE SEED: the statements are not yours to turn. If you find one false, say at which input.
  Laid BY PROGRAM, IN A SANDBOX (cutbox-rows.mjs): the forced cells as the released guide's own fill.sh prints them over the translation fb15bf1791e2e424… (all of the seat's roots in one cut). By AI agents, Wed Nov 11 2026. No macro, syntax, notation, axiom, sorry.
-/
import Derived.Test.YtbgdibbgngpggaaChecked
import GoSem.Claim
import GoSem.ClaimJoined
import GoSem.ClaimMapViews
import Derived.JoinedTies
import Derived.KernelRfl
namespace Go.Proofs.Ytbgdibbgngpggaa
/- THE CELL 'sum', in the pinned program and in every row, IS THE sha256 OF THE DUMP (.gsa) THAT YtbgdibbgngpggaaProg.lean LOADS. Nothing in Lean hashes anything: it is a label: what it is worth is what the hold of that sum in a sandbox is worth. -/
noncomputable def Try.pinned : Pinned := { name := "ytbgdibbgngpggaa", sum := "fb15bf1791e2e424fb826a01ad158bef862ea6978c94001c9a8807fbf72584a8", checked := Try.checked }
namespace Rows
def none {H : Type} : Left H := { results := [], args := [] }

/-- 'laws.FnExactClockOk': WHATEVER THE INPUT: true; the input reads as it did. -/
def fnExactClockOkSpec : ChangeSpec := { name := "fnExactClockOk", fn := fun _ => fun
  | [d] => { results := [.lit (.bool true)], args := [d] }
  | _ => none }
def fnExactClockOkRow : OpenClaim := { program := "ytbgdibbgngpggaa", sum := "fb15bf1791e2e424fb826a01ad158bef862ea6978c94001c9a8807fbf72584a8", func := "loop.example/g00063/laws.FnExactClockOk", spec := "fnExactClockOk", apart := false }
def FnExactClockOkSaid : Prop := fnExactClockOkRow.holds Try.pinned (OpenSpec.ofChange fnExactClockOkSpec)

/-- ITS FALSE NEIGHBOUR: 'it returns false'. Refute it at one input. -/
def fnExactClockOkWrong : ChangeSpec := { name := "fnExactClockOk", fn := fun _ => fun
  | [d] => { results := [.lit (.bool false)], args := [d] }
  | _ => none }
def FnExactClockOkWrongFalsely : Prop := fnExactClockOkRow.holds Try.pinned (OpenSpec.ofChange fnExactClockOkWrong)

/-- 'laws.FnExactTaskOk': WHATEVER THE INPUT: true; the input reads as it did. -/
def fnExactTaskOkSpec : ChangeSpec := { name := "fnExactTaskOk", fn := fun _ => fun
  | [d] => { results := [.lit (.bool true)], args := [d] }
  | _ => none }
def fnExactTaskOkRow : OpenClaim := { program := "ytbgdibbgngpggaa", sum := "fb15bf1791e2e424fb826a01ad158bef862ea6978c94001c9a8807fbf72584a8", func := "loop.example/g00063/laws.FnExactTaskOk", spec := "fnExactTaskOk", apart := false }
def FnExactTaskOkSaid : Prop := fnExactTaskOkRow.holds Try.pinned (OpenSpec.ofChange fnExactTaskOkSpec)

/-- ITS FALSE NEIGHBOUR: 'it returns false'. Refute it at one input. -/
def fnExactTaskOkWrong : ChangeSpec := { name := "fnExactTaskOk", fn := fun _ => fun
  | [d] => { results := [.lit (.bool false)], args := [d] }
  | _ => none }
def FnExactTaskOkWrongFalsely : Prop := fnExactTaskOkRow.holds Try.pinned (OpenSpec.ofChange fnExactTaskOkWrong)

/-- 'laws.FnExactCarryOk': WHATEVER THE INPUT: true; the input reads as it did. -/
def fnExactCarryOkSpec : ChangeSpec := { name := "fnExactCarryOk", fn := fun _ => fun
  | [d] => { results := [.lit (.bool true)], args := [d] }
  | _ => none }
def fnExactCarryOkRow : OpenClaim := { program := "ytbgdibbgngpggaa", sum := "fb15bf1791e2e424fb826a01ad158bef862ea6978c94001c9a8807fbf72584a8", func := "loop.example/g00063/laws.FnExactCarryOk", spec := "fnExactCarryOk", apart := false }
def FnExactCarryOkSaid : Prop := fnExactCarryOkRow.holds Try.pinned (OpenSpec.ofChange fnExactCarryOkSpec)

/-- ITS FALSE NEIGHBOUR: 'it returns false'. Refute it at one input. -/
def fnExactCarryOkWrong : ChangeSpec := { name := "fnExactCarryOk", fn := fun _ => fun
  | [d] => { results := [.lit (.bool false)], args := [d] }
  | _ => none }
def FnExactCarryOkWrongFalsely : Prop := fnExactCarryOkRow.holds Try.pinned (OpenSpec.ofChange fnExactCarryOkWrong)

/-- 'laws.FnExactDue19': WHATEVER THE INPUT: true; the input reads as it did. -/
def fnExactDue19Spec : ChangeSpec := { name := "fnExactDue19", fn := fun _ => fun
  | [d1, d2] => { results := [.lit (.bool true)], args := [d1, d2] }
  | _ => none }
def fnExactDue19Row : OpenClaim := { program := "ytbgdibbgngpggaa", sum := "fb15bf1791e2e424fb826a01ad158bef862ea6978c94001c9a8807fbf72584a8", func := "loop.example/g00063/laws.FnExactDue19", spec := "fnExactDue19", apart := false }
def FnExactDue19Said : Prop := fnExactDue19Row.holds Try.pinned (OpenSpec.ofChange fnExactDue19Spec)

/-- ITS FALSE NEIGHBOUR: 'it returns false'. Refute it at one input. -/
def fnExactDue19Wrong : ChangeSpec := { name := "fnExactDue19", fn := fun _ => fun
  | [d1, d2] => { results := [.lit (.bool false)], args := [d1, d2] }
  | _ => none }
def FnExactDue19WrongFalsely : Prop := fnExactDue19Row.holds Try.pinned (OpenSpec.ofChange fnExactDue19Wrong)

/-- 'laws.FnExactFleetOk': WHATEVER THE INPUT: true; the input reads as it did. -/
def fnExactFleetOkSpec : ChangeSpec := { name := "fnExactFleetOk", fn := fun _ => fun
  | [d] => { results := [.lit (.bool true)], args := [d] }
  | _ => none }
def fnExactFleetOkRow : OpenClaim := { program := "ytbgdibbgngpggaa", sum := "fb15bf1791e2e424fb826a01ad158bef862ea6978c94001c9a8807fbf72584a8", func := "loop.example/g00063/laws.FnExactFleetOk", spec := "fnExactFleetOk", apart := false }
def FnExactFleetOkSaid : Prop := fnExactFleetOkRow.holds Try.pinned (OpenSpec.ofChange fnExactFleetOkSpec)

/-- ITS FALSE NEIGHBOUR: 'it returns false'. Refute it at one input. -/
def fnExactFleetOkWrong : ChangeSpec := { name := "fnExactFleetOk", fn := fun _ => fun
  | [d] => { results := [.lit (.bool false)], args := [d] }
  | _ => none }
def FnExactFleetOkWrongFalsely : Prop := fnExactFleetOkRow.holds Try.pinned (OpenSpec.ofChange fnExactFleetOkWrong)

/-- 'laws.FnExactNextDue': WHATEVER THE INPUT: true; the input reads as it did. -/
def fnExactNextDueSpec : ChangeSpec := { name := "fnExactNextDue", fn := fun _ => fun
  | [d] => { results := [.lit (.bool true)], args := [d] }
  | _ => none }
def fnExactNextDueRow : OpenClaim := { program := "ytbgdibbgngpggaa", sum := "fb15bf1791e2e424fb826a01ad158bef862ea6978c94001c9a8807fbf72584a8", func := "loop.example/g00063/laws.FnExactNextDue", spec := "fnExactNextDue", apart := false }
def FnExactNextDueSaid : Prop := fnExactNextDueRow.holds Try.pinned (OpenSpec.ofChange fnExactNextDueSpec)

/-- ITS FALSE NEIGHBOUR: 'it returns false'. Refute it at one input. -/
def fnExactNextDueWrong : ChangeSpec := { name := "fnExactNextDue", fn := fun _ => fun
  | [d] => { results := [.lit (.bool false)], args := [d] }
  | _ => none }
def FnExactNextDueWrongFalsely : Prop := fnExactNextDueRow.holds Try.pinned (OpenSpec.ofChange fnExactNextDueWrong)

/-- 'laws.FnExactRelease': WHATEVER THE INPUT: true; the input reads as it did. -/
def fnExactReleaseSpec : ChangeSpec := { name := "fnExactRelease", fn := fun _ => fun
  | [d] => { results := [.lit (.bool true)], args := [d] }
  | _ => none }
def fnExactReleaseRow : OpenClaim := { program := "ytbgdibbgngpggaa", sum := "fb15bf1791e2e424fb826a01ad158bef862ea6978c94001c9a8807fbf72584a8", func := "loop.example/g00063/laws.FnExactRelease", spec := "fnExactRelease", unfollowed := true, recurses := true, apart := false }
def FnExactReleaseSaid : Prop := fnExactReleaseRow.holds Try.pinned (OpenSpec.ofChange fnExactReleaseSpec)

/-- ITS FALSE NEIGHBOUR: 'it returns false'. Refute it at one input. -/
def fnExactReleaseWrong : ChangeSpec := { name := "fnExactRelease", fn := fun _ => fun
  | [d] => { results := [.lit (.bool false)], args := [d] }
  | _ => none }
def FnExactReleaseWrongFalsely : Prop := fnExactReleaseRow.holds Try.pinned (OpenSpec.ofChange fnExactReleaseWrong)

/-- 'laws.FnCarried': WHATEVER THE INPUT: true; the input reads as it did. -/
def fnCarriedSpec : ChangeSpec := { name := "fnCarried", fn := fun _ => fun
  | [d] => { results := [.lit (.bool true)], args := [d] }
  | _ => none }
def fnCarriedRow : OpenClaim := { program := "ytbgdibbgngpggaa", sum := "fb15bf1791e2e424fb826a01ad158bef862ea6978c94001c9a8807fbf72584a8", func := "loop.example/g00063/laws.FnCarried", spec := "fnCarried", unfollowed := true, recurses := true, apart := false }
def FnCarriedSaid : Prop := fnCarriedRow.holds Try.pinned (OpenSpec.ofChange fnCarriedSpec)

/-- ITS FALSE NEIGHBOUR: 'it returns false'. Refute it at one input. -/
def fnCarriedWrong : ChangeSpec := { name := "fnCarried", fn := fun _ => fun
  | [d] => { results := [.lit (.bool false)], args := [d] }
  | _ => none }
def FnCarriedWrongFalsely : Prop := fnCarriedRow.holds Try.pinned (OpenSpec.ofChange fnCarriedWrong)

/-- 'laws.FnReleased': WHATEVER THE INPUT: true; the input reads as it did. -/
def fnReleasedSpec : ChangeSpec := { name := "fnReleased", fn := fun _ => fun
  | [d] => { results := [.lit (.bool true)], args := [d] }
  | _ => none }
def fnReleasedRow : OpenClaim := { program := "ytbgdibbgngpggaa", sum := "fb15bf1791e2e424fb826a01ad158bef862ea6978c94001c9a8807fbf72584a8", func := "loop.example/g00063/laws.FnReleased", spec := "fnReleased", inPlace := ["internal/bytealg.abigen_runtime_cmpstring", "slices.overlaps[loop.example/g00063/impl.Defect]"], unfollowed := true, recurses := true, apart := false }
def FnReleasedSaid : Prop := fnReleasedRow.holds Try.pinned (OpenSpec.ofChange fnReleasedSpec)

/-- ITS FALSE NEIGHBOUR: 'it returns false'. Refute it at one input. -/
def fnReleasedWrong : ChangeSpec := { name := "fnReleased", fn := fun _ => fun
  | [d] => { results := [.lit (.bool false)], args := [d] }
  | _ => none }
def FnReleasedWrongFalsely : Prop := fnReleasedRow.holds Try.pinned (OpenSpec.ofChange fnReleasedWrong)

/-- 'laws.FnExactDoWork': WHATEVER THE INPUT: true; the input reads as it did. -/
def fnExactDoWorkSpec : ChangeSpec := { name := "fnExactDoWork", fn := fun _ => fun
  | [d1, d2] => { results := [.lit (.bool true)], args := [d1, d2] }
  | _ => none }
def fnExactDoWorkRow : OpenClaim := { program := "ytbgdibbgngpggaa", sum := "fb15bf1791e2e424fb826a01ad158bef862ea6978c94001c9a8807fbf72584a8", func := "loop.example/g00063/laws.FnExactDoWork", spec := "fnExactDoWork", inPlace := ["internal/bytealg.abigen_runtime_cmpstring", "slices.overlaps[loop.example/g00063/impl.Defect]"], unfollowed := true, recurses := true, apart := false }
def FnExactDoWorkSaid : Prop := fnExactDoWorkRow.holds Try.pinned (OpenSpec.ofChange fnExactDoWorkSpec)

/-- ITS FALSE NEIGHBOUR: 'it returns false'. Refute it at one input. -/
def fnExactDoWorkWrong : ChangeSpec := { name := "fnExactDoWork", fn := fun _ => fun
  | [d1, d2] => { results := [.lit (.bool false)], args := [d1, d2] }
  | _ => none }
def FnExactDoWorkWrongFalsely : Prop := fnExactDoWorkRow.holds Try.pinned (OpenSpec.ofChange fnExactDoWorkWrong)

/- THE SECOND FORM. 'bulk': how many values and letters a reading holds, each counted each time it is reached (what is shared counts as often as it is met; a slice's spare places count too). A statement '..UptoSaid' is the law's where the arguments, and the package variables that the reading takes, are together of bulk at most 1048576: NARROWER than '..Said'. Prove '..Said' where nothing that the law and all that it calls make is longer than what came in: it says more and counts as full. Else prove '..UptoSaid'. A law counts once. -/
mutual
def uptoBulk {H : Type} : DataW H → Nat
  | .lit (.string bytes) => bytes.length + 1
  | .lit _ => 1
  | .nil => 1
  | .ptr d => uptoBulk d + 1
  | .slice elems spare => uptoBulkAll elems + uptoBulkAll spare + 1
  | .agg parts => uptoBulkAll parts + 1
  | .iface _ d => uptoBulk d + 1
  | .map entries => uptoBulkEntries entries + 1
  | .held _ => 1
def uptoBulkAll {H : Type} : List (DataW H) → Nat
  | [] => 0
  | d :: r => uptoBulk d + uptoBulkAll r
def uptoBulkEntries {H : Type} : List (Lit × DataW H) → Nat
  | [] => 0
  | x :: r => uptoBulkEntry x + uptoBulkEntries r
def uptoBulkEntry {H : Type} : Lit × DataW H → Nat
  | (.string bytes, d) => bytes.length + uptoBulk d + 1
  | (_, d) => uptoBulk d + 1
 end
def uptoSmall : (H : Type) → List (DataW H) → Bool := fun _ ds => decide (uptoBulkAll ds ≤ 1048576)
def OpenSpec.upto (s : _root_.Go.ChangeSpec) : _root_.Go.OpenSpec := { _root_.Go.OpenSpec.ofChange s with cond := some uptoSmall }

/-- 'laws.FnExactClockOk', WHERE WHAT IT READS IS OF BULK AT MOST 1048576: true; the input reads as it did. -/
def fnExactClockOkUptoRow : OpenClaim := { program := "ytbgdibbgngpggaa", sum := "fb15bf1791e2e424fb826a01ad158bef862ea6978c94001c9a8807fbf72584a8", func := "loop.example/g00063/laws.FnExactClockOk", spec := "fnExactClockOk", apart := false, narrowed := true }
def FnExactClockOkUptoSaid : Prop := fnExactClockOkUptoRow.holds Try.pinned (OpenSpec.upto fnExactClockOkSpec)

/-- 'laws.FnExactTaskOk', WHERE WHAT IT READS IS OF BULK AT MOST 1048576: true; the input reads as it did. -/
def fnExactTaskOkUptoRow : OpenClaim := { program := "ytbgdibbgngpggaa", sum := "fb15bf1791e2e424fb826a01ad158bef862ea6978c94001c9a8807fbf72584a8", func := "loop.example/g00063/laws.FnExactTaskOk", spec := "fnExactTaskOk", apart := false, narrowed := true }
def FnExactTaskOkUptoSaid : Prop := fnExactTaskOkUptoRow.holds Try.pinned (OpenSpec.upto fnExactTaskOkSpec)

/-- 'laws.FnExactCarryOk', WHERE WHAT IT READS IS OF BULK AT MOST 1048576: true; the input reads as it did. -/
def fnExactCarryOkUptoRow : OpenClaim := { program := "ytbgdibbgngpggaa", sum := "fb15bf1791e2e424fb826a01ad158bef862ea6978c94001c9a8807fbf72584a8", func := "loop.example/g00063/laws.FnExactCarryOk", spec := "fnExactCarryOk", apart := false, narrowed := true }
def FnExactCarryOkUptoSaid : Prop := fnExactCarryOkUptoRow.holds Try.pinned (OpenSpec.upto fnExactCarryOkSpec)

/-- 'laws.FnExactDue19', WHERE WHAT IT READS IS OF BULK AT MOST 1048576: true; the input reads as it did. -/
def fnExactDue19UptoRow : OpenClaim := { program := "ytbgdibbgngpggaa", sum := "fb15bf1791e2e424fb826a01ad158bef862ea6978c94001c9a8807fbf72584a8", func := "loop.example/g00063/laws.FnExactDue19", spec := "fnExactDue19", apart := false, narrowed := true }
def FnExactDue19UptoSaid : Prop := fnExactDue19UptoRow.holds Try.pinned (OpenSpec.upto fnExactDue19Spec)

/-- 'laws.FnExactFleetOk', WHERE WHAT IT READS IS OF BULK AT MOST 1048576: true; the input reads as it did. -/
def fnExactFleetOkUptoRow : OpenClaim := { program := "ytbgdibbgngpggaa", sum := "fb15bf1791e2e424fb826a01ad158bef862ea6978c94001c9a8807fbf72584a8", func := "loop.example/g00063/laws.FnExactFleetOk", spec := "fnExactFleetOk", apart := false, narrowed := true }
def FnExactFleetOkUptoSaid : Prop := fnExactFleetOkUptoRow.holds Try.pinned (OpenSpec.upto fnExactFleetOkSpec)

/-- 'laws.FnExactNextDue', WHERE WHAT IT READS IS OF BULK AT MOST 1048576: true; the input reads as it did. -/
def fnExactNextDueUptoRow : OpenClaim := { program := "ytbgdibbgngpggaa", sum := "fb15bf1791e2e424fb826a01ad158bef862ea6978c94001c9a8807fbf72584a8", func := "loop.example/g00063/laws.FnExactNextDue", spec := "fnExactNextDue", apart := false, narrowed := true }
def FnExactNextDueUptoSaid : Prop := fnExactNextDueUptoRow.holds Try.pinned (OpenSpec.upto fnExactNextDueSpec)

/-- 'laws.FnExactRelease', WHERE WHAT IT READS IS OF BULK AT MOST 1048576: true; the input reads as it did. -/
def fnExactReleaseUptoRow : OpenClaim := { program := "ytbgdibbgngpggaa", sum := "fb15bf1791e2e424fb826a01ad158bef862ea6978c94001c9a8807fbf72584a8", func := "loop.example/g00063/laws.FnExactRelease", spec := "fnExactRelease", unfollowed := true, recurses := true, apart := false, narrowed := true }
def FnExactReleaseUptoSaid : Prop := fnExactReleaseUptoRow.holds Try.pinned (OpenSpec.upto fnExactReleaseSpec)

/-- 'laws.FnCarried', WHERE WHAT IT READS IS OF BULK AT MOST 1048576: true; the input reads as it did. -/
def fnCarriedUptoRow : OpenClaim := { program := "ytbgdibbgngpggaa", sum := "fb15bf1791e2e424fb826a01ad158bef862ea6978c94001c9a8807fbf72584a8", func := "loop.example/g00063/laws.FnCarried", spec := "fnCarried", unfollowed := true, recurses := true, apart := false, narrowed := true }
def FnCarriedUptoSaid : Prop := fnCarriedUptoRow.holds Try.pinned (OpenSpec.upto fnCarriedSpec)

/-- 'laws.FnReleased', WHERE WHAT IT READS IS OF BULK AT MOST 1048576: true; the input reads as it did. -/
def fnReleasedUptoRow : OpenClaim := { program := "ytbgdibbgngpggaa", sum := "fb15bf1791e2e424fb826a01ad158bef862ea6978c94001c9a8807fbf72584a8", func := "loop.example/g00063/laws.FnReleased", spec := "fnReleased", inPlace := ["internal/bytealg.abigen_runtime_cmpstring", "slices.overlaps[loop.example/g00063/impl.Defect]"], unfollowed := true, recurses := true, apart := false, narrowed := true }
def FnReleasedUptoSaid : Prop := fnReleasedUptoRow.holds Try.pinned (OpenSpec.upto fnReleasedSpec)

/-- 'laws.FnExactDoWork', WHERE WHAT IT READS IS OF BULK AT MOST 1048576: true; the input reads as it did. -/
def fnExactDoWorkUptoRow : OpenClaim := { program := "ytbgdibbgngpggaa", sum := "fb15bf1791e2e424fb826a01ad158bef862ea6978c94001c9a8807fbf72584a8", func := "loop.example/g00063/laws.FnExactDoWork", spec := "fnExactDoWork", inPlace := ["internal/bytealg.abigen_runtime_cmpstring", "slices.overlaps[loop.example/g00063/impl.Defect]"], unfollowed := true, recurses := true, apart := false, narrowed := true }
def FnExactDoWorkUptoSaid : Prop := fnExactDoWorkUptoRow.holds Try.pinned (OpenSpec.upto fnExactDoWorkSpec)

end Rows
end Go.Proofs.Ytbgdibbgngpggaa
