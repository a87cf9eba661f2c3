/-
  No cell of these rows narrows 'for every input' (looked for: loops, veiled, ifaces, maps, wideKeys, modest, calm, conditions, laid).
  DERIVED. THE GIVEN ROWS OF THIS SEAT. 8 by the template 'for every input the law returns true; each argument reads behind the call as it read before'; 0 by the template 'total and deterministic' (their statements: YtaaelkbkmgnciaaTotals.lean).
  GIVEN WITH THE SEED: the statements are not yours to turn. If you find one false, say at which input.
  Laid BY PROGRAM, IN A SANDBOX (cutbox-rows.mjs): the forced cells as the released guide's own fill.sh prints them over the translation 4e0f692a72ad888c… (all of the seat's roots in one cut). By AI agents, Wed Nov 11 2026. No macro, syntax, notation, axiom, sorry.
-/
import Derived.Test.YtaaelkbkmgnciaaChecked
import GoSem.Claim
import GoSem.ClaimJoined
import GoSem.ClaimMapViews
import Derived.JoinedTies
import Derived.KernelRfl
namespace Go.Proofs.Ytaaelkbkmgnciaa
/- THE CELL 'sum', in the pinned program and in every row, IS THE sha256 OF THE DUMP (.gsa) THAT YtaaelkbkmgnciaaProg.lean LOADS. Nothing in Lean hashes anything: it is a label: what it is worth is what the hold of that sum in a sandbox is worth. -/
noncomputable def Try.pinned : Pinned := { name := "ytaaelkbkmgnciaa", sum := "4e0f692a72ad888c2f3cfcd3f0fe50021c625545f1c1e23d8140cf765572298e", checked := Try.checked }
namespace Rows
def none {H : Type} : Left H := { results := [], args := [] }

/-- 'laws.FnExactRecordOk': WHATEVER THE INPUT: true; the input reads as it did. -/
def fnExactRecordOkSpec : ChangeSpec := { name := "fnExactRecordOk", fn := fun _ => fun
  | [d] => { results := [.lit (.bool true)], args := [d] }
  | _ => none }
def fnExactRecordOkRow : OpenClaim := { program := "ytaaelkbkmgnciaa", sum := "4e0f692a72ad888c2f3cfcd3f0fe50021c625545f1c1e23d8140cf765572298e", func := "loop.example/g00063/laws.FnExactRecordOk", spec := "fnExactRecordOk", apart := false }
def FnExactRecordOkSaid : Prop := fnExactRecordOkRow.holds Try.pinned (OpenSpec.ofChange fnExactRecordOkSpec)

/-- ITS FALSE NEIGHBOUR: 'it returns false'. Refute it at one input. -/
def fnExactRecordOkWrong : ChangeSpec := { name := "fnExactRecordOk", fn := fun _ => fun
  | [d] => { results := [.lit (.bool false)], args := [d] }
  | _ => none }
def FnExactRecordOkWrongFalsely : Prop := fnExactRecordOkRow.holds Try.pinned (OpenSpec.ofChange fnExactRecordOkWrong)

/-- 'laws.FnExactSame20': WHATEVER THE INPUT: true; the input reads as it did. -/
def fnExactSame20Spec : ChangeSpec := { name := "fnExactSame20", fn := fun _ => fun
  | [d1, d2] => { results := [.lit (.bool true)], args := [d1, d2] }
  | _ => none }
def fnExactSame20Row : OpenClaim := { program := "ytaaelkbkmgnciaa", sum := "4e0f692a72ad888c2f3cfcd3f0fe50021c625545f1c1e23d8140cf765572298e", func := "loop.example/g00063/laws.FnExactSame20", spec := "fnExactSame20", apart := false }
def FnExactSame20Said : Prop := fnExactSame20Row.holds Try.pinned (OpenSpec.ofChange fnExactSame20Spec)

/-- ITS FALSE NEIGHBOUR: 'it returns false'. Refute it at one input. -/
def fnExactSame20Wrong : ChangeSpec := { name := "fnExactSame20", fn := fun _ => fun
  | [d1, d2] => { results := [.lit (.bool false)], args := [d1, d2] }
  | _ => none }
def FnExactSame20WrongFalsely : Prop := fnExactSame20Row.holds Try.pinned (OpenSpec.ofChange fnExactSame20Wrong)

/-- 'laws.FnColumns': WHATEVER THE INPUT: true; the input reads as it did. -/
def fnColumnsSpec : ChangeSpec := { name := "fnColumns", fn := fun _ => fun
  | [d] => { results := [.lit (.bool true)], args := [d] }
  | _ => none }
def fnColumnsRow : OpenClaim := { program := "ytaaelkbkmgnciaa", sum := "4e0f692a72ad888c2f3cfcd3f0fe50021c625545f1c1e23d8140cf765572298e", func := "loop.example/g00063/laws.FnColumns", spec := "fnColumns", apart := false }
def FnColumnsSaid : Prop := fnColumnsRow.holds Try.pinned (OpenSpec.ofChange fnColumnsSpec)

/-- ITS FALSE NEIGHBOUR: 'it returns false'. Refute it at one input. -/
def fnColumnsWrong : ChangeSpec := { name := "fnColumns", fn := fun _ => fun
  | [d] => { results := [.lit (.bool false)], args := [d] }
  | _ => none }
def FnColumnsWrongFalsely : Prop := fnColumnsRow.holds Try.pinned (OpenSpec.ofChange fnColumnsWrong)

/-- 'laws.FnExactColumn': WHATEVER THE INPUT: true; the input reads as it did. -/
def fnExactColumnSpec : ChangeSpec := { name := "fnExactColumn", fn := fun _ => fun
  | [d1, d2] => { results := [.lit (.bool true)], args := [d1, d2] }
  | _ => none }
def fnExactColumnRow : OpenClaim := { program := "ytaaelkbkmgnciaa", sum := "4e0f692a72ad888c2f3cfcd3f0fe50021c625545f1c1e23d8140cf765572298e", func := "loop.example/g00063/laws.FnExactColumn", spec := "fnExactColumn", apart := false }
def FnExactColumnSaid : Prop := fnExactColumnRow.holds Try.pinned (OpenSpec.ofChange fnExactColumnSpec)

/-- ITS FALSE NEIGHBOUR: 'it returns false'. Refute it at one input. -/
def fnExactColumnWrong : ChangeSpec := { name := "fnExactColumn", fn := fun _ => fun
  | [d1, d2] => { results := [.lit (.bool false)], args := [d1, d2] }
  | _ => none }
def FnExactColumnWrongFalsely : Prop := fnExactColumnRow.holds Try.pinned (OpenSpec.ofChange fnExactColumnWrong)

/-- 'laws.FnExactEvents20': WHATEVER THE INPUT: true; the input reads as it did. -/
def fnExactEvents20Spec : ChangeSpec := { name := "fnExactEvents20", fn := fun _ => fun
  | [d1, d2, d3] => { results := [.lit (.bool true)], args := [d1, d2, d3] }
  | _ => none }
def fnExactEvents20Row : OpenClaim := { program := "ytaaelkbkmgnciaa", sum := "4e0f692a72ad888c2f3cfcd3f0fe50021c625545f1c1e23d8140cf765572298e", func := "loop.example/g00063/laws.FnExactEvents20", spec := "fnExactEvents20", apart := false }
def FnExactEvents20Said : Prop := fnExactEvents20Row.holds Try.pinned (OpenSpec.ofChange fnExactEvents20Spec)

/-- ITS FALSE NEIGHBOUR: 'it returns false'. Refute it at one input. -/
def fnExactEvents20Wrong : ChangeSpec := { name := "fnExactEvents20", fn := fun _ => fun
  | [d1, d2, d3] => { results := [.lit (.bool false)], args := [d1, d2, d3] }
  | _ => none }
def FnExactEvents20WrongFalsely : Prop := fnExactEvents20Row.holds Try.pinned (OpenSpec.ofChange fnExactEvents20Wrong)

/-- 'laws.FnExactPack20': WHATEVER THE INPUT: true; the input reads as it did. -/
def fnExactPack20Spec : ChangeSpec := { name := "fnExactPack20", fn := fun _ => fun
  | [d] => { results := [.lit (.bool true)], args := [d] }
  | _ => none }
def fnExactPack20Row : OpenClaim := { program := "ytaaelkbkmgnciaa", sum := "4e0f692a72ad888c2f3cfcd3f0fe50021c625545f1c1e23d8140cf765572298e", func := "loop.example/g00063/laws.FnExactPack20", spec := "fnExactPack20", apart := false }
def FnExactPack20Said : Prop := fnExactPack20Row.holds Try.pinned (OpenSpec.ofChange fnExactPack20Spec)

/-- ITS FALSE NEIGHBOUR: 'it returns false'. Refute it at one input. -/
def fnExactPack20Wrong : ChangeSpec := { name := "fnExactPack20", fn := fun _ => fun
  | [d] => { results := [.lit (.bool false)], args := [d] }
  | _ => none }
def FnExactPack20WrongFalsely : Prop := fnExactPack20Row.holds Try.pinned (OpenSpec.ofChange fnExactPack20Wrong)

/-- 'laws.FnExactUnpack20': WHATEVER THE INPUT: true; the input reads as it did. -/
def fnExactUnpack20Spec : ChangeSpec := { name := "fnExactUnpack20", fn := fun _ => fun
  | [d] => { results := [.lit (.bool true)], args := [d] }
  | _ => none }
def fnExactUnpack20Row : OpenClaim := { program := "ytaaelkbkmgnciaa", sum := "4e0f692a72ad888c2f3cfcd3f0fe50021c625545f1c1e23d8140cf765572298e", func := "loop.example/g00063/laws.FnExactUnpack20", spec := "fnExactUnpack20", apart := false }
def FnExactUnpack20Said : Prop := fnExactUnpack20Row.holds Try.pinned (OpenSpec.ofChange fnExactUnpack20Spec)

/-- ITS FALSE NEIGHBOUR: 'it returns false'. Refute it at one input. -/
def fnExactUnpack20Wrong : ChangeSpec := { name := "fnExactUnpack20", fn := fun _ => fun
  | [d] => { results := [.lit (.bool false)], args := [d] }
  | _ => none }
def FnExactUnpack20WrongFalsely : Prop := fnExactUnpack20Row.holds Try.pinned (OpenSpec.ofChange fnExactUnpack20Wrong)

/-- 'laws.FnRecords': WHATEVER THE INPUT: true; the input reads as it did. -/
def fnRecordsSpec : ChangeSpec := { name := "fnRecords", fn := fun _ => fun
  | [d] => { results := [.lit (.bool true)], args := [d] }
  | _ => none }
def fnRecordsRow : OpenClaim := { program := "ytaaelkbkmgnciaa", sum := "4e0f692a72ad888c2f3cfcd3f0fe50021c625545f1c1e23d8140cf765572298e", func := "loop.example/g00063/laws.FnRecords", spec := "fnRecords", apart := false }
def FnRecordsSaid : Prop := fnRecordsRow.holds Try.pinned (OpenSpec.ofChange fnRecordsSpec)

/-- ITS FALSE NEIGHBOUR: 'it returns false'. Refute it at one input. -/
def fnRecordsWrong : ChangeSpec := { name := "fnRecords", fn := fun _ => fun
  | [d] => { results := [.lit (.bool false)], args := [d] }
  | _ => none }
def FnRecordsWrongFalsely : Prop := fnRecordsRow.holds Try.pinned (OpenSpec.ofChange fnRecordsWrong)

/- THE SECOND FORM. 'bulk': how many values and letters a reading holds, each counted each time it is reached (what is shared counts as often as it is met; a slice's spare places count too). A statement '..UptoSaid' is the law's where the arguments, and the package variables that the reading takes, are together of bulk at most 1048576: NARROWER than '..Said'. Prove '..Said' where nothing that the law and all that it calls make is longer than what came in: it says more and counts as full. Else prove '..UptoSaid'. A law counts once. -/
mutual
def uptoBulk {H : Type} : DataW H → Nat
  | .lit (.string bytes) => bytes.length + 1
  | .lit _ => 1
  | .nil => 1
  | .ptr d => uptoBulk d + 1
  | .slice elems spare => uptoBulkAll elems + uptoBulkAll spare + 1
  | .agg parts => uptoBulkAll parts + 1
  | .iface _ d => uptoBulk d + 1
  | .map entries => uptoBulkEntries entries + 1
  | .held _ => 1
def uptoBulkAll {H : Type} : List (DataW H) → Nat
  | [] => 0
  | d :: r => uptoBulk d + uptoBulkAll r
def uptoBulkEntries {H : Type} : List (Lit × DataW H) → Nat
  | [] => 0
  | x :: r => uptoBulkEntry x + uptoBulkEntries r
def uptoBulkEntry {H : Type} : Lit × DataW H → Nat
  | (.string bytes, d) => bytes.length + uptoBulk d + 1
  | (_, d) => uptoBulk d + 1
 end
def uptoSmall : (H : Type) → List (DataW H) → Bool := fun _ ds => decide (uptoBulkAll ds ≤ 1048576)
def OpenSpec.upto (s : _root_.Go.ChangeSpec) : _root_.Go.OpenSpec := { _root_.Go.OpenSpec.ofChange s with cond := some uptoSmall }

/-- 'laws.FnExactRecordOk', WHERE WHAT IT READS IS OF BULK AT MOST 1048576: true; the input reads as it did. -/
def fnExactRecordOkUptoRow : OpenClaim := { program := "ytaaelkbkmgnciaa", sum := "4e0f692a72ad888c2f3cfcd3f0fe50021c625545f1c1e23d8140cf765572298e", func := "loop.example/g00063/laws.FnExactRecordOk", spec := "fnExactRecordOk", apart := false, narrowed := true }
def FnExactRecordOkUptoSaid : Prop := fnExactRecordOkUptoRow.holds Try.pinned (OpenSpec.upto fnExactRecordOkSpec)

/-- 'laws.FnExactSame20', WHERE WHAT IT READS IS OF BULK AT MOST 1048576: true; the input reads as it did. -/
def fnExactSame20UptoRow : OpenClaim := { program := "ytaaelkbkmgnciaa", sum := "4e0f692a72ad888c2f3cfcd3f0fe50021c625545f1c1e23d8140cf765572298e", func := "loop.example/g00063/laws.FnExactSame20", spec := "fnExactSame20", apart := false, narrowed := true }
def FnExactSame20UptoSaid : Prop := fnExactSame20UptoRow.holds Try.pinned (OpenSpec.upto fnExactSame20Spec)

/-- 'laws.FnColumns', WHERE WHAT IT READS IS OF BULK AT MOST 1048576: true; the input reads as it did. -/
def fnColumnsUptoRow : OpenClaim := { program := "ytaaelkbkmgnciaa", sum := "4e0f692a72ad888c2f3cfcd3f0fe50021c625545f1c1e23d8140cf765572298e", func := "loop.example/g00063/laws.FnColumns", spec := "fnColumns", apart := false, narrowed := true }
def FnColumnsUptoSaid : Prop := fnColumnsUptoRow.holds Try.pinned (OpenSpec.upto fnColumnsSpec)

/-- 'laws.FnExactColumn', WHERE WHAT IT READS IS OF BULK AT MOST 1048576: true; the input reads as it did. -/
def fnExactColumnUptoRow : OpenClaim := { program := "ytaaelkbkmgnciaa", sum := "4e0f692a72ad888c2f3cfcd3f0fe50021c625545f1c1e23d8140cf765572298e", func := "loop.example/g00063/laws.FnExactColumn", spec := "fnExactColumn", apart := false, narrowed := true }
def FnExactColumnUptoSaid : Prop := fnExactColumnUptoRow.holds Try.pinned (OpenSpec.upto fnExactColumnSpec)

/-- 'laws.FnExactEvents20', WHERE WHAT IT READS IS OF BULK AT MOST 1048576: true; the input reads as it did. -/
def fnExactEvents20UptoRow : OpenClaim := { program := "ytaaelkbkmgnciaa", sum := "4e0f692a72ad888c2f3cfcd3f0fe50021c625545f1c1e23d8140cf765572298e", func := "loop.example/g00063/laws.FnExactEvents20", spec := "fnExactEvents20", apart := false, narrowed := true }
def FnExactEvents20UptoSaid : Prop := fnExactEvents20UptoRow.holds Try.pinned (OpenSpec.upto fnExactEvents20Spec)

/-- 'laws.FnExactPack20', WHERE WHAT IT READS IS OF BULK AT MOST 1048576: true; the input reads as it did. -/
def fnExactPack20UptoRow : OpenClaim := { program := "ytaaelkbkmgnciaa", sum := "4e0f692a72ad888c2f3cfcd3f0fe50021c625545f1c1e23d8140cf765572298e", func := "loop.example/g00063/laws.FnExactPack20", spec := "fnExactPack20", apart := false, narrowed := true }
def FnExactPack20UptoSaid : Prop := fnExactPack20UptoRow.holds Try.pinned (OpenSpec.upto fnExactPack20Spec)

/-- 'laws.FnExactUnpack20', WHERE WHAT IT READS IS OF BULK AT MOST 1048576: true; the input reads as it did. -/
def fnExactUnpack20UptoRow : OpenClaim := { program := "ytaaelkbkmgnciaa", sum := "4e0f692a72ad888c2f3cfcd3f0fe50021c625545f1c1e23d8140cf765572298e", func := "loop.example/g00063/laws.FnExactUnpack20", spec := "fnExactUnpack20", apart := false, narrowed := true }
def FnExactUnpack20UptoSaid : Prop := fnExactUnpack20UptoRow.holds Try.pinned (OpenSpec.upto fnExactUnpack20Spec)

/-- 'laws.FnRecords', WHERE WHAT IT READS IS OF BULK AT MOST 1048576: true; the input reads as it did. -/
def fnRecordsUptoRow : OpenClaim := { program := "ytaaelkbkmgnciaa", sum := "4e0f692a72ad888c2f3cfcd3f0fe50021c625545f1c1e23d8140cf765572298e", func := "loop.example/g00063/laws.FnRecords", spec := "fnRecords", apart := false, narrowed := true }
def FnRecordsUptoSaid : Prop := fnRecordsUptoRow.holds Try.pinned (OpenSpec.upto fnRecordsSpec)

end Rows
end Go.Proofs.Ytaaelkbkmgnciaa
