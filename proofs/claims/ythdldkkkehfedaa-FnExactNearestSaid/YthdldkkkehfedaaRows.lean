/-
  No cell of these rows narrows 'for every input' (looked for: loops, veiled, ifaces, maps, wideKeys, modest, calm, conditions, laid).
  DERIVED. THE GIVEN ROWS OF THIS SEAT. 7 by the template 'for every input the law returns true; each argument reads behind the call as it read before'; 0 by the template 'total and deterministic' (their statements: YthdldkkkehfedaaTotals.lean).
  GIVEN WITH THE SEED: the statements are not yours to turn. If you find one false, say at which input.
  Laid BY PROGRAM, IN A SANDBOX (cutbox-rows.mjs): the forced cells as the released guide's own fill.sh prints them over the translation 0ed07c2c52405fdc… (all of the seat's roots in one cut). By AI agents, Wed Nov 11 2026. No macro, syntax, notation, axiom, sorry.
-/
import Derived.Test.YthdldkkkehfedaaChecked
import GoSem.Claim
import GoSem.ClaimJoined
import GoSem.ClaimMapViews
import Derived.JoinedTies
import Derived.KernelRfl
namespace Go.Proofs.Ythdldkkkehfedaa
/- THE CELL 'sum', in the pinned program and in every row, IS THE sha256 OF THE DUMP (.gsa) THAT YthdldkkkehfedaaProg.lean LOADS. Nothing in Lean hashes anything: it is a label: what it is worth is what the hold of that sum in a sandbox is worth. -/
noncomputable def Try.pinned : Pinned := { name := "ythdldkkkehfedaa", sum := "0ed07c2c52405fdcb1f894675dbed682696aafd97e2630bad7caec04aec88052", checked := Try.checked }
namespace Rows
def none {H : Type} : Left H := { results := [], args := [] }

/-- 'laws.FnExactAlert': WHATEVER THE INPUT: true; the input reads as it did. -/
def fnExactAlertSpec : ChangeSpec := { name := "fnExactAlert", fn := fun _ => fun
  | [d1, d2, d3, d4] => { results := [.lit (.bool true)], args := [d1, d2, d3, d4] }
  | _ => none }
def fnExactAlertRow : OpenClaim := { program := "ythdldkkkehfedaa", sum := "0ed07c2c52405fdcb1f894675dbed682696aafd97e2630bad7caec04aec88052", func := "loop.example/g00063/laws.FnExactAlert", spec := "fnExactAlert", apart := false }
def FnExactAlertSaid : Prop := fnExactAlertRow.holds Try.pinned (OpenSpec.ofChange fnExactAlertSpec)

/-- ITS FALSE NEIGHBOUR: 'it returns false'. Refute it at one input. -/
def fnExactAlertWrong : ChangeSpec := { name := "fnExactAlert", fn := fun _ => fun
  | [d1, d2, d3, d4] => { results := [.lit (.bool false)], args := [d1, d2, d3, d4] }
  | _ => none }
def FnExactAlertWrongFalsely : Prop := fnExactAlertRow.holds Try.pinned (OpenSpec.ofChange fnExactAlertWrong)

/-- 'laws.FnExactThreat': WHATEVER THE INPUT: true; the input reads as it did. -/
def fnExactThreatSpec : ChangeSpec := { name := "fnExactThreat", fn := fun _ => fun
  | [d1, d2, d3, d4] => { results := [.lit (.bool true)], args := [d1, d2, d3, d4] }
  | _ => none }
def fnExactThreatRow : OpenClaim := { program := "ythdldkkkehfedaa", sum := "0ed07c2c52405fdcb1f894675dbed682696aafd97e2630bad7caec04aec88052", func := "loop.example/g00063/laws.FnExactThreat", spec := "fnExactThreat", apart := false }
def FnExactThreatSaid : Prop := fnExactThreatRow.holds Try.pinned (OpenSpec.ofChange fnExactThreatSpec)

/-- ITS FALSE NEIGHBOUR: 'it returns false'. Refute it at one input. -/
def fnExactThreatWrong : ChangeSpec := { name := "fnExactThreat", fn := fun _ => fun
  | [d1, d2, d3, d4] => { results := [.lit (.bool false)], args := [d1, d2, d3, d4] }
  | _ => none }
def FnExactThreatWrongFalsely : Prop := fnExactThreatRow.holds Try.pinned (OpenSpec.ofChange fnExactThreatWrong)

/-- 'laws.FnTerrain': WHATEVER THE INPUT: true; the input reads as it did. -/
def fnTerrainSpec : ChangeSpec := { name := "fnTerrain", fn := fun _ => fun
  | [d] => { results := [.lit (.bool true)], args := [d] }
  | _ => none }
def fnTerrainRow : OpenClaim := { program := "ythdldkkkehfedaa", sum := "0ed07c2c52405fdcb1f894675dbed682696aafd97e2630bad7caec04aec88052", func := "loop.example/g00063/laws.FnTerrain", spec := "fnTerrain", apart := false }
def FnTerrainSaid : Prop := fnTerrainRow.holds Try.pinned (OpenSpec.ofChange fnTerrainSpec)

/-- ITS FALSE NEIGHBOUR: 'it returns false'. Refute it at one input. -/
def fnTerrainWrong : ChangeSpec := { name := "fnTerrain", fn := fun _ => fun
  | [d] => { results := [.lit (.bool false)], args := [d] }
  | _ => none }
def FnTerrainWrongFalsely : Prop := fnTerrainRow.holds Try.pinned (OpenSpec.ofChange fnTerrainWrong)

/-- 'laws.FnExactAdvise': WHATEVER THE INPUT: true; the input reads as it did. -/
def fnExactAdviseSpec : ChangeSpec := { name := "fnExactAdvise", fn := fun _ => fun
  | [d1, d2, d3, d4] => { results := [.lit (.bool true)], args := [d1, d2, d3, d4] }
  | _ => none }
def fnExactAdviseRow : OpenClaim := { program := "ythdldkkkehfedaa", sum := "0ed07c2c52405fdcb1f894675dbed682696aafd97e2630bad7caec04aec88052", func := "loop.example/g00063/laws.FnExactAdvise", spec := "fnExactAdvise", apart := false }
def FnExactAdviseSaid : Prop := fnExactAdviseRow.holds Try.pinned (OpenSpec.ofChange fnExactAdviseSpec)

/-- ITS FALSE NEIGHBOUR: 'it returns false'. Refute it at one input. -/
def fnExactAdviseWrong : ChangeSpec := { name := "fnExactAdvise", fn := fun _ => fun
  | [d1, d2, d3, d4] => { results := [.lit (.bool false)], args := [d1, d2, d3, d4] }
  | _ => none }
def FnExactAdviseWrongFalsely : Prop := fnExactAdviseRow.holds Try.pinned (OpenSpec.ofChange fnExactAdviseWrong)

/-- 'laws.FnSenses': WHATEVER THE INPUT: true; the input reads as it did. -/
def fnSensesSpec : ChangeSpec := { name := "fnSenses", fn := fun _ => fun
  | [d] => { results := [.lit (.bool true)], args := [d] }
  | _ => none }
def fnSensesRow : OpenClaim := { program := "ythdldkkkehfedaa", sum := "0ed07c2c52405fdcb1f894675dbed682696aafd97e2630bad7caec04aec88052", func := "loop.example/g00063/laws.FnSenses", spec := "fnSenses", apart := false }
def FnSensesSaid : Prop := fnSensesRow.holds Try.pinned (OpenSpec.ofChange fnSensesSpec)

/-- ITS FALSE NEIGHBOUR: 'it returns false'. Refute it at one input. -/
def fnSensesWrong : ChangeSpec := { name := "fnSenses", fn := fun _ => fun
  | [d] => { results := [.lit (.bool false)], args := [d] }
  | _ => none }
def FnSensesWrongFalsely : Prop := fnSensesRow.holds Try.pinned (OpenSpec.ofChange fnSensesWrong)

/-- 'laws.FnExactPair': WHATEVER THE INPUT: true; the input reads as it did. -/
def fnExactPairSpec : ChangeSpec := { name := "fnExactPair", fn := fun _ => fun
  | [d1, d2, d3, d4, d5, d6] => { results := [.lit (.bool true)], args := [d1, d2, d3, d4, d5, d6] }
  | _ => none }
def fnExactPairRow : OpenClaim := { program := "ythdldkkkehfedaa", sum := "0ed07c2c52405fdcb1f894675dbed682696aafd97e2630bad7caec04aec88052", func := "loop.example/g00063/laws.FnExactPair", spec := "fnExactPair", recurses := true, apart := false }
def FnExactPairSaid : Prop := fnExactPairRow.holds Try.pinned (OpenSpec.ofChange fnExactPairSpec)

/-- ITS FALSE NEIGHBOUR: 'it returns false'. Refute it at one input. -/
def fnExactPairWrong : ChangeSpec := { name := "fnExactPair", fn := fun _ => fun
  | [d1, d2, d3, d4, d5, d6] => { results := [.lit (.bool false)], args := [d1, d2, d3, d4, d5, d6] }
  | _ => none }
def FnExactPairWrongFalsely : Prop := fnExactPairRow.holds Try.pinned (OpenSpec.ofChange fnExactPairWrong)

/-- 'laws.FnExactNearest': WHATEVER THE INPUT: true; the input reads as it did. -/
def fnExactNearestSpec : ChangeSpec := { name := "fnExactNearest", fn := fun _ => fun
  | [d1, d2, d3, d4] => { results := [.lit (.bool true)], args := [d1, d2, d3, d4] }
  | _ => none }
def fnExactNearestRow : OpenClaim := { program := "ythdldkkkehfedaa", sum := "0ed07c2c52405fdcb1f894675dbed682696aafd97e2630bad7caec04aec88052", func := "loop.example/g00063/laws.FnExactNearest", spec := "fnExactNearest", apart := false }
def FnExactNearestSaid : Prop := fnExactNearestRow.holds Try.pinned (OpenSpec.ofChange fnExactNearestSpec)

/-- ITS FALSE NEIGHBOUR: 'it returns false'. Refute it at one input. -/
def fnExactNearestWrong : ChangeSpec := { name := "fnExactNearest", fn := fun _ => fun
  | [d1, d2, d3, d4] => { results := [.lit (.bool false)], args := [d1, d2, d3, d4] }
  | _ => none }
def FnExactNearestWrongFalsely : Prop := fnExactNearestRow.holds Try.pinned (OpenSpec.ofChange fnExactNearestWrong)

/- THE SECOND FORM. 'bulk': how many values and letters a reading holds, each counted each time it is reached (what is shared counts as often as it is met; a slice's spare places count too). A statement '..UptoSaid' is the law's where the arguments, and the package variables that the reading takes, are together of bulk at most 1048576: NARROWER than '..Said'. Prove '..Said' where nothing that the law and all that it calls make is longer than what came in: it says more and counts as full. Else prove '..UptoSaid'. A law counts once. -/
mutual
def uptoBulk {H : Type} : DataW H → Nat
  | .lit (.string bytes) => bytes.length + 1
  | .lit _ => 1
  | .nil => 1
  | .ptr d => uptoBulk d + 1
  | .slice elems spare => uptoBulkAll elems + uptoBulkAll spare + 1
  | .agg parts => uptoBulkAll parts + 1
  | .iface _ d => uptoBulk d + 1
  | .map entries => uptoBulkEntries entries + 1
  | .held _ => 1
def uptoBulkAll {H : Type} : List (DataW H) → Nat
  | [] => 0
  | d :: r => uptoBulk d + uptoBulkAll r
def uptoBulkEntries {H : Type} : List (Lit × DataW H) → Nat
  | [] => 0
  | x :: r => uptoBulkEntry x + uptoBulkEntries r
def uptoBulkEntry {H : Type} : Lit × DataW H → Nat
  | (.string bytes, d) => bytes.length + uptoBulk d + 1
  | (_, d) => uptoBulk d + 1
 end
def uptoSmall : (H : Type) → List (DataW H) → Bool := fun _ ds => decide (uptoBulkAll ds ≤ 1048576)
def OpenSpec.upto (s : _root_.Go.ChangeSpec) : _root_.Go.OpenSpec := { _root_.Go.OpenSpec.ofChange s with cond := some uptoSmall }

/-- 'laws.FnExactAlert', WHERE WHAT IT READS IS OF BULK AT MOST 1048576: true; the input reads as it did. -/
def fnExactAlertUptoRow : OpenClaim := { program := "ythdldkkkehfedaa", sum := "0ed07c2c52405fdcb1f894675dbed682696aafd97e2630bad7caec04aec88052", func := "loop.example/g00063/laws.FnExactAlert", spec := "fnExactAlert", apart := false, narrowed := true }
def FnExactAlertUptoSaid : Prop := fnExactAlertUptoRow.holds Try.pinned (OpenSpec.upto fnExactAlertSpec)

/-- 'laws.FnExactThreat', WHERE WHAT IT READS IS OF BULK AT MOST 1048576: true; the input reads as it did. -/
def fnExactThreatUptoRow : OpenClaim := { program := "ythdldkkkehfedaa", sum := "0ed07c2c52405fdcb1f894675dbed682696aafd97e2630bad7caec04aec88052", func := "loop.example/g00063/laws.FnExactThreat", spec := "fnExactThreat", apart := false, narrowed := true }
def FnExactThreatUptoSaid : Prop := fnExactThreatUptoRow.holds Try.pinned (OpenSpec.upto fnExactThreatSpec)

/-- 'laws.FnTerrain', WHERE WHAT IT READS IS OF BULK AT MOST 1048576: true; the input reads as it did. -/
def fnTerrainUptoRow : OpenClaim := { program := "ythdldkkkehfedaa", sum := "0ed07c2c52405fdcb1f894675dbed682696aafd97e2630bad7caec04aec88052", func := "loop.example/g00063/laws.FnTerrain", spec := "fnTerrain", apart := false, narrowed := true }
def FnTerrainUptoSaid : Prop := fnTerrainUptoRow.holds Try.pinned (OpenSpec.upto fnTerrainSpec)

/-- 'laws.FnExactAdvise', WHERE WHAT IT READS IS OF BULK AT MOST 1048576: true; the input reads as it did. -/
def fnExactAdviseUptoRow : OpenClaim := { program := "ythdldkkkehfedaa", sum := "0ed07c2c52405fdcb1f894675dbed682696aafd97e2630bad7caec04aec88052", func := "loop.example/g00063/laws.FnExactAdvise", spec := "fnExactAdvise", apart := false, narrowed := true }
def FnExactAdviseUptoSaid : Prop := fnExactAdviseUptoRow.holds Try.pinned (OpenSpec.upto fnExactAdviseSpec)

/-- 'laws.FnSenses', WHERE WHAT IT READS IS OF BULK AT MOST 1048576: true; the input reads as it did. -/
def fnSensesUptoRow : OpenClaim := { program := "ythdldkkkehfedaa", sum := "0ed07c2c52405fdcb1f894675dbed682696aafd97e2630bad7caec04aec88052", func := "loop.example/g00063/laws.FnSenses", spec := "fnSenses", apart := false, narrowed := true }
def FnSensesUptoSaid : Prop := fnSensesUptoRow.holds Try.pinned (OpenSpec.upto fnSensesSpec)

/-- 'laws.FnExactPair', WHERE WHAT IT READS IS OF BULK AT MOST 1048576: true; the input reads as it did. -/
def fnExactPairUptoRow : OpenClaim := { program := "ythdldkkkehfedaa", sum := "0ed07c2c52405fdcb1f894675dbed682696aafd97e2630bad7caec04aec88052", func := "loop.example/g00063/laws.FnExactPair", spec := "fnExactPair", recurses := true, apart := false, narrowed := true }
def FnExactPairUptoSaid : Prop := fnExactPairUptoRow.holds Try.pinned (OpenSpec.upto fnExactPairSpec)

/-- 'laws.FnExactNearest', WHERE WHAT IT READS IS OF BULK AT MOST 1048576: true; the input reads as it did. -/
def fnExactNearestUptoRow : OpenClaim := { program := "ythdldkkkehfedaa", sum := "0ed07c2c52405fdcb1f894675dbed682696aafd97e2630bad7caec04aec88052", func := "loop.example/g00063/laws.FnExactNearest", spec := "fnExactNearest", apart := false, narrowed := true }
def FnExactNearestUptoSaid : Prop := fnExactNearestUptoRow.holds Try.pinned (OpenSpec.upto fnExactNearestSpec)

end Rows
end Go.Proofs.Ythdldkkkehfedaa
