/-
  No cell of these rows narrows 'for every input' (looked for: loops, veiled, ifaces, maps, wideKeys, modest, calm, conditions, laid).
  DERIVED. THE GIVEN ROWS OF THIS SEAT. 3 by the template 'for every input the law returns true; each argument reads behind the call as it read before'; 0 by the template 'total and deterministic' (their statements: YtfhielgfgmcdiaaTotals.lean).
  GIVEN WITH THE SEED: the statements are not yours to turn. If you find one false, say at which input.
  Laid BY PROGRAM, IN A SANDBOX (cutbox-rows.mjs): the forced cells as the released guide's own fill.sh prints them over the translation dcaad4a0bdce2edb… (all of the seat's roots in one cut). By AI agents, Wed Nov 11 2026. No macro, syntax, notation, axiom, sorry.
-/
import Derived.Test.YtfhielgfgmcdiaaChecked
import GoSem.Claim
import GoSem.ClaimJoined
import GoSem.ClaimMapViews
import Derived.JoinedTies
import Derived.KernelRfl
namespace Go.Proofs.Ytfhielgfgmcdiaa
/- THE CELL 'sum', in the pinned program and in every row, IS THE sha256 OF THE DUMP (.gsa) THAT YtfhielgfgmcdiaaProg.lean LOADS. Nothing in Lean hashes anything: it is a label: what it is worth is what the hold of that sum in a sandbox is worth. -/
noncomputable def Try.pinned : Pinned := { name := "ytfhielgfgmcdiaa", sum := "dcaad4a0bdce2edb1e6e318791d60c363decc7c07f0d63d264964049eb0d26f6", checked := Try.checked }
namespace Rows
def none {H : Type} : Left H := { results := [], args := [] }

/-- 'laws.FnExactLeft6': WHATEVER THE INPUT: true; the input reads as it did. -/
def fnExactLeft6Spec : ChangeSpec := { name := "fnExactLeft6", fn := fun _ => fun
  | [d1, d2] => { results := [.lit (.bool true)], args := [d1, d2] }
  | _ => none }
def fnExactLeft6Row : OpenClaim := { program := "ytfhielgfgmcdiaa", sum := "dcaad4a0bdce2edb1e6e318791d60c363decc7c07f0d63d264964049eb0d26f6", func := "loop.example/g00063/laws.FnExactLeft6", spec := "fnExactLeft6", apart := false }
def FnExactLeft6Said : Prop := fnExactLeft6Row.holds Try.pinned (OpenSpec.ofChange fnExactLeft6Spec)

/-- ITS FALSE NEIGHBOUR: 'it returns false'. Refute it at one input. -/
def fnExactLeft6Wrong : ChangeSpec := { name := "fnExactLeft6", fn := fun _ => fun
  | [d1, d2] => { results := [.lit (.bool false)], args := [d1, d2] }
  | _ => none }
def FnExactLeft6WrongFalsely : Prop := fnExactLeft6Row.holds Try.pinned (OpenSpec.ofChange fnExactLeft6Wrong)

/-- 'laws.FnLives': WHATEVER THE INPUT: true; the input reads as it did. -/
def fnLivesSpec : ChangeSpec := { name := "fnLives", fn := fun _ => fun
  | [d] => { results := [.lit (.bool true)], args := [d] }
  | _ => none }
def fnLivesRow : OpenClaim := { program := "ytfhielgfgmcdiaa", sum := "dcaad4a0bdce2edb1e6e318791d60c363decc7c07f0d63d264964049eb0d26f6", func := "loop.example/g00063/laws.FnLives", spec := "fnLives", recurses := true, apart := false }
def FnLivesSaid : Prop := fnLivesRow.holds Try.pinned (OpenSpec.ofChange fnLivesSpec)

/-- ITS FALSE NEIGHBOUR: 'it returns false'. Refute it at one input. -/
def fnLivesWrong : ChangeSpec := { name := "fnLives", fn := fun _ => fun
  | [d] => { results := [.lit (.bool false)], args := [d] }
  | _ => none }
def FnLivesWrongFalsely : Prop := fnLivesRow.holds Try.pinned (OpenSpec.ofChange fnLivesWrong)

/-- 'laws.FnExactDue6': WHATEVER THE INPUT: true; the input reads as it did. -/
def fnExactDue6Spec : ChangeSpec := { name := "fnExactDue6", fn := fun _ => fun
  | [d1, d2] => { results := [.lit (.bool true)], args := [d1, d2] }
  | _ => none }
def fnExactDue6Row : OpenClaim := { program := "ytfhielgfgmcdiaa", sum := "dcaad4a0bdce2edb1e6e318791d60c363decc7c07f0d63d264964049eb0d26f6", func := "loop.example/g00063/laws.FnExactDue6", spec := "fnExactDue6", recurses := true, apart := false }
def FnExactDue6Said : Prop := fnExactDue6Row.holds Try.pinned (OpenSpec.ofChange fnExactDue6Spec)

/-- ITS FALSE NEIGHBOUR: 'it returns false'. Refute it at one input. -/
def fnExactDue6Wrong : ChangeSpec := { name := "fnExactDue6", fn := fun _ => fun
  | [d1, d2] => { results := [.lit (.bool false)], args := [d1, d2] }
  | _ => none }
def FnExactDue6WrongFalsely : Prop := fnExactDue6Row.holds Try.pinned (OpenSpec.ofChange fnExactDue6Wrong)

/- THE SECOND FORM. 'bulk': how many values and letters a reading holds, each counted each time it is reached (what is shared counts as often as it is met; a slice's spare places count too). A statement '..UptoSaid' is the law's where the arguments, and the package variables that the reading takes, are together of bulk at most 1048576: NARROWER than '..Said'. Prove '..Said' where nothing that the law and all that it calls make is longer than what came in: it says more and counts as full. Else prove '..UptoSaid'. A law counts once. -/
mutual
def uptoBulk {H : Type} : DataW H → Nat
  | .lit (.string bytes) => bytes.length + 1
  | .lit _ => 1
  | .nil => 1
  | .ptr d => uptoBulk d + 1
  | .slice elems spare => uptoBulkAll elems + uptoBulkAll spare + 1
  | .agg parts => uptoBulkAll parts + 1
  | .iface _ d => uptoBulk d + 1
  | .map entries => uptoBulkEntries entries + 1
  | .held _ => 1
def uptoBulkAll {H : Type} : List (DataW H) → Nat
  | [] => 0
  | d :: r => uptoBulk d + uptoBulkAll r
def uptoBulkEntries {H : Type} : List (Lit × DataW H) → Nat
  | [] => 0
  | x :: r => uptoBulkEntry x + uptoBulkEntries r
def uptoBulkEntry {H : Type} : Lit × DataW H → Nat
  | (.string bytes, d) => bytes.length + uptoBulk d + 1
  | (_, d) => uptoBulk d + 1
 end
def uptoSmall : (H : Type) → List (DataW H) → Bool := fun _ ds => decide (uptoBulkAll ds ≤ 1048576)
def OpenSpec.upto (s : _root_.Go.ChangeSpec) : _root_.Go.OpenSpec := { _root_.Go.OpenSpec.ofChange s with cond := some uptoSmall }

/-- 'laws.FnExactLeft6', WHERE WHAT IT READS IS OF BULK AT MOST 1048576: true; the input reads as it did. -/
def fnExactLeft6UptoRow : OpenClaim := { program := "ytfhielgfgmcdiaa", sum := "dcaad4a0bdce2edb1e6e318791d60c363decc7c07f0d63d264964049eb0d26f6", func := "loop.example/g00063/laws.FnExactLeft6", spec := "fnExactLeft6", apart := false, narrowed := true }
def FnExactLeft6UptoSaid : Prop := fnExactLeft6UptoRow.holds Try.pinned (OpenSpec.upto fnExactLeft6Spec)

/-- 'laws.FnLives', WHERE WHAT IT READS IS OF BULK AT MOST 1048576: true; the input reads as it did. -/
def fnLivesUptoRow : OpenClaim := { program := "ytfhielgfgmcdiaa", sum := "dcaad4a0bdce2edb1e6e318791d60c363decc7c07f0d63d264964049eb0d26f6", func := "loop.example/g00063/laws.FnLives", spec := "fnLives", recurses := true, apart := false, narrowed := true }
def FnLivesUptoSaid : Prop := fnLivesUptoRow.holds Try.pinned (OpenSpec.upto fnLivesSpec)

/-- 'laws.FnExactDue6', WHERE WHAT IT READS IS OF BULK AT MOST 1048576: true; the input reads as it did. -/
def fnExactDue6UptoRow : OpenClaim := { program := "ytfhielgfgmcdiaa", sum := "dcaad4a0bdce2edb1e6e318791d60c363decc7c07f0d63d264964049eb0d26f6", func := "loop.example/g00063/laws.FnExactDue6", spec := "fnExactDue6", recurses := true, apart := false, narrowed := true }
def FnExactDue6UptoSaid : Prop := fnExactDue6UptoRow.holds Try.pinned (OpenSpec.upto fnExactDue6Spec)

end Rows
end Go.Proofs.Ytfhielgfgmcdiaa
