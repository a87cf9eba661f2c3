/-
  No cell of these rows narrows 'for every input' (looked for: loops, veiled, ifaces, maps, wideKeys, modest, calm, conditions, laid).
  DERIVED. THE GIVEN ROWS OF THIS SEAT. 5 by the template 'for every input the law returns true; each argument reads behind the call as it read before'; 0 by the template 'total and deterministic' (their statements: YtlpcogichompoaaTotals.lean).
  GIVEN WITH THE SEED: the statements are not yours to turn. If you find one false, say at which input.
  Laid BY PROGRAM, IN A SANDBOX (cutbox-rows.mjs): the forced cells as the released guide's own fill.sh prints them over the translation 2a1e70ca16a1cffb… (all of the seat's roots in one cut). By AI agents, Wed Nov 11 2026. No macro, syntax, notation, axiom, sorry.
-/
import Derived.Test.YtlpcogichompoaaChecked
import GoSem.Claim
import GoSem.ClaimJoined
import GoSem.ClaimMapViews
import Derived.JoinedTies
import Derived.KernelRfl
namespace Go.Proofs.Ytlpcogichompoaa
/- THE CELL 'sum', in the pinned program and in every row, IS THE sha256 OF THE DUMP (.gsa) THAT YtlpcogichompoaaProg.lean LOADS. Nothing in Lean hashes anything: it is a label: what it is worth is what the hold of that sum in a sandbox is worth. -/
noncomputable def Try.pinned : Pinned := { name := "ytlpcogichompoaa", sum := "2a1e70ca16a1cffbcc2dc69453d4a85f64ca8958c1bcf43d4e6ef0cc46633c89", checked := Try.checked }
namespace Rows
def none {H : Type} : Left H := { results := [], args := [] }

/-- 'laws.FnExactLoadOk': WHATEVER THE INPUT: true; the input reads as it did. -/
def fnExactLoadOkSpec : ChangeSpec := { name := "fnExactLoadOk", fn := fun _ => fun
  | [d] => { results := [.lit (.bool true)], args := [d] }
  | _ => none }
def fnExactLoadOkRow : OpenClaim := { program := "ytlpcogichompoaa", sum := "2a1e70ca16a1cffbcc2dc69453d4a85f64ca8958c1bcf43d4e6ef0cc46633c89", func := "loop.example/g00063/laws.FnExactLoadOk", spec := "fnExactLoadOk", apart := false }
def FnExactLoadOkSaid : Prop := fnExactLoadOkRow.holds Try.pinned (OpenSpec.ofChange fnExactLoadOkSpec)

/-- ITS FALSE NEIGHBOUR: 'it returns false'. Refute it at one input. -/
def fnExactLoadOkWrong : ChangeSpec := { name := "fnExactLoadOk", fn := fun _ => fun
  | [d] => { results := [.lit (.bool false)], args := [d] }
  | _ => none }
def FnExactLoadOkWrongFalsely : Prop := fnExactLoadOkRow.holds Try.pinned (OpenSpec.ofChange fnExactLoadOkWrong)

/-- 'laws.FnExactSeal': WHATEVER THE INPUT: true; the input reads as it did. -/
def fnExactSealSpec : ChangeSpec := { name := "fnExactSeal", fn := fun _ => fun
  | [d] => { results := [.lit (.bool true)], args := [d] }
  | _ => none }
def fnExactSealRow : OpenClaim := { program := "ytlpcogichompoaa", sum := "2a1e70ca16a1cffbcc2dc69453d4a85f64ca8958c1bcf43d4e6ef0cc46633c89", func := "loop.example/g00063/laws.FnExactSeal", spec := "fnExactSeal", unfollowed := true, recurses := true, apart := false }
def FnExactSealSaid : Prop := fnExactSealRow.holds Try.pinned (OpenSpec.ofChange fnExactSealSpec)

/-- ITS FALSE NEIGHBOUR: 'it returns false'. Refute it at one input. -/
def fnExactSealWrong : ChangeSpec := { name := "fnExactSeal", fn := fun _ => fun
  | [d] => { results := [.lit (.bool false)], args := [d] }
  | _ => none }
def FnExactSealWrongFalsely : Prop := fnExactSealRow.holds Try.pinned (OpenSpec.ofChange fnExactSealWrong)

/-- 'laws.FnExactDrop18': WHATEVER THE INPUT: true; the input reads as it did. -/
def fnExactDrop18Spec : ChangeSpec := { name := "fnExactDrop18", fn := fun _ => fun
  | [d1, d2] => { results := [.lit (.bool true)], args := [d1, d2] }
  | _ => none }
def fnExactDrop18Row : OpenClaim := { program := "ytlpcogichompoaa", sum := "2a1e70ca16a1cffbcc2dc69453d4a85f64ca8958c1bcf43d4e6ef0cc46633c89", func := "loop.example/g00063/laws.FnExactDrop18", spec := "fnExactDrop18", unfollowed := true, recurses := true, apart := false }
def FnExactDrop18Said : Prop := fnExactDrop18Row.holds Try.pinned (OpenSpec.ofChange fnExactDrop18Spec)

/-- ITS FALSE NEIGHBOUR: 'it returns false'. Refute it at one input. -/
def fnExactDrop18Wrong : ChangeSpec := { name := "fnExactDrop18", fn := fun _ => fun
  | [d1, d2] => { results := [.lit (.bool false)], args := [d1, d2] }
  | _ => none }
def FnExactDrop18WrongFalsely : Prop := fnExactDrop18Row.holds Try.pinned (OpenSpec.ofChange fnExactDrop18Wrong)

/-- 'laws.FnExactTake18': WHATEVER THE INPUT: true; the input reads as it did. -/
def fnExactTake18Spec : ChangeSpec := { name := "fnExactTake18", fn := fun _ => fun
  | [d1, d2, d3] => { results := [.lit (.bool true)], args := [d1, d2, d3] }
  | _ => none }
def fnExactTake18Row : OpenClaim := { program := "ytlpcogichompoaa", sum := "2a1e70ca16a1cffbcc2dc69453d4a85f64ca8958c1bcf43d4e6ef0cc46633c89", func := "loop.example/g00063/laws.FnExactTake18", spec := "fnExactTake18", unfollowed := true, recurses := true, apart := false }
def FnExactTake18Said : Prop := fnExactTake18Row.holds Try.pinned (OpenSpec.ofChange fnExactTake18Spec)

/-- ITS FALSE NEIGHBOUR: 'it returns false'. Refute it at one input. -/
def fnExactTake18Wrong : ChangeSpec := { name := "fnExactTake18", fn := fun _ => fun
  | [d1, d2, d3] => { results := [.lit (.bool false)], args := [d1, d2, d3] }
  | _ => none }
def FnExactTake18WrongFalsely : Prop := fnExactTake18Row.holds Try.pinned (OpenSpec.ofChange fnExactTake18Wrong)

/-- 'laws.FnLoads': WHATEVER THE INPUT: true; the input reads as it did. -/
def fnLoadsSpec : ChangeSpec := { name := "fnLoads", fn := fun _ => fun
  | [d] => { results := [.lit (.bool true)], args := [d] }
  | _ => none }
def fnLoadsRow : OpenClaim := { program := "ytlpcogichompoaa", sum := "2a1e70ca16a1cffbcc2dc69453d4a85f64ca8958c1bcf43d4e6ef0cc46633c89", func := "loop.example/g00063/laws.FnLoads", spec := "fnLoads", unfollowed := true, recurses := true, apart := false }
def FnLoadsSaid : Prop := fnLoadsRow.holds Try.pinned (OpenSpec.ofChange fnLoadsSpec)

/-- ITS FALSE NEIGHBOUR: 'it returns false'. Refute it at one input. -/
def fnLoadsWrong : ChangeSpec := { name := "fnLoads", fn := fun _ => fun
  | [d] => { results := [.lit (.bool false)], args := [d] }
  | _ => none }
def FnLoadsWrongFalsely : Prop := fnLoadsRow.holds Try.pinned (OpenSpec.ofChange fnLoadsWrong)

/- THE SECOND FORM. 'bulk': how many values and letters a reading holds, each counted each time it is reached (what is shared counts as often as it is met; a slice's spare places count too). A statement '..UptoSaid' is the law's where the arguments, and the package variables that the reading takes, are together of bulk at most 1048576: NARROWER than '..Said'. Prove '..Said' where nothing that the law and all that it calls make is longer than what came in: it says more and counts as full. Else prove '..UptoSaid'. A law counts once. -/
mutual
def uptoBulk {H : Type} : DataW H → Nat
  | .lit (.string bytes) => bytes.length + 1
  | .lit _ => 1
  | .nil => 1
  | .ptr d => uptoBulk d + 1
  | .slice elems spare => uptoBulkAll elems + uptoBulkAll spare + 1
  | .agg parts => uptoBulkAll parts + 1
  | .iface _ d => uptoBulk d + 1
  | .map entries => uptoBulkEntries entries + 1
  | .held _ => 1
def uptoBulkAll {H : Type} : List (DataW H) → Nat
  | [] => 0
  | d :: r => uptoBulk d + uptoBulkAll r
def uptoBulkEntries {H : Type} : List (Lit × DataW H) → Nat
  | [] => 0
  | x :: r => uptoBulkEntry x + uptoBulkEntries r
def uptoBulkEntry {H : Type} : Lit × DataW H → Nat
  | (.string bytes, d) => bytes.length + uptoBulk d + 1
  | (_, d) => uptoBulk d + 1
 end
def uptoSmall : (H : Type) → List (DataW H) → Bool := fun _ ds => decide (uptoBulkAll ds ≤ 1048576)
def OpenSpec.upto (s : _root_.Go.ChangeSpec) : _root_.Go.OpenSpec := { _root_.Go.OpenSpec.ofChange s with cond := some uptoSmall }

/-- 'laws.FnExactLoadOk', WHERE WHAT IT READS IS OF BULK AT MOST 1048576: true; the input reads as it did. -/
def fnExactLoadOkUptoRow : OpenClaim := { program := "ytlpcogichompoaa", sum := "2a1e70ca16a1cffbcc2dc69453d4a85f64ca8958c1bcf43d4e6ef0cc46633c89", func := "loop.example/g00063/laws.FnExactLoadOk", spec := "fnExactLoadOk", apart := false, narrowed := true }
def FnExactLoadOkUptoSaid : Prop := fnExactLoadOkUptoRow.holds Try.pinned (OpenSpec.upto fnExactLoadOkSpec)

/-- 'laws.FnExactSeal', WHERE WHAT IT READS IS OF BULK AT MOST 1048576: true; the input reads as it did. -/
def fnExactSealUptoRow : OpenClaim := { program := "ytlpcogichompoaa", sum := "2a1e70ca16a1cffbcc2dc69453d4a85f64ca8958c1bcf43d4e6ef0cc46633c89", func := "loop.example/g00063/laws.FnExactSeal", spec := "fnExactSeal", unfollowed := true, recurses := true, apart := false, narrowed := true }
def FnExactSealUptoSaid : Prop := fnExactSealUptoRow.holds Try.pinned (OpenSpec.upto fnExactSealSpec)

/-- 'laws.FnExactDrop18', WHERE WHAT IT READS IS OF BULK AT MOST 1048576: true; the input reads as it did. -/
def fnExactDrop18UptoRow : OpenClaim := { program := "ytlpcogichompoaa", sum := "2a1e70ca16a1cffbcc2dc69453d4a85f64ca8958c1bcf43d4e6ef0cc46633c89", func := "loop.example/g00063/laws.FnExactDrop18", spec := "fnExactDrop18", unfollowed := true, recurses := true, apart := false, narrowed := true }
def FnExactDrop18UptoSaid : Prop := fnExactDrop18UptoRow.holds Try.pinned (OpenSpec.upto fnExactDrop18Spec)

/-- 'laws.FnExactTake18', WHERE WHAT IT READS IS OF BULK AT MOST 1048576: true; the input reads as it did. -/
def fnExactTake18UptoRow : OpenClaim := { program := "ytlpcogichompoaa", sum := "2a1e70ca16a1cffbcc2dc69453d4a85f64ca8958c1bcf43d4e6ef0cc46633c89", func := "loop.example/g00063/laws.FnExactTake18", spec := "fnExactTake18", unfollowed := true, recurses := true, apart := false, narrowed := true }
def FnExactTake18UptoSaid : Prop := fnExactTake18UptoRow.holds Try.pinned (OpenSpec.upto fnExactTake18Spec)

/-- 'laws.FnLoads', WHERE WHAT IT READS IS OF BULK AT MOST 1048576: true; the input reads as it did. -/
def fnLoadsUptoRow : OpenClaim := { program := "ytlpcogichompoaa", sum := "2a1e70ca16a1cffbcc2dc69453d4a85f64ca8958c1bcf43d4e6ef0cc46633c89", func := "loop.example/g00063/laws.FnLoads", spec := "fnLoads", unfollowed := true, recurses := true, apart := false, narrowed := true }
def FnLoadsUptoSaid : Prop := fnLoadsUptoRow.holds Try.pinned (OpenSpec.upto fnLoadsSpec)

end Rows
end Go.Proofs.Ytlpcogichompoaa
