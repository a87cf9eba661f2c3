/-
  No cell of these rows narrows 'for every input' (looked for: loops, veiled, ifaces, maps, wideKeys, modest, calm, conditions, laid).
  DERIVED. THE GIVEN ROWS OF THIS SEAT. 6 by the template 'for every input the law returns true; each argument reads behind the call as it read before'; 0 by the template 'total and deterministic' (their statements: YtlkphaahkhfgoaaTotals.lean).
  GIVEN WITH THE SEED: the statements are not yours to turn. If you find one false, say at which input.
  Laid BY PROGRAM, IN A SANDBOX (cutbox-rows.mjs): the forced cells as the released guide's own fill.sh prints them over the translation d2f03c4d1c01303b… (all of the seat's roots in one cut). By AI agents, Wed Nov 11 2026. No macro, syntax, notation, axiom, sorry.
-/
import Derived.Test.YtlkphaahkhfgoaaChecked
import GoSem.Claim
import GoSem.ClaimJoined
import GoSem.ClaimMapViews
import Derived.JoinedTies
import Derived.KernelRfl
namespace Go.Proofs.Ytlkphaahkhfgoaa
/- THE CELL 'sum', in the pinned program and in every row, IS THE sha256 OF THE DUMP (.gsa) THAT YtlkphaahkhfgoaaProg.lean LOADS. Nothing in Lean hashes anything: it is a label: what it is worth is what the hold of that sum in a sandbox is worth. -/
noncomputable def Try.pinned : Pinned := { name := "ytlkphaahkhfgoaa", sum := "d2f03c4d1c01303ba9b087af1b6d245801187330878b2115584b8037a302f2dc", checked := Try.checked }
namespace Rows
def none {H : Type} : Left H := { results := [], args := [] }

/-- 'laws.FnExactPlanOk': WHATEVER THE INPUT: true; the input reads as it did. -/
def fnExactPlanOkSpec : ChangeSpec := { name := "fnExactPlanOk", fn := fun _ => fun
  | [d] => { results := [.lit (.bool true)], args := [d] }
  | _ => none }
def fnExactPlanOkRow : OpenClaim := { program := "ytlkphaahkhfgoaa", sum := "d2f03c4d1c01303ba9b087af1b6d245801187330878b2115584b8037a302f2dc", func := "loop.example/g00063/laws.FnExactPlanOk", spec := "fnExactPlanOk", apart := false }
def FnExactPlanOkSaid : Prop := fnExactPlanOkRow.holds Try.pinned (OpenSpec.ofChange fnExactPlanOkSpec)

/-- ITS FALSE NEIGHBOUR: 'it returns false'. Refute it at one input. -/
def fnExactPlanOkWrong : ChangeSpec := { name := "fnExactPlanOk", fn := fun _ => fun
  | [d] => { results := [.lit (.bool false)], args := [d] }
  | _ => none }
def FnExactPlanOkWrongFalsely : Prop := fnExactPlanOkRow.holds Try.pinned (OpenSpec.ofChange fnExactPlanOkWrong)

/-- 'laws.FnExactOwner': WHATEVER THE INPUT: true; the input reads as it did. -/
def fnExactOwnerSpec : ChangeSpec := { name := "fnExactOwner", fn := fun _ => fun
  | [d1, d2] => { results := [.lit (.bool true)], args := [d1, d2] }
  | _ => none }
def fnExactOwnerRow : OpenClaim := { program := "ytlkphaahkhfgoaa", sum := "d2f03c4d1c01303ba9b087af1b6d245801187330878b2115584b8037a302f2dc", func := "loop.example/g00063/laws.FnExactOwner", spec := "fnExactOwner", apart := false }
def FnExactOwnerSaid : Prop := fnExactOwnerRow.holds Try.pinned (OpenSpec.ofChange fnExactOwnerSpec)

/-- ITS FALSE NEIGHBOUR: 'it returns false'. Refute it at one input. -/
def fnExactOwnerWrong : ChangeSpec := { name := "fnExactOwner", fn := fun _ => fun
  | [d1, d2] => { results := [.lit (.bool false)], args := [d1, d2] }
  | _ => none }
def FnExactOwnerWrongFalsely : Prop := fnExactOwnerRow.holds Try.pinned (OpenSpec.ofChange fnExactOwnerWrong)

/-- 'laws.FnExactShare': WHATEVER THE INPUT: true; the input reads as it did. -/
def fnExactShareSpec : ChangeSpec := { name := "fnExactShare", fn := fun _ => fun
  | [d1, d2] => { results := [.lit (.bool true)], args := [d1, d2] }
  | _ => none }
def fnExactShareRow : OpenClaim := { program := "ytlkphaahkhfgoaa", sum := "d2f03c4d1c01303ba9b087af1b6d245801187330878b2115584b8037a302f2dc", func := "loop.example/g00063/laws.FnExactShare", spec := "fnExactShare", unfollowed := true, recurses := true, apart := false }
def FnExactShareSaid : Prop := fnExactShareRow.holds Try.pinned (OpenSpec.ofChange fnExactShareSpec)

/-- ITS FALSE NEIGHBOUR: 'it returns false'. Refute it at one input. -/
def fnExactShareWrong : ChangeSpec := { name := "fnExactShare", fn := fun _ => fun
  | [d1, d2] => { results := [.lit (.bool false)], args := [d1, d2] }
  | _ => none }
def FnExactShareWrongFalsely : Prop := fnExactShareRow.holds Try.pinned (OpenSpec.ofChange fnExactShareWrong)

/-- 'laws.FnExactFitWindow': WHATEVER THE INPUT: true; the input reads as it did. -/
def fnExactFitWindowSpec : ChangeSpec := { name := "fnExactFitWindow", fn := fun _ => fun
  | [d1, d2, d3] => { results := [.lit (.bool true)], args := [d1, d2, d3] }
  | _ => none }
def fnExactFitWindowRow : OpenClaim := { program := "ytlkphaahkhfgoaa", sum := "d2f03c4d1c01303ba9b087af1b6d245801187330878b2115584b8037a302f2dc", func := "loop.example/g00063/laws.FnExactFitWindow", spec := "fnExactFitWindow", inPlace := ["slices.overlaps[loop.example/g00063/impl.Window]"], apart := false }
def FnExactFitWindowSaid : Prop := fnExactFitWindowRow.holds Try.pinned (OpenSpec.ofChange fnExactFitWindowSpec)

/-- ITS FALSE NEIGHBOUR: 'it returns false'. Refute it at one input. -/
def fnExactFitWindowWrong : ChangeSpec := { name := "fnExactFitWindow", fn := fun _ => fun
  | [d1, d2, d3] => { results := [.lit (.bool false)], args := [d1, d2, d3] }
  | _ => none }
def FnExactFitWindowWrongFalsely : Prop := fnExactFitWindowRow.holds Try.pinned (OpenSpec.ofChange fnExactFitWindowWrong)

/-- 'laws.FnExactRunJobs': WHATEVER THE INPUT: true; the input reads as it did. -/
def fnExactRunJobsSpec : ChangeSpec := { name := "fnExactRunJobs", fn := fun _ => fun
  | [d1, d2, d3] => { results := [.lit (.bool true)], args := [d1, d2, d3] }
  | _ => none }
def fnExactRunJobsRow : OpenClaim := { program := "ytlkphaahkhfgoaa", sum := "d2f03c4d1c01303ba9b087af1b6d245801187330878b2115584b8037a302f2dc", func := "loop.example/g00063/laws.FnExactRunJobs", spec := "fnExactRunJobs", unfollowed := true, recurses := true, apart := false }
def FnExactRunJobsSaid : Prop := fnExactRunJobsRow.holds Try.pinned (OpenSpec.ofChange fnExactRunJobsSpec)

/-- ITS FALSE NEIGHBOUR: 'it returns false'. Refute it at one input. -/
def fnExactRunJobsWrong : ChangeSpec := { name := "fnExactRunJobs", fn := fun _ => fun
  | [d1, d2, d3] => { results := [.lit (.bool false)], args := [d1, d2, d3] }
  | _ => none }
def FnExactRunJobsWrongFalsely : Prop := fnExactRunJobsRow.holds Try.pinned (OpenSpec.ofChange fnExactRunJobsWrong)

/-- 'laws.FnWindows': WHATEVER THE INPUT: true; the input reads as it did. -/
def fnWindowsSpec : ChangeSpec := { name := "fnWindows", fn := fun _ => fun
  | [d] => { results := [.lit (.bool true)], args := [d] }
  | _ => none }
def fnWindowsRow : OpenClaim := { program := "ytlkphaahkhfgoaa", sum := "d2f03c4d1c01303ba9b087af1b6d245801187330878b2115584b8037a302f2dc", func := "loop.example/g00063/laws.FnWindows", spec := "fnWindows", inPlace := ["slices.overlaps[loop.example/g00063/impl.Window]"], unfollowed := true, recurses := true, apart := false }
def FnWindowsSaid : Prop := fnWindowsRow.holds Try.pinned (OpenSpec.ofChange fnWindowsSpec)

/-- ITS FALSE NEIGHBOUR: 'it returns false'. Refute it at one input. -/
def fnWindowsWrong : ChangeSpec := { name := "fnWindows", fn := fun _ => fun
  | [d] => { results := [.lit (.bool false)], args := [d] }
  | _ => none }
def FnWindowsWrongFalsely : Prop := fnWindowsRow.holds Try.pinned (OpenSpec.ofChange fnWindowsWrong)

/- THE SECOND FORM. 'bulk': how many values and letters a reading holds, each counted each time it is reached (what is shared counts as often as it is met; a slice's spare places count too). A statement '..UptoSaid' is the law's where the arguments, and the package variables that the reading takes, are together of bulk at most 1048576: NARROWER than '..Said'. Prove '..Said' where nothing that the law and all that it calls make is longer than what came in: it says more and counts as full. Else prove '..UptoSaid'. A law counts once. -/
mutual
def uptoBulk {H : Type} : DataW H → Nat
  | .lit (.string bytes) => bytes.length + 1
  | .lit _ => 1
  | .nil => 1
  | .ptr d => uptoBulk d + 1
  | .slice elems spare => uptoBulkAll elems + uptoBulkAll spare + 1
  | .agg parts => uptoBulkAll parts + 1
  | .iface _ d => uptoBulk d + 1
  | .map entries => uptoBulkEntries entries + 1
  | .held _ => 1
def uptoBulkAll {H : Type} : List (DataW H) → Nat
  | [] => 0
  | d :: r => uptoBulk d + uptoBulkAll r
def uptoBulkEntries {H : Type} : List (Lit × DataW H) → Nat
  | [] => 0
  | x :: r => uptoBulkEntry x + uptoBulkEntries r
def uptoBulkEntry {H : Type} : Lit × DataW H → Nat
  | (.string bytes, d) => bytes.length + uptoBulk d + 1
  | (_, d) => uptoBulk d + 1
 end
def uptoSmall : (H : Type) → List (DataW H) → Bool := fun _ ds => decide (uptoBulkAll ds ≤ 1048576)
def OpenSpec.upto (s : _root_.Go.ChangeSpec) : _root_.Go.OpenSpec := { _root_.Go.OpenSpec.ofChange s with cond := some uptoSmall }

/-- 'laws.FnExactPlanOk', WHERE WHAT IT READS IS OF BULK AT MOST 1048576: true; the input reads as it did. -/
def fnExactPlanOkUptoRow : OpenClaim := { program := "ytlkphaahkhfgoaa", sum := "d2f03c4d1c01303ba9b087af1b6d245801187330878b2115584b8037a302f2dc", func := "loop.example/g00063/laws.FnExactPlanOk", spec := "fnExactPlanOk", apart := false, narrowed := true }
def FnExactPlanOkUptoSaid : Prop := fnExactPlanOkUptoRow.holds Try.pinned (OpenSpec.upto fnExactPlanOkSpec)

/-- 'laws.FnExactOwner', WHERE WHAT IT READS IS OF BULK AT MOST 1048576: true; the input reads as it did. -/
def fnExactOwnerUptoRow : OpenClaim := { program := "ytlkphaahkhfgoaa", sum := "d2f03c4d1c01303ba9b087af1b6d245801187330878b2115584b8037a302f2dc", func := "loop.example/g00063/laws.FnExactOwner", spec := "fnExactOwner", apart := false, narrowed := true }
def FnExactOwnerUptoSaid : Prop := fnExactOwnerUptoRow.holds Try.pinned (OpenSpec.upto fnExactOwnerSpec)

/-- 'laws.FnExactShare', WHERE WHAT IT READS IS OF BULK AT MOST 1048576: true; the input reads as it did. -/
def fnExactShareUptoRow : OpenClaim := { program := "ytlkphaahkhfgoaa", sum := "d2f03c4d1c01303ba9b087af1b6d245801187330878b2115584b8037a302f2dc", func := "loop.example/g00063/laws.FnExactShare", spec := "fnExactShare", unfollowed := true, recurses := true, apart := false, narrowed := true }
def FnExactShareUptoSaid : Prop := fnExactShareUptoRow.holds Try.pinned (OpenSpec.upto fnExactShareSpec)

/-- 'laws.FnExactFitWindow', WHERE WHAT IT READS IS OF BULK AT MOST 1048576: true; the input reads as it did. -/
def fnExactFitWindowUptoRow : OpenClaim := { program := "ytlkphaahkhfgoaa", sum := "d2f03c4d1c01303ba9b087af1b6d245801187330878b2115584b8037a302f2dc", func := "loop.example/g00063/laws.FnExactFitWindow", spec := "fnExactFitWindow", inPlace := ["slices.overlaps[loop.example/g00063/impl.Window]"], apart := false, narrowed := true }
def FnExactFitWindowUptoSaid : Prop := fnExactFitWindowUptoRow.holds Try.pinned (OpenSpec.upto fnExactFitWindowSpec)

/-- 'laws.FnExactRunJobs', WHERE WHAT IT READS IS OF BULK AT MOST 1048576: true; the input reads as it did. -/
def fnExactRunJobsUptoRow : OpenClaim := { program := "ytlkphaahkhfgoaa", sum := "d2f03c4d1c01303ba9b087af1b6d245801187330878b2115584b8037a302f2dc", func := "loop.example/g00063/laws.FnExactRunJobs", spec := "fnExactRunJobs", unfollowed := true, recurses := true, apart := false, narrowed := true }
def FnExactRunJobsUptoSaid : Prop := fnExactRunJobsUptoRow.holds Try.pinned (OpenSpec.upto fnExactRunJobsSpec)

/-- 'laws.FnWindows', WHERE WHAT IT READS IS OF BULK AT MOST 1048576: true; the input reads as it did. -/
def fnWindowsUptoRow : OpenClaim := { program := "ytlkphaahkhfgoaa", sum := "d2f03c4d1c01303ba9b087af1b6d245801187330878b2115584b8037a302f2dc", func := "loop.example/g00063/laws.FnWindows", spec := "fnWindows", inPlace := ["slices.overlaps[loop.example/g00063/impl.Window]"], unfollowed := true, recurses := true, apart := false, narrowed := true }
def FnWindowsUptoSaid : Prop := fnWindowsUptoRow.holds Try.pinned (OpenSpec.upto fnWindowsSpec)

end Rows
end Go.Proofs.Ytlkphaahkhfgoaa
