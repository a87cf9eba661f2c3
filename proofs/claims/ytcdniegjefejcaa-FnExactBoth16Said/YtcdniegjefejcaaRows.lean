/-
  No cell of these rows narrows 'for every input' (looked for: loops, veiled, ifaces, maps, wideKeys, modest, calm, conditions, laid).
  DERIVED. THE GIVEN ROWS OF THIS SEAT. 11 by the template 'for every input the law returns true; each argument reads behind the call as it read before'; 0 by the template 'total and deterministic' (their statements: YtcdniegjefejcaaTotals.lean).
  GIVEN WITH THE SEED: the statements are not yours to turn. If you find one false, say at which input.
  Laid BY PROGRAM, IN A SANDBOX (cutbox-rows.mjs): the forced cells as the released guide's own fill.sh prints them over the translation bc0c9ba936b721da… (all of the seat's roots in one cut). By AI agents, Wed Nov 11 2026. No macro, syntax, notation, axiom, sorry.
-/
import Derived.Test.YtcdniegjefejcaaChecked
import GoSem.Claim
import GoSem.ClaimJoined
import GoSem.ClaimMapViews
import Derived.JoinedTies
import Derived.KernelRfl
namespace Go.Proofs.Ytcdniegjefejcaa
/- THE CELL 'sum', in the pinned program and in every row, IS THE sha256 OF THE DUMP (.gsa) THAT YtcdniegjefejcaaProg.lean LOADS. Nothing in Lean hashes anything: it is a label: what it is worth is what the hold of that sum in a sandbox is worth. -/
noncomputable def Try.pinned : Pinned := { name := "ytcdniegjefejcaa", sum := "bc0c9ba936b721da7c13a142344ae4c0a9ca2163ac5a5a7081a2e485e9f7b521", checked := Try.checked }
namespace Rows
def none {H : Type} : Left H := { results := [], args := [] }

/-- 'laws.FnExactReceiverOk': WHATEVER THE INPUT: true; the input reads as it did. -/
def fnExactReceiverOkSpec : ChangeSpec := { name := "fnExactReceiverOk", fn := fun _ => fun
  | [d] => { results := [.lit (.bool true)], args := [d] }
  | _ => none }
def fnExactReceiverOkRow : OpenClaim := { program := "ytcdniegjefejcaa", sum := "bc0c9ba936b721da7c13a142344ae4c0a9ca2163ac5a5a7081a2e485e9f7b521", func := "loop.example/g00063/laws.FnExactReceiverOk", spec := "fnExactReceiverOk", apart := false }
def FnExactReceiverOkSaid : Prop := fnExactReceiverOkRow.holds Try.pinned (OpenSpec.ofChange fnExactReceiverOkSpec)

/-- ITS FALSE NEIGHBOUR: 'it returns false'. Refute it at one input. -/
def fnExactReceiverOkWrong : ChangeSpec := { name := "fnExactReceiverOk", fn := fun _ => fun
  | [d] => { results := [.lit (.bool false)], args := [d] }
  | _ => none }
def FnExactReceiverOkWrongFalsely : Prop := fnExactReceiverOkRow.holds Try.pinned (OpenSpec.ofChange fnExactReceiverOkWrong)

/-- 'laws.FnSlots': WHATEVER THE INPUT: true; the input reads as it did. -/
def fnSlotsSpec : ChangeSpec := { name := "fnSlots", fn := fun _ => fun
  | [d] => { results := [.lit (.bool true)], args := [d] }
  | _ => none }
def fnSlotsRow : OpenClaim := { program := "ytcdniegjefejcaa", sum := "bc0c9ba936b721da7c13a142344ae4c0a9ca2163ac5a5a7081a2e485e9f7b521", func := "loop.example/g00063/laws.FnSlots", spec := "fnSlots", apart := false }
def FnSlotsSaid : Prop := fnSlotsRow.holds Try.pinned (OpenSpec.ofChange fnSlotsSpec)

/-- ITS FALSE NEIGHBOUR: 'it returns false'. Refute it at one input. -/
def fnSlotsWrong : ChangeSpec := { name := "fnSlots", fn := fun _ => fun
  | [d] => { results := [.lit (.bool false)], args := [d] }
  | _ => none }
def FnSlotsWrongFalsely : Prop := fnSlotsRow.holds Try.pinned (OpenSpec.ofChange fnSlotsWrong)

/-- 'laws.FnExactSlot16': WHATEVER THE INPUT: true; the input reads as it did. -/
def fnExactSlot16Spec : ChangeSpec := { name := "fnExactSlot16", fn := fun _ => fun
  | [d1, d2] => { results := [.lit (.bool true)], args := [d1, d2] }
  | _ => none }
def fnExactSlot16Row : OpenClaim := { program := "ytcdniegjefejcaa", sum := "bc0c9ba936b721da7c13a142344ae4c0a9ca2163ac5a5a7081a2e485e9f7b521", func := "loop.example/g00063/laws.FnExactSlot16", spec := "fnExactSlot16", apart := false }
def FnExactSlot16Said : Prop := fnExactSlot16Row.holds Try.pinned (OpenSpec.ofChange fnExactSlot16Spec)

/-- ITS FALSE NEIGHBOUR: 'it returns false'. Refute it at one input. -/
def fnExactSlot16Wrong : ChangeSpec := { name := "fnExactSlot16", fn := fun _ => fun
  | [d1, d2] => { results := [.lit (.bool false)], args := [d1, d2] }
  | _ => none }
def FnExactSlot16WrongFalsely : Prop := fnExactSlot16Row.holds Try.pinned (OpenSpec.ofChange fnExactSlot16Wrong)

/-- 'laws.FnExactWordOk': WHATEVER THE INPUT: true; the input reads as it did. -/
def fnExactWordOkSpec : ChangeSpec := { name := "fnExactWordOk", fn := fun _ => fun
  | [d] => { results := [.lit (.bool true)], args := [d] }
  | _ => none }
def fnExactWordOkRow : OpenClaim := { program := "ytcdniegjefejcaa", sum := "bc0c9ba936b721da7c13a142344ae4c0a9ca2163ac5a5a7081a2e485e9f7b521", func := "loop.example/g00063/laws.FnExactWordOk", spec := "fnExactWordOk", apart := false }
def FnExactWordOkSaid : Prop := fnExactWordOkRow.holds Try.pinned (OpenSpec.ofChange fnExactWordOkSpec)

/-- ITS FALSE NEIGHBOUR: 'it returns false'. Refute it at one input. -/
def fnExactWordOkWrong : ChangeSpec := { name := "fnExactWordOk", fn := fun _ => fun
  | [d] => { results := [.lit (.bool false)], args := [d] }
  | _ => none }
def FnExactWordOkWrongFalsely : Prop := fnExactWordOkRow.holds Try.pinned (OpenSpec.ofChange fnExactWordOkWrong)

/-- 'laws.FnTwice': WHATEVER THE INPUT: true; the input reads as it did. -/
def fnTwiceSpec : ChangeSpec := { name := "fnTwice", fn := fun _ => fun
  | [d] => { results := [.lit (.bool true)], args := [d] }
  | _ => none }
def fnTwiceRow : OpenClaim := { program := "ytcdniegjefejcaa", sum := "bc0c9ba936b721da7c13a142344ae4c0a9ca2163ac5a5a7081a2e485e9f7b521", func := "loop.example/g00063/laws.FnTwice", spec := "fnTwice", unfollowed := true, recurses := true, apart := false }
def FnTwiceSaid : Prop := fnTwiceRow.holds Try.pinned (OpenSpec.ofChange fnTwiceSpec)

/-- ITS FALSE NEIGHBOUR: 'it returns false'. Refute it at one input. -/
def fnTwiceWrong : ChangeSpec := { name := "fnTwice", fn := fun _ => fun
  | [d] => { results := [.lit (.bool false)], args := [d] }
  | _ => none }
def FnTwiceWrongFalsely : Prop := fnTwiceRow.holds Try.pinned (OpenSpec.ofChange fnTwiceWrong)

/-- 'laws.FnExactGap16': WHATEVER THE INPUT: true; the input reads as it did. -/
def fnExactGap16Spec : ChangeSpec := { name := "fnExactGap16", fn := fun _ => fun
  | [d1, d2] => { results := [.lit (.bool true)], args := [d1, d2] }
  | _ => none }
def fnExactGap16Row : OpenClaim := { program := "ytcdniegjefejcaa", sum := "bc0c9ba936b721da7c13a142344ae4c0a9ca2163ac5a5a7081a2e485e9f7b521", func := "loop.example/g00063/laws.FnExactGap16", spec := "fnExactGap16", apart := false }
def FnExactGap16Said : Prop := fnExactGap16Row.holds Try.pinned (OpenSpec.ofChange fnExactGap16Spec)

/-- ITS FALSE NEIGHBOUR: 'it returns false'. Refute it at one input. -/
def fnExactGap16Wrong : ChangeSpec := { name := "fnExactGap16", fn := fun _ => fun
  | [d1, d2] => { results := [.lit (.bool false)], args := [d1, d2] }
  | _ => none }
def FnExactGap16WrongFalsely : Prop := fnExactGap16Row.holds Try.pinned (OpenSpec.ofChange fnExactGap16Wrong)

/-- 'laws.FnExactPut16': WHATEVER THE INPUT: true; the input reads as it did. -/
def fnExactPut16Spec : ChangeSpec := { name := "fnExactPut16", fn := fun _ => fun
  | [d] => { results := [.lit (.bool true)], args := [d] }
  | _ => none }
def fnExactPut16Row : OpenClaim := { program := "ytcdniegjefejcaa", sum := "bc0c9ba936b721da7c13a142344ae4c0a9ca2163ac5a5a7081a2e485e9f7b521", func := "loop.example/g00063/laws.FnExactPut16", spec := "fnExactPut16", apart := false }
def FnExactPut16Said : Prop := fnExactPut16Row.holds Try.pinned (OpenSpec.ofChange fnExactPut16Spec)

/-- ITS FALSE NEIGHBOUR: 'it returns false'. Refute it at one input. -/
def fnExactPut16Wrong : ChangeSpec := { name := "fnExactPut16", fn := fun _ => fun
  | [d] => { results := [.lit (.bool false)], args := [d] }
  | _ => none }
def FnExactPut16WrongFalsely : Prop := fnExactPut16Row.holds Try.pinned (OpenSpec.ofChange fnExactPut16Wrong)

/-- 'laws.FnFrames': WHATEVER THE INPUT: true; the input reads as it did. -/
def fnFramesSpec : ChangeSpec := { name := "fnFrames", fn := fun _ => fun
  | [d] => { results := [.lit (.bool true)], args := [d] }
  | _ => none }
def fnFramesRow : OpenClaim := { program := "ytcdniegjefejcaa", sum := "bc0c9ba936b721da7c13a142344ae4c0a9ca2163ac5a5a7081a2e485e9f7b521", func := "loop.example/g00063/laws.FnFrames", spec := "fnFrames", apart := false }
def FnFramesSaid : Prop := fnFramesRow.holds Try.pinned (OpenSpec.ofChange fnFramesSpec)

/-- ITS FALSE NEIGHBOUR: 'it returns false'. Refute it at one input. -/
def fnFramesWrong : ChangeSpec := { name := "fnFrames", fn := fun _ => fun
  | [d] => { results := [.lit (.bool false)], args := [d] }
  | _ => none }
def FnFramesWrongFalsely : Prop := fnFramesRow.holds Try.pinned (OpenSpec.ofChange fnFramesWrong)

/-- 'laws.FnExactAccept': WHATEVER THE INPUT: true; the input reads as it did. -/
def fnExactAcceptSpec : ChangeSpec := { name := "fnExactAccept", fn := fun _ => fun
  | [d1, d2] => { results := [.lit (.bool true)], args := [d1, d2] }
  | _ => none }
def fnExactAcceptRow : OpenClaim := { program := "ytcdniegjefejcaa", sum := "bc0c9ba936b721da7c13a142344ae4c0a9ca2163ac5a5a7081a2e485e9f7b521", func := "loop.example/g00063/laws.FnExactAccept", spec := "fnExactAccept", apart := false }
def FnExactAcceptSaid : Prop := fnExactAcceptRow.holds Try.pinned (OpenSpec.ofChange fnExactAcceptSpec)

/-- ITS FALSE NEIGHBOUR: 'it returns false'. Refute it at one input. -/
def fnExactAcceptWrong : ChangeSpec := { name := "fnExactAccept", fn := fun _ => fun
  | [d1, d2] => { results := [.lit (.bool false)], args := [d1, d2] }
  | _ => none }
def FnExactAcceptWrongFalsely : Prop := fnExactAcceptRow.holds Try.pinned (OpenSpec.ofChange fnExactAcceptWrong)

/-- 'laws.FnExactGet16': WHATEVER THE INPUT: true; the input reads as it did. -/
def fnExactGet16Spec : ChangeSpec := { name := "fnExactGet16", fn := fun _ => fun
  | [d] => { results := [.lit (.bool true)], args := [d] }
  | _ => none }
def fnExactGet16Row : OpenClaim := { program := "ytcdniegjefejcaa", sum := "bc0c9ba936b721da7c13a142344ae4c0a9ca2163ac5a5a7081a2e485e9f7b521", func := "loop.example/g00063/laws.FnExactGet16", spec := "fnExactGet16", apart := false }
def FnExactGet16Said : Prop := fnExactGet16Row.holds Try.pinned (OpenSpec.ofChange fnExactGet16Spec)

/-- ITS FALSE NEIGHBOUR: 'it returns false'. Refute it at one input. -/
def fnExactGet16Wrong : ChangeSpec := { name := "fnExactGet16", fn := fun _ => fun
  | [d] => { results := [.lit (.bool false)], args := [d] }
  | _ => none }
def FnExactGet16WrongFalsely : Prop := fnExactGet16Row.holds Try.pinned (OpenSpec.ofChange fnExactGet16Wrong)

/-- 'laws.FnExactBoth16': WHATEVER THE INPUT: true; the input reads as it did. -/
def fnExactBoth16Spec : ChangeSpec := { name := "fnExactBoth16", fn := fun _ => fun
  | [d1, d2, d3] => { results := [.lit (.bool true)], args := [d1, d2, d3] }
  | _ => none }
def fnExactBoth16Row : OpenClaim := { program := "ytcdniegjefejcaa", sum := "bc0c9ba936b721da7c13a142344ae4c0a9ca2163ac5a5a7081a2e485e9f7b521", func := "loop.example/g00063/laws.FnExactBoth16", spec := "fnExactBoth16", unfollowed := true, recurses := true, apart := false }
def FnExactBoth16Said : Prop := fnExactBoth16Row.holds Try.pinned (OpenSpec.ofChange fnExactBoth16Spec)

/-- ITS FALSE NEIGHBOUR: 'it returns false'. Refute it at one input. -/
def fnExactBoth16Wrong : ChangeSpec := { name := "fnExactBoth16", fn := fun _ => fun
  | [d1, d2, d3] => { results := [.lit (.bool false)], args := [d1, d2, d3] }
  | _ => none }
def FnExactBoth16WrongFalsely : Prop := fnExactBoth16Row.holds Try.pinned (OpenSpec.ofChange fnExactBoth16Wrong)

/- THE SECOND FORM. 'bulk': how many values and letters a reading holds, each counted each time it is reached (what is shared counts as often as it is met; a slice's spare places count too). A statement '..UptoSaid' is the law's where the arguments, and the package variables that the reading takes, are together of bulk at most 1048576: NARROWER than '..Said'. Prove '..Said' where nothing that the law and all that it calls make is longer than what came in: it says more and counts as full. Else prove '..UptoSaid'. A law counts once. -/
mutual
def uptoBulk {H : Type} : DataW H → Nat
  | .lit (.string bytes) => bytes.length + 1
  | .lit _ => 1
  | .nil => 1
  | .ptr d => uptoBulk d + 1
  | .slice elems spare => uptoBulkAll elems + uptoBulkAll spare + 1
  | .agg parts => uptoBulkAll parts + 1
  | .iface _ d => uptoBulk d + 1
  | .map entries => uptoBulkEntries entries + 1
  | .held _ => 1
def uptoBulkAll {H : Type} : List (DataW H) → Nat
  | [] => 0
  | d :: r => uptoBulk d + uptoBulkAll r
def uptoBulkEntries {H : Type} : List (Lit × DataW H) → Nat
  | [] => 0
  | x :: r => uptoBulkEntry x + uptoBulkEntries r
def uptoBulkEntry {H : Type} : Lit × DataW H → Nat
  | (.string bytes, d) => bytes.length + uptoBulk d + 1
  | (_, d) => uptoBulk d + 1
 end
def uptoSmall : (H : Type) → List (DataW H) → Bool := fun _ ds => decide (uptoBulkAll ds ≤ 1048576)
def OpenSpec.upto (s : _root_.Go.ChangeSpec) : _root_.Go.OpenSpec := { _root_.Go.OpenSpec.ofChange s with cond := some uptoSmall }

/-- 'laws.FnExactReceiverOk', WHERE WHAT IT READS IS OF BULK AT MOST 1048576: true; the input reads as it did. -/
def fnExactReceiverOkUptoRow : OpenClaim := { program := "ytcdniegjefejcaa", sum := "bc0c9ba936b721da7c13a142344ae4c0a9ca2163ac5a5a7081a2e485e9f7b521", func := "loop.example/g00063/laws.FnExactReceiverOk", spec := "fnExactReceiverOk", apart := false, narrowed := true }
def FnExactReceiverOkUptoSaid : Prop := fnExactReceiverOkUptoRow.holds Try.pinned (OpenSpec.upto fnExactReceiverOkSpec)

/-- 'laws.FnSlots', WHERE WHAT IT READS IS OF BULK AT MOST 1048576: true; the input reads as it did. -/
def fnSlotsUptoRow : OpenClaim := { program := "ytcdniegjefejcaa", sum := "bc0c9ba936b721da7c13a142344ae4c0a9ca2163ac5a5a7081a2e485e9f7b521", func := "loop.example/g00063/laws.FnSlots", spec := "fnSlots", apart := false, narrowed := true }
def FnSlotsUptoSaid : Prop := fnSlotsUptoRow.holds Try.pinned (OpenSpec.upto fnSlotsSpec)

/-- 'laws.FnExactSlot16', WHERE WHAT IT READS IS OF BULK AT MOST 1048576: true; the input reads as it did. -/
def fnExactSlot16UptoRow : OpenClaim := { program := "ytcdniegjefejcaa", sum := "bc0c9ba936b721da7c13a142344ae4c0a9ca2163ac5a5a7081a2e485e9f7b521", func := "loop.example/g00063/laws.FnExactSlot16", spec := "fnExactSlot16", apart := false, narrowed := true }
def FnExactSlot16UptoSaid : Prop := fnExactSlot16UptoRow.holds Try.pinned (OpenSpec.upto fnExactSlot16Spec)

/-- 'laws.FnExactWordOk', WHERE WHAT IT READS IS OF BULK AT MOST 1048576: true; the input reads as it did. -/
def fnExactWordOkUptoRow : OpenClaim := { program := "ytcdniegjefejcaa", sum := "bc0c9ba936b721da7c13a142344ae4c0a9ca2163ac5a5a7081a2e485e9f7b521", func := "loop.example/g00063/laws.FnExactWordOk", spec := "fnExactWordOk", apart := false, narrowed := true }
def FnExactWordOkUptoSaid : Prop := fnExactWordOkUptoRow.holds Try.pinned (OpenSpec.upto fnExactWordOkSpec)

/-- 'laws.FnTwice', WHERE WHAT IT READS IS OF BULK AT MOST 1048576: true; the input reads as it did. -/
def fnTwiceUptoRow : OpenClaim := { program := "ytcdniegjefejcaa", sum := "bc0c9ba936b721da7c13a142344ae4c0a9ca2163ac5a5a7081a2e485e9f7b521", func := "loop.example/g00063/laws.FnTwice", spec := "fnTwice", unfollowed := true, recurses := true, apart := false, narrowed := true }
def FnTwiceUptoSaid : Prop := fnTwiceUptoRow.holds Try.pinned (OpenSpec.upto fnTwiceSpec)

/-- 'laws.FnExactGap16', WHERE WHAT IT READS IS OF BULK AT MOST 1048576: true; the input reads as it did. -/
def fnExactGap16UptoRow : OpenClaim := { program := "ytcdniegjefejcaa", sum := "bc0c9ba936b721da7c13a142344ae4c0a9ca2163ac5a5a7081a2e485e9f7b521", func := "loop.example/g00063/laws.FnExactGap16", spec := "fnExactGap16", apart := false, narrowed := true }
def FnExactGap16UptoSaid : Prop := fnExactGap16UptoRow.holds Try.pinned (OpenSpec.upto fnExactGap16Spec)

/-- 'laws.FnExactPut16', WHERE WHAT IT READS IS OF BULK AT MOST 1048576: true; the input reads as it did. -/
def fnExactPut16UptoRow : OpenClaim := { program := "ytcdniegjefejcaa", sum := "bc0c9ba936b721da7c13a142344ae4c0a9ca2163ac5a5a7081a2e485e9f7b521", func := "loop.example/g00063/laws.FnExactPut16", spec := "fnExactPut16", apart := false, narrowed := true }
def FnExactPut16UptoSaid : Prop := fnExactPut16UptoRow.holds Try.pinned (OpenSpec.upto fnExactPut16Spec)

/-- 'laws.FnFrames', WHERE WHAT IT READS IS OF BULK AT MOST 1048576: true; the input reads as it did. -/
def fnFramesUptoRow : OpenClaim := { program := "ytcdniegjefejcaa", sum := "bc0c9ba936b721da7c13a142344ae4c0a9ca2163ac5a5a7081a2e485e9f7b521", func := "loop.example/g00063/laws.FnFrames", spec := "fnFrames", apart := false, narrowed := true }
def FnFramesUptoSaid : Prop := fnFramesUptoRow.holds Try.pinned (OpenSpec.upto fnFramesSpec)

/-- 'laws.FnExactAccept', WHERE WHAT IT READS IS OF BULK AT MOST 1048576: true; the input reads as it did. -/
def fnExactAcceptUptoRow : OpenClaim := { program := "ytcdniegjefejcaa", sum := "bc0c9ba936b721da7c13a142344ae4c0a9ca2163ac5a5a7081a2e485e9f7b521", func := "loop.example/g00063/laws.FnExactAccept", spec := "fnExactAccept", apart := false, narrowed := true }
def FnExactAcceptUptoSaid : Prop := fnExactAcceptUptoRow.holds Try.pinned (OpenSpec.upto fnExactAcceptSpec)

/-- 'laws.FnExactGet16', WHERE WHAT IT READS IS OF BULK AT MOST 1048576: true; the input reads as it did. -/
def fnExactGet16UptoRow : OpenClaim := { program := "ytcdniegjefejcaa", sum := "bc0c9ba936b721da7c13a142344ae4c0a9ca2163ac5a5a7081a2e485e9f7b521", func := "loop.example/g00063/laws.FnExactGet16", spec := "fnExactGet16", apart := false, narrowed := true }
def FnExactGet16UptoSaid : Prop := fnExactGet16UptoRow.holds Try.pinned (OpenSpec.upto fnExactGet16Spec)

/-- 'laws.FnExactBoth16', WHERE WHAT IT READS IS OF BULK AT MOST 1048576: true; the input reads as it did. -/
def fnExactBoth16UptoRow : OpenClaim := { program := "ytcdniegjefejcaa", sum := "bc0c9ba936b721da7c13a142344ae4c0a9ca2163ac5a5a7081a2e485e9f7b521", func := "loop.example/g00063/laws.FnExactBoth16", spec := "fnExactBoth16", unfollowed := true, recurses := true, apart := false, narrowed := true }
def FnExactBoth16UptoSaid : Prop := fnExactBoth16UptoRow.holds Try.pinned (OpenSpec.upto fnExactBoth16Spec)

end Rows
end Go.Proofs.Ytcdniegjefejcaa
