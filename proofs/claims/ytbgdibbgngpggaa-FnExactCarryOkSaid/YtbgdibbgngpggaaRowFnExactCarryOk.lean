/- The program's CarryOk answers as the reference's at every argument. No condition. -/
import Derived.Test.YtbgdibbgngpggaaRows
import Derived.Test.YtbgdibbgngpggaaPFnExactCarryOkx5
import Derived.Test.YtbgdibbgngpggaaPureFnExactCarryOk
import Derived.Test.YtbgdibbgngpggaaOpens
import Derived.WalkKit
import Derived.ProofKit
import Derived.OpenShut
import Derived.ShutString
import Derived.ChangeOld
import Derived.Below
import Derived.SizedLaws
namespace Go.Proofs.Ytbgdibbgngpggaa.fnExactCarryOk
open Go.ChangeShapes Go.WideShapes Go.ChangeAt Go.RowKit
open Go.ChangeMaps (open_string shut_string)
open Go.Proofs.YtbgdibbgngpggaaW.PrintWords Go.Proofs.Ytbgdibbgngpggaa.Opens
set_option linter.unusedVariables false
theorem own : ownKnob Try.prog.godebug = none := by kernel_rfl
theorem laidOut : laidOutB Try.prog = true := by kernel_rfl
set_option maxRecDepth 100000 in
theorem lifted (os : Os) (started : os.Started) (H : Type) (enc : TypeId × Value → H) :
    ReturnsInHanded {} Try.checked os 5 .any (Rows.fnExactCarryOkSpec.pre6 enc Try.prog Try.f5 Rows.fnExactCarryOkRow.domain false) (Rows.fnExactCarryOkSpec.post enc Try.prog Try.f5 false true false false) := by
  refine returnsInHanded_of_change_sized (C := Try.checked) own started (by kernel_rfl) Try.func5
    (ChangeSpec.witness6 (enc := enc) (C := Try.checked) false ⟨#[], #[.slice none 0 0], []⟩ 8 (by kernel_rfl) (by kernel_rfl) (by kernel_rfl) (by kernel_rfl)) ?_
  intro W base args ds gs before hval0 hW hcnd hsz0 _
  have hsz : (DataW.weightsEach Try.prog (Try.f5.params.toList ++ Rows.fnExactCarryOkSpec.plain.varTypes Try.prog) (ds ++ gs)).all (· ≤ reachBytes) = true := hsz0
  have hval : ∀ (j : Nat) t v, Try.f5.params[j]? = some t → args[j]? = some v → Value.okWide Try.prog W .any base t v := hval0
  have hW' := hW
  obtain ⟨p, q, hA0, hV, rfl, hfz, hnd⟩ := hW
  have hA : DataW.TrodAll enc Try.prog W 0 (fun _ => true) true Try.f5.params.toList args.toList ds p := hA0
  rw [Try.params5] at hA hval hsz
  obtain ⟨v0, vs0, d0, ds0, p0, q0, hargs, rfl, rfl, h0, r0⟩ := trodAll_cons hA
  obtain ⟨rfl, rfl, rfl⟩ := trodAll_nil r0
  obtain rfl : args = #[v0] := by cases args; simp_all
  obtain ⟨rfl, rfl⟩ := trodVars_none hV
  have k0 := h0
  have lt0 : ∀ x ∈ p0, x.block < W.heap.size := by obtain ⟨m, hm⟩ := k0; exact DataW.trod_lt m _ _ _ hm
  have z0 : ∀ n ∈ d0.weights Try.prog 36, n ≤ reachBytes := fun n hn => by simpa using List.all_eq_true.1 hsz n (DataW.weights_mem_each (j := 0) rfl rfl n hn)
  obtain ⟨fuel0, hf0⟩ := h0
  obtain ⟨A0, ln0, c0, rfl⟩ := okWide_slice Try.underlying36 (hval 0 36 v0 rfl rfl)
  obtain ⟨l0, hK0, g0⟩ := (opens_slice Try.underlying36 (by kernel_rfl) (opens_iso (d' := PFnExactCarryOk.k92) (g := fun t : ByteArray × Int × Int => (⟨t.1, t.2.1, t.2.2⟩ : PFnExactCarryOk.S92)) (good' := fun x => (x.f0.size ≤ 140737488351232 ∧ (Lit.int .i64 x.f1).wf = true ∧ (Lit.int .i64 x.f2).wf = true)) (fun _ _ _ h => h) rfl (opens_struct Try.underlying92 (by kernel_rfl) (fs_cons (opens_string Try.underlying9) rfl (by kernel_rfl) (fs_cons (opens_int Try.underlying3) rfl (by kernel_rfl) (fs_last (opens_int Try.underlying3) rfl (by kernel_rfl))))) (fun _ h => h)) 92 (B := 32) (by kernel_rfl)) enc W 0 _ _ fuel0 _ _ hf0 z0
  obtain ⟨A0', c0', e0, hc0, hr0⟩ := hK0
  simp only [Value.cells, List.cons.injEq, Value.slice.injEq, and_true] at e0
  obtain ⟨rfl, rfl, rfl⟩ := e0
  clear hA0 hval0 hsz0 hsz
  obtain ⟨k, h⟩ := Pure.FnExactCarryOk l0 g0
  refine (PFnExactCarryOk.laws_FnExactCarryOk.calls k A0 c0 l0 true W hr0 hc0 h).mono fun e W' ⟨he, bel⟩ => ?_
  subst he
  exact ⟨_, rfl, _, _, _, [], _, [], hW', trodAll_mk1 (shut_bool Try.underlying4 _), (trodAll_cons_mk (Below.trod laidOut (by kernel_rfl) (of_decide_eq_true (by kernel_rfl)) k0 bel lt0) trodAll_mk0), rfl, bel.frame _, fun h => by cases h⟩
theorem over : Rows.fnExactCarryOkRow.holds Try.pinned (OpenSpec.ofChange Rows.fnExactCarryOkSpec) :=
  OpenClaim.holds_of_wide 5 Try.f5 rfl rfl rfl rfl rfl rfl rfl ⟨rfl, rfl, rfl, rfl, rfl⟩ rfl rfl rfl rfl rfl (by kernel_rfl) Try.func5 (by kernel_rfl)
    (of_decide_eq_true (by kernel_rfl)) (by unfold Func.isWrapper; first | (rw [if_pos (by decide +kernel)]; kernel_rfl) | (rw [if_neg (by decide +kernel)]; exact ⟨rfl, rfl⟩))
    (fun os started H enc _ => lifted os started H enc)
theorem proved : Rows.FnExactCarryOkSaid := over
#print axioms proved
end Go.Proofs.Ytbgdibbgngpggaa.fnExactCarryOk
namespace Go.Proofs.Ytbgdibbgngpggaa
/-- The row, under a short name, for the claim. -/
theorem fnExactCarryOk_holds : Rows.FnExactCarryOkSaid := fnExactCarryOk.proved
end Go.Proofs.Ytbgdibbgngpggaa
