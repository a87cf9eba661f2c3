/- The program's DoWork answers as the reference's at every argument, writes into no argument and owns its answer. No condition. -/
import Derived.Test.YtdimdlifjdbgnaaRows
import Derived.Test.YtdimdlifjdbgnaaPFnExactDoWorkx20
import Derived.Test.YtdimdlifjdbgnaaPureFnExactDoWork
import Derived.Test.YtdimdlifjdbgnaaOpens
import Derived.WalkKit
import Derived.ProofKit
import Derived.OpenShut
import Derived.ShutString
import Derived.ChangeOld
import Derived.Below
import Derived.SizedLaws
namespace Go.Proofs.Ytdimdlifjdbgnaa.fnExactDoWork
open Go.ChangeShapes Go.WideShapes Go.ChangeAt Go.RowKit
open Go.ChangeMaps (open_string shut_string)
open Go.Proofs.YtdimdlifjdbgnaaW.PrintWords Go.Proofs.Ytdimdlifjdbgnaa.Opens
set_option linter.unusedVariables false
theorem own : ownKnob Try.prog.godebug = none := by kernel_rfl
theorem laidOut : laidOutB Try.prog = true := by kernel_rfl
set_option maxRecDepth 100000 in
theorem lifted (os : Os) (started : os.Started) (H : Type) (enc : TypeId × Value → H) :
    ReturnsInHanded {} Try.checked os 5 .any (Rows.fnExactDoWorkSpec.pre6 enc Try.prog Try.f5 Rows.fnExactDoWorkRow.domain false) (Rows.fnExactDoWorkSpec.post enc Try.prog Try.f5 false true false false) := by
  refine returnsInHanded_of_change_sized (C := Try.checked) own started (by kernel_rfl) Try.func5
    (ChangeSpec.witness6 (enc := enc) (C := Try.checked) false ⟨#[], #[.agg #[.slice none 0 0, .slice none 0 0, .slice none 0 0, .int .i64 0, .int .i64 0, .int .i64 0], .agg #[.int .i64 0, .string ByteArray.empty, .int .i64 0, .int .i64 0]], []⟩ 8 (by kernel_rfl) (by kernel_rfl) (by kernel_rfl) (by kernel_rfl)) ?_
  intro W base args ds gs before hval0 hW hcnd hsz0 _
  have hsz : (DataW.weightsEach Try.prog (Try.f5.params.toList ++ Rows.fnExactDoWorkSpec.plain.varTypes Try.prog) (ds ++ gs)).all (· ≤ reachBytes) = true := hsz0
  have hval : ∀ (j : Nat) t v, Try.f5.params[j]? = some t → args[j]? = some v → Value.okWide Try.prog W .any base t v := hval0
  have hW' := hW
  obtain ⟨p, q, hA0, hV, rfl, hfz, hnd⟩ := hW
  have hA : DataW.TrodAll enc Try.prog W 0 (fun _ => true) true Try.f5.params.toList args.toList ds p := hA0
  rw [Try.params5] at hA hval hsz
  obtain ⟨v0, vs0, d0, ds0, p0, q0, hargs, rfl, rfl, h0, r0⟩ := trodAll_cons hA
  obtain ⟨v1, vs1, d1, ds1, p1, q1, rfl, rfl, rfl, h1, r1⟩ := trodAll_cons r0
  obtain ⟨rfl, rfl, rfl⟩ := trodAll_nil r1
  obtain rfl : args = #[v0, v1] := by cases args; simp_all
  obtain ⟨rfl, rfl⟩ := trodVars_none hV
  have k0 := h0
  have lt0 : ∀ x ∈ p0, x.block < W.heap.size := by obtain ⟨m, hm⟩ := k0; exact DataW.trod_lt m _ _ _ hm
  have z0 : ∀ n ∈ d0.weights Try.prog 63, n ≤ reachBytes := fun n hn => by simpa using List.all_eq_true.1 hsz n (DataW.weights_mem_each (j := 0) rfl rfl n hn)
  obtain ⟨fuel0, hf0⟩ := h0
  obtain ⟨cs0, rfl, _⟩ := okWide_struct Try.underlying63 (hval 0 63 v0 rfl rfl)
  obtain ⟨⟨l0_0, l0_1, l0_2, ⟨a0_3, a0_4, a0_5⟩⟩, hK0, g0⟩ := (opens_struct Try.underlying63 (by kernel_rfl) (fs_cons (opens_slice Try.underlying58 (by kernel_rfl) (opens_iso (d' := PFnExactDoWork.k134) (g := fun t : ByteArray × Int × Int × Int × Int × Int × Int => (⟨t.1, t.2.1, t.2.2.1, t.2.2.2.1, (⟨t.2.2.2.2.1, t.2.2.2.2.2.1, t.2.2.2.2.2.2⟩ : PFnExactDoWork.S61)⟩ : PFnExactDoWork.S134)) (good' := fun x => (x.f0.size ≤ 140737488351232 ∧ (Lit.int .i64 x.f1).wf = true ∧ (Lit.int .i64 x.f2).wf = true ∧ (Lit.int .i64 x.f3).wf = true ∧ (Lit.int .i64 x.f4.f0).wf = true ∧ (Lit.int .i64 x.f4.f1).wf = true ∧ (Lit.int .i64 x.f4.f2).wf = true)) (fun _ _ _ h => h) rfl (opens_struct Try.underlying134 (by kernel_rfl) (fs_cons (opens_string Try.underlying9) rfl (by kernel_rfl) (fs_cons (opens_int Try.underlying3) rfl (by kernel_rfl) (fs_cons (opens_int Try.underlying3) rfl (by kernel_rfl) (fs_cons (opens_int Try.underlying3) rfl (by kernel_rfl) (fs_last (opens_struct Try.underlying61 (by kernel_rfl) (fs_cons (opens_int Try.underlying3) rfl (by kernel_rfl) (fs_cons (opens_int Try.underlying3) rfl (by kernel_rfl) (fs_last (opens_int Try.underlying3) rfl (by kernel_rfl))))) rfl (by kernel_rfl))))))) (fun _ h => h)) 134 (B := 64) (by kernel_rfl)) rfl (by kernel_rfl) (fs_cons (opens_slice Try.underlying59 (by kernel_rfl) (opens_iso (d' := PFnExactDoWork.k136) (g := fun t : ByteArray × Int × Int => (⟨t.1, t.2.1, t.2.2⟩ : PFnExactDoWork.S136)) (good' := fun x => (x.f0.size ≤ 140737488351232 ∧ (Lit.int .i64 x.f1).wf = true ∧ (Lit.int .i64 x.f2).wf = true)) (fun _ _ _ h => h) rfl (opens_struct Try.underlying136 (by kernel_rfl) (fs_cons (opens_string Try.underlying9) rfl (by kernel_rfl) (fs_cons (opens_int Try.underlying3) rfl (by kernel_rfl) (fs_last (opens_int Try.underlying3) rfl (by kernel_rfl))))) (fun _ h => h)) 136 (B := 32) (by kernel_rfl)) rfl (by kernel_rfl) (fs_cons (opens_slice Try.underlying60 (by kernel_rfl) (opens_iso (d' := PFnExactDoWork.k138) (g := fun t : ByteArray × Int × Int => (⟨t.1, t.2.1, t.2.2⟩ : PFnExactDoWork.S138)) (good' := fun x => (x.f0.size ≤ 140737488351232 ∧ (Lit.int .i64 x.f1).wf = true ∧ (Lit.int .i64 x.f2).wf = true)) (fun _ _ _ h => h) rfl (opens_struct Try.underlying138 (by kernel_rfl) (fs_cons (opens_string Try.underlying9) rfl (by kernel_rfl) (fs_cons (opens_int Try.underlying3) rfl (by kernel_rfl) (fs_last (opens_int Try.underlying3) rfl (by kernel_rfl))))) (fun _ h => h)) 138 (B := 32) (by kernel_rfl)) rfl (by kernel_rfl) (fs_last (opens_struct Try.underlying61 (by kernel_rfl) (fs_cons (opens_int Try.underlying3) rfl (by kernel_rfl) (fs_cons (opens_int Try.underlying3) rfl (by kernel_rfl) (fs_last (opens_int Try.underlying3) rfl (by kernel_rfl))))) rfl (by kernel_rfl)))))) enc W 0 _ _ fuel0 _ _ hf0 z0
  obtain ⟨_, _, e0, ⟨A0_0, c0_0, rfl, hc0_0, hr0_0⟩, ⟨_, _, rfl, ⟨A0_1, c0_1, rfl, hc0_1, hr0_1⟩, ⟨_, _, rfl, ⟨A0_2, c0_2, rfl, hc0_2, hr0_2⟩, ⟨_, _, rfl, rfl, ⟨_, _, rfl, rfl, rfl⟩⟩⟩⟩⟩ := hK0
  obtain rfl : cs0 = #[.slice A0_0 l0_0.length c0_0, .slice A0_1 l0_1.length c0_1, .slice A0_2 l0_2.length c0_2, .int .i64 a0_3, .int .i64 a0_4, .int .i64 a0_5] := Array.toList_inj.1 (Eq.trans e0 rfl)
  have k1 := h1
  have lt1 : ∀ x ∈ p1, x.block < W.heap.size := by obtain ⟨m, hm⟩ := k1; exact DataW.trod_lt m _ _ _ hm
  have z1 : ∀ n ∈ d1.weights Try.prog 64, n ≤ reachBytes := fun n hn => by simpa using List.all_eq_true.1 hsz n (DataW.weights_mem_each (j := 1) rfl rfl n hn)
  obtain ⟨fuel1, hf1⟩ := h1
  obtain ⟨cs1, rfl, _⟩ := okWide_struct Try.underlying64 (hval 1 64 v1 rfl rfl)
  obtain ⟨⟨a1_0, a1_1, a1_2, a1_3⟩, hK1, g1⟩ := (opens_struct Try.underlying64 (by kernel_rfl) (fs_cons (opens_int Try.underlying3) rfl (by kernel_rfl) (fs_cons (opens_string Try.underlying9) rfl (by kernel_rfl) (fs_cons (opens_int Try.underlying3) rfl (by kernel_rfl) (fs_last (opens_int Try.underlying3) rfl (by kernel_rfl)))))) enc W 0 _ _ fuel1 _ _ hf1 z1
  obtain ⟨_, _, e1, rfl, ⟨_, _, rfl, rfl, ⟨_, _, rfl, rfl, rfl⟩⟩⟩ := hK1
  obtain rfl : cs1 = #[.int .i64 a1_0, .string a1_1, .int .i64 a1_2, .int .i64 a1_3] := Array.toList_inj.1 (Eq.trans e1 rfl)
  clear hA0 hval0 hsz0 hsz
  obtain ⟨k, h⟩ := Pure.FnExactDoWork l0_0 l0_1 l0_2 a0_3 a0_4 a0_5 a1_0 a1_1 a1_2 a1_3 g0 g1
  refine (PFnExactDoWork.laws_FnExactDoWork.calls k A0_0 c0_0 l0_0 A0_1 c0_1 l0_1 A0_2 c0_2 l0_2 a0_3 a0_4 a0_5 a1_0 a1_1 a1_2 a1_3 true rfl W hr0_0 hc0_0 hr0_1 hc0_1 hr0_2 hc0_2 h).mono fun e W' ⟨he, bel⟩ => ?_
  subst he
  exact ⟨_, rfl, _, _, _, [], _, [], hW', trodAll_mk1 (shut_bool Try.underlying4 _), (trodAll_cons_mk (Below.trod laidOut (by kernel_rfl) (of_decide_eq_true (by kernel_rfl)) k0 bel lt0) (trodAll_cons_mk (Below.trod laidOut (by kernel_rfl) (of_decide_eq_true (by kernel_rfl)) k1 bel lt1) trodAll_mk0)), rfl, bel.frame _, fun h => by cases h⟩
theorem over : Rows.fnExactDoWorkRow.holds Try.pinned (OpenSpec.ofChange Rows.fnExactDoWorkSpec) :=
  OpenClaim.holds_of_wide 5 Try.f5 rfl rfl rfl rfl rfl rfl rfl ⟨rfl, rfl, rfl, rfl, rfl⟩ rfl rfl rfl rfl rfl (by kernel_rfl) Try.func5 (by kernel_rfl)
    (of_decide_eq_true (by kernel_rfl)) (by unfold Func.isWrapper; first | (rw [if_pos (by decide +kernel)]; kernel_rfl) | (rw [if_neg (by decide +kernel)]; exact ⟨rfl, rfl⟩))
    (fun os started H enc _ => lifted os started H enc)
theorem proved : Rows.FnExactDoWorkSaid := over
#print axioms proved
end Go.Proofs.Ytdimdlifjdbgnaa.fnExactDoWork
namespace Go.Proofs.Ytdimdlifjdbgnaa
/-- The row, under a short name, for the claim. -/
theorem fnExactDoWork_holds : Rows.FnExactDoWorkSaid := fnExactDoWork.proved
end Go.Proofs.Ytdimdlifjdbgnaa
