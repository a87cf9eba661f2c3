/- The program's RunWork answers as the reference's at every argument, writes into no argument and owns its answer. No condition. -/
import Derived.Test.YtdimdlifjdbgnaaGreatRows
import Derived.Test.YtdimdlifjdbgnaaGreatPFnExactRunWorkx19
import Derived.Test.YtdimdlifjdbgnaaGreatPureFnExactRunWork
import Derived.Test.YtdimdlifjdbgnaaGreatOpens
import Derived.WalkKit
import Derived.ProofKit
import Derived.OpenShut
import Derived.ShutString
import Derived.ChangeOld
import Derived.Below
import Derived.SizedLaws
namespace Go.Proofs.YtdimdlifjdbgnaaGreat.fnExactRunWork
open Go.ChangeShapes Go.WideShapes Go.ChangeAt Go.RowKit
open Go.ChangeMaps (open_string shut_string)
open Go.Proofs.YtdimdlifjdbgnaaGreatW.PrintWords Go.Proofs.YtdimdlifjdbgnaaGreat.Opens
set_option linter.unusedVariables false
theorem own : ownKnob Tryz.prog.godebug = none := by kernel_rfl
theorem laidOut : laidOutB Tryz.prog = true := by kernel_rfl
set_option maxRecDepth 100000 in
theorem lifted (os : Os) (started : os.Started) (H : Type) (enc : TypeId × Value → H) :
    ReturnsInHanded {} Tryz.checked os 3 .any (Rows.fnExactRunWorkSpec.pre6 enc Tryz.prog Tryz.f3 Rows.fnExactRunWorkRow.domain false) (Rows.fnExactRunWorkSpec.post enc Tryz.prog Tryz.f3 false true false false) := by
  refine returnsInHanded_of_change_sized (C := Tryz.checked) own started (by kernel_rfl) Tryz.func3
    (ChangeSpec.witness6 (enc := enc) (C := Tryz.checked) false ⟨#[], #[.agg #[.slice none 0 0, .slice none 0 0, .slice none 0 0, .int .i64 0, .int .i64 0, .int .i64 0], .slice none 0 0], []⟩ 8 (by kernel_rfl) (by kernel_rfl) (by kernel_rfl) (by kernel_rfl)) ?_
  intro W base args ds gs before hval0 hW hcnd hsz0 _
  have hsz : (DataW.weightsEach Tryz.prog (Tryz.f3.params.toList ++ Rows.fnExactRunWorkSpec.plain.varTypes Tryz.prog) (ds ++ gs)).all (· ≤ reachBytes) = true := hsz0
  have hval : ∀ (j : Nat) t v, Tryz.f3.params[j]? = some t → args[j]? = some v → Value.okWide Tryz.prog W .any base t v := hval0
  have hW' := hW
  obtain ⟨p, q, hA0, hV, rfl, hfz, hnd⟩ := hW
  have hA : DataW.TrodAll enc Tryz.prog W 0 (fun _ => true) true Tryz.f3.params.toList args.toList ds p := hA0
  rw [Tryz.params3] at hA hval hsz
  obtain ⟨v0, vs0, d0, ds0, p0, q0, hargs, rfl, rfl, h0, r0⟩ := trodAll_cons hA
  obtain ⟨v1, vs1, d1, ds1, p1, q1, rfl, rfl, rfl, h1, r1⟩ := trodAll_cons r0
  obtain ⟨rfl, rfl, rfl⟩ := trodAll_nil r1
  obtain rfl : args = #[v0, v1] := by cases args; simp_all
  obtain ⟨rfl, rfl⟩ := trodVars_none hV
  have k0 := h0
  have lt0 : ∀ x ∈ p0, x.block < W.heap.size := by obtain ⟨m, hm⟩ := k0; exact DataW.trod_lt m _ _ _ hm
  have z0 : ∀ n ∈ d0.weights Tryz.prog 28, n ≤ reachBytes := fun n hn => by simpa using List.all_eq_true.1 hsz n (DataW.weights_mem_each (j := 0) rfl rfl n hn)
  obtain ⟨fuel0, hf0⟩ := h0
  obtain ⟨cs0, rfl, _⟩ := okWide_struct Tryz.underlying28 (hval 0 28 v0 rfl rfl)
  obtain ⟨⟨l0_0, l0_1, l0_2, ⟨a0_3, a0_4, a0_5⟩⟩, hK0, g0⟩ := (opens_struct Tryz.underlying28 (by kernel_rfl) (fs_cons (opens_slice Tryz.underlying22 (by kernel_rfl) (opens_iso (d' := PFnExactRunWork.k77) (g := fun t : ByteArray × Int × Int × Int × Int × Int × Int => (⟨t.1, t.2.1, t.2.2.1, t.2.2.2.1, (⟨t.2.2.2.2.1, t.2.2.2.2.2.1, t.2.2.2.2.2.2⟩ : PFnExactRunWork.S26)⟩ : PFnExactRunWork.S77)) (good' := fun x => (x.f0.size ≤ 140737488351232 ∧ (Lit.int .i64 x.f1).wf = true ∧ (Lit.int .i64 x.f2).wf = true ∧ (Lit.int .i64 x.f3).wf = true ∧ (Lit.int .i64 x.f4.f0).wf = true ∧ (Lit.int .i64 x.f4.f1).wf = true ∧ (Lit.int .i64 x.f4.f2).wf = true)) (fun _ _ _ h => h) rfl (opens_struct Tryz.underlying77 (by kernel_rfl) (fs_cons (opens_string Tryz.underlying9) rfl (by kernel_rfl) (fs_cons (opens_int Tryz.underlying3) rfl (by kernel_rfl) (fs_cons (opens_int Tryz.underlying3) rfl (by kernel_rfl) (fs_cons (opens_int Tryz.underlying3) rfl (by kernel_rfl) (fs_last (opens_struct Tryz.underlying26 (by kernel_rfl) (fs_cons (opens_int Tryz.underlying3) rfl (by kernel_rfl) (fs_cons (opens_int Tryz.underlying3) rfl (by kernel_rfl) (fs_last (opens_int Tryz.underlying3) rfl (by kernel_rfl))))) rfl (by kernel_rfl))))))) (fun _ h => h)) 77 (B := 64) (by kernel_rfl)) rfl (by kernel_rfl) (fs_cons (opens_slice Tryz.underlying23 (by kernel_rfl) (opens_iso (d' := PFnExactRunWork.k80) (g := fun t : ByteArray × Int × Int => (⟨t.1, t.2.1, t.2.2⟩ : PFnExactRunWork.S80)) (good' := fun x => (x.f0.size ≤ 140737488351232 ∧ (Lit.int .i64 x.f1).wf = true ∧ (Lit.int .i64 x.f2).wf = true)) (fun _ _ _ h => h) rfl (opens_struct Tryz.underlying80 (by kernel_rfl) (fs_cons (opens_string Tryz.underlying9) rfl (by kernel_rfl) (fs_cons (opens_int Tryz.underlying3) rfl (by kernel_rfl) (fs_last (opens_int Tryz.underlying3) rfl (by kernel_rfl))))) (fun _ h => h)) 80 (B := 32) (by kernel_rfl)) rfl (by kernel_rfl) (fs_cons (opens_slice Tryz.underlying24 (by kernel_rfl) (opens_iso (d' := PFnExactRunWork.k83) (g := fun t : ByteArray × Int × Int => (⟨t.1, t.2.1, t.2.2⟩ : PFnExactRunWork.S83)) (good' := fun x => (x.f0.size ≤ 140737488351232 ∧ (Lit.int .i64 x.f1).wf = true ∧ (Lit.int .i64 x.f2).wf = true)) (fun _ _ _ h => h) rfl (opens_struct Tryz.underlying83 (by kernel_rfl) (fs_cons (opens_string Tryz.underlying9) rfl (by kernel_rfl) (fs_cons (opens_int Tryz.underlying3) rfl (by kernel_rfl) (fs_last (opens_int Tryz.underlying3) rfl (by kernel_rfl))))) (fun _ h => h)) 83 (B := 32) (by kernel_rfl)) rfl (by kernel_rfl) (fs_last (opens_struct Tryz.underlying26 (by kernel_rfl) (fs_cons (opens_int Tryz.underlying3) rfl (by kernel_rfl) (fs_cons (opens_int Tryz.underlying3) rfl (by kernel_rfl) (fs_last (opens_int Tryz.underlying3) rfl (by kernel_rfl))))) rfl (by kernel_rfl)))))) enc W 0 _ _ fuel0 _ _ hf0 z0
  obtain ⟨_, _, e0, ⟨A0_0, c0_0, rfl, hc0_0, hr0_0⟩, ⟨_, _, rfl, ⟨A0_1, c0_1, rfl, hc0_1, hr0_1⟩, ⟨_, _, rfl, ⟨A0_2, c0_2, rfl, hc0_2, hr0_2⟩, ⟨_, _, rfl, rfl, ⟨_, _, rfl, rfl, rfl⟩⟩⟩⟩⟩ := hK0
  obtain rfl : cs0 = #[.slice A0_0 l0_0.length c0_0, .slice A0_1 l0_1.length c0_1, .slice A0_2 l0_2.length c0_2, .int .i64 a0_3, .int .i64 a0_4, .int .i64 a0_5] := Array.toList_inj.1 (Eq.trans e0 rfl)
  have k1 := h1
  have lt1 : ∀ x ∈ p1, x.block < W.heap.size := by obtain ⟨m, hm⟩ := k1; exact DataW.trod_lt m _ _ _ hm
  have z1 : ∀ n ∈ d1.weights Tryz.prog 29, n ≤ reachBytes := fun n hn => by simpa using List.all_eq_true.1 hsz n (DataW.weights_mem_each (j := 1) rfl rfl n hn)
  obtain ⟨fuel1, hf1⟩ := h1
  obtain ⟨A1, ln1, c1, rfl⟩ := okWide_slice Tryz.underlying29 (hval 1 29 v1 rfl rfl)
  obtain ⟨l1, hK1, g1⟩ := (opens_slice Tryz.underlying29 (by kernel_rfl) (opens_iso (d' := PFnExactRunWork.k56) (g := fun t : Int × ByteArray × Int × Int => (⟨t.1, t.2.1, t.2.2.1, t.2.2.2⟩ : PFnExactRunWork.S56)) (good' := fun x => ((Lit.int .i64 x.f0).wf = true ∧ x.f1.size ≤ 140737488351232 ∧ (Lit.int .i64 x.f2).wf = true ∧ (Lit.int .i64 x.f3).wf = true)) (fun _ _ _ h => h) rfl (opens_struct Tryz.underlying56 (by kernel_rfl) (fs_cons (opens_int Tryz.underlying3) rfl (by kernel_rfl) (fs_cons (opens_string Tryz.underlying9) rfl (by kernel_rfl) (fs_cons (opens_int Tryz.underlying3) rfl (by kernel_rfl) (fs_last (opens_int Tryz.underlying3) rfl (by kernel_rfl)))))) (fun _ h => h)) 56 (B := 40) (by kernel_rfl)) enc W 0 _ _ fuel1 _ _ hf1 z1
  obtain ⟨A1', c1', e1, hc1, hr1⟩ := hK1
  simp only [Value.cells, List.cons.injEq, Value.slice.injEq, and_true] at e1
  obtain ⟨rfl, rfl, rfl⟩ := e1
  clear hA0 hval0 hsz0 hsz
  obtain ⟨k, h⟩ := Pure.FnExactRunWork l0_0 l0_1 l0_2 a0_3 a0_4 a0_5 l1 g0 g1
  refine (PFnExactRunWork.laws_FnExactRunWork.calls k A0_0 c0_0 l0_0 A0_1 c0_1 l0_1 A0_2 c0_2 l0_2 a0_3 a0_4 a0_5 A1 c1 l1 true rfl W hr0_0 hc0_0 hr0_1 hc0_1 hr0_2 hc0_2 hr1 hc1 h).mono fun e W' ⟨he, bel⟩ => ?_
  subst he
  exact ⟨_, rfl, _, _, _, [], _, [], hW', trodAll_mk1 (shut_bool Tryz.underlying4 _), (trodAll_cons_mk (Below.trod laidOut (by kernel_rfl) (of_decide_eq_true (by kernel_rfl)) k0 bel lt0) (trodAll_cons_mk (Below.trod laidOut (by kernel_rfl) (of_decide_eq_true (by kernel_rfl)) k1 bel lt1) trodAll_mk0)), rfl, bel.frame _, fun h => by cases h⟩
theorem over : Rows.fnExactRunWorkRow.holds Tryz.pinned (OpenSpec.ofChange Rows.fnExactRunWorkSpec) :=
  OpenClaim.holds_of_wide 3 Tryz.f3 rfl rfl rfl rfl rfl rfl rfl ⟨rfl, rfl, rfl, rfl, rfl⟩ rfl rfl rfl rfl rfl (by kernel_rfl) Tryz.func3 (by kernel_rfl)
    (of_decide_eq_true (by kernel_rfl)) (by unfold Func.isWrapper; first | (rw [if_pos (by decide +kernel)]; kernel_rfl) | (rw [if_neg (by decide +kernel)]; exact ⟨rfl, rfl⟩))
    (fun os started H enc _ => lifted os started H enc)
theorem proved : Rows.FnExactRunWorkSaid := over
#print axioms proved
end Go.Proofs.YtdimdlifjdbgnaaGreat.fnExactRunWork
namespace Go.Proofs.YtdimdlifjdbgnaaGreat
/-- The row, under a short name, for the claim. -/
theorem fnExactRunWork_holds : Rows.FnExactRunWorkSaid := fnExactRunWork.proved
end Go.Proofs.YtdimdlifjdbgnaaGreat
