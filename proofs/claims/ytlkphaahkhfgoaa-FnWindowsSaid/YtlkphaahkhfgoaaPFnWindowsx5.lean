-- Written by a program of this session (wip/xprint.py) out of the translation; Lean checks it.
import Derived.Test.YtlkphaahkhfgoaaPFnWindowsx0
import Derived.Test.YtlkphaahkhfgoaaPFnWindowsx1
import Derived.Test.YtlkphaahkhfgoaaPFnWindowsx4
namespace Go.Proofs.Ytlkphaahkhfgoaa.PFnWindows
open Go.RowKit Go.Proofs.YtlkphaahkhfgoaaW.PrintWords Go.Proofs.YtlkphaahkhfgoaaW.PrintLast Go.Proofs.YtlkphaahkhfgoaaW.PrintMore Go.Proofs.Ytlkphaahkhfgoaa.Sq
attribute [local go_sem] max2_int min2_int max_two min_two max_three min_three max_four min_four   -- for this text's walks alone
set_option linter.unusedVariables false
set_option linter.unusedSimpArgs false

/-! ### impl_RunJobs: function 25 -/
mutual
def impl_RunJobs.j0 : Nat → List (S74) → Int → Bool → Int → Int → List (S62) → Option (List Int × Int × Bool)
 | 0, _, _, _, _, _, _ => none
 | k + 1, x1, x2, x39, x161000, x161001, x161002 => if x39 = true then (some (([] : List Int), 0, false)) else (if 0 ≤ (x1.length : Int) then (if ((x1.length : Int) : Int).toNat ≤ 35184372088832 then (impl_RunJobs.l0 k x1 (List.replicate ((x1.length : Int) : Int).toNat 0) (List.replicate ((x1.length : Int) : Int).toNat 0) (List.replicate ((x1.length : Int) : Int).toNat 0) 0 x2 0 x161000 x161001 x161002) else (none)) else (none))
def impl_RunJobs.l0 : Nat → List (S74) → List Int → List Int → List Int → Int → Int → Int → Int → Int → List (S62) → Option (List Int × Int × Bool)
 | 0, _, _, _, _, _, _, _, _, _, _ => none
 | k + 1, x1, x10, x11, x12, x13, x49, x50, x161000, x161001, x161002 => if x50 < x49 then (impl_RunJobs.l1 k x1 x10 x11 x12 x13 x50 x49 x50 x1 (x1.length : Int) 0 x161000 x161001 x161002) else (some (x10, x13, true))
def impl_RunJobs.l1 : Nat → List (S74) → List Int → List Int → List Int → Int → Int → Int → Int → List (S74) → Int → Int → Int → Int → List (S62) → Option (List Int × Int × Bool)
 | 0, _, _, _, _, _, _, _, _, _, _, _, _, _, _ => none
 | k + 1, x1, x10, x11, x12, x13, x14, x49, x50, x53, x54, x55, x161000, x161001, x161002 => if x55 < x54 then (if 0 ≤ x55 then (if x55 < (x53.length : Int) then (if ((rd_T74 x53 x55).f1) = 0 then (none) else (if (Int.tmod x14 ((rd_T74 x53 x55).f1)) = 0 then (if x55 < (x11.length : Int) then (if (rd x11 x55) > 0 then (if x55 < (x10.length : Int) then (if x55 < (x12.length : Int) then (impl_RunJobs.l1 k x1 (x10.set (x55 : Int).toNat (wrap64 ((rd x10 x55) + 1))) (x11.set (x55 : Int).toNat ((rd_T74 x53 x55).f2)) (x12.set (x55 : Int).toNat x14) x13 x14 x49 x50 x53 x54 (wrap64 (x55 + 1)) x161000 x161001 x161002) else (none)) else (none)) else (if x55 < (x12.length : Int) then (impl_RunJobs.l1 k x1 x10 (x11.set (x55 : Int).toNat ((rd_T74 x53 x55).f2)) (x12.set (x55 : Int).toNat x14) x13 x14 x49 x50 x53 x54 (wrap64 (x55 + 1)) x161000 x161001 x161002) else (none))) else (none)) else (impl_RunJobs.l1 k x1 x10 x11 x12 x13 x14 x49 x50 x53 x54 (wrap64 (x55 + 1)) x161000 x161001 x161002))) else (none)) else (none)) else ((impl_owner.f k x161000 x161001 x161002 x14).bind fun t182 => (impl_RunJobs.l2 k x1 x10 x11 x12 x13 t182 (-1) x49 x50 x1 (x1.length : Int) 0 x161000 x161001 x161002))
def impl_RunJobs.l2 : Nat → List (S74) → List Int → List Int → List Int → Int → Int → Int → Int → Int → List (S74) → Int → Int → Int → Int → List (S62) → Option (List Int × Int × Bool)
 | 0, _, _, _, _, _, _, _, _, _, _, _, _, _, _, _ => none
 | k + 1, x1, x10, x11, x12, x13, x17, x18, x49, x50, x89, x90, x91, x161000, x161001, x161002 => if x91 < x90 then (if 0 ≤ x91 then (if x91 < (x89.length : Int) then (if ((rd_T74 x89 x91).f0) = x17 then (if x91 < (x11.length : Int) then (if (rd x11 x91) > 0 then (if x18 < 0 then (impl_RunJobs.l2 k x1 x10 x11 x12 x13 x17 x91 x49 x50 x89 x90 (wrap64 (x91 + 1)) x161000 x161001 x161002) else (if x91 < (x12.length : Int) then (if 0 ≤ x18 then (if x18 < (x12.length : Int) then (if (rd x12 x91) < (rd x12 x18) then (impl_RunJobs.l2 k x1 x10 x11 x12 x13 x17 x91 x49 x50 x89 x90 (wrap64 (x91 + 1)) x161000 x161001 x161002) else (impl_RunJobs.l2 k x1 x10 x11 x12 x13 x17 x18 x49 x50 x89 x90 (wrap64 (x91 + 1)) x161000 x161001 x161002)) else (none)) else (none)) else (none))) else (impl_RunJobs.l2 k x1 x10 x11 x12 x13 x17 x18 x49 x50 x89 x90 (wrap64 (x91 + 1)) x161000 x161001 x161002)) else (none)) else (impl_RunJobs.l2 k x1 x10 x11 x12 x13 x17 x18 x49 x50 x89 x90 (wrap64 (x91 + 1)) x161000 x161001 x161002)) else (none)) else (none)) else (if x18 ≥ 0 then (if 0 ≤ x18 then (if x18 < (x11.length : Int) then (impl_RunJobs.l0 k x1 x10 (x11.set (x18 : Int).toNat (wrap64 ((rd x11 x18) - 1))) x12 x13 x49 (wrap64 (x50 + 1)) x161000 x161001 x161002) else (none)) else (none)) else (if x17 ≥ 0 then (impl_RunJobs.l0 k x1 x10 x11 x12 (wrap64 (x13 + 1)) x49 (wrap64 (x50 + 1)) x161000 x161001 x161002) else (impl_RunJobs.l0 k x1 x10 x11 x12 x13 x49 (wrap64 (x50 + 1)) x161000 x161001 x161002)))
end
def impl_RunJobs.f (k : Nat) (a0_0 : Int) (a0_1 : Int) (l0_2 : List (S62)) (l1 : List (S74)) (a2 : Int) : Option (List Int × Int × Bool) := (slices_ContainsFunc_RunJobs_1.f l1 a0_0 a0_1 l0_2).bind fun t161 => ((impl_PlanOk.f k a0_0 a0_1 l0_2).bind fun t162 => (if t162 = true then (if t161 = true then (impl_RunJobs.j0 k l1 a2 true a0_0 a0_1 l0_2) else (if (l1.length : Int) > 20 then (impl_RunJobs.j0 k l1 a2 true a0_0 a0_1 l0_2) else ((impl_in.f a2 0 5000).bind fun t163 => (impl_RunJobs.j0 k l1 a2 (!t163) a0_0 a0_1 l0_2)))) else (impl_RunJobs.j0 k l1 a2 true a0_0 a0_1 l0_2)))
theorem impl_RunJobs.mono_l : ∀ k, (∀ y0 y1 y2 y3 y4 y5, LeO (impl_RunJobs.j0 k y0 y1 y2 y3 y4 y5) (impl_RunJobs.j0 (k + 1) y0 y1 y2 y3 y4 y5)) ∧ (∀ y0 y1 y2 y3 y4 y5 y6 y7 y8 y9, LeO (impl_RunJobs.l0 k y0 y1 y2 y3 y4 y5 y6 y7 y8 y9) (impl_RunJobs.l0 (k + 1) y0 y1 y2 y3 y4 y5 y6 y7 y8 y9)) ∧ (∀ y0 y1 y2 y3 y4 y5 y6 y7 y8 y9 y10 y11 y12 y13, LeO (impl_RunJobs.l1 k y0 y1 y2 y3 y4 y5 y6 y7 y8 y9 y10 y11 y12 y13) (impl_RunJobs.l1 (k + 1) y0 y1 y2 y3 y4 y5 y6 y7 y8 y9 y10 y11 y12 y13)) ∧ (∀ y0 y1 y2 y3 y4 y5 y6 y7 y8 y9 y10 y11 y12 y13 y14, LeO (impl_RunJobs.l2 k y0 y1 y2 y3 y4 y5 y6 y7 y8 y9 y10 y11 y12 y13 y14) (impl_RunJobs.l2 (k + 1) y0 y1 y2 y3 y4 y5 y6 y7 y8 y9 y10 y11 y12 y13 y14))
 | 0 => ⟨fun _ _ _ _ _ _ r h => by simp [impl_RunJobs.j0] at h, fun _ _ _ _ _ _ _ _ _ _ r h => by simp [impl_RunJobs.l0] at h, fun _ _ _ _ _ _ _ _ _ _ _ _ _ _ r h => by simp [impl_RunJobs.l1] at h, fun _ _ _ _ _ _ _ _ _ _ _ _ _ _ _ r h => by simp [impl_RunJobs.l2] at h⟩
 | k + 1 => by
  obtain ⟨ih0, ih1, ih2, ih3⟩ := impl_RunJobs.mono_l k
  refine ⟨?_, ?_, ?_, ?_⟩
  ·
   intro y0 y1 y2 y3 y4 y5
   unfold impl_RunJobs.j0
   repeat' first
   | (with_reducible exact ih0 _ _ _ _ _ _)
   | (with_reducible exact ih1 _ _ _ _ _ _ _ _ _ _)
   | (with_reducible exact ih2 _ _ _ _ _ _ _ _ _ _ _ _ _ _)
   | (with_reducible exact ih3 _ _ _ _ _ _ _ _ _ _ _ _ _ _ _)
   | (with_reducible exact impl_PlanOk.mono _ _ _ _)
   | (with_reducible exact impl_owner.mono _ _ _ _ _)
   | (with_reducible exact LeO.refl _)
   | (with_reducible exact LeO.none _)
   | (with_reducible refine LeO.ite ?_ ?_)
   | (with_reducible refine LeO.bind ?_ (fun _ => ?_))
   | exact ih0 _ _ _ _ _ _
   | exact ih1 _ _ _ _ _ _ _ _ _ _
   | exact ih2 _ _ _ _ _ _ _ _ _ _ _ _ _ _
   | exact ih3 _ _ _ _ _ _ _ _ _ _ _ _ _ _ _
   | exact impl_PlanOk.mono _ _ _ _
   | exact impl_owner.mono _ _ _ _ _
   | exact LeO.none _
   | refine LeO.ite ?_ ?_
   | refine LeO.bind ?_ (fun _ => ?_)
  ·
   intro y0 y1 y2 y3 y4 y5 y6 y7 y8 y9
   unfold impl_RunJobs.l0
   repeat' first
   | (with_reducible exact ih0 _ _ _ _ _ _)
   | (with_reducible exact ih1 _ _ _ _ _ _ _ _ _ _)
   | (with_reducible exact ih2 _ _ _ _ _ _ _ _ _ _ _ _ _ _)
   | (with_reducible exact ih3 _ _ _ _ _ _ _ _ _ _ _ _ _ _ _)
   | (with_reducible exact impl_PlanOk.mono _ _ _ _)
   | (with_reducible exact impl_owner.mono _ _ _ _ _)
   | (with_reducible exact LeO.refl _)
   | (with_reducible exact LeO.none _)
   | (with_reducible refine LeO.ite ?_ ?_)
   | (with_reducible refine LeO.bind ?_ (fun _ => ?_))
   | exact ih0 _ _ _ _ _ _
   | exact ih1 _ _ _ _ _ _ _ _ _ _
   | exact ih2 _ _ _ _ _ _ _ _ _ _ _ _ _ _
   | exact ih3 _ _ _ _ _ _ _ _ _ _ _ _ _ _ _
   | exact impl_PlanOk.mono _ _ _ _
   | exact impl_owner.mono _ _ _ _ _
   | exact LeO.none _
   | refine LeO.ite ?_ ?_
   | refine LeO.bind ?_ (fun _ => ?_)
  ·
   intro y0 y1 y2 y3 y4 y5 y6 y7 y8 y9 y10 y11 y12 y13
   unfold impl_RunJobs.l1
   repeat' first
   | (with_reducible exact ih0 _ _ _ _ _ _)
   | (with_reducible exact ih1 _ _ _ _ _ _ _ _ _ _)
   | (with_reducible exact ih2 _ _ _ _ _ _ _ _ _ _ _ _ _ _)
   | (with_reducible exact ih3 _ _ _ _ _ _ _ _ _ _ _ _ _ _ _)
   | (with_reducible exact impl_PlanOk.mono _ _ _ _)
   | (with_reducible exact impl_owner.mono _ _ _ _ _)
   | (with_reducible exact LeO.refl _)
   | (with_reducible exact LeO.none _)
   | (with_reducible refine LeO.ite ?_ ?_)
   | (with_reducible refine LeO.bind ?_ (fun _ => ?_))
   | exact ih0 _ _ _ _ _ _
   | exact ih1 _ _ _ _ _ _ _ _ _ _
   | exact ih2 _ _ _ _ _ _ _ _ _ _ _ _ _ _
   | exact ih3 _ _ _ _ _ _ _ _ _ _ _ _ _ _ _
   | exact impl_PlanOk.mono _ _ _ _
   | exact impl_owner.mono _ _ _ _ _
   | exact LeO.none _
   | refine LeO.ite ?_ ?_
   | refine LeO.bind ?_ (fun _ => ?_)
  ·
   intro y0 y1 y2 y3 y4 y5 y6 y7 y8 y9 y10 y11 y12 y13 y14
   unfold impl_RunJobs.l2
   repeat' first
   | (with_reducible exact ih0 _ _ _ _ _ _)
   | (with_reducible exact ih1 _ _ _ _ _ _ _ _ _ _)
   | (with_reducible exact ih2 _ _ _ _ _ _ _ _ _ _ _ _ _ _)
   | (with_reducible exact ih3 _ _ _ _ _ _ _ _ _ _ _ _ _ _ _)
   | (with_reducible exact impl_PlanOk.mono _ _ _ _)
   | (with_reducible exact impl_owner.mono _ _ _ _ _)
   | (with_reducible exact LeO.refl _)
   | (with_reducible exact LeO.none _)
   | (with_reducible refine LeO.ite ?_ ?_)
   | (with_reducible refine LeO.bind ?_ (fun _ => ?_))
   | exact ih0 _ _ _ _ _ _
   | exact ih1 _ _ _ _ _ _ _ _ _ _
   | exact ih2 _ _ _ _ _ _ _ _ _ _ _ _ _ _
   | exact ih3 _ _ _ _ _ _ _ _ _ _ _ _ _ _ _
   | exact impl_PlanOk.mono _ _ _ _
   | exact impl_owner.mono _ _ _ _ _
   | exact LeO.none _
   | refine LeO.ite ?_ ?_
   | refine LeO.bind ?_ (fun _ => ?_)
theorem impl_RunJobs.mono : ∀ a0 a1 a2 a3 a4 k, LeO (impl_RunJobs.f k a0 a1 a2 a3 a4) (impl_RunJobs.f (k + 1) a0 a1 a2 a3 a4) := by
 intro a0 a1 a2 a3 a4 k
 obtain ⟨ih0, ih1, ih2, ih3⟩ := impl_RunJobs.mono_l k
 unfold impl_RunJobs.f
 repeat' first
   | (with_reducible exact ih0 _ _ _ _ _ _)
   | (with_reducible exact ih1 _ _ _ _ _ _ _ _ _ _)
   | (with_reducible exact ih2 _ _ _ _ _ _ _ _ _ _ _ _ _ _)
   | (with_reducible exact ih3 _ _ _ _ _ _ _ _ _ _ _ _ _ _ _)
   | (with_reducible exact impl_PlanOk.mono _ _ _ _)
   | (with_reducible exact impl_owner.mono _ _ _ _ _)
   | (with_reducible exact LeO.refl _)
   | (with_reducible exact LeO.none _)
   | (with_reducible refine LeO.ite ?_ ?_)
   | (with_reducible refine LeO.bind ?_ (fun _ => ?_))
   | exact ih0 _ _ _ _ _ _
   | exact ih1 _ _ _ _ _ _ _ _ _ _
   | exact ih2 _ _ _ _ _ _ _ _ _ _ _ _ _ _
   | exact ih3 _ _ _ _ _ _ _ _ _ _ _ _ _ _ _
   | exact impl_PlanOk.mono _ _ _ _
   | exact impl_owner.mono _ _ _ _ _
   | exact LeO.none _
   | refine LeO.ite ?_ ?_
   | refine LeO.bind ?_ (fun _ => ?_)
def impl_RunJobs.T4 : Bool × List (List Nat × List Nat) := (true, [([], []), ([0], [0]), ([1, 1], [1]), ([], []), ([3], [3]), ([4, 4], [4]), ([], []), ([6], [6]), ([7, 7], [7]), ([2, 0, 1, 2], [2]), ([5, 9, 0, 1, 2, 3, 4, 5, 9], [5]), ([8, 10, 0, 1, 2, 3, 4, 5, 6, 7, 8, 9, 10], [8]), ([11, 0, 1, 2, 3, 4, 5, 6, 7, 8, 9, 10, 11], [])])
def impl_RunJobs.B4 : List Nat := [0, 1, 3, 0, 8, 24, 0, 64, 192, 7, 575, 2047, 4095]
theorem impl_RunJobs.tab4 : rtab .any (opsOf Try.f25 4) = impl_RunJobs.T4 := by kernel_rfl
theorem impl_RunJobs.bits4 : waitsOk impl_RunJobs.T4.2 impl_RunJobs.B4 = true := by kernel_rfl
def impl_RunJobs.T20 : Bool × List (List Nat × List Nat) := (true, [([], []), ([0], [0]), ([], []), ([1, 2], [1, 2]), ([3], [3]), ([4], [4]), ([4], [4]), ([5, 6, 4], [4, 5, 6]), ([7, 4], [4, 7]), ([8, 4], [4, 8]), ([4, 9], [4, 9]), ([10, 4], [10]), ([11], [11]), ([12, 11], [11, 12]), ([13, 11, 11], [11, 13]), ([14], [14]), ([14], [14]), ([15, 16, 14], [14, 15, 16]), ([17, 14], [14, 17]), ([14], [14]), ([14], [14]), ([19, 20, 14], [14, 19, 20]), ([21, 14], [14, 21]), ([18, 22, 14], [14, 18, 22]), ([14, 23, 11], [11, 14, 23]), ([11, 24], [11, 24])])
def impl_RunJobs.B20 : List Nat := [0, 1, 0, 7, 15, 31, 31, 127, 255, 511, 1023, 2047, 4095, 8191, 16383, 32767, 32767, 131071, 262143, 32767, 32767, 1605631, 3702783, 8388607, 16777215, 33554431]
theorem impl_RunJobs.tab20 : rtab .any (opsOf Try.f25 20) = impl_RunJobs.T20 := by kernel_rfl
theorem impl_RunJobs.bits20 : waitsOk impl_RunJobs.T20.2 impl_RunJobs.B20 = true := by kernel_rfl
set_option maxHeartbeats 8000000 in
set_option maxRecDepth 100000 in
theorem impl_RunJobs.calls (k : Nat) (a0_0 : Int) (a0_1 : Int) (A0_2 : Option Addr) (c0_2 : Nat) (l0_2 : List (S62)) (A1 : Option Addr) (c1 : Nat) (l1 : List (S74)) (a2 : Int) (r1 : List Int) (r2 : Int) (r3 : Bool) (w : World) (hr0_2 : Kd.C k62 w A0_2 l0_2.length l0_2) (hc0_2 : l0_2.length ≤ c0_2) (hr1 : Kd.C k74 w A1 l1.length l1) (hc1 : l1.length ≤ c1) (h : impl_RunJobs.f k a0_0 a0_1 l0_2 l1 a2 = some (r1, r2, r3)) :
  Calls Try.prog 25 #[.agg #[.int .i64 a0_0, .int .i64 a0_1, .slice A0_2 l0_2.length c0_2], .slice A1 l1.length c1, .int .i64 a2] w fun e w' => ∃ v0_ : Value, e = .returned (.tuple #[v0_, .int .i64 r2, .bool r3]) ∧ Kd.R (Kd.int .i64) 3 w' w.heap.size (fun _ => True) v0_ r1 ∧ Below w.heap.size w w' := by
 have hu29 := Try.underlying29
 have hu74 := Try.underlying74
 have HR0_2 := Aside0.mk hr0_2
 have HC0_2 := Aside0.mk hc0_2
 clear hr0_2 hc0_2
 have HR1 := Aside0.mk hr1
 have HC1 := Aside0.mk hc1
 clear hr1 hc1
 have HB := Aside0.mk (Below.refl w.heap.size w)
 have H : ((slices_ContainsFunc_RunJobs_1.f l1 a0_0 a0_1 l0_2).bind fun t161 => ((impl_PlanOk.f k a0_0 a0_1 l0_2).bind fun t162 => (if t162 = true then (if t161 = true then (impl_RunJobs.j0 k l1 a2 true a0_0 a0_1 l0_2) else (if (l1.length : Int) > 20 then (impl_RunJobs.j0 k l1 a2 true a0_0 a0_1 l0_2) else ((impl_in.f a2 0 5000).bind fun t163 => (impl_RunJobs.j0 k l1 a2 (!t163) a0_0 a0_1 l0_2)))) else (impl_RunJobs.j0 k l1 a2 true a0_0 a0_1 l0_2)))) = some (r1, r2, r3) := h
 clear h
 replace H := Option.bind_eq_some_iff.mp H
 obtain ⟨t161, A40, H⟩ := H
 replace H : ((impl_PlanOk.f k a0_0 a0_1 l0_2).bind fun t162 => (if t162 = true then (if t161 = true then (impl_RunJobs.j0 k l1 a2 true a0_0 a0_1 l0_2) else (if (l1.length : Int) > 20 then (impl_RunJobs.j0 k l1 a2 true a0_0 a0_1 l0_2) else ((impl_in.f a2 0 5000).bind fun t163 => (impl_RunJobs.j0 k l1 a2 (!t163) a0_0 a0_1 l0_2)))) else (impl_RunJobs.j0 k l1 a2 true a0_0 a0_1 l0_2))) = some (r1, r2, r3) := H
 have A4 := Aside0.mk A40
 clear A40
 have HC5 := Aside0.mk H
 clear H
 go_enter Try.func25, Try.ntmps25
 go_upto_region 2 with (first | ((with_reducible refine gate_dst (N := 3) rfl ?_); (try (refine gate_guard (by rfl) ?_; dsimp only)); refine box_event ?hg (N := 3) ?hd (cs := #[.int .i64 a0_0, .int .i64 a0_1, .slice A0_2 l0_2.length c0_2]) (t := 29) ?hr ?_; (case hd => rfl); (case hg => rfl); (case hr => first | (go_simp; done) | (go_simp; rfl)); intro gb160 hg w6 hbox hb; have BK160 := Aside0.mk (hbox); have GW160 := Aside0.mk ((by rw [hg]; exact (below_size (bl HB.out)) : w.heap.size ≤ gb160)); have GE160 := GW160; replace HB := Aside0.mk (below_step (bl HB.out) hb); clear hb hbox hg) | ((with_reducible refine gate_callee (f := 52) rfl ?_); refine goesL_ (some 23) rfl rfl Try.func52 (by kernel_rfl) rfl #[.slice A1 l1.length c1, .func (.func 53) #[] #[.pointer (some ⟨gb160, 0, none⟩)]] rfl (by (try simp only [am_]); first | done | rfl) ?_; (with_reducible refine (slices_ContainsFunc_RunJobs_1.calls _ _ l1 a0_0 a0_1 A0_2 c0_2 l0_2 t161 _ ?side1 ?side2 ?side3 ?side4 ?side5 A4.out).mono ?_); (case side1 => exact (bk BK160.out)); (case side2 => exact rc (Kd.C_below HR1.out HB.out)); (case side3 => exact HC1.out); (case side4 => exact rc (Kd.C_below HR0_2.out HB.out)); (case side5 => exact HC0_2.out); rintro e w7 ⟨rfl, hb⟩; refine ⟨_, rfl, ?_⟩; replace BK160 := Aside0.mk (blk_below (bk BK160.out) hb); replace HB := Aside0.mk (below_step (by repeat with_reducible first | exact bl HB.out | refine below_set ?_ GE160.out | refine bq ?_) hb); (try clear hb); (try clear hb2); (try clear hk); (try clear hi)))
 (try simp only [Act.put, List.setIfInBounds_toArray, List.set_cons_zero, List.set_cons_succ])
 go_cut [39] (fun v39 wc => ∃ (kq : Nat) (x39_4 : Bool), v39 = .bool x39_4 ∧ Aside0 (impl_RunJobs.j0 kq l1 a2 x39_4 a0_0 a0_1 l0_2 = some (r1, r2, r3)) ∧ Aside0 (kq ≤ k) ∧ Aside0 (wc.heap[gb160]? = some (.cells #[.int .i64 a0_0, .int .i64 a0_1, (.slice A0_2 l0_2.length c0_2)] 29 (0, 0))) ∧ Aside0 (Below w.heap.size w wc))
 case first =>
  have H := HC5.out
  clear HC5
  replace H := Option.bind_eq_some_iff.mp H
  obtain ⟨t162, A80, H⟩ := H
  replace H : (if t162 = true then (if t161 = true then (impl_RunJobs.j0 k l1 a2 true a0_0 a0_1 l0_2) else (if (l1.length : Int) > 20 then (impl_RunJobs.j0 k l1 a2 true a0_0 a0_1 l0_2) else ((impl_in.f a2 0 5000).bind fun t163 => (impl_RunJobs.j0 k l1 a2 (!t163) a0_0 a0_1 l0_2)))) else (impl_RunJobs.j0 k l1 a2 true a0_0 a0_1 l0_2)) = some (r1, r2, r3) := H
  have A8 := Aside0.mk A80
  clear A80
  by_cases c9 : t162 = true
  ·
   subst c9
   have H1 : (if t161 = true then (impl_RunJobs.j0 k l1 a2 true a0_0 a0_1 l0_2) else (if (l1.length : Int) > 20 then (impl_RunJobs.j0 k l1 a2 true a0_0 a0_1 l0_2) else ((impl_in.f a2 0 5000).bind fun t163 => (impl_RunJobs.j0 k l1 a2 (!t163) a0_0 a0_1 l0_2)))) = some (r1, r2, r3) := by rw [if_pos rfl] at H; exact H
   clear H
   have H := H1
   clear H1
   by_cases c10 : t161 = true
   ·
    subst c10
    have H1 : (impl_RunJobs.j0 k l1 a2 true a0_0 a0_1 l0_2) = some (r1, r2, r3) := by rw [if_pos rfl] at H; exact H
    clear H
    have H := H1
    clear H1
    have H' := Aside0.mk H
    clear H
    obtain ⟨hcz11_0, hcz11_1, hcz11_2⟩ := ck3 BK160.out
    obtain ⟨hfz11_0, hfz11_1, hfz11_2⟩ := fz3 BK160.out
    go_wp2_with (first | ((with_reducible refine gate_callee (f := 12) rfl ?_); refine goesL_ (some 25) rfl rfl Try.func12 (by kernel_rfl) rfl #[.agg #[.int .i64 a0_0, .int .i64 a0_1, .slice A0_2 l0_2.length c0_2]] rfl (by (try simp only [am_]); first | done | rfl) ?_; (with_reducible refine (impl_PlanOk.calls k a0_0 a0_1 _ _ l0_2 true _ ?side1 ?side2 A8.out).mono ?_); (case side1 => exact rc (Kd.C_below HR0_2.out HB.out)); (case side2 => exact HC0_2.out); rintro e w12 ⟨rfl, hb⟩; refine ⟨_, rfl, ?_⟩; replace BK160 := Aside0.mk (blk_below (bk BK160.out) hb); replace HB := Aside0.mk (below_step (by repeat with_reducible first | exact bl HB.out | refine below_set ?_ GE160.out | refine bq ?_) hb); (try clear hb); (try clear hb2); (try clear hk); (try clear hi)))
    go_meet
    case rel => exact ⟨_, (true), (by first | rfl | (simp; done) | (simp [*]; done)), H', ⟨by first | omega | exact Nat.le_refl _⟩, ⟨bk BK160.out⟩, ⟨by repeat with_reducible first | exact bl HB.out | refine below_set ?_ GE160.out | refine bq ?_⟩⟩
   ·
    replace c10 := Bool.eq_false_iff.mpr c10
    subst c10
    have H1 : (if (l1.length : Int) > 20 then (impl_RunJobs.j0 k l1 a2 true a0_0 a0_1 l0_2) else ((impl_in.f a2 0 5000).bind fun t163 => (impl_RunJobs.j0 k l1 a2 (!t163) a0_0 a0_1 l0_2))) = some (r1, r2, r3) := by rw [if_neg (show ¬ (false = true) by decide)] at H; exact H
    clear H
    have H := H1
    clear H1
    by_cases c13 : (l1.length : Int) > 20
    ·
     rw [if_pos c13] at H
     have c13b0 : decide (20 < (l1.length : Int)) = true := decide_eq_true c13
     have c13b1 : decide (20 < l1.length) = true := decide_eq_true (by omega)
     clear c13
     (first | rw [c13b0] | (simp only [i64_w, i32_w]; rw [c13b0]) | rw [c13b1] | skip)
     have H' := Aside0.mk H
     clear H
     obtain ⟨hcz14_0, hcz14_1, hcz14_2⟩ := ck3 BK160.out
     obtain ⟨hfz14_0, hfz14_1, hfz14_2⟩ := fz3 BK160.out
     go_wp2_with (first | ((with_reducible refine gate_callee (f := 12) rfl ?_); refine goesL_ (some 25) rfl rfl Try.func12 (by kernel_rfl) rfl #[.agg #[.int .i64 a0_0, .int .i64 a0_1, .slice A0_2 l0_2.length c0_2]] rfl (by (try simp only [am_]); first | done | rfl) ?_; (with_reducible refine (impl_PlanOk.calls k a0_0 a0_1 _ _ l0_2 true _ ?side1 ?side2 A8.out).mono ?_); (case side1 => exact rc (Kd.C_below HR0_2.out HB.out)); (case side2 => exact HC0_2.out); rintro e w15 ⟨rfl, hb⟩; refine ⟨_, rfl, ?_⟩; replace BK160 := Aside0.mk (blk_below (bk BK160.out) hb); replace HB := Aside0.mk (below_step (by repeat with_reducible first | exact bl HB.out | refine below_set ?_ GE160.out | refine bq ?_) hb); (try clear hb); (try clear hb2); (try clear hk); (try clear hi)))
     go_meet
     case rel => exact ⟨_, (true), (by first | rfl | (simp; done) | (simp [*]; done)), H', ⟨by first | omega | exact Nat.le_refl _⟩, ⟨bk BK160.out⟩, ⟨by repeat with_reducible first | exact bl HB.out | refine below_set ?_ GE160.out | refine bq ?_⟩⟩
    ·
     rw [if_neg c13] at H
     have c13b0 : decide (20 < (l1.length : Int)) = false := decide_eq_false c13
     have c13b1 : decide (20 < l1.length) = false := decide_eq_false (by omega)
     clear c13
     (first | rw [c13b0] | (simp only [i64_w, i32_w]; rw [c13b0]) | rw [c13b1] | skip)
     replace H := Option.bind_eq_some_iff.mp H
     obtain ⟨t163, A160, H⟩ := H
     replace H : (impl_RunJobs.j0 k l1 a2 (!t163) a0_0 a0_1 l0_2) = some (r1, r2, r3) := H
     have A16 := Aside0.mk A160
     clear A160
     have H' := Aside0.mk H
     clear H
     obtain ⟨hcz17_0, hcz17_1, hcz17_2⟩ := ck3 BK160.out
     obtain ⟨hfz17_0, hfz17_1, hfz17_2⟩ := fz3 BK160.out
     go_wp2_with (first | ((with_reducible refine gate_callee (f := 12) rfl ?_); refine goesL_ (some 25) rfl rfl Try.func12 (by kernel_rfl) rfl #[.agg #[.int .i64 a0_0, .int .i64 a0_1, .slice A0_2 l0_2.length c0_2]] rfl (by (try simp only [am_]); first | done | rfl) ?_; (with_reducible refine (impl_PlanOk.calls k a0_0 a0_1 _ _ l0_2 true _ ?side1 ?side2 A8.out).mono ?_); (case side1 => exact rc (Kd.C_below HR0_2.out HB.out)); (case side2 => exact HC0_2.out); rintro e w18 ⟨rfl, hb⟩; refine ⟨_, rfl, ?_⟩; replace BK160 := Aside0.mk (blk_below (bk BK160.out) hb); replace HB := Aside0.mk (below_step (by repeat with_reducible first | exact bl HB.out | refine below_set ?_ GE160.out | refine bq ?_) hb); (try clear hb); (try clear hb2); (try clear hk); (try clear hi)) | (go_at_call 38; (with_reducible refine (impl_in.calls a2 0 5000 t163 _ A16.out).mono ?_); rintro e w' ⟨rfl, ⟨nd, rfl⟩⟩))
     go_meet
     case rel => exact ⟨_, (!t163), (by first | rfl | (simp; done) | (simp [*]; done)), H', ⟨by first | omega | exact Nat.le_refl _⟩, ⟨bk BK160.out⟩, ⟨by repeat with_reducible first | exact bl HB.out | refine below_set ?_ GE160.out | refine bq ?_⟩⟩
  ·
   replace c9 := Bool.eq_false_iff.mpr c9
   subst c9
   have H1 : (impl_RunJobs.j0 k l1 a2 true a0_0 a0_1 l0_2) = some (r1, r2, r3) := by rw [if_neg (show ¬ (false = true) by decide)] at H; exact H
   clear H
   have H := H1
   clear H1
   have H' := Aside0.mk H
   clear H
   obtain ⟨hcz19_0, hcz19_1, hcz19_2⟩ := ck3 BK160.out
   obtain ⟨hfz19_0, hfz19_1, hfz19_2⟩ := fz3 BK160.out
   go_wp2_with (first | ((with_reducible refine gate_callee (f := 12) rfl ?_); refine goesL_ (some 25) rfl rfl Try.func12 (by kernel_rfl) rfl #[.agg #[.int .i64 a0_0, .int .i64 a0_1, .slice A0_2 l0_2.length c0_2]] rfl (by (try simp only [am_]); first | done | rfl) ?_; (with_reducible refine (impl_PlanOk.calls k a0_0 a0_1 _ _ l0_2 false _ ?side1 ?side2 A8.out).mono ?_); (case side1 => exact rc (Kd.C_below HR0_2.out HB.out)); (case side2 => exact HC0_2.out); rintro e w20 ⟨rfl, hb⟩; refine ⟨_, rfl, ?_⟩; replace BK160 := Aside0.mk (blk_below (bk BK160.out) hb); replace HB := Aside0.mk (below_step (by repeat with_reducible first | exact bl HB.out | refine below_set ?_ GE160.out | refine bq ?_) hb); (try clear hb); (try clear hb2); (try clear hk); (try clear hi)))
   go_meet
   case rel => exact ⟨_, (true), (by first | rfl | (simp; done) | (simp [*]; done)), H', ⟨by first | omega | exact Nat.le_refl _⟩, ⟨bk BK160.out⟩, ⟨by repeat with_reducible first | exact bl HB.out | refine below_set ?_ GE160.out | refine bq ?_⟩⟩
 case rest =>
  clear HC5
  try clear c1
  try clear c2
  try clear p2
  try clear c9
  try clear c10
  try clear c12
  try clear c13
  try clear c13b0
  try clear c13b1
  try clear hcz11_0 hcz11_1 hcz11_2 hfz11_0 hfz11_1 hfz11_2
  try clear hcz14_0 hcz14_1 hcz14_2 hfz14_0 hfz14_1 hfz14_2
  try clear hcz17_0 hcz17_1 hcz17_2 hfz17_0 hfz17_1 hfz17_2
  try clear hcz19_0 hcz19_1 hcz19_2 hfz19_0 hfz19_1 hfz19_2
  (try clear BK160); obtain ⟨kq, x39_4, rfl, HA, HJ4, BK160, HB⟩ := hcut
  cases kq with
  | zero => exact absurd HA.out (by simp [impl_RunJobs.j0])
  | succ kj4 =>
   have H := HA.out
   clear HA
   simp only [impl_RunJobs.j0] at H
   by_cases c21 : x39_4 = true
   ·
    subst c21
    have H1 : (some (([] : List Int), 0, false)) = some (r1, r2, r3) := by rw [if_pos rfl] at H; exact H
    clear H
    have H := H1
    clear H1
    simp only [Option.some.injEq, Prod.mk.injEq] at H
    obtain ⟨rfl, rfl, rfl⟩ := H
    go_wp2
    go_ret3
    exact ⟨_, by first | rfl | (simp [errW_none, errW_some] <;> rfl) | (simp [*, errW_none, errW_some] <;> rfl), by first | exact Kd.R_nil _ _ _ _ _ | exact Kd.N_nil _ _ _ _ _ | exact Kd.V_nil _ _ _ _ _ | exact Kd.Q_nil _ _ _ _ _ | exact Kd.S_nil _ _ _ _ _, by repeat with_reducible first | exact bl HB.out | refine below_set ?_ GE160.out | refine bq ?_⟩
   ·
    replace c21 := Bool.eq_false_iff.mpr c21
    subst c21
    have H1 : (if 0 ≤ (l1.length : Int) then (if ((l1.length : Int) : Int).toNat ≤ 35184372088832 then (impl_RunJobs.l0 kj4 l1 (List.replicate ((l1.length : Int) : Int).toNat 0) (List.replicate ((l1.length : Int) : Int).toNat 0) (List.replicate ((l1.length : Int) : Int).toNat 0) 0 a2 0 a0_0 a0_1 l0_2) else (none)) else (none)) = some (r1, r2, r3) := by rw [if_neg (show ¬ (false = true) by decide)] at H; exact H
    clear H
    have H := H1
    clear H1
    by_cases c22 : 0 ≤ (l1.length : Int)
    ·
     rw [if_pos c22] at H
     have c22b0 := eq_true c22
     have c22b1 : decide (0 ≤ (l1.length : Int)) = true := decide_eq_true c22
     clear c22
     by_cases c23 : ((l1.length : Int) : Int).toNat ≤ 35184372088832
     ·
      rw [if_pos c23] at H
      have c23b0 := eq_true c23
      have c23b1 : decide (((l1.length : Int) : Int).toNat ≤ 35184372088832) = true := decide_eq_true c23
      clear c23
      obtain ⟨y164, hy164⟩ : ∃ y_ : List Int, y_ = (List.replicate ((l1.length : Int) : Int).toNat 0) := ⟨_, rfl⟩
      replace H : (impl_RunJobs.l0 kj4 l1 y164 (List.replicate ((l1.length : Int) : Int).toNat 0) (List.replicate ((l1.length : Int) : Int).toNat 0) 0 a2 0 a0_0 a0_1 l0_2) = some (r1, r2, r3) := by first | (rw [hy164]; with_reducible exact H) | (have H2_ := (Option.bind_some _ _).symm.trans H; rw [hy164]; with_reducible exact H2_) | (have H2_ := (Option.bind_some _ _).symm.trans H; with_reducible exact H2_) | with_reducible exact H | (rw [hy164]; exact H) | exact H
      have Ny164 := Aside0.mk hy164
      clear hy164
      obtain ⟨y167, hy167⟩ : ∃ y_ : List Int, y_ = (List.replicate ((l1.length : Int) : Int).toNat 0) := ⟨_, rfl⟩
      replace H : (impl_RunJobs.l0 kj4 l1 y164 y167 (List.replicate ((l1.length : Int) : Int).toNat 0) 0 a2 0 a0_0 a0_1 l0_2) = some (r1, r2, r3) := by first | (rw [hy167]; with_reducible exact H) | (have H2_ := (Option.bind_some _ _).symm.trans H; rw [hy167]; with_reducible exact H2_) | (have H2_ := (Option.bind_some _ _).symm.trans H; with_reducible exact H2_) | with_reducible exact H | (rw [hy167]; exact H) | exact H
      have Ny167 := Aside0.mk hy167
      clear hy167
      obtain ⟨y170, hy170⟩ : ∃ y_ : List Int, y_ = (List.replicate ((l1.length : Int) : Int).toNat 0) := ⟨_, rfl⟩
      replace H : (impl_RunJobs.l0 kj4 l1 y164 y167 y170 0 a2 0 a0_0 a0_1 l0_2) = some (r1, r2, r3) := by first | (rw [hy170]; with_reducible exact H) | (have H2_ := (Option.bind_some _ _).symm.trans H; rw [hy170]; with_reducible exact H2_) | (have H2_ := (Option.bind_some _ _).symm.trans H; with_reducible exact H2_) | with_reducible exact H | (rw [hy170]; exact H) | exact H
      have Ny170 := Aside0.mk hy170
      clear hy170
      have H' := Aside0.mk H
      clear H
      try go_wp2
      have n0_ := Aside0.mk (blk_drew BK160.out)
      have n1_ := Aside0.mk (below_drew1 HB.out)
      clear BK160
      clear HB
      have BK160 := n0_
      have HB := n1_
      clear n0_ n1_
      refine start_ (n := 13) (S := fun w' => True) (ds := []) m0_13 (by kernel_rfl) rfl rfl trivial (fun hHeld => ?_); refine with_tabW impl_RunJobs.tab4 impl_RunJobs.bits4 (fun HT_ HW_ => ?_)
      generalize wc.drew = w24 at BK160 HB hHeld ⊢
      refine pq_ HT_.out 0 40 m1_13 ?_
      refine pq_ HT_.out 1 41 m2_13 ?_
      refine pq_ HT_.out 3 43 n37 ?_
      refine pq_ HT_.out 4 44 n38 ?_
      refine pq_ HT_.out 6 46 n39 ?_
      refine pq_ HT_.out 7 47 n40 ?_
      refine join_ (σ := Value × Value × Value) 2 m11_13 (fun s_ => [(42, s_.1), (45, s_.2.1), (48, s_.2.2), (10, s_.1), (11, s_.2.1)]) (fun s_ w' => (Kd.R (Kd.int .i64) 3 w' w.heap.size (fun k_ => some k_ ≠ (s_.2.1 : Value).ownBlock ∧ some k_ ≠ (s_.2.2 : Value).ownBlock) s_.1 y164) ∧ (Kd.R (Kd.int .i64) 3 w' w.heap.size (fun k_ => some k_ ≠ (s_.1 : Value).ownBlock ∧ some k_ ≠ (s_.2.2 : Value).ownBlock) s_.2.1 y167) ∧ (Kd.R (Kd.int .i64) 3 w' w.heap.size (fun k_ => some k_ ≠ (s_.1 : Value).ownBlock ∧ some k_ ≠ (s_.2.1 : Value).ownBlock) s_.2.2 y170) ∧ (w'.heap[gb160]? = some (.cells #[.int .i64 a0_0, .int .i64 a0_1, .slice A0_2 l0_2.length c0_2] 29 (0, 0))) ∧ (Below w.heap.size w w')) ?_ ?_
      rotate_left
      ·
       intro hJ2_5_8
       refine join_ (σ := Value × Value) 3 n44 (fun s_ => [(42, s_.1), (45, s_.2), (10, s_.1), (11, s_.2)]) (fun s_ w' => (Kd.R (Kd.int .i64) 3 w' w.heap.size (fun k_ => some k_ ≠ (s_.2 : Value).ownBlock) s_.1 y164) ∧ (Kd.R (Kd.int .i64) 3 w' w.heap.size (fun k_ => some k_ ≠ (s_.1 : Value).ownBlock) s_.2 y167) ∧ (w'.heap[gb160]? = some (.cells #[.int .i64 a0_0, .int .i64 a0_1, .slice A0_2 l0_2.length c0_2] 29 (0, 0))) ∧ (Below w.heap.size w w')) ?_ ?_
       rotate_left
       ·
        intro hJ2_5
        refine join_ (σ := Value × Value) 4 n42 (fun s_ => [(42, s_.1), (48, s_.2), (10, s_.1)]) (fun s_ w' => (Kd.R (Kd.int .i64) 3 w' w.heap.size (fun k_ => some k_ ≠ (s_.2 : Value).ownBlock) s_.1 y164) ∧ (Kd.R (Kd.int .i64) 3 w' w.heap.size (fun k_ => some k_ ≠ (s_.1 : Value).ownBlock) s_.2 y170) ∧ (w'.heap[gb160]? = some (.cells #[.int .i64 a0_0, .int .i64 a0_1, .slice A0_2 l0_2.length c0_2] 29 (0, 0))) ∧ (Below w.heap.size w w')) ?_ ?_
        rotate_left
        ·
         intro hJ2_8
         refine join_ (σ := Value × Value) 5 n79 (fun s_ => [(45, s_.1), (48, s_.2)]) (fun s_ w' => (Kd.R (Kd.int .i64) 3 w' w.heap.size (fun k_ => some k_ ≠ (s_.2 : Value).ownBlock) s_.1 y167) ∧ (Kd.R (Kd.int .i64) 3 w' w.heap.size (fun k_ => some k_ ≠ (s_.1 : Value).ownBlock) s_.2 y170) ∧ (w'.heap[gb160]? = some (.cells #[.int .i64 a0_0, .int .i64 a0_1, .slice A0_2 l0_2.length c0_2] 29 (0, 0))) ∧ (Below w.heap.size w w')) ?_ ?_
         rotate_left
         ·
          intro hJ5_8
          refine join_ (σ := Value) 5 n41 (fun s_ => [(42, s_), (10, s_)]) (fun s_ w' => (Kd.R (Kd.int .i64) 3 w' w.heap.size (fun _ => True) s_ y164) ∧ (w'.heap[gb160]? = some (.cells #[.int .i64 a0_0, .int .i64 a0_1, .slice A0_2 l0_2.length c0_2] 29 (0, 0))) ∧ (Below w.heap.size w w')) ?_ ?_
          rotate_left
          ·
           intro hJ2
           refine join_ (σ := Value) 6 n80 (fun s_ => [(45, s_)]) (fun s_ w' => (Kd.R (Kd.int .i64) 3 w' w.heap.size (fun _ => True) s_ y167) ∧ (w'.heap[gb160]? = some (.cells #[.int .i64 a0_0, .int .i64 a0_1, .slice A0_2 l0_2.length c0_2] 29 (0, 0))) ∧ (Below w.heap.size w w')) ?_ ?_
           rotate_left
           ·
            intro hJ5
            refine join_ (σ := Value) 6 n81 (fun s_ => [(48, s_)]) (fun s_ w' => (Kd.R (Kd.int .i64) 3 w' w.heap.size (fun _ => True) s_ y170) ∧ (w'.heap[gb160]? = some (.cells #[.int .i64 a0_0, .int .i64 a0_1, .slice A0_2 l0_2.length c0_2] 29 (0, 0))) ∧ (Below w.heap.size w w')) ?_ ?_
            rotate_left
            ·
             intro hJ8
             refine three_ (i := 2) (j := 5) (k := 8) (Ni := some 42) (Nj := some 45) (Nk := some 48) n82 n80 n81 rfl rfl rfl rfl rfl rfl (three_of HT_.out (by kernel_rfl)) (by decide) (by decide) (by decide) (fun K hK => ?_) (fun K hK => ?_) (fun K hK => ?_)
             ·
              skip
              refine Kd.R_make_step (Kd.int .i64) _ 3 (by rfl) (N := 42) rfl 44 _ _ rfl (l1.length : Int) rfl rfl Try.underlying44 (.int .i64 0) 8 info3 rfl (by decide) (by omega) 0 (ok := fun _ => True) (okp := fun _ => True) rfl (fun _ hk => hk) trivial (of_decide_eq_true (by first | (with_reducible assumption) | assumption)) (Nat.le_trans (Nat.mul_le_mul_right _ (of_decide_eq_true (by first | (with_reducible assumption) | assumption) : (l1.length : Int).toNat ≤ 35184372088832)) (by omega)) (Below.refl _ _) (Nat.le_refl _) ?_
              intro v165 w25 ho26 hb hg_ hnew_
              clear hg_ hnew_
              (first | rw [← Ny164.out] at ho26 | (simp only [Int.reduceToNat] at ho26; rw [← Ny164.out] at ho26))
              have n0_ := Aside0.mk (Kd.R_lower ho26 (below_size (by repeat with_reducible first | exact bl HB.out | refine below_set ?_ GE160.out | refine bq ?_)))
              have n1_ := Aside0.mk (blk_below (bk BK160.out) hb)
              have n2_ := Aside0.mk (below_step (by repeat with_reducible first | exact bl HB.out | refine below_set ?_ GE160.out | refine bq ?_) hb)
              clear BK160
              clear HB
              have HO166 := n0_
              have BK160 := n1_
              have HB := n2_
              clear n0_ n1_ n2_
              clear hb ho26
              refine hK.out _ _ trivial (fun hHeld => ?_)
              clear hK K
              refine norm_ (a' := ?_) ?_ ?_
              rotate_left
              ·
               show Act.put _ (some 42) _ = _
               simp only [sp_]
               rfl
              refine pq_ HT_.out 9 10 n41 ?_
              exact norm_ (by first | (simp only [putAll, Act.put, List.setIfInBounds_toArray, List.set_cons_zero, List.set_cons_succ]; done) | (simp only [putAll, Act.put, List.setIfInBounds_toArray, List.set_cons_zero, List.set_cons_succ]; rfl)) (hJ2 (v165) _ ⟨(rl HO166.out), (bk BK160.out), (by repeat with_reducible first | exact bl HB.out | refine below_set ?_ GE160.out | refine bq ?_)⟩)
             ·
              skip
              refine Kd.R_make_step (Kd.int .i64) _ 3 (by rfl) (N := 45) rfl 44 _ _ rfl (l1.length : Int) rfl rfl Try.underlying44 (.int .i64 0) 8 info3 rfl (by decide) (by omega) 0 (ok := fun _ => True) (okp := fun _ => True) rfl (fun _ hk => hk) trivial (of_decide_eq_true (by first | (with_reducible assumption) | assumption)) (Nat.le_trans (Nat.mul_le_mul_right _ (of_decide_eq_true (by first | (with_reducible assumption) | assumption) : (l1.length : Int).toNat ≤ 35184372088832)) (by omega)) (Below.refl _ _) (Nat.le_refl _) ?_
              intro v168 w25 ho26 hb hg_ hnew_
              clear hg_ hnew_
              (first | rw [← Ny167.out] at ho26 | (simp only [Int.reduceToNat] at ho26; rw [← Ny167.out] at ho26))
              have n0_ := Aside0.mk (Kd.R_lower ho26 (below_size (by repeat with_reducible first | exact bl HB.out | refine below_set ?_ GE160.out | refine bq ?_)))
              have n1_ := Aside0.mk (blk_below (bk BK160.out) hb)
              have n2_ := Aside0.mk (below_step (by repeat with_reducible first | exact bl HB.out | refine below_set ?_ GE160.out | refine bq ?_) hb)
              clear BK160
              clear HB
              have HO169 := n0_
              have BK160 := n1_
              have HB := n2_
              clear n0_ n1_ n2_
              clear hb ho26
              refine hK.out _ _ trivial (fun hHeld => ?_)
              clear hK K
              refine norm_ (a' := ?_) ?_ ?_
              rotate_left
              ·
               show Act.put _ (some 45) _ = _
               simp only [sp_]
               rfl
              exact norm_ (by first | (simp only [putAll, Act.put, List.setIfInBounds_toArray, List.set_cons_zero, List.set_cons_succ]; done) | (simp only [putAll, Act.put, List.setIfInBounds_toArray, List.set_cons_zero, List.set_cons_succ]; rfl)) (hJ5 (v168) _ ⟨(rl HO169.out), (bk BK160.out), (by repeat with_reducible first | exact bl HB.out | refine below_set ?_ GE160.out | refine bq ?_)⟩)
             ·
              skip
              refine Kd.R_make_step (Kd.int .i64) _ 3 (by rfl) (N := 48) rfl 44 _ _ rfl (l1.length : Int) rfl rfl Try.underlying44 (.int .i64 0) 8 info3 rfl (by decide) (by omega) 0 (ok := fun _ => True) (okp := fun _ => True) rfl (fun _ hk => hk) trivial (of_decide_eq_true (by first | (with_reducible assumption) | assumption)) (Nat.le_trans (Nat.mul_le_mul_right _ (of_decide_eq_true (by first | (with_reducible assumption) | assumption) : (l1.length : Int).toNat ≤ 35184372088832)) (by omega)) (Below.refl _ _) (Nat.le_refl _) ?_
              intro v171 w25 ho26 hb hg_ hnew_
              clear hg_ hnew_
              (first | rw [← Ny170.out] at ho26 | (simp only [Int.reduceToNat] at ho26; rw [← Ny170.out] at ho26))
              have n0_ := Aside0.mk (Kd.R_lower ho26 (below_size (by repeat with_reducible first | exact bl HB.out | refine below_set ?_ GE160.out | refine bq ?_)))
              have n1_ := Aside0.mk (blk_below (bk BK160.out) hb)
              have n2_ := Aside0.mk (below_step (by repeat with_reducible first | exact bl HB.out | refine below_set ?_ GE160.out | refine bq ?_) hb)
              clear BK160
              clear HB
              have HO172 := n0_
              have BK160 := n1_
              have HB := n2_
              clear n0_ n1_ n2_
              clear hb ho26
              refine hK.out _ _ trivial (fun hHeld => ?_)
              clear hK K
              refine norm_ (a' := ?_) ?_ ?_
              rotate_left
              ·
               show Act.put _ (some 48) _ = _
               simp only [sp_]
               rfl
              exact norm_ (by first | (simp only [putAll, Act.put, List.setIfInBounds_toArray, List.set_cons_zero, List.set_cons_succ]; done) | (simp only [putAll, Act.put, List.setIfInBounds_toArray, List.set_cons_zero, List.set_cons_succ]; rfl)) (hJ8 (v171) _ ⟨(rl HO172.out), (bk BK160.out), (by repeat with_reducible first | exact bl HB.out | refine below_set ?_ GE160.out | refine bq ?_)⟩)
            ·
             skip
             rintro v171 w27 ⟨h0_, h1_, h2_⟩
             have n0_ : Aside0 (Kd.R (Kd.int .i64) 3 w27 w.heap.size (fun _ => True) v171 y170) := ⟨h0_⟩
             have n1_ : Aside0 (w27.heap[gb160]? = some (.cells #[.int .i64 a0_0, .int .i64 a0_1, .slice A0_2 l0_2.length c0_2] 29 (0, 0))) := ⟨h1_⟩
             have n2_ : Aside0 (Below w.heap.size w w27) := ⟨h2_⟩
             clear BK160
             clear HB
             clear h0_ h1_ h2_
             have HO172 := n0_
             have BK160 := n1_
             have HB := n2_
             clear n0_ n1_ n2_
             have hHeld := trivial
             refine norm_ (a' := ?_) ?_ ?_
             rotate_left
             ·
              simp only [putAll, Act.put, List.setIfInBounds_toArray, List.set_cons_zero, List.set_cons_succ]
              rfl
             refine two_ (i := 2) (j := 5) (Ni := some 42) (Nj := some 45) n83 n79 rfl rfl rfl rfl (two_of HT_.out (by kernel_rfl)) (by decide) (by decide) (fun K hK => ?_) (fun K hK => ?_)
             ·
              skip
              refine Kd.R_make_step (Kd.int .i64) _ 3 (by rfl) (N := 42) rfl 44 _ _ rfl (l1.length : Int) rfl rfl Try.underlying44 (.int .i64 0) 8 info3 rfl (by decide) (by omega) 0 (ok := fun _ => True) (okp := fun _ => True) rfl (fun _ hk => hk) trivial (of_decide_eq_true (by first | (with_reducible assumption) | assumption)) (Nat.le_trans (Nat.mul_le_mul_right _ (of_decide_eq_true (by first | (with_reducible assumption) | assumption) : (l1.length : Int).toNat ≤ 35184372088832)) (by omega)) (Below.refl _ _) (Nat.le_refl _) ?_
              intro v165 w28 ho29 hb hg_ hnew_
              clear hg_ hnew_
              (first | rw [← Ny164.out] at ho29 | (simp only [Int.reduceToNat] at ho29; rw [← Ny164.out] at ho29))
              have n0_ := Aside0.mk (Kd.R_elder' (rl HO172.out) (Kd.R_base ho29) hb)
              have n1_ := Aside0.mk (Kd.R_lower (Kd.R_new' ho29 (Kd.R_lt (by (repeat apply rl1); exact HO172.out))) (below_size (by repeat with_reducible first | exact bl HB.out | refine below_set ?_ GE160.out | refine bq ?_)))
              have n2_ := Aside0.mk (blk_below (bk BK160.out) hb)
              have n3_ := Aside0.mk (below_step (by repeat with_reducible first | exact bl HB.out | refine below_set ?_ GE160.out | refine bq ?_) hb)
              clear HO172
              clear BK160
              clear HB
              have HO172 := n0_
              have HO166 := n1_
              have BK160 := n2_
              have HB := n3_
              clear n0_ n1_ n2_ n3_
              clear hb ho29
              refine hK.out _ _ trivial (fun hHeld => ?_)
              clear hK K
              refine norm_ (a' := ?_) ?_ ?_
              rotate_left
              ·
               show Act.put _ (some 42) _ = _
               simp only [sp_]
               rfl
              refine pq_ HT_.out 9 10 n42 ?_
              exact norm_ (by first | (simp only [putAll, Act.put, List.setIfInBounds_toArray, List.set_cons_zero, List.set_cons_succ]; done) | (simp only [putAll, Act.put, List.setIfInBounds_toArray, List.set_cons_zero, List.set_cons_succ]; rfl)) (hJ2_8 (v165, v171) _ ⟨(by (repeat apply rl1); exact Kd.R_mono HO166.out (fun _ hk => hk.2)), (by (repeat apply rl1); exact Kd.R_mono HO172.out (fun _ hk => hk.2)), (bk BK160.out), (by repeat with_reducible first | exact bl HB.out | refine below_set ?_ GE160.out | refine bq ?_)⟩)
             ·
              skip
              refine Kd.R_make_step (Kd.int .i64) _ 3 (by rfl) (N := 45) rfl 44 _ _ rfl (l1.length : Int) rfl rfl Try.underlying44 (.int .i64 0) 8 info3 rfl (by decide) (by omega) 0 (ok := fun _ => True) (okp := fun _ => True) rfl (fun _ hk => hk) trivial (of_decide_eq_true (by first | (with_reducible assumption) | assumption)) (Nat.le_trans (Nat.mul_le_mul_right _ (of_decide_eq_true (by first | (with_reducible assumption) | assumption) : (l1.length : Int).toNat ≤ 35184372088832)) (by omega)) (Below.refl _ _) (Nat.le_refl _) ?_
              intro v168 w28 ho29 hb hg_ hnew_
              clear hg_ hnew_
              (first | rw [← Ny167.out] at ho29 | (simp only [Int.reduceToNat] at ho29; rw [← Ny167.out] at ho29))
              have n0_ := Aside0.mk (Kd.R_elder' (rl HO172.out) (Kd.R_base ho29) hb)
              have n1_ := Aside0.mk (Kd.R_lower (Kd.R_new' ho29 (Kd.R_lt (by (repeat apply rl1); exact HO172.out))) (below_size (by repeat with_reducible first | exact bl HB.out | refine below_set ?_ GE160.out | refine bq ?_)))
              have n2_ := Aside0.mk (blk_below (bk BK160.out) hb)
              have n3_ := Aside0.mk (below_step (by repeat with_reducible first | exact bl HB.out | refine below_set ?_ GE160.out | refine bq ?_) hb)
              clear HO172
              clear BK160
              clear HB
              have HO172 := n0_
              have HO169 := n1_
              have BK160 := n2_
              have HB := n3_
              clear n0_ n1_ n2_ n3_
              clear hb ho29
              refine hK.out _ _ trivial (fun hHeld => ?_)
              clear hK K
              refine norm_ (a' := ?_) ?_ ?_
              rotate_left
              ·
               show Act.put _ (some 45) _ = _
               simp only [sp_]
               rfl
              exact norm_ (by first | (simp only [putAll, Act.put, List.setIfInBounds_toArray, List.set_cons_zero, List.set_cons_succ]; done) | (simp only [putAll, Act.put, List.setIfInBounds_toArray, List.set_cons_zero, List.set_cons_succ]; rfl)) (hJ5_8 (v168, v171) _ ⟨(by (repeat apply rl1); exact Kd.R_mono HO169.out (fun _ hk => hk.2)), (by (repeat apply rl1); exact Kd.R_mono HO172.out (fun _ hk => hk.2)), (bk BK160.out), (by repeat with_reducible first | exact bl HB.out | refine below_set ?_ GE160.out | refine bq ?_)⟩)
           ·
            skip
            rintro v168 w27 ⟨h0_, h1_, h2_⟩
            have n0_ : Aside0 (Kd.R (Kd.int .i64) 3 w27 w.heap.size (fun _ => True) v168 y167) := ⟨h0_⟩
            have n1_ : Aside0 (w27.heap[gb160]? = some (.cells #[.int .i64 a0_0, .int .i64 a0_1, .slice A0_2 l0_2.length c0_2] 29 (0, 0))) := ⟨h1_⟩
            have n2_ : Aside0 (Below w.heap.size w w27) := ⟨h2_⟩
            clear BK160
            clear HB
            clear h0_ h1_ h2_
            have HO169 := n0_
            have BK160 := n1_
            have HB := n2_
            clear n0_ n1_ n2_
            have hHeld := trivial
            refine norm_ (a' := ?_) ?_ ?_
            rotate_left
            ·
             simp only [putAll, Act.put, List.setIfInBounds_toArray, List.set_cons_zero, List.set_cons_succ]
             rfl
            refine two_ (i := 2) (j := 8) (Ni := some 42) (Nj := some 48) m8_13 n79 rfl rfl rfl rfl (two_of HT_.out (by kernel_rfl)) (by decide) (by decide) (fun K hK => ?_) (fun K hK => ?_)
            ·
             skip
             refine Kd.R_make_step (Kd.int .i64) _ 3 (by rfl) (N := 42) rfl 44 _ _ rfl (l1.length : Int) rfl rfl Try.underlying44 (.int .i64 0) 8 info3 rfl (by decide) (by omega) 0 (ok := fun _ => True) (okp := fun _ => True) rfl (fun _ hk => hk) trivial (of_decide_eq_true (by first | (with_reducible assumption) | assumption)) (Nat.le_trans (Nat.mul_le_mul_right _ (of_decide_eq_true (by first | (with_reducible assumption) | assumption) : (l1.length : Int).toNat ≤ 35184372088832)) (by omega)) (Below.refl _ _) (Nat.le_refl _) ?_
             intro v165 w28 ho29 hb hg_ hnew_
             clear hg_ hnew_
             (first | rw [← Ny164.out] at ho29 | (simp only [Int.reduceToNat] at ho29; rw [← Ny164.out] at ho29))
             have n0_ := Aside0.mk (Kd.R_elder' (rl HO169.out) (Kd.R_base ho29) hb)
             have n1_ := Aside0.mk (Kd.R_lower (Kd.R_new' ho29 (Kd.R_lt (by (repeat apply rl1); exact HO169.out))) (below_size (by repeat with_reducible first | exact bl HB.out | refine below_set ?_ GE160.out | refine bq ?_)))
             have n2_ := Aside0.mk (blk_below (bk BK160.out) hb)
             have n3_ := Aside0.mk (below_step (by repeat with_reducible first | exact bl HB.out | refine below_set ?_ GE160.out | refine bq ?_) hb)
             clear HO169
             clear BK160
             clear HB
             have HO169 := n0_
             have HO166 := n1_
             have BK160 := n2_
             have HB := n3_
             clear n0_ n1_ n2_ n3_
             clear hb ho29
             refine hK.out _ _ trivial (fun hHeld => ?_)
             clear hK K
             refine norm_ (a' := ?_) ?_ ?_
             rotate_left
             ·
              show Act.put _ (some 42) _ = _
              simp only [sp_]
              rfl
             refine pq_ HT_.out 9 10 n43 ?_
             refine pq_ HT_.out 10 11 n44 ?_
             exact norm_ (by first | (simp only [putAll, Act.put, List.setIfInBounds_toArray, List.set_cons_zero, List.set_cons_succ]; done) | (simp only [putAll, Act.put, List.setIfInBounds_toArray, List.set_cons_zero, List.set_cons_succ]; rfl)) (hJ2_5 (v165, v168) _ ⟨(by (repeat apply rl1); exact Kd.R_mono HO166.out (fun _ hk => hk.2)), (by (repeat apply rl1); exact Kd.R_mono HO169.out (fun _ hk => hk.2)), (bk BK160.out), (by repeat with_reducible first | exact bl HB.out | refine below_set ?_ GE160.out | refine bq ?_)⟩)
            ·
             skip
             refine Kd.R_make_step (Kd.int .i64) _ 3 (by rfl) (N := 48) rfl 44 _ _ rfl (l1.length : Int) rfl rfl Try.underlying44 (.int .i64 0) 8 info3 rfl (by decide) (by omega) 0 (ok := fun _ => True) (okp := fun _ => True) rfl (fun _ hk => hk) trivial (of_decide_eq_true (by first | (with_reducible assumption) | assumption)) (Nat.le_trans (Nat.mul_le_mul_right _ (of_decide_eq_true (by first | (with_reducible assumption) | assumption) : (l1.length : Int).toNat ≤ 35184372088832)) (by omega)) (Below.refl _ _) (Nat.le_refl _) ?_
             intro v171 w28 ho29 hb hg_ hnew_
             clear hg_ hnew_
             (first | rw [← Ny170.out] at ho29 | (simp only [Int.reduceToNat] at ho29; rw [← Ny170.out] at ho29))
             have n0_ := Aside0.mk (Kd.R_elder' (rl HO169.out) (Kd.R_base ho29) hb)
             have n1_ := Aside0.mk (Kd.R_lower (Kd.R_new' ho29 (Kd.R_lt (by (repeat apply rl1); exact HO169.out))) (below_size (by repeat with_reducible first | exact bl HB.out | refine below_set ?_ GE160.out | refine bq ?_)))
             have n2_ := Aside0.mk (blk_below (bk BK160.out) hb)
             have n3_ := Aside0.mk (below_step (by repeat with_reducible first | exact bl HB.out | refine below_set ?_ GE160.out | refine bq ?_) hb)
             clear HO169
             clear BK160
             clear HB
             have HO169 := n0_
             have HO172 := n1_
             have BK160 := n2_
             have HB := n3_
             clear n0_ n1_ n2_ n3_
             clear hb ho29
             refine hK.out _ _ trivial (fun hHeld => ?_)
             clear hK K
             refine norm_ (a' := ?_) ?_ ?_
             rotate_left
             ·
              show Act.put _ (some 48) _ = _
              simp only [sp_]
              rfl
             exact norm_ (by first | (simp only [putAll, Act.put, List.setIfInBounds_toArray, List.set_cons_zero, List.set_cons_succ]; done) | (simp only [putAll, Act.put, List.setIfInBounds_toArray, List.set_cons_zero, List.set_cons_succ]; rfl)) (hJ5_8 (v168, v171) _ ⟨(by (repeat apply rl1); exact Kd.R_mono HO169.out (fun _ hk => hk.2)), (by (repeat apply rl1); exact Kd.R_mono HO172.out (fun _ hk => hk.2)), (bk BK160.out), (by repeat with_reducible first | exact bl HB.out | refine below_set ?_ GE160.out | refine bq ?_)⟩)
          ·
           skip
           rintro v165 w27 ⟨h0_, h1_, h2_⟩
           have n0_ : Aside0 (Kd.R (Kd.int .i64) 3 w27 w.heap.size (fun _ => True) v165 y164) := ⟨h0_⟩
           have n1_ : Aside0 (w27.heap[gb160]? = some (.cells #[.int .i64 a0_0, .int .i64 a0_1, .slice A0_2 l0_2.length c0_2] 29 (0, 0))) := ⟨h1_⟩
           have n2_ : Aside0 (Below w.heap.size w w27) := ⟨h2_⟩
           clear BK160
           clear HB
           clear h0_ h1_ h2_
           have HO166 := n0_
           have BK160 := n1_
           have HB := n2_
           clear n0_ n1_ n2_
           have hHeld := trivial
           refine norm_ (a' := ?_) ?_ ?_
           rotate_left
           ·
            simp only [putAll, Act.put, List.setIfInBounds_toArray, List.set_cons_zero, List.set_cons_succ]
            rfl
           refine two_ (i := 5) (j := 8) (Ni := some 45) (Nj := some 48) n43 n42 rfl rfl rfl rfl (two_of HT_.out (by kernel_rfl)) (by decide) (by decide) (fun K hK => ?_) (fun K hK => ?_)
           ·
            skip
            refine Kd.R_make_step (Kd.int .i64) _ 3 (by rfl) (N := 45) rfl 44 _ _ rfl (l1.length : Int) rfl rfl Try.underlying44 (.int .i64 0) 8 info3 rfl (by decide) (by omega) 0 (ok := fun _ => True) (okp := fun _ => True) rfl (fun _ hk => hk) trivial (of_decide_eq_true (by first | (with_reducible assumption) | assumption)) (Nat.le_trans (Nat.mul_le_mul_right _ (of_decide_eq_true (by first | (with_reducible assumption) | assumption) : (l1.length : Int).toNat ≤ 35184372088832)) (by omega)) (Below.refl _ _) (Nat.le_refl _) ?_
            intro v168 w28 ho29 hb hg_ hnew_
            clear hg_ hnew_
            (first | rw [← Ny167.out] at ho29 | (simp only [Int.reduceToNat] at ho29; rw [← Ny167.out] at ho29))
            have n0_ := Aside0.mk (Kd.R_elder' (rl HO166.out) (Kd.R_base ho29) hb)
            have n1_ := Aside0.mk (Kd.R_lower (Kd.R_new' ho29 (Kd.R_lt (by (repeat apply rl1); exact HO166.out))) (below_size (by repeat with_reducible first | exact bl HB.out | refine below_set ?_ GE160.out | refine bq ?_)))
            have n2_ := Aside0.mk (blk_below (bk BK160.out) hb)
            have n3_ := Aside0.mk (below_step (by repeat with_reducible first | exact bl HB.out | refine below_set ?_ GE160.out | refine bq ?_) hb)
            clear HO166
            clear BK160
            clear HB
            have HO166 := n0_
            have HO169 := n1_
            have BK160 := n2_
            have HB := n3_
            clear n0_ n1_ n2_ n3_
            clear hb ho29
            refine hK.out _ _ trivial (fun hHeld => ?_)
            clear hK K
            refine norm_ (a' := ?_) ?_ ?_
            rotate_left
            ·
             show Act.put _ (some 45) _ = _
             simp only [sp_]
             rfl
            refine pq_ HT_.out 10 11 n44 ?_
            exact norm_ (by first | (simp only [putAll, Act.put, List.setIfInBounds_toArray, List.set_cons_zero, List.set_cons_succ]; done) | (simp only [putAll, Act.put, List.setIfInBounds_toArray, List.set_cons_zero, List.set_cons_succ]; rfl)) (hJ2_5 (v165, v168) _ ⟨(by (repeat apply rl1); exact Kd.R_mono HO166.out (fun _ hk => hk.2)), (by (repeat apply rl1); exact Kd.R_mono HO169.out (fun _ hk => hk.2)), (bk BK160.out), (by repeat with_reducible first | exact bl HB.out | refine below_set ?_ GE160.out | refine bq ?_)⟩)
           ·
            skip
            refine Kd.R_make_step (Kd.int .i64) _ 3 (by rfl) (N := 48) rfl 44 _ _ rfl (l1.length : Int) rfl rfl Try.underlying44 (.int .i64 0) 8 info3 rfl (by decide) (by omega) 0 (ok := fun _ => True) (okp := fun _ => True) rfl (fun _ hk => hk) trivial (of_decide_eq_true (by first | (with_reducible assumption) | assumption)) (Nat.le_trans (Nat.mul_le_mul_right _ (of_decide_eq_true (by first | (with_reducible assumption) | assumption) : (l1.length : Int).toNat ≤ 35184372088832)) (by omega)) (Below.refl _ _) (Nat.le_refl _) ?_
            intro v171 w28 ho29 hb hg_ hnew_
            clear hg_ hnew_
            (first | rw [← Ny170.out] at ho29 | (simp only [Int.reduceToNat] at ho29; rw [← Ny170.out] at ho29))
            have n0_ := Aside0.mk (Kd.R_elder' (rl HO166.out) (Kd.R_base ho29) hb)
            have n1_ := Aside0.mk (Kd.R_lower (Kd.R_new' ho29 (Kd.R_lt (by (repeat apply rl1); exact HO166.out))) (below_size (by repeat with_reducible first | exact bl HB.out | refine below_set ?_ GE160.out | refine bq ?_)))
            have n2_ := Aside0.mk (blk_below (bk BK160.out) hb)
            have n3_ := Aside0.mk (below_step (by repeat with_reducible first | exact bl HB.out | refine below_set ?_ GE160.out | refine bq ?_) hb)
            clear HO166
            clear BK160
            clear HB
            have HO166 := n0_
            have HO172 := n1_
            have BK160 := n2_
            have HB := n3_
            clear n0_ n1_ n2_ n3_
            clear hb ho29
            refine hK.out _ _ trivial (fun hHeld => ?_)
            clear hK K
            refine norm_ (a' := ?_) ?_ ?_
            rotate_left
            ·
             show Act.put _ (some 48) _ = _
             simp only [sp_]
             rfl
            exact norm_ (by first | (simp only [putAll, Act.put, List.setIfInBounds_toArray, List.set_cons_zero, List.set_cons_succ]; done) | (simp only [putAll, Act.put, List.setIfInBounds_toArray, List.set_cons_zero, List.set_cons_succ]; rfl)) (hJ2_8 (v165, v171) _ ⟨(by (repeat apply rl1); exact Kd.R_mono HO166.out (fun _ hk => hk.2)), (by (repeat apply rl1); exact Kd.R_mono HO172.out (fun _ hk => hk.2)), (bk BK160.out), (by repeat with_reducible first | exact bl HB.out | refine below_set ?_ GE160.out | refine bq ?_)⟩)
         ·
          skip
          rintro ⟨v168, v171⟩ w29 ⟨h0_, h1_, h2_, h3_⟩
          have n0_ : Aside0 (Kd.R (Kd.int .i64) 3 w29 w.heap.size (fun k_ => some k_ ≠ (v171 : Value).ownBlock) v168 y167) := ⟨h0_⟩
          have n1_ : Aside0 (Kd.R (Kd.int .i64) 3 w29 w.heap.size (fun k_ => some k_ ≠ (v168 : Value).ownBlock) v171 y170) := ⟨h1_⟩
          have n2_ : Aside0 (w29.heap[gb160]? = some (.cells #[.int .i64 a0_0, .int .i64 a0_1, .slice A0_2 l0_2.length c0_2] 29 (0, 0))) := ⟨h2_⟩
          have n3_ : Aside0 (Below w.heap.size w w29) := ⟨h3_⟩
          clear BK160
          clear HB
          clear h0_ h1_ h2_ h3_
          have HO169 := n0_
          have HO172 := n1_
          have BK160 := n2_
          have HB := n3_
          clear n0_ n1_ n2_ n3_
          have hHeld := trivial
          refine norm_ (a' := ?_) ?_ ?_
          rotate_left
          ·
           simp only [putAll, Act.put, List.setIfInBounds_toArray, List.set_cons_zero, List.set_cons_succ]
           rfl
          refine one_ (i := 2) (N := some 42) m9_13 rfl rfl (one_of HT_.out (by kernel_rfl)) (by decide) (fun K hK => ?_)
          refine Kd.R_make_step (Kd.int .i64) _ 3 (by rfl) (N := 42) rfl 44 _ _ rfl (l1.length : Int) rfl rfl Try.underlying44 (.int .i64 0) 8 info3 rfl (by decide) (by omega) 0 (ok := fun _ => True) (okp := fun _ => True) rfl (fun _ hk => hk) trivial (of_decide_eq_true (by first | (with_reducible assumption) | assumption)) (Nat.le_trans (Nat.mul_le_mul_right _ (of_decide_eq_true (by first | (with_reducible assumption) | assumption) : (l1.length : Int).toNat ≤ 35184372088832)) (by omega)) (Below.refl _ _) (Nat.le_refl _) ?_
          intro v165 w30 ho31 hb hg_ hnew_
          clear hg_ hnew_
          (first | rw [← Ny164.out] at ho31 | (simp only [Int.reduceToNat] at ho31; rw [← Ny164.out] at ho31))
          have n0_ := Aside0.mk (Kd.R_elder' (rl HO169.out) (Kd.R_base ho31) hb)
          have n1_ := Aside0.mk (Kd.R_elder' (rl HO172.out) (Kd.R_base ho31) hb)
          have n2_ := Aside0.mk (Kd.R_lower (Kd.R_new' (Kd.R_new' ho31 (Kd.R_lt (by (repeat apply rl1); exact HO169.out))) (Kd.R_lt (by (repeat apply rl1); exact HO172.out))) (below_size (by repeat with_reducible first | exact bl HB.out | refine below_set ?_ GE160.out | refine bq ?_)))
          have n3_ := Aside0.mk (blk_below (bk BK160.out) hb)
          have n4_ := Aside0.mk (below_step (by repeat with_reducible first | exact bl HB.out | refine below_set ?_ GE160.out | refine bq ?_) hb)
          clear HO169
          clear HO172
          clear BK160
          clear HB
          have HO169 := n0_
          have HO172 := n1_
          have HO166 := n2_
          have BK160 := n3_
          have HB := n4_
          clear n0_ n1_ n2_ n3_ n4_
          clear hb ho31
          refine hK.out _ _ trivial (fun hHeld => ?_)
          clear hK K
          refine norm_ (a' := ?_) ?_ ?_
          rotate_left
          ·
           show Act.put _ (some 42) _ = _
           simp only [sp_]
           rfl
          refine pq_ HT_.out 9 10 m10_13 ?_
          refine pq_ HT_.out 10 11 m11_13 ?_
          exact norm_ (by first | (simp only [putAll, Act.put, List.setIfInBounds_toArray, List.set_cons_zero, List.set_cons_succ]; done) | (simp only [putAll, Act.put, List.setIfInBounds_toArray, List.set_cons_zero, List.set_cons_succ]; rfl)) (hJ2_5_8 (v165, v168, v171) _ ⟨(by (repeat apply rl1); exact Kd.R_mono HO166.out (fun _ hk => ⟨hk.1.2, hk.2⟩)), (by (repeat apply rl1); exact Kd.R_mono HO169.out (fun _ hk => ⟨hk.2, hk.1⟩)), (by (repeat apply rl1); exact Kd.R_mono HO172.out (fun _ hk => ⟨hk.2, hk.1⟩)), (bk BK160.out), (by repeat with_reducible first | exact bl HB.out | refine below_set ?_ GE160.out | refine bq ?_)⟩)
        ·
         skip
         rintro ⟨v165, v171⟩ w29 ⟨h0_, h1_, h2_, h3_⟩
         have n0_ : Aside0 (Kd.R (Kd.int .i64) 3 w29 w.heap.size (fun k_ => some k_ ≠ (v171 : Value).ownBlock) v165 y164) := ⟨h0_⟩
         have n1_ : Aside0 (Kd.R (Kd.int .i64) 3 w29 w.heap.size (fun k_ => some k_ ≠ (v165 : Value).ownBlock) v171 y170) := ⟨h1_⟩
         have n2_ : Aside0 (w29.heap[gb160]? = some (.cells #[.int .i64 a0_0, .int .i64 a0_1, .slice A0_2 l0_2.length c0_2] 29 (0, 0))) := ⟨h2_⟩
         have n3_ : Aside0 (Below w.heap.size w w29) := ⟨h3_⟩
         clear BK160
         clear HB
         clear h0_ h1_ h2_ h3_
         have HO166 := n0_
         have HO172 := n1_
         have BK160 := n2_
         have HB := n3_
         clear n0_ n1_ n2_ n3_
         have hHeld := trivial
         refine norm_ (a' := ?_) ?_ ?_
         rotate_left
         ·
          simp only [putAll, Act.put, List.setIfInBounds_toArray, List.set_cons_zero, List.set_cons_succ]
          rfl
         refine one_ (i := 5) (N := some 45) m10_13 rfl rfl (one_of HT_.out (by kernel_rfl)) (by decide) (fun K hK => ?_)
         refine Kd.R_make_step (Kd.int .i64) _ 3 (by rfl) (N := 45) rfl 44 _ _ rfl (l1.length : Int) rfl rfl Try.underlying44 (.int .i64 0) 8 info3 rfl (by decide) (by omega) 0 (ok := fun _ => True) (okp := fun _ => True) rfl (fun _ hk => hk) trivial (of_decide_eq_true (by first | (with_reducible assumption) | assumption)) (Nat.le_trans (Nat.mul_le_mul_right _ (of_decide_eq_true (by first | (with_reducible assumption) | assumption) : (l1.length : Int).toNat ≤ 35184372088832)) (by omega)) (Below.refl _ _) (Nat.le_refl _) ?_
         intro v168 w30 ho31 hb hg_ hnew_
         clear hg_ hnew_
         (first | rw [← Ny167.out] at ho31 | (simp only [Int.reduceToNat] at ho31; rw [← Ny167.out] at ho31))
         have n0_ := Aside0.mk (Kd.R_elder' (rl HO166.out) (Kd.R_base ho31) hb)
         have n1_ := Aside0.mk (Kd.R_elder' (rl HO172.out) (Kd.R_base ho31) hb)
         have n2_ := Aside0.mk (Kd.R_lower (Kd.R_new' (Kd.R_new' ho31 (Kd.R_lt (by (repeat apply rl1); exact HO166.out))) (Kd.R_lt (by (repeat apply rl1); exact HO172.out))) (below_size (by repeat with_reducible first | exact bl HB.out | refine below_set ?_ GE160.out | refine bq ?_)))
         have n3_ := Aside0.mk (blk_below (bk BK160.out) hb)
         have n4_ := Aside0.mk (below_step (by repeat with_reducible first | exact bl HB.out | refine below_set ?_ GE160.out | refine bq ?_) hb)
         clear HO166
         clear HO172
         clear BK160
         clear HB
         have HO166 := n0_
         have HO172 := n1_
         have HO169 := n2_
         have BK160 := n3_
         have HB := n4_
         clear n0_ n1_ n2_ n3_ n4_
         clear hb ho31
         refine hK.out _ _ trivial (fun hHeld => ?_)
         clear hK K
         refine norm_ (a' := ?_) ?_ ?_
         rotate_left
         ·
          show Act.put _ (some 45) _ = _
          simp only [sp_]
          rfl
         refine pq_ HT_.out 10 11 m11_13 ?_
         exact norm_ (by first | (simp only [putAll, Act.put, List.setIfInBounds_toArray, List.set_cons_zero, List.set_cons_succ]; done) | (simp only [putAll, Act.put, List.setIfInBounds_toArray, List.set_cons_zero, List.set_cons_succ]; rfl)) (hJ2_5_8 (v165, v168, v171) _ ⟨(by (repeat apply rl1); exact Kd.R_mono HO166.out (fun _ hk => ⟨hk.2, hk.1⟩)), (by (repeat apply rl1); exact Kd.R_mono HO169.out (fun _ hk => ⟨hk.1.2, hk.2⟩)), (rl HO172.out), (bk BK160.out), (by repeat with_reducible first | exact bl HB.out | refine below_set ?_ GE160.out | refine bq ?_)⟩)
       ·
        skip
        rintro ⟨v165, v168⟩ w29 ⟨h0_, h1_, h2_, h3_⟩
        have n0_ : Aside0 (Kd.R (Kd.int .i64) 3 w29 w.heap.size (fun k_ => some k_ ≠ (v168 : Value).ownBlock) v165 y164) := ⟨h0_⟩
        have n1_ : Aside0 (Kd.R (Kd.int .i64) 3 w29 w.heap.size (fun k_ => some k_ ≠ (v165 : Value).ownBlock) v168 y167) := ⟨h1_⟩
        have n2_ : Aside0 (w29.heap[gb160]? = some (.cells #[.int .i64 a0_0, .int .i64 a0_1, .slice A0_2 l0_2.length c0_2] 29 (0, 0))) := ⟨h2_⟩
        have n3_ : Aside0 (Below w.heap.size w w29) := ⟨h3_⟩
        clear BK160
        clear HB
        clear h0_ h1_ h2_ h3_
        have HO166 := n0_
        have HO169 := n1_
        have BK160 := n2_
        have HB := n3_
        clear n0_ n1_ n2_ n3_
        have hHeld := trivial
        refine norm_ (a' := ?_) ?_ ?_
        rotate_left
        ·
         simp only [putAll, Act.put, List.setIfInBounds_toArray, List.set_cons_zero, List.set_cons_succ]
         rfl
        refine one_ (i := 8) (N := some 48) m11_13 rfl rfl (one_of HT_.out (by kernel_rfl)) (by decide) (fun K hK => ?_)
        refine Kd.R_make_step (Kd.int .i64) _ 3 (by rfl) (N := 48) rfl 44 _ _ rfl (l1.length : Int) rfl rfl Try.underlying44 (.int .i64 0) 8 info3 rfl (by decide) (by omega) 0 (ok := fun _ => True) (okp := fun _ => True) rfl (fun _ hk => hk) trivial (of_decide_eq_true (by first | (with_reducible assumption) | assumption)) (Nat.le_trans (Nat.mul_le_mul_right _ (of_decide_eq_true (by first | (with_reducible assumption) | assumption) : (l1.length : Int).toNat ≤ 35184372088832)) (by omega)) (Below.refl _ _) (Nat.le_refl _) ?_
        intro v171 w30 ho31 hb hg_ hnew_
        clear hg_ hnew_
        (first | rw [← Ny170.out] at ho31 | (simp only [Int.reduceToNat] at ho31; rw [← Ny170.out] at ho31))
        have n0_ := Aside0.mk (Kd.R_elder' (rl HO166.out) (Kd.R_base ho31) hb)
        have n1_ := Aside0.mk (Kd.R_elder' (rl HO169.out) (Kd.R_base ho31) hb)
        have n2_ := Aside0.mk (Kd.R_lower (Kd.R_new' (Kd.R_new' ho31 (Kd.R_lt (by (repeat apply rl1); exact HO166.out))) (Kd.R_lt (by (repeat apply rl1); exact HO169.out))) (below_size (by repeat with_reducible first | exact bl HB.out | refine below_set ?_ GE160.out | refine bq ?_)))
        have n3_ := Aside0.mk (blk_below (bk BK160.out) hb)
        have n4_ := Aside0.mk (below_step (by repeat with_reducible first | exact bl HB.out | refine below_set ?_ GE160.out | refine bq ?_) hb)
        clear HO166
        clear HO169
        clear BK160
        clear HB
        have HO166 := n0_
        have HO169 := n1_
        have HO172 := n2_
        have BK160 := n3_
        have HB := n4_
        clear n0_ n1_ n2_ n3_ n4_
        clear hb ho31
        refine hK.out _ _ trivial (fun hHeld => ?_)
        clear hK K
        refine norm_ (a' := ?_) ?_ ?_
        rotate_left
        ·
         show Act.put _ (some 48) _ = _
         simp only [sp_]
         rfl
        exact norm_ (by first | (simp only [putAll, Act.put, List.setIfInBounds_toArray, List.set_cons_zero, List.set_cons_succ]; done) | (simp only [putAll, Act.put, List.setIfInBounds_toArray, List.set_cons_zero, List.set_cons_succ]; rfl)) (hJ2_5_8 (v165, v168, v171) _ ⟨(rl HO166.out), (rl HO169.out), (by (repeat apply rl1); exact Kd.R_mono HO172.out (fun _ hk => ⟨hk.1.2, hk.2⟩)), (bk BK160.out), (by repeat with_reducible first | exact bl HB.out | refine below_set ?_ GE160.out | refine bq ?_)⟩)
      rintro ⟨v165, v168, v171⟩ w31 ⟨h0_, h1_, h2_, h3_, h4_⟩
      have n0_ : Aside0 (Kd.R (Kd.int .i64) 3 w31 w.heap.size (fun k_ => some k_ ≠ (v168 : Value).ownBlock ∧ some k_ ≠ (v171 : Value).ownBlock) v165 y164) := ⟨h0_⟩
      have n1_ : Aside0 (Kd.R (Kd.int .i64) 3 w31 w.heap.size (fun k_ => some k_ ≠ (v165 : Value).ownBlock ∧ some k_ ≠ (v171 : Value).ownBlock) v168 y167) := ⟨h1_⟩
      have n2_ : Aside0 (Kd.R (Kd.int .i64) 3 w31 w.heap.size (fun k_ => some k_ ≠ (v165 : Value).ownBlock ∧ some k_ ≠ (v168 : Value).ownBlock) v171 y170) := ⟨h2_⟩
      have n3_ : Aside0 (w31.heap[gb160]? = some (.cells #[.int .i64 a0_0, .int .i64 a0_1, .slice A0_2 l0_2.length c0_2] 29 (0, 0))) := ⟨h3_⟩
      have n4_ : Aside0 (Below w.heap.size w w31) := ⟨h4_⟩
      clear BK160
      clear HB
      clear h0_ h1_ h2_ h3_ h4_
      have HO166 := n0_
      have HO169 := n1_
      have HO172 := n2_
      have BK160 := n3_
      have HB := n4_
      clear n0_ n1_ n2_ n3_ n4_
      have hHeld := trivial
      refine norm_ (a' := ?_) ?_ ?_
      rotate_left
      ·
       simp only [putAll, Act.put, List.setIfInBounds_toArray, List.set_cons_zero, List.set_cons_succ]
       rfl
      refine pq_ HT_.out 11 12 m12_13 ?_
      refine pq_ HT_.out 12 13 m13_13 ?_
      refine done_ (done_of HT_.out (by kernel_rfl)) ?_
      try go_wp2
      go_loopg [13, 50] kj4 (fun kq v13 v50 w' => ∃ (x10_2 : List Int) (x11_2 : List Int) (x12_2 : List Int) (x13_2 : Int) (x50_2 : Int), v13 = .int .i64 x13_2 ∧ v50 = .int .i64 x50_2 ∧ Aside0 (impl_RunJobs.l0 kq l1 x10_2 x11_2 x12_2 x13_2 a2 x50_2 a0_0 a0_1 l0_2 = some (r1, r2, r3)) ∧ Aside0 (kq ≤ kj4) ∧ Aside0 (Kd.R (Kd.int .i64) 3 w' w.heap.size (fun k_ => some k_ ≠ (v168 : Value).ownBlock ∧ some k_ ≠ (v171 : Value).ownBlock) v165 x10_2) ∧ Aside0 (Kd.R (Kd.int .i64) 3 w' w.heap.size (fun k_ => some k_ ≠ (v165 : Value).ownBlock ∧ some k_ ≠ (v171 : Value).ownBlock) v168 x11_2) ∧ Aside0 (Kd.R (Kd.int .i64) 3 w' w.heap.size (fun k_ => some k_ ≠ (v165 : Value).ownBlock ∧ some k_ ≠ (v168 : Value).ownBlock) v171 x12_2) ∧ Aside0 (w'.heap[gb160]? = some (.cells #[.int .i64 a0_0, .int .i64 a0_1, (.slice A0_2 l0_2.length c0_2)] 29 (0, 0))) ∧ Aside0 (Below w.heap.size w w'))
      case atStart => exact ⟨(y164), (y167), (y170), (0), (0), (by first | rfl | (simp; done) | (simp [*]; done)), (by first | rfl | (simp; done) | (simp [*]; done)), H', ⟨Nat.le_refl _⟩, ⟨rl HO166.out⟩, ⟨rl HO169.out⟩, ⟨rl HO172.out⟩, ⟨bk BK160.out⟩, ⟨by repeat with_reducible first | exact bl HB.out | refine below_set ?_ GE160.out | refine bq ?_⟩⟩
      case round =>
       clear H'
       try clear p2
       (try clear BK160); obtain ⟨x10_2, x11_2, x12_2, x13_2, x50_2, rfl, rfl, HA, HK2, HO_10, HO_11, HO_12, BK160, HB⟩ := hrel
       cases gk with
       | zero => exact absurd HA.out (by simp [impl_RunJobs.l0])
       | succ k2 =>
        have H := HA.out
        clear HA
        simp only [impl_RunJobs.l0] at H
        by_cases c32 : x50_2 < a2
        ·
         rw [if_pos c32] at H
         have c32b0 : decide (x50_2 < a2) = true := decide_eq_true c32
         clear c32
         have H' := Aside0.mk H
         clear H
         go_wp2
         go_loopg [55] k2 (fun kq v55 w' => ∃ (x10_3 : List Int) (x11_3 : List Int) (x12_3 : List Int) (x55_3 : Int), v55 = .int .i64 x55_3 ∧ Aside0 (impl_RunJobs.l1 kq l1 x10_3 x11_3 x12_3 x13_2 x50_2 a2 x50_2 l1 (l1.length : Int) x55_3 a0_0 a0_1 l0_2 = some (r1, r2, r3)) ∧ Aside0 (kq ≤ k2) ∧ Aside0 (Kd.R (Kd.int .i64) 3 w' w.heap.size (fun k_ => some k_ ≠ (v168 : Value).ownBlock ∧ some k_ ≠ (v171 : Value).ownBlock) v165 x10_3) ∧ Aside0 (Kd.R (Kd.int .i64) 3 w' w.heap.size (fun k_ => some k_ ≠ (v165 : Value).ownBlock ∧ some k_ ≠ (v171 : Value).ownBlock) v168 x11_3) ∧ Aside0 (Kd.R (Kd.int .i64) 3 w' w.heap.size (fun k_ => some k_ ≠ (v165 : Value).ownBlock ∧ some k_ ≠ (v168 : Value).ownBlock) v171 x12_3) ∧ Aside0 (w'.heap[gb160]? = some (.cells #[.int .i64 a0_0, .int .i64 a0_1, (.slice A0_2 l0_2.length c0_2)] 29 (0, 0))) ∧ Aside0 (Below w.heap.size w w'))
         case atStart => exact ⟨(x10_2), (x11_2), (x12_2), (0), (by first | rfl | (simp; done) | (simp [*]; done)), H', ⟨Nat.le_refl _⟩, ⟨rl HO_10.out⟩, ⟨rl HO_11.out⟩, ⟨rl HO_12.out⟩, ⟨bk BK160.out⟩, ⟨by repeat with_reducible first | exact bl HB.out | refine below_set ?_ GE160.out | refine bq ?_⟩⟩
         case round =>
          clear H'
          try clear p2
          try clear c3
          try clear c32
          try clear c32b0
          try clear p2
          (try clear BK160); obtain ⟨x10_3, x11_3, x12_3, x55_3, rfl, HA, HK3, HO_10, HO_11, HO_12, BK160, HB⟩ := hrel
          cases gk with
          | zero => exact absurd HA.out (by simp [impl_RunJobs.l1])
          | succ k3 =>
           have H := HA.out
           clear HA
           simp only [impl_RunJobs.l1] at H
           by_cases c33 : x55_3 < (l1.length : Int)
           ·
            rw [if_pos c33] at H
            have c33b0 : decide (x55_3 < (l1.length : Int)) = true := decide_eq_true c33
            clear c33
            by_cases c34 : 0 ≤ x55_3
            ·
             rw [if_pos c34] at H
             have c34b0 : decide (0 ≤ x55_3) = true := decide_eq_true c34
             clear c34
             by_cases c35 : x55_3 < (l1.length : Int)
             ·
              rw [if_pos c35] at H
              have c35b0 : decide (x55_3 < (l1.length : Int)) = true := decide_eq_true c35
              clear c35
              by_cases c36 : ((rd_T74 l1 x55_3).f1) = 0
              ·
               rw [if_pos c36] at H
               exact absurd H (by simp)
              ·
               rw [if_neg c36] at H
               have c36b0 : (((rd_T74 l1 x55_3).f1) == 0) = false := beq_eq_false_iff_ne.mpr c36
               have c36b1 : (((rd_T74 l1 x55_3).f1) != 0) = true := bne_iff_ne.mpr c36
               by_cases c37 : (Int.tmod x50_2 ((rd_T74 l1 x55_3).f1)) = 0
               ·
                rw [if_pos c37] at H
                have c37b0 : ((Int.tmod x50_2 ((rd_T74 l1 x55_3).f1)) == 0) = true := beq_iff_eq.mpr c37
                have c37b1 : ((Int.tmod x50_2 ((rd_T74 l1 x55_3).f1)) != 0) = false := bne_eq_false_iff_eq.mpr c37
                clear c37
                by_cases c38 : x55_3 < (x11_3.length : Int)
                ·
                 rw [if_pos c38] at H
                 have c38b0 : decide (x55_3 < (x11_3.length : Int)) = true := decide_eq_true c38
                 clear c38
                 by_cases c39 : (rd x11_3 x55_3) > 0
                 ·
                  rw [if_pos c39] at H
                  have c39b0 : decide (0 < (rd x11_3 x55_3)) = true := decide_eq_true c39
                  clear c39
                  by_cases c40 : x55_3 < (x10_3.length : Int)
                  ·
                   rw [if_pos c40] at H
                   have c40b0 : decide (x55_3 < (x10_3.length : Int)) = true := decide_eq_true c40
                   clear c40
                   obtain ⟨y177, hy177⟩ : ∃ y_ : List Int, y_ = (x10_3.set (x55_3 : Int).toNat (wrap64 ((rd x10_3 x55_3) + 1))) := ⟨_, rfl⟩
                   replace H : (if x55_3 < (x12_3.length : Int) then (impl_RunJobs.l1 k3 l1 y177 (x11_3.set (x55_3 : Int).toNat ((rd_T74 l1 x55_3).f2)) (x12_3.set (x55_3 : Int).toNat x50_2) x13_2 x50_2 a2 x50_2 l1 (l1.length : Int) (wrap64 (x55_3 + 1)) a0_0 a0_1 l0_2) else (none)) = some (r1, r2, r3) := by first | (rw [hy177]; with_reducible exact H) | (have H2_ := (Option.bind_some _ _).symm.trans H; rw [hy177]; with_reducible exact H2_) | (have H2_ := (Option.bind_some _ _).symm.trans H; with_reducible exact H2_) | with_reducible exact H | (rw [hy177]; exact H) | exact H
                   have Ny177 := Aside0.mk hy177
                   clear hy177
                   obtain ⟨y178, hy178⟩ : ∃ y_ : List Int, y_ = (x11_3.set (x55_3 : Int).toNat ((rd_T74 l1 x55_3).f2)) := ⟨_, rfl⟩
                   replace H : (if x55_3 < (x12_3.length : Int) then (impl_RunJobs.l1 k3 l1 y177 y178 (x12_3.set (x55_3 : Int).toNat x50_2) x13_2 x50_2 a2 x50_2 l1 (l1.length : Int) (wrap64 (x55_3 + 1)) a0_0 a0_1 l0_2) else (none)) = some (r1, r2, r3) := by first | (rw [hy178]; with_reducible exact H) | (have H2_ := (Option.bind_some _ _).symm.trans H; rw [hy178]; with_reducible exact H2_) | (have H2_ := (Option.bind_some _ _).symm.trans H; with_reducible exact H2_) | with_reducible exact H | (rw [hy178]; exact H) | exact H
                   have Ny178 := Aside0.mk hy178
                   clear hy178
                   by_cases c43 : x55_3 < (x12_3.length : Int)
                   ·
                    rw [if_pos c43] at H
                    have c43b0 : decide (x55_3 < (x12_3.length : Int)) = true := decide_eq_true c43
                    clear c43
                    obtain ⟨y179, hy179⟩ : ∃ y_ : List Int, y_ = (x12_3.set (x55_3 : Int).toNat x50_2) := ⟨_, rfl⟩
                    replace H : (impl_RunJobs.l1 k3 l1 y177 y178 y179 x13_2 x50_2 a2 x50_2 l1 (l1.length : Int) (wrap64 (x55_3 + 1)) a0_0 a0_1 l0_2) = some (r1, r2, r3) := by first | (rw [hy179]; with_reducible exact H) | (have H2_ := (Option.bind_some _ _).symm.trans H; rw [hy179]; with_reducible exact H2_) | (have H2_ := (Option.bind_some _ _).symm.trans H; with_reducible exact H2_) | with_reducible exact H | (rw [hy179]; exact H) | exact H
                    have Ny179 := Aside0.mk hy179
                    clear hy179
                    have H' := Aside0.mk H
                    clear H
                    have p173 : 0 ≤ (x55_3 : Int) := of_decide_eq_true (by first | (with_reducible assumption) | assumption)
                    have q173 : x55_3 < (l1.length : Int) := of_decide_eq_true (by first | (with_reducible assumption) | assumption)
                    obtain ⟨ad173, e173, hx173_0, hx173_1, hx173_2⟩ := at_T74 HR1.out x55_3 p173 q173
                    cases e173
                    replace hx173_0 := bc HB.out hx173_0
                    replace hx173_1 := bc HB.out hx173_1
                    replace hx173_2 := bc HB.out hx173_2
                    replace p173 := eq_true p173
                    replace q173 := eq_true q173
                    go_wp2_with (first | ((with_reducible refine gate_dst (N := 16) rfl ?_); (try (refine gate_guard (by rfl) ?_; dsimp only)); refine box_event ?hg (N := 16) ?hd (cs := #[.int .i64 0, .int .i64 0, .int .i64 0]) (t := 74) ?hr ?_; (case hd => rfl); (case hg => rfl); (case hr => first | (go_simp; done) | (go_simp; rfl)); intro gb174 hg w45 hbox hb; replace HO_10 := Aside0.mk (Kd.R_below (rl HO_10.out) hb); replace HO_11 := Aside0.mk (Kd.R_below (rl HO_11.out) hb); replace HO_12 := Aside0.mk (Kd.R_below (rl HO_12.out) hb); have BK174 := Aside0.mk (hbox); have GW174 := Aside0.mk ((by rw [hg]; exact (below_size (by repeat with_reducible first | exact bl HB.out | refine below_set ?_ GE160.out | refine bq ?_)) : w.heap.size ≤ gb174)); have GE174 := GW174; replace HB := Aside0.mk (below_step (by repeat with_reducible first | exact bl HB.out | refine below_set ?_ GE160.out | refine bq ?_) hb); have NB160_174 := nb_ hg BK160.out; have NB174_160 := Aside0.mk NB160_174.out.symm; replace BK160 := Aside0.mk (blk_below (bk BK160.out) hb); clear hb hbox hg; have hnb46 := NB174_160.out; have hnc46 := NB160_174.out; obtain ⟨hcz47_0, hcz47_1, hcz47_2⟩ := ck3 BK174.out; obtain ⟨hfz47_0, hfz47_1, hfz47_2⟩ := fz3 BK174.out) | ((with_reducible refine gate_store (t := 74) (p := 16) rfl ?_); refine store_event (t := 74) (p := 16) (v := ?vo_w48) (w1 := (((w45.setCell ⟨gb174, 0, none⟩ (.int .i64 ((rd_T74 l1 x55_3).f0))).setCell ⟨gb174, 1, none⟩ (.int .i64 ((rd_T74 l1 x55_3).f1))).setCell ⟨gb174, 2, none⟩ (.int .i64 ((rd_T74 l1 x55_3).f2)))) ?hg ?ho ?hn ?hr ?_; (case ho => rfl); (case hg => rfl); (case hn => rfl); (case hr => first | (go_simp; done) | (go_simp; rfl)); intro w48 hw; have n0_ : Aside0 (Kd.R (Kd.int .i64) 3 w48 w.heap.size (fun k_ => some k_ ≠ (v168 : Value).ownBlock ∧ some k_ ≠ (v171 : Value).ownBlock) v165 x10_3) := ⟨(by rw [hw]; exact (by (repeat apply rl1); exact Kd.R_mono (Kd.R_far (p := ⟨gb174, 2, none⟩) (Kd.R_far (p := ⟨gb174, 1, none⟩) (Kd.R_far (p := ⟨gb174, 0, none⟩) (Kd.R_types HO_10.out BK174.out (by decide)) (fun _ hk => hk.2) (.int .i64 ((rd_T74 l1 x55_3).f0))) (fun _ hk => hk.2) (.int .i64 ((rd_T74 l1 x55_3).f1))) (fun _ hk => hk.2) (.int .i64 ((rd_T74 l1 x55_3).f2))) (fun _ hk => ⟨hk.1.1, hk.1.2⟩)))⟩; have n1_ : Aside0 (Kd.R (Kd.int .i64) 3 w48 w.heap.size (fun k_ => some k_ ≠ (v165 : Value).ownBlock ∧ some k_ ≠ (v171 : Value).ownBlock) v168 x11_3) := ⟨(by rw [hw]; exact (by (repeat apply rl1); exact Kd.R_mono (Kd.R_far (p := ⟨gb174, 2, none⟩) (Kd.R_far (p := ⟨gb174, 1, none⟩) (Kd.R_far (p := ⟨gb174, 0, none⟩) (Kd.R_types HO_11.out BK174.out (by decide)) (fun _ hk => hk.2) (.int .i64 ((rd_T74 l1 x55_3).f0))) (fun _ hk => hk.2) (.int .i64 ((rd_T74 l1 x55_3).f1))) (fun _ hk => hk.2) (.int .i64 ((rd_T74 l1 x55_3).f2))) (fun _ hk => ⟨hk.1.1, hk.1.2⟩)))⟩; have n2_ : Aside0 (Kd.R (Kd.int .i64) 3 w48 w.heap.size (fun k_ => some k_ ≠ (v165 : Value).ownBlock ∧ some k_ ≠ (v168 : Value).ownBlock) v171 x12_3) := ⟨(by rw [hw]; exact (by (repeat apply rl1); exact Kd.R_mono (Kd.R_far (p := ⟨gb174, 2, none⟩) (Kd.R_far (p := ⟨gb174, 1, none⟩) (Kd.R_far (p := ⟨gb174, 0, none⟩) (Kd.R_types HO_12.out BK174.out (by decide)) (fun _ hk => hk.2) (.int .i64 ((rd_T74 l1 x55_3).f0))) (fun _ hk => hk.2) (.int .i64 ((rd_T74 l1 x55_3).f1))) (fun _ hk => hk.2) (.int .i64 ((rd_T74 l1 x55_3).f2))) (fun _ hk => ⟨hk.1.1, hk.1.2⟩)))⟩; have n3_ : Aside0 (w48.heap[gb160]? = some (.cells #[.int .i64 a0_0, .int .i64 a0_1, .slice A0_2 l0_2.length c0_2] 29 (0, 0))) := ⟨(by rw [hw]; exact (by (repeat refine bk1 ?_); refine blk_far ?_ NB160_174.out _; (repeat refine bk1 ?_); refine blk_far ?_ NB160_174.out _; (repeat refine bk1 ?_); refine blk_far ?_ NB160_174.out _; (repeat refine bk1 ?_); exact BK160.out))⟩; have n4_ : Aside0 (w48.heap[gb174]? = some (.cells #[.int .i64 ((rd_T74 l1 x55_3).f0), .int .i64 ((rd_T74 l1 x55_3).f1), .int .i64 ((rd_T74 l1 x55_3).f2)] 74 (0, 0))) := ⟨(by rw [hw]; exact (by (repeat refine bk1 ?_); refine blk_put (cs := #[.int .i64 ((rd_T74 l1 x55_3).f0), .int .i64 ((rd_T74 l1 x55_3).f1), .int .i64 0]) ?_ 2 _ rfl; (repeat refine bk1 ?_); refine blk_put (cs := #[.int .i64 ((rd_T74 l1 x55_3).f0), .int .i64 0, .int .i64 0]) ?_ 1 _ rfl; (repeat refine bk1 ?_); refine blk_put (cs := #[.int .i64 0, .int .i64 0, .int .i64 0]) ?_ 0 _ rfl; (repeat refine bk1 ?_); exact BK174.out))⟩; have n5_ : Aside0 (Below w.heap.size w w48) := ⟨(by rw [hw]; exact (by repeat with_reducible first | exact bl HB.out | refine below_set ?_ GE160.out | refine below_set ?_ GE174.out | refine bq ?_))⟩; clear hw; clear HO_10; clear HO_11; clear HO_12; clear BK160; clear BK174; clear HB; have HO_10 := n0_; have HO_11 := n1_; have HO_12 := n2_; have BK160 := n3_; have BK174 := n4_; have HB := n5_; clear n0_ n1_ n2_ n3_ n4_ n5_; obtain ⟨hcz49_0, hcz49_1, hcz49_2⟩ := ck3 BK174.out; obtain ⟨hfz49_0, hfz49_1, hfz49_2⟩ := fz3 BK174.out; obtain ⟨Ao50, co50, eo50⟩ := Kd.R_slice HO_11.out; subst eo50; have p175 : 0 ≤ (x55_3 : Int) := of_decide_eq_true (by first | (with_reducible assumption) | assumption); have q175 : x55_3 < (x11_3.length : Int) := of_decide_eq_true (by first | (with_reducible assumption) | assumption); obtain ⟨ad175, e175, hx175_0⟩ := Kd.at_int (Kd.R_reads' HO_11.out).2.2 x55_3 p175 q175; cases e175; replace p175 := eq_true p175; replace q175 := eq_true q175; obtain ⟨Ao51, co51, eo51⟩ := Kd.R_slice HO_10.out; subst eo51; have p176 : 0 ≤ (x55_3 : Int) := of_decide_eq_true (by first | (with_reducible assumption) | assumption); have q176 : x55_3 < (x10_3.length : Int) := of_decide_eq_true (by first | (with_reducible assumption) | assumption); obtain ⟨ad176, e176, hx176_0⟩ := Kd.at_int (Kd.R_reads' HO_10.out).2.2 x55_3 p176 q176; cases e176; replace p176 := eq_true p176; replace q176 := eq_true q176; have p41 : 0 ≤ (x55_3 : Int) := of_decide_eq_true (by first | (with_reducible assumption) | assumption); have q41 : (x55_3 : Int) < ((x10_3.length : Int) : Int) := of_decide_eq_true (by first | (with_reducible assumption) | assumption); obtain ⟨go41, co41, eo41, gb41, gl41, cl41, HG41⟩ := Kd.R_form HO_10.out (by omega); (first | cases eo41 | (injection eo41 with ea_ en_ ec_; (first | subst ea_ | (injection ea_ with ea_; subst ea_)); subst ec_; clear en_)); have GB41 := Aside0.mk gb41; have GG41 := Aside0.mk HG41; clear gb41 gl41 HG41; (first | simp only [add_plain] at hx176_0 | skip); obtain ⟨hx41_0, hf41_0⟩ := Kd.R_celln 0 HO_10.out (x55_3 : Int) p41 q41; replace p41 := eq_true p41; replace q41 := eq_true q41; obtain ⟨hy52_, hz52_⟩ := Kd.R_celln 0 HO_10.out (x55_3 : Int) (of_decide_eq_true (by first | (with_reducible assumption) | assumption)) (of_decide_eq_true (by first | (with_reducible assumption) | assumption)); have HP52 := Kd.R_putg HO_10.out (x55_3 : Int) (wrap64 ((rd x10_3 x55_3) + 1))) | ((with_reducible refine gate_store (t := 3) (p := 75) rfl ?_); refine store_event (t := 3) (p := 75) (v := ?vo_w53) (w1 := (w48.setCell ⟨go41, (x55_3 : Int).toNat, none⟩ (.int .i64 (wrap64 ((rd x10_3 x55_3) + 1))))) ?hg ?ho ?hn ?hr ?_; (case ho => rfl); (case hg => rfl); (case hn => rfl); (case hr => first | (go_simp; done) | (go_simp; rfl)); intro w53 hw; have hg : w48.grownBy w53 (some go41) := (by rw [hw]; exact HP52.2); have hp_ : Kd.R (Kd.int .i64) 3 w53 w.heap.size (fun k_ => some k_ ≠ (.slice (some ad175) x11_3.length co50 : Value).ownBlock ∧ some k_ ≠ (v171 : Value).ownBlock) (.slice (some ⟨go41, 0, none⟩) x10_3.length co51) y177 := (by rw [hw, Ny177.out]; exact HP52.1); clear HP52; replace HO_11 := Aside0.mk (Kd.R_after (v := (.slice (some ⟨go41, 0, none⟩) x10_3.length co51)) (v1 := (.slice (some ⟨go41, 0, none⟩) x10_3.length co51)) (ok := (fun k_ => some k_ ≠ (v171 : Value).ownBlock)) (by (repeat apply rl1); exact Kd.R_mono HO_11.out (fun _ hk => ⟨hk.2, hk.1⟩)) hg (.inl rfl)); replace HO_12 := Aside0.mk (Kd.R_after (v := (.slice (some ⟨go41, 0, none⟩) x10_3.length co51)) (v1 := (.slice (some ⟨go41, 0, none⟩) x10_3.length co51)) (ok := (fun k_ => some k_ ≠ (.slice (some ad175) x11_3.length co50 : Value).ownBlock)) (by (repeat apply rl1); exact Kd.R_mono HO_12.out (fun _ hk => ⟨hk.2, hk.1⟩)) hg (.inl rfl)); replace BK160 := Aside0.mk (blk_grown (g := gb160) (o := .cells #[.int .i64 a0_0, .int .i64 a0_1, .slice A0_2 l0_2.length c0_2] 29 (0, 0)) (bk BK160.out) hg (Kd.R_ne HO_10.out BK160.out (by decide))); replace BK174 := Aside0.mk (blk_grown (g := gb174) (o := .cells #[.int .i64 ((rd_T74 l1 x55_3).f0), .int .i64 ((rd_T74 l1 x55_3).f1), .int .i64 ((rd_T74 l1 x55_3).f2)] 74 (0, 0)) (bk BK174.out) hg (Kd.R_ne HO_10.out BK174.out (by decide))); replace HO_10 := Aside0.mk (hp_); replace HB := Aside0.mk ((by rw [hw]; exact below_set (HB.out) GB41.out : Below w.heap.size w w53)); clear hg hw hp_; obtain ⟨hcz54_0, hcz54_1, hcz54_2⟩ := ck3 BK174.out; obtain ⟨hfz54_0, hfz54_1, hfz54_2⟩ := fz3 BK174.out; have p42 : 0 ≤ (x55_3 : Int) := of_decide_eq_true (by first | (with_reducible assumption) | assumption); have q42 : (x55_3 : Int) < ((x11_3.length : Int) : Int) := of_decide_eq_true (by first | (with_reducible assumption) | assumption); obtain ⟨go42, co42, eo42, gb42, gl42, cl42, HG42⟩ := Kd.R_form HO_11.out (by omega); (first | cases eo42 | (injection eo42 with ea_ en_ ec_; (first | subst ea_ | (injection ea_ with ea_; subst ea_)); subst ec_; clear en_)); have GB42 := Aside0.mk gb42; have GG42 := Aside0.mk HG42; clear gb42 gl42 HG42; (first | simp only [add_plain] at hx175_0 | skip); obtain ⟨hx42_0, hf42_0⟩ := Kd.R_celln 0 HO_11.out (x55_3 : Int) p42 q42; replace p42 := eq_true p42; replace q42 := eq_true q42; obtain ⟨hy55_, hz55_⟩ := Kd.R_celln 0 HO_11.out (x55_3 : Int) (of_decide_eq_true (by first | (with_reducible assumption) | assumption)) (of_decide_eq_true (by first | (with_reducible assumption) | assumption)); have HP55 := Kd.R_putg HO_11.out (x55_3 : Int) ((rd_T74 l1 x55_3).f2)) | ((with_reducible refine gate_store (t := 3) (p := 83) rfl ?_); refine store_event (t := 3) (p := 83) (v := ?vo_w56) (w1 := (w53.setCell ⟨go42, (x55_3 : Int).toNat, none⟩ (.int .i64 ((rd_T74 l1 x55_3).f2)))) ?hg ?ho ?hn ?hr ?_; (case ho => rfl); (case hg => rfl); (case hn => rfl); (case hr => first | (go_simp; done) | (go_simp; rfl)); intro w56 hw; have hg : w53.grownBy w56 (some go42) := (by rw [hw]; exact HP55.2); have hp_ : Kd.R (Kd.int .i64) 3 w56 w.heap.size (fun k_ => some k_ ≠ (v171 : Value).ownBlock ∧ some k_ ≠ (.slice (some ⟨go41, 0, none⟩) x10_3.length co51 : Value).ownBlock) (.slice (some ⟨go42, 0, none⟩) x11_3.length co50) y178 := (by rw [hw, Ny178.out]; exact HP55.1); clear HP55; replace HO_10 := Aside0.mk (Kd.R_after (v := (.slice (some ⟨go42, 0, none⟩) x11_3.length co50)) (v1 := (.slice (some ⟨go42, 0, none⟩) x11_3.length co50)) (ok := (fun k_ => some k_ ≠ (v171 : Value).ownBlock)) (by (repeat apply rl1); exact Kd.R_mono HO_10.out (fun _ hk => ⟨hk.2, hk.1⟩)) hg (.inl rfl)); replace HO_12 := Aside0.mk (Kd.R_after (v := (.slice (some ⟨go42, 0, none⟩) x11_3.length co50)) (v1 := (.slice (some ⟨go42, 0, none⟩) x11_3.length co50)) (ok := (fun k_ => some k_ ≠ (.slice (some ⟨go41, 0, none⟩) x10_3.length co51 : Value).ownBlock)) (by (repeat apply rl1); exact Kd.R_mono HO_12.out (fun _ hk => ⟨hk.2, hk.1⟩)) hg (.inl rfl)); replace BK160 := Aside0.mk (blk_grown (g := gb160) (o := .cells #[.int .i64 a0_0, .int .i64 a0_1, .slice A0_2 l0_2.length c0_2] 29 (0, 0)) (bk BK160.out) hg (Kd.R_ne HO_11.out BK160.out (by decide))); replace BK174 := Aside0.mk (blk_grown (g := gb174) (o := .cells #[.int .i64 ((rd_T74 l1 x55_3).f0), .int .i64 ((rd_T74 l1 x55_3).f1), .int .i64 ((rd_T74 l1 x55_3).f2)] 74 (0, 0)) (bk BK174.out) hg (Kd.R_ne HO_11.out BK174.out (by decide))); replace HO_11 := Aside0.mk (hp_); replace HB := Aside0.mk ((by rw [hw]; exact below_set (HB.out) GB42.out : Below w.heap.size w w56)); clear hg hw hp_; have p44 : 0 ≤ (x55_3 : Int) := of_decide_eq_true (by first | (with_reducible assumption) | assumption); have q44 : (x55_3 : Int) < ((x12_3.length : Int) : Int) := of_decide_eq_true (by first | (with_reducible assumption) | assumption); obtain ⟨go44, co44, eo44, gb44, gl44, cl44, HG44⟩ := Kd.R_form HO_12.out (by omega); (first | cases eo44 | (injection eo44 with ea_ en_ ec_; (first | subst ea_ | (injection ea_ with ea_; subst ea_)); subst ec_; clear en_)); have GB44 := Aside0.mk gb44; have GG44 := Aside0.mk HG44; clear gb44 gl44 HG44; obtain ⟨hx44_0, hf44_0⟩ := Kd.R_celln 0 HO_12.out (x55_3 : Int) p44 q44; replace p44 := eq_true p44; replace q44 := eq_true q44; obtain ⟨hy57_, hz57_⟩ := Kd.R_celln 0 HO_12.out (x55_3 : Int) (of_decide_eq_true (by first | (with_reducible assumption) | assumption)) (of_decide_eq_true (by first | (with_reducible assumption) | assumption)); have HP57 := Kd.R_putg HO_12.out (x55_3 : Int) x50_2) | ((with_reducible refine gate_store (t := 3) (p := 84) rfl ?_); refine store_event (t := 3) (p := 84) (v := ?vo_w58) (w1 := (w56.setCell ⟨go44, (x55_3 : Int).toNat, none⟩ (.int .i64 x50_2))) ?hg ?ho ?hn ?hr ?_; (case ho => rfl); (case hg => rfl); (case hn => rfl); (case hr => first | (go_simp; done) | (go_simp; rfl)); intro w58 hw; have hg : w56.grownBy w58 (some go44) := (by rw [hw]; exact HP57.2); have hp_ : Kd.R (Kd.int .i64) 3 w58 w.heap.size (fun k_ => some k_ ≠ (.slice (some ⟨go41, 0, none⟩) x10_3.length co51 : Value).ownBlock ∧ some k_ ≠ (.slice (some ⟨go42, 0, none⟩) x11_3.length co50 : Value).ownBlock) (.slice (some ⟨go44, 0, none⟩) x12_3.length co44) y179 := (by rw [hw, Ny179.out]; exact HP57.1); clear HP57; replace HO_10 := Aside0.mk (Kd.R_after (v := (.slice (some ⟨go44, 0, none⟩) x12_3.length co44)) (v1 := (.slice (some ⟨go44, 0, none⟩) x12_3.length co44)) (ok := (fun k_ => some k_ ≠ (.slice (some ⟨go42, 0, none⟩) x11_3.length co50 : Value).ownBlock)) (by (repeat apply rl1); exact Kd.R_mono HO_10.out (fun _ hk => ⟨hk.2, hk.1⟩)) hg (.inl rfl)); replace HO_11 := Aside0.mk (Kd.R_after (v := (.slice (some ⟨go44, 0, none⟩) x12_3.length co44)) (v1 := (.slice (some ⟨go44, 0, none⟩) x12_3.length co44)) (ok := (fun k_ => some k_ ≠ (.slice (some ⟨go41, 0, none⟩) x10_3.length co51 : Value).ownBlock)) (by (repeat apply rl1); exact Kd.R_mono HO_11.out (fun _ hk => ⟨hk.2, hk.1⟩)) hg (.inl rfl)); replace BK160 := Aside0.mk (blk_grown (g := gb160) (o := .cells #[.int .i64 a0_0, .int .i64 a0_1, .slice A0_2 l0_2.length c0_2] 29 (0, 0)) (bk BK160.out) hg (Kd.R_ne HO_12.out BK160.out (by decide))); replace BK174 := Aside0.mk (blk_grown (g := gb174) (o := .cells #[.int .i64 ((rd_T74 l1 x55_3).f0), .int .i64 ((rd_T74 l1 x55_3).f1), .int .i64 ((rd_T74 l1 x55_3).f2)] 74 (0, 0)) (bk BK174.out) hg (Kd.R_ne HO_12.out BK174.out (by decide))); replace HO_12 := Aside0.mk (hp_); replace HB := Aside0.mk ((by rw [hw]; exact below_set (HB.out) GB44.out : Below w.heap.size w w58)); clear hg hw hp_))
                    go_roundg k3
                    case measure => have := HJ4.out; have := HK2.out; have := HK3.out; omega
                    case rel => exact ⟨(y177), (y178), (y179), (wrap64 (x55_3 + 1)), (by first | rfl | (simp; done) | (simp [*]; done)), H', ⟨by have := HJ4.out; have := HK2.out; have := HK3.out; omega⟩, ⟨rl HO_10.out⟩, ⟨rl HO_11.out⟩, ⟨rl HO_12.out⟩, ⟨bk BK160.out⟩, ⟨by repeat with_reducible first | exact bl HB.out | refine below_set ?_ GE160.out | refine below_set ?_ GE174.out | refine bq ?_⟩⟩
                   ·
                    rw [if_neg c43] at H
                    exact absurd H (by simp)
                  ·
                   rw [if_neg c40] at H
                   exact absurd H (by simp)
                 ·
                  rw [if_neg c39] at H
                  have c39b0 : decide (0 < (rd x11_3 x55_3)) = false := decide_eq_false c39
                  clear c39
                  obtain ⟨y180, hy180⟩ : ∃ y_ : List Int, y_ = (x11_3.set (x55_3 : Int).toNat ((rd_T74 l1 x55_3).f2)) := ⟨_, rfl⟩
                  replace H : (if x55_3 < (x12_3.length : Int) then (impl_RunJobs.l1 k3 l1 x10_3 y180 (x12_3.set (x55_3 : Int).toNat x50_2) x13_2 x50_2 a2 x50_2 l1 (l1.length : Int) (wrap64 (x55_3 + 1)) a0_0 a0_1 l0_2) else (none)) = some (r1, r2, r3) := by first | (rw [hy180]; with_reducible exact H) | (have H2_ := (Option.bind_some _ _).symm.trans H; rw [hy180]; with_reducible exact H2_) | (have H2_ := (Option.bind_some _ _).symm.trans H; with_reducible exact H2_) | with_reducible exact H | (rw [hy180]; exact H) | exact H
                  have Ny180 := Aside0.mk hy180
                  clear hy180
                  by_cases c60 : x55_3 < (x12_3.length : Int)
                  ·
                   rw [if_pos c60] at H
                   have c60b0 : decide (x55_3 < (x12_3.length : Int)) = true := decide_eq_true c60
                   clear c60
                   obtain ⟨y181, hy181⟩ : ∃ y_ : List Int, y_ = (x12_3.set (x55_3 : Int).toNat x50_2) := ⟨_, rfl⟩
                   replace H : (impl_RunJobs.l1 k3 l1 x10_3 y180 y181 x13_2 x50_2 a2 x50_2 l1 (l1.length : Int) (wrap64 (x55_3 + 1)) a0_0 a0_1 l0_2) = some (r1, r2, r3) := by first | (rw [hy181]; with_reducible exact H) | (have H2_ := (Option.bind_some _ _).symm.trans H; rw [hy181]; with_reducible exact H2_) | (have H2_ := (Option.bind_some _ _).symm.trans H; with_reducible exact H2_) | with_reducible exact H | (rw [hy181]; exact H) | exact H
                   have Ny181 := Aside0.mk hy181
                   clear hy181
                   have H' := Aside0.mk H
                   clear H
                   have p173 : 0 ≤ (x55_3 : Int) := of_decide_eq_true (by first | (with_reducible assumption) | assumption)
                   have q173 : x55_3 < (l1.length : Int) := of_decide_eq_true (by first | (with_reducible assumption) | assumption)
                   obtain ⟨ad173, e173, hx173_0, hx173_1, hx173_2⟩ := at_T74 HR1.out x55_3 p173 q173
                   cases e173
                   replace hx173_0 := bc HB.out hx173_0
                   replace hx173_1 := bc HB.out hx173_1
                   replace hx173_2 := bc HB.out hx173_2
                   replace p173 := eq_true p173
                   replace q173 := eq_true q173
                   go_wp2_with (first | ((with_reducible refine gate_dst (N := 16) rfl ?_); (try (refine gate_guard (by rfl) ?_; dsimp only)); refine box_event ?hg (N := 16) ?hd (cs := #[.int .i64 0, .int .i64 0, .int .i64 0]) (t := 74) ?hr ?_; (case hd => rfl); (case hg => rfl); (case hr => first | (go_simp; done) | (go_simp; rfl)); intro gb174 hg w62 hbox hb; replace HO_10 := Aside0.mk (Kd.R_below (rl HO_10.out) hb); replace HO_11 := Aside0.mk (Kd.R_below (rl HO_11.out) hb); replace HO_12 := Aside0.mk (Kd.R_below (rl HO_12.out) hb); have BK174 := Aside0.mk (hbox); have GW174 := Aside0.mk ((by rw [hg]; exact (below_size (by repeat with_reducible first | exact bl HB.out | refine below_set ?_ GE160.out | refine bq ?_)) : w.heap.size ≤ gb174)); have GE174 := GW174; replace HB := Aside0.mk (below_step (by repeat with_reducible first | exact bl HB.out | refine below_set ?_ GE160.out | refine bq ?_) hb); have NB160_174 := nb_ hg BK160.out; have NB174_160 := Aside0.mk NB160_174.out.symm; replace BK160 := Aside0.mk (blk_below (bk BK160.out) hb); clear hb hbox hg; have hnb63 := NB174_160.out; have hnc63 := NB160_174.out; obtain ⟨hcz64_0, hcz64_1, hcz64_2⟩ := ck3 BK174.out; obtain ⟨hfz64_0, hfz64_1, hfz64_2⟩ := fz3 BK174.out) | ((with_reducible refine gate_store (t := 74) (p := 16) rfl ?_); refine store_event (t := 74) (p := 16) (v := ?vo_w65) (w1 := (((w62.setCell ⟨gb174, 0, none⟩ (.int .i64 ((rd_T74 l1 x55_3).f0))).setCell ⟨gb174, 1, none⟩ (.int .i64 ((rd_T74 l1 x55_3).f1))).setCell ⟨gb174, 2, none⟩ (.int .i64 ((rd_T74 l1 x55_3).f2)))) ?hg ?ho ?hn ?hr ?_; (case ho => rfl); (case hg => rfl); (case hn => rfl); (case hr => first | (go_simp; done) | (go_simp; rfl)); intro w65 hw; have n0_ : Aside0 (Kd.R (Kd.int .i64) 3 w65 w.heap.size (fun k_ => some k_ ≠ (v168 : Value).ownBlock ∧ some k_ ≠ (v171 : Value).ownBlock) v165 x10_3) := ⟨(by rw [hw]; exact (by (repeat apply rl1); exact Kd.R_mono (Kd.R_far (p := ⟨gb174, 2, none⟩) (Kd.R_far (p := ⟨gb174, 1, none⟩) (Kd.R_far (p := ⟨gb174, 0, none⟩) (Kd.R_types HO_10.out BK174.out (by decide)) (fun _ hk => hk.2) (.int .i64 ((rd_T74 l1 x55_3).f0))) (fun _ hk => hk.2) (.int .i64 ((rd_T74 l1 x55_3).f1))) (fun _ hk => hk.2) (.int .i64 ((rd_T74 l1 x55_3).f2))) (fun _ hk => ⟨hk.1.1, hk.1.2⟩)))⟩; have n1_ : Aside0 (Kd.R (Kd.int .i64) 3 w65 w.heap.size (fun k_ => some k_ ≠ (v165 : Value).ownBlock ∧ some k_ ≠ (v171 : Value).ownBlock) v168 x11_3) := ⟨(by rw [hw]; exact (by (repeat apply rl1); exact Kd.R_mono (Kd.R_far (p := ⟨gb174, 2, none⟩) (Kd.R_far (p := ⟨gb174, 1, none⟩) (Kd.R_far (p := ⟨gb174, 0, none⟩) (Kd.R_types HO_11.out BK174.out (by decide)) (fun _ hk => hk.2) (.int .i64 ((rd_T74 l1 x55_3).f0))) (fun _ hk => hk.2) (.int .i64 ((rd_T74 l1 x55_3).f1))) (fun _ hk => hk.2) (.int .i64 ((rd_T74 l1 x55_3).f2))) (fun _ hk => ⟨hk.1.1, hk.1.2⟩)))⟩; have n2_ : Aside0 (Kd.R (Kd.int .i64) 3 w65 w.heap.size (fun k_ => some k_ ≠ (v165 : Value).ownBlock ∧ some k_ ≠ (v168 : Value).ownBlock) v171 x12_3) := ⟨(by rw [hw]; exact (by (repeat apply rl1); exact Kd.R_mono (Kd.R_far (p := ⟨gb174, 2, none⟩) (Kd.R_far (p := ⟨gb174, 1, none⟩) (Kd.R_far (p := ⟨gb174, 0, none⟩) (Kd.R_types HO_12.out BK174.out (by decide)) (fun _ hk => hk.2) (.int .i64 ((rd_T74 l1 x55_3).f0))) (fun _ hk => hk.2) (.int .i64 ((rd_T74 l1 x55_3).f1))) (fun _ hk => hk.2) (.int .i64 ((rd_T74 l1 x55_3).f2))) (fun _ hk => ⟨hk.1.1, hk.1.2⟩)))⟩; have n3_ : Aside0 (w65.heap[gb160]? = some (.cells #[.int .i64 a0_0, .int .i64 a0_1, .slice A0_2 l0_2.length c0_2] 29 (0, 0))) := ⟨(by rw [hw]; exact (by (repeat refine bk1 ?_); refine blk_far ?_ NB160_174.out _; (repeat refine bk1 ?_); refine blk_far ?_ NB160_174.out _; (repeat refine bk1 ?_); refine blk_far ?_ NB160_174.out _; (repeat refine bk1 ?_); exact BK160.out))⟩; have n4_ : Aside0 (w65.heap[gb174]? = some (.cells #[.int .i64 ((rd_T74 l1 x55_3).f0), .int .i64 ((rd_T74 l1 x55_3).f1), .int .i64 ((rd_T74 l1 x55_3).f2)] 74 (0, 0))) := ⟨(by rw [hw]; exact (by (repeat refine bk1 ?_); refine blk_put (cs := #[.int .i64 ((rd_T74 l1 x55_3).f0), .int .i64 ((rd_T74 l1 x55_3).f1), .int .i64 0]) ?_ 2 _ rfl; (repeat refine bk1 ?_); refine blk_put (cs := #[.int .i64 ((rd_T74 l1 x55_3).f0), .int .i64 0, .int .i64 0]) ?_ 1 _ rfl; (repeat refine bk1 ?_); refine blk_put (cs := #[.int .i64 0, .int .i64 0, .int .i64 0]) ?_ 0 _ rfl; (repeat refine bk1 ?_); exact BK174.out))⟩; have n5_ : Aside0 (Below w.heap.size w w65) := ⟨(by rw [hw]; exact (by repeat with_reducible first | exact bl HB.out | refine below_set ?_ GE160.out | refine below_set ?_ GE174.out | refine bq ?_))⟩; clear hw; clear HO_10; clear HO_11; clear HO_12; clear BK160; clear BK174; clear HB; have HO_10 := n0_; have HO_11 := n1_; have HO_12 := n2_; have BK160 := n3_; have BK174 := n4_; have HB := n5_; clear n0_ n1_ n2_ n3_ n4_ n5_; obtain ⟨hcz66_0, hcz66_1, hcz66_2⟩ := ck3 BK174.out; obtain ⟨hfz66_0, hfz66_1, hfz66_2⟩ := fz3 BK174.out; obtain ⟨Ao67, co67, eo67⟩ := Kd.R_slice HO_11.out; subst eo67; have p175 : 0 ≤ (x55_3 : Int) := of_decide_eq_true (by first | (with_reducible assumption) | assumption); have q175 : x55_3 < (x11_3.length : Int) := of_decide_eq_true (by first | (with_reducible assumption) | assumption); obtain ⟨ad175, e175, hx175_0⟩ := Kd.at_int (Kd.R_reads' HO_11.out).2.2 x55_3 p175 q175; cases e175; replace p175 := eq_true p175; replace q175 := eq_true q175; have p59 : 0 ≤ (x55_3 : Int) := of_decide_eq_true (by first | (with_reducible assumption) | assumption); have q59 : (x55_3 : Int) < ((x11_3.length : Int) : Int) := of_decide_eq_true (by first | (with_reducible assumption) | assumption); obtain ⟨go59, co59, eo59, gb59, gl59, cl59, HG59⟩ := Kd.R_form HO_11.out (by omega); (first | cases eo59 | (injection eo59 with ea_ en_ ec_; (first | subst ea_ | (injection ea_ with ea_; subst ea_)); subst ec_; clear en_)); have GB59 := Aside0.mk gb59; have GG59 := Aside0.mk HG59; clear gb59 gl59 HG59; (first | simp only [add_plain] at hx175_0 | skip); obtain ⟨hx59_0, hf59_0⟩ := Kd.R_celln 0 HO_11.out (x55_3 : Int) p59 q59; replace p59 := eq_true p59; replace q59 := eq_true q59; obtain ⟨hy68_, hz68_⟩ := Kd.R_celln 0 HO_11.out (x55_3 : Int) (of_decide_eq_true (by first | (with_reducible assumption) | assumption)) (of_decide_eq_true (by first | (with_reducible assumption) | assumption)); have HP68 := Kd.R_putg HO_11.out (x55_3 : Int) ((rd_T74 l1 x55_3).f2)) | ((with_reducible refine gate_store (t := 3) (p := 83) rfl ?_); refine store_event (t := 3) (p := 83) (v := ?vo_w69) (w1 := (w65.setCell ⟨go59, (x55_3 : Int).toNat, none⟩ (.int .i64 ((rd_T74 l1 x55_3).f2)))) ?hg ?ho ?hn ?hr ?_; (case ho => rfl); (case hg => rfl); (case hn => rfl); (case hr => first | (go_simp; done) | (go_simp; rfl)); intro w69 hw; have hg : w65.grownBy w69 (some go59) := (by rw [hw]; exact HP68.2); have hp_ : Kd.R (Kd.int .i64) 3 w69 w.heap.size (fun k_ => some k_ ≠ (v165 : Value).ownBlock ∧ some k_ ≠ (v171 : Value).ownBlock) (.slice (some ⟨go59, 0, none⟩) x11_3.length co67) y180 := (by rw [hw, Ny180.out]; exact HP68.1); clear HP68; replace HO_10 := Aside0.mk (Kd.R_after (v := (.slice (some ⟨go59, 0, none⟩) x11_3.length co67)) (v1 := (.slice (some ⟨go59, 0, none⟩) x11_3.length co67)) (ok := (fun k_ => some k_ ≠ (v171 : Value).ownBlock)) (by (repeat apply rl1); exact Kd.R_mono HO_10.out (fun _ hk => ⟨hk.2, hk.1⟩)) hg (.inl rfl)); replace HO_12 := Aside0.mk (Kd.R_after (v := (.slice (some ⟨go59, 0, none⟩) x11_3.length co67)) (v1 := (.slice (some ⟨go59, 0, none⟩) x11_3.length co67)) (ok := (fun k_ => some k_ ≠ (v165 : Value).ownBlock)) (rl HO_12.out) hg (.inl rfl)); replace BK160 := Aside0.mk (blk_grown (g := gb160) (o := .cells #[.int .i64 a0_0, .int .i64 a0_1, .slice A0_2 l0_2.length c0_2] 29 (0, 0)) (bk BK160.out) hg (Kd.R_ne HO_11.out BK160.out (by decide))); replace BK174 := Aside0.mk (blk_grown (g := gb174) (o := .cells #[.int .i64 ((rd_T74 l1 x55_3).f0), .int .i64 ((rd_T74 l1 x55_3).f1), .int .i64 ((rd_T74 l1 x55_3).f2)] 74 (0, 0)) (bk BK174.out) hg (Kd.R_ne HO_11.out BK174.out (by decide))); replace HO_11 := Aside0.mk (hp_); replace HB := Aside0.mk ((by rw [hw]; exact below_set (HB.out) GB59.out : Below w.heap.size w w69)); clear hg hw hp_; have p61 : 0 ≤ (x55_3 : Int) := of_decide_eq_true (by first | (with_reducible assumption) | assumption); have q61 : (x55_3 : Int) < ((x12_3.length : Int) : Int) := of_decide_eq_true (by first | (with_reducible assumption) | assumption); obtain ⟨go61, co61, eo61, gb61, gl61, cl61, HG61⟩ := Kd.R_form HO_12.out (by omega); (first | cases eo61 | (injection eo61 with ea_ en_ ec_; (first | subst ea_ | (injection ea_ with ea_; subst ea_)); subst ec_; clear en_)); have GB61 := Aside0.mk gb61; have GG61 := Aside0.mk HG61; clear gb61 gl61 HG61; obtain ⟨hx61_0, hf61_0⟩ := Kd.R_celln 0 HO_12.out (x55_3 : Int) p61 q61; replace p61 := eq_true p61; replace q61 := eq_true q61; obtain ⟨hy70_, hz70_⟩ := Kd.R_celln 0 HO_12.out (x55_3 : Int) (of_decide_eq_true (by first | (with_reducible assumption) | assumption)) (of_decide_eq_true (by first | (with_reducible assumption) | assumption)); have HP70 := Kd.R_putg HO_12.out (x55_3 : Int) x50_2) | ((with_reducible refine gate_store (t := 3) (p := 84) rfl ?_); refine store_event (t := 3) (p := 84) (v := ?vo_w71) (w1 := (w69.setCell ⟨go61, (x55_3 : Int).toNat, none⟩ (.int .i64 x50_2))) ?hg ?ho ?hn ?hr ?_; (case ho => rfl); (case hg => rfl); (case hn => rfl); (case hr => first | (go_simp; done) | (go_simp; rfl)); intro w71 hw; have hg : w69.grownBy w71 (some go61) := (by rw [hw]; exact HP70.2); have hp_ : Kd.R (Kd.int .i64) 3 w71 w.heap.size (fun k_ => some k_ ≠ (v165 : Value).ownBlock ∧ some k_ ≠ (.slice (some ⟨go59, 0, none⟩) x11_3.length co67 : Value).ownBlock) (.slice (some ⟨go61, 0, none⟩) x12_3.length co61) y181 := (by rw [hw, Ny181.out]; exact HP70.1); clear HP70; replace HO_10 := Aside0.mk (Kd.R_after (v := (.slice (some ⟨go61, 0, none⟩) x12_3.length co61)) (v1 := (.slice (some ⟨go61, 0, none⟩) x12_3.length co61)) (ok := (fun k_ => some k_ ≠ (.slice (some ⟨go59, 0, none⟩) x11_3.length co67 : Value).ownBlock)) (by (repeat apply rl1); exact Kd.R_mono HO_10.out (fun _ hk => ⟨hk.2, hk.1⟩)) hg (.inl rfl)); replace HO_11 := Aside0.mk (Kd.R_after (v := (.slice (some ⟨go61, 0, none⟩) x12_3.length co61)) (v1 := (.slice (some ⟨go61, 0, none⟩) x12_3.length co61)) (ok := (fun k_ => some k_ ≠ (v165 : Value).ownBlock)) (rl HO_11.out) hg (.inl rfl)); replace BK160 := Aside0.mk (blk_grown (g := gb160) (o := .cells #[.int .i64 a0_0, .int .i64 a0_1, .slice A0_2 l0_2.length c0_2] 29 (0, 0)) (bk BK160.out) hg (Kd.R_ne HO_12.out BK160.out (by decide))); replace BK174 := Aside0.mk (blk_grown (g := gb174) (o := .cells #[.int .i64 ((rd_T74 l1 x55_3).f0), .int .i64 ((rd_T74 l1 x55_3).f1), .int .i64 ((rd_T74 l1 x55_3).f2)] 74 (0, 0)) (bk BK174.out) hg (Kd.R_ne HO_12.out BK174.out (by decide))); replace HO_12 := Aside0.mk (hp_); replace HB := Aside0.mk ((by rw [hw]; exact below_set (HB.out) GB61.out : Below w.heap.size w w71)); clear hg hw hp_))
                   go_roundg k3
                   case measure => have := HJ4.out; have := HK2.out; have := HK3.out; omega
                   case rel => exact ⟨(x10_3), (y180), (y181), (wrap64 (x55_3 + 1)), (by first | rfl | (simp; done) | (simp [*]; done)), H', ⟨by have := HJ4.out; have := HK2.out; have := HK3.out; omega⟩, ⟨rl HO_10.out⟩, ⟨rl HO_11.out⟩, ⟨rl HO_12.out⟩, ⟨bk BK160.out⟩, ⟨by repeat with_reducible first | exact bl HB.out | refine below_set ?_ GE160.out | refine below_set ?_ GE174.out | refine bq ?_⟩⟩
                  ·
                   rw [if_neg c60] at H
                   exact absurd H (by simp)
                ·
                 rw [if_neg c38] at H
                 exact absurd H (by simp)
               ·
                rw [if_neg c37] at H
                have c37b0 : ((Int.tmod x50_2 ((rd_T74 l1 x55_3).f1)) == 0) = false := beq_eq_false_iff_ne.mpr c37
                have c37b1 : ((Int.tmod x50_2 ((rd_T74 l1 x55_3).f1)) != 0) = true := bne_iff_ne.mpr c37
                have H' := Aside0.mk H
                clear H
                have p173 : 0 ≤ (x55_3 : Int) := of_decide_eq_true (by first | (with_reducible assumption) | assumption)
                have q173 : x55_3 < (l1.length : Int) := of_decide_eq_true (by first | (with_reducible assumption) | assumption)
                obtain ⟨ad173, e173, hx173_0, hx173_1, hx173_2⟩ := at_T74 HR1.out x55_3 p173 q173
                cases e173
                replace hx173_0 := bc HB.out hx173_0
                replace hx173_1 := bc HB.out hx173_1
                replace hx173_2 := bc HB.out hx173_2
                replace p173 := eq_true p173
                replace q173 := eq_true q173
                go_wp2_with (first | ((with_reducible refine gate_dst (N := 16) rfl ?_); (try (refine gate_guard (by rfl) ?_; dsimp only)); refine box_event ?hg (N := 16) ?hd (cs := #[.int .i64 0, .int .i64 0, .int .i64 0]) (t := 74) ?hr ?_; (case hd => rfl); (case hg => rfl); (case hr => first | (go_simp; done) | (go_simp; rfl)); intro gb174 hg w72 hbox hb; replace HO_10 := Aside0.mk (Kd.R_below (rl HO_10.out) hb); replace HO_11 := Aside0.mk (Kd.R_below (rl HO_11.out) hb); replace HO_12 := Aside0.mk (Kd.R_below (rl HO_12.out) hb); have BK174 := Aside0.mk (hbox); have GW174 := Aside0.mk ((by rw [hg]; exact (below_size (by repeat with_reducible first | exact bl HB.out | refine below_set ?_ GE160.out | refine bq ?_)) : w.heap.size ≤ gb174)); have GE174 := GW174; replace HB := Aside0.mk (below_step (by repeat with_reducible first | exact bl HB.out | refine below_set ?_ GE160.out | refine bq ?_) hb); have NB160_174 := nb_ hg BK160.out; have NB174_160 := Aside0.mk NB160_174.out.symm; replace BK160 := Aside0.mk (blk_below (bk BK160.out) hb); clear hb hbox hg; have hnb73 := NB174_160.out; have hnc73 := NB160_174.out; obtain ⟨hcz74_0, hcz74_1, hcz74_2⟩ := ck3 BK174.out; obtain ⟨hfz74_0, hfz74_1, hfz74_2⟩ := fz3 BK174.out))
                go_roundg k3
                case measure => have := HJ4.out; have := HK2.out; have := HK3.out; omega
                case rel => exact ⟨(x10_3), (x11_3), (x12_3), (wrap64 (x55_3 + 1)), (by first | rfl | (simp; done) | (simp [*]; done)), H', ⟨by have := HJ4.out; have := HK2.out; have := HK3.out; omega⟩, ⟨by (repeat apply rl1); exact Kd.R_mono (Kd.R_far (p := ⟨gb174, 2, none⟩) (Kd.R_far (p := ⟨gb174, 1, none⟩) (Kd.R_far (p := ⟨gb174, 0, none⟩) (Kd.R_types HO_10.out BK174.out (by decide)) (fun _ hk => hk.2) (.int .i64 ((rd_T74 l1 x55_3).f0))) (fun _ hk => hk.2) (.int .i64 ((rd_T74 l1 x55_3).f1))) (fun _ hk => hk.2) (.int .i64 ((rd_T74 l1 x55_3).f2))) (fun _ hk => ⟨hk.1.1, hk.1.2⟩)⟩, ⟨by (repeat apply rl1); exact Kd.R_mono (Kd.R_far (p := ⟨gb174, 2, none⟩) (Kd.R_far (p := ⟨gb174, 1, none⟩) (Kd.R_far (p := ⟨gb174, 0, none⟩) (Kd.R_types HO_11.out BK174.out (by decide)) (fun _ hk => hk.2) (.int .i64 ((rd_T74 l1 x55_3).f0))) (fun _ hk => hk.2) (.int .i64 ((rd_T74 l1 x55_3).f1))) (fun _ hk => hk.2) (.int .i64 ((rd_T74 l1 x55_3).f2))) (fun _ hk => ⟨hk.1.1, hk.1.2⟩)⟩, ⟨by (repeat apply rl1); exact Kd.R_mono (Kd.R_far (p := ⟨gb174, 2, none⟩) (Kd.R_far (p := ⟨gb174, 1, none⟩) (Kd.R_far (p := ⟨gb174, 0, none⟩) (Kd.R_types HO_12.out BK174.out (by decide)) (fun _ hk => hk.2) (.int .i64 ((rd_T74 l1 x55_3).f0))) (fun _ hk => hk.2) (.int .i64 ((rd_T74 l1 x55_3).f1))) (fun _ hk => hk.2) (.int .i64 ((rd_T74 l1 x55_3).f2))) (fun _ hk => ⟨hk.1.1, hk.1.2⟩)⟩, ⟨by (repeat refine bk1 ?_); refine blk_far ?_ NB160_174.out _; (repeat refine bk1 ?_); refine blk_far ?_ NB160_174.out _; (repeat refine bk1 ?_); refine blk_far ?_ NB160_174.out _; (repeat refine bk1 ?_); exact BK160.out⟩, ⟨by repeat with_reducible first | exact bl HB.out | refine below_set ?_ GE160.out | refine below_set ?_ GE174.out | refine bq ?_⟩⟩
             ·
              rw [if_neg c35] at H
              exact absurd H (by simp)
            ·
             rw [if_neg c34] at H
             exact absurd H (by simp)
           ·
            rw [if_neg c33] at H
            have c33b0 : decide (x55_3 < (l1.length : Int)) = false := decide_eq_false c33
            clear c33
            replace H := Option.bind_eq_some_iff.mp H
            obtain ⟨t182, A750, H⟩ := H
            replace H : (impl_RunJobs.l2 k3 l1 x10_3 x11_3 x12_3 x13_2 t182 (-1) a2 x50_2 l1 (l1.length : Int) 0 a0_0 a0_1 l0_2) = some (r1, r2, r3) := H
            have A75 := Aside0.mk A750
            clear A750
            have H' := Aside0.mk H
            clear H
            obtain ⟨hcz76_0, hcz76_1, hcz76_2⟩ := ck3 BK160.out
            obtain ⟨hfz76_0, hfz76_1, hfz76_2⟩ := fz3 BK160.out
            go_wp2_with (first | ((with_reducible refine gate_callee (f := 42) rfl ?_); refine goesL_ (some 88) rfl rfl Try.func42 (by kernel_rfl) rfl #[.agg #[.int .i64 a0_0, .int .i64 a0_1, .slice A0_2 l0_2.length c0_2], .int .i64 x50_2] rfl (by (try simp only [am_]); first | done | rfl) ?_; (with_reducible refine (impl_owner.calls k3 a0_0 a0_1 _ _ l0_2 x50_2 t182 _ ?side1 ?side2 A75.out).mono ?_); (case side1 => exact rc (Kd.C_below HR0_2.out HB.out)); (case side2 => exact HC0_2.out); rintro e w77 ⟨rfl, hb⟩; refine ⟨_, rfl, ?_⟩; replace HO_10 := Aside0.mk (Kd.R_below (rl HO_10.out) hb); replace HO_11 := Aside0.mk (Kd.R_below (rl HO_11.out) hb); replace HO_12 := Aside0.mk (Kd.R_below (rl HO_12.out) hb); replace BK160 := Aside0.mk (blk_below (bk BK160.out) hb); replace HB := Aside0.mk (below_step (by repeat with_reducible first | exact bl HB.out | refine below_set ?_ GE160.out | refine bq ?_) hb); (try clear hb); (try clear hb2); (try clear hk); (try clear hi)))
            go_loopg [18, 91] k3 (fun kq v18 v91 w' => ∃ (x18_4 : Int) (x91_4 : Int), v18 = .int .i64 x18_4 ∧ v91 = .int .i64 x91_4 ∧ Aside0 (impl_RunJobs.l2 kq l1 x10_3 x11_3 x12_3 x13_2 t182 x18_4 a2 x50_2 l1 (l1.length : Int) x91_4 a0_0 a0_1 l0_2 = some (r1, r2, r3)) ∧ Aside0 (kq ≤ k3) ∧ Aside0 (Kd.R (Kd.int .i64) 3 w' w.heap.size (fun k_ => some k_ ≠ (v168 : Value).ownBlock ∧ some k_ ≠ (v171 : Value).ownBlock) v165 x10_3) ∧ Aside0 (Kd.R (Kd.int .i64) 3 w' w.heap.size (fun k_ => some k_ ≠ (v165 : Value).ownBlock ∧ some k_ ≠ (v171 : Value).ownBlock) v168 x11_3) ∧ Aside0 (Kd.R (Kd.int .i64) 3 w' w.heap.size (fun k_ => some k_ ≠ (v165 : Value).ownBlock ∧ some k_ ≠ (v168 : Value).ownBlock) v171 x12_3) ∧ Aside0 (w'.heap[gb160]? = some (.cells #[.int .i64 a0_0, .int .i64 a0_1, (.slice A0_2 l0_2.length c0_2)] 29 (0, 0))) ∧ Aside0 (Below w.heap.size w w'))
            case atStart => exact ⟨((-1)), (0), (by first | rfl | (simp; done) | (simp [*]; done)), (by first | rfl | (simp; done) | (simp [*]; done)), H', ⟨Nat.le_refl _⟩, ⟨rl HO_10.out⟩, ⟨rl HO_11.out⟩, ⟨rl HO_12.out⟩, ⟨bk BK160.out⟩, ⟨by repeat with_reducible first | exact bl HB.out | refine below_set ?_ GE160.out | refine bq ?_⟩⟩
            case round =>
             clear H'
             try clear p1
             try clear q1
             try clear hx1
             try clear p2
             try clear c3
             try clear c4
             try clear p4
             try clear q4
             try clear hx4
             try clear hf4
             try clear p5
             try clear q5
             try clear hx5
             try clear hf5
             try clear c6
             try clear p6
             try clear q6
             try clear hx6
             try clear hf6
             try clear c7
             try clear p17
             try clear q17
             try clear hx17
             try clear c32
             try clear c32b0
             try clear c33
             try clear c33b0
             try clear c34
             try clear c34b0
             try clear c35
             try clear c35b0
             try clear c36
             try clear c36b0
             try clear c36b1
             try clear c37
             try clear c37b0
             try clear c37b1
             try clear c38
             try clear c38b0
             try clear c39
             try clear c39b0
             try clear c40
             try clear c40b0
             try clear p41
             try clear q41
             try clear hx41
             try clear hf41
             try clear c42
             try clear p42
             try clear q42
             try clear hx42
             try clear hf42
             try clear c43
             try clear c43b0
             try clear p44
             try clear q44
             try clear hx44
             try clear hf44
             try clear c46
             try clear p59
             try clear q59
             try clear hx59
             try clear hf59
             try clear c60
             try clear c60b0
             try clear p61
             try clear q61
             try clear hx61
             try clear hf61
             try clear c63
             try clear p64
             try clear c73
             try clear hcz47_0 hcz47_1 hcz47_2 hfz47_0 hfz47_1 hfz47_2
             try clear hcz49_0 hcz49_1 hcz49_2 hfz49_0 hfz49_1 hfz49_2
             try clear hcz54_0 hcz54_1 hcz54_2 hfz54_0 hfz54_1 hfz54_2
             try clear hcz64_0 hcz64_1 hcz64_2 hfz64_0 hfz64_1 hfz64_2
             try clear hcz66_0 hcz66_1 hcz66_2 hfz66_0 hfz66_1 hfz66_2
             try clear hcz74_0 hcz74_1 hcz74_2 hfz74_0 hfz74_1 hfz74_2
             try clear hcz76_0 hcz76_1 hcz76_2 hfz76_0 hfz76_1 hfz76_2
             try clear hx173_0
             try clear hx173_1
             try clear hx173_2
             try clear hx175_0
             try clear hx176_0
             try clear hx41_0
             try clear hx42_0
             try clear hx44_0
             try clear hx59_0
             try clear hx61_0
             try clear p173
             try clear p175
             try clear p176
             try clear p2
             try clear p41
             try clear p42
             try clear p44
             try clear p59
             try clear p61
             try clear q173
             try clear q175
             try clear q176
             try clear q41
             try clear q42
             try clear q44
             try clear q59
             try clear q61
             (try clear BK160); obtain ⟨x18_4, x91_4, rfl, rfl, HA, HK4, HO_10, HO_11, HO_12, BK160, HB⟩ := hrel
             cases gk with
             | zero => exact absurd HA.out (by simp [impl_RunJobs.l2])
             | succ k4 =>
              have H := HA.out
              clear HA
              simp only [impl_RunJobs.l2] at H
              by_cases c78 : x91_4 < (l1.length : Int)
              ·
               rw [if_pos c78] at H
               have c78b0 : decide (x91_4 < (l1.length : Int)) = true := decide_eq_true c78
               clear c78
               by_cases c79 : 0 ≤ x91_4
               ·
                rw [if_pos c79] at H
                have c79b0 : decide (0 ≤ x91_4) = true := decide_eq_true c79
                clear c79
                by_cases c80 : x91_4 < (l1.length : Int)
                ·
                 rw [if_pos c80] at H
                 have c80b0 : decide (x91_4 < (l1.length : Int)) = true := decide_eq_true c80
                 clear c80
                 by_cases c81 : ((rd_T74 l1 x91_4).f0) = t182
                 ·
                  rw [if_pos c81] at H
                  have c81b0 : (((rd_T74 l1 x91_4).f0) == t182) = true := beq_iff_eq.mpr c81
                  have c81b1 : (((rd_T74 l1 x91_4).f0) != t182) = false := bne_eq_false_iff_eq.mpr c81
                  clear c81
                  by_cases c82 : x91_4 < (x11_3.length : Int)
                  ·
                   rw [if_pos c82] at H
                   have c82b0 : decide (x91_4 < (x11_3.length : Int)) = true := decide_eq_true c82
                   clear c82
                   by_cases c83 : (rd x11_3 x91_4) > 0
                   ·
                    rw [if_pos c83] at H
                    have c83b0 : decide (0 < (rd x11_3 x91_4)) = true := decide_eq_true c83
                    clear c83
                    by_cases c84 : x18_4 < 0
                    ·
                     rw [if_pos c84] at H
                     have c84b0 : decide (x18_4 < 0) = true := decide_eq_true c84
                     clear c84
                     have H' := Aside0.mk H
                     clear H
                     have p183 : 0 ≤ (x91_4 : Int) := of_decide_eq_true (by first | (with_reducible assumption) | assumption)
                     have q183 : x91_4 < (l1.length : Int) := of_decide_eq_true (by first | (with_reducible assumption) | assumption)
                     obtain ⟨ad183, e183, hx183_0, hx183_1, hx183_2⟩ := at_T74 HR1.out x91_4 p183 q183
                     cases e183
                     replace hx183_0 := bc HB.out hx183_0
                     replace hx183_1 := bc HB.out hx183_1
                     replace hx183_2 := bc HB.out hx183_2
                     replace p183 := eq_true p183
                     replace q183 := eq_true q183
                     try go_wp2_with (first | ((with_reducible refine gate_dst (N := 20) rfl ?_); (try (refine gate_guard (by rfl) ?_; dsimp only)); refine box_event ?hg (N := 20) ?hd (cs := #[.int .i64 0, .int .i64 0, .int .i64 0]) (t := 74) ?hr ?_; (case hd => rfl); (case hg => rfl); (case hr => first | (go_simp; done) | (go_simp; rfl)); intro gb184 hg w85 hbox hb; replace HO_10 := Aside0.mk (Kd.R_below (rl HO_10.out) hb); replace HO_11 := Aside0.mk (Kd.R_below (rl HO_11.out) hb); replace HO_12 := Aside0.mk (Kd.R_below (rl HO_12.out) hb); have BK184 := Aside0.mk (hbox); have GW184 := Aside0.mk ((by rw [hg]; exact (below_size (by repeat with_reducible first | exact bl HB.out | refine below_set ?_ GE160.out | refine bq ?_)) : w.heap.size ≤ gb184)); have GE184 := GW184; replace HB := Aside0.mk (below_step (by repeat with_reducible first | exact bl HB.out | refine below_set ?_ GE160.out | refine bq ?_) hb); have NB160_184 := nb_ hg BK160.out; have NB184_160 := Aside0.mk NB160_184.out.symm; replace BK160 := Aside0.mk (blk_below (bk BK160.out) hb); clear hb hbox hg; have hnb86 := NB184_160.out; have hnc86 := NB160_184.out; obtain ⟨hcz87_0, hcz87_1, hcz87_2⟩ := ck3 BK184.out; obtain ⟨hfz87_0, hfz87_1, hfz87_2⟩ := fz3 BK184.out))
                     have n0_ : Aside0 (Kd.R (Kd.int .i64) 3 (((w85.setCell ⟨gb184, 0, none⟩ (.int .i64 ((rd_T74 l1 x91_4).f0))).setCell ⟨gb184, 1, none⟩ (.int .i64 ((rd_T74 l1 x91_4).f1))).setCell ⟨gb184, 2, none⟩ (.int .i64 ((rd_T74 l1 x91_4).f2))) w.heap.size (fun k_ => some k_ ≠ (v168 : Value).ownBlock ∧ some k_ ≠ (v171 : Value).ownBlock) v165 x10_3) := ⟨by (repeat apply rl1); exact Kd.R_mono (Kd.R_far (p := ⟨gb184, 2, none⟩) (Kd.R_far (p := ⟨gb184, 1, none⟩) (Kd.R_far (p := ⟨gb184, 0, none⟩) (Kd.R_types HO_10.out BK184.out (by decide)) (fun _ hk => hk.2) (.int .i64 ((rd_T74 l1 x91_4).f0))) (fun _ hk => hk.2) (.int .i64 ((rd_T74 l1 x91_4).f1))) (fun _ hk => hk.2) (.int .i64 ((rd_T74 l1 x91_4).f2))) (fun _ hk => ⟨hk.1.1, hk.1.2⟩)⟩
                     have n1_ : Aside0 (Kd.R (Kd.int .i64) 3 (((w85.setCell ⟨gb184, 0, none⟩ (.int .i64 ((rd_T74 l1 x91_4).f0))).setCell ⟨gb184, 1, none⟩ (.int .i64 ((rd_T74 l1 x91_4).f1))).setCell ⟨gb184, 2, none⟩ (.int .i64 ((rd_T74 l1 x91_4).f2))) w.heap.size (fun k_ => some k_ ≠ (v165 : Value).ownBlock ∧ some k_ ≠ (v171 : Value).ownBlock) v168 x11_3) := ⟨by (repeat apply rl1); exact Kd.R_mono (Kd.R_far (p := ⟨gb184, 2, none⟩) (Kd.R_far (p := ⟨gb184, 1, none⟩) (Kd.R_far (p := ⟨gb184, 0, none⟩) (Kd.R_types HO_11.out BK184.out (by decide)) (fun _ hk => hk.2) (.int .i64 ((rd_T74 l1 x91_4).f0))) (fun _ hk => hk.2) (.int .i64 ((rd_T74 l1 x91_4).f1))) (fun _ hk => hk.2) (.int .i64 ((rd_T74 l1 x91_4).f2))) (fun _ hk => ⟨hk.1.1, hk.1.2⟩)⟩
                     have n2_ : Aside0 (Kd.R (Kd.int .i64) 3 (((w85.setCell ⟨gb184, 0, none⟩ (.int .i64 ((rd_T74 l1 x91_4).f0))).setCell ⟨gb184, 1, none⟩ (.int .i64 ((rd_T74 l1 x91_4).f1))).setCell ⟨gb184, 2, none⟩ (.int .i64 ((rd_T74 l1 x91_4).f2))) w.heap.size (fun k_ => some k_ ≠ (v165 : Value).ownBlock ∧ some k_ ≠ (v168 : Value).ownBlock) v171 x12_3) := ⟨by (repeat apply rl1); exact Kd.R_mono (Kd.R_far (p := ⟨gb184, 2, none⟩) (Kd.R_far (p := ⟨gb184, 1, none⟩) (Kd.R_far (p := ⟨gb184, 0, none⟩) (Kd.R_types HO_12.out BK184.out (by decide)) (fun _ hk => hk.2) (.int .i64 ((rd_T74 l1 x91_4).f0))) (fun _ hk => hk.2) (.int .i64 ((rd_T74 l1 x91_4).f1))) (fun _ hk => hk.2) (.int .i64 ((rd_T74 l1 x91_4).f2))) (fun _ hk => ⟨hk.1.1, hk.1.2⟩)⟩
                     have n3_ : Aside0 ((((w85.setCell ⟨gb184, 0, none⟩ (.int .i64 ((rd_T74 l1 x91_4).f0))).setCell ⟨gb184, 1, none⟩ (.int .i64 ((rd_T74 l1 x91_4).f1))).setCell ⟨gb184, 2, none⟩ (.int .i64 ((rd_T74 l1 x91_4).f2))).heap[gb160]? = some (.cells #[.int .i64 a0_0, .int .i64 a0_1, .slice A0_2 l0_2.length c0_2] 29 (0, 0))) := ⟨by (repeat refine bk1 ?_); refine blk_far ?_ NB160_184.out _; (repeat refine bk1 ?_); refine blk_far ?_ NB160_184.out _; (repeat refine bk1 ?_); refine blk_far ?_ NB160_184.out _; (repeat refine bk1 ?_); exact BK160.out⟩
                     have n4_ : Aside0 ((((w85.setCell ⟨gb184, 0, none⟩ (.int .i64 ((rd_T74 l1 x91_4).f0))).setCell ⟨gb184, 1, none⟩ (.int .i64 ((rd_T74 l1 x91_4).f1))).setCell ⟨gb184, 2, none⟩ (.int .i64 ((rd_T74 l1 x91_4).f2))).heap[gb184]? = some (.cells #[.int .i64 ((rd_T74 l1 x91_4).f0), .int .i64 ((rd_T74 l1 x91_4).f1), .int .i64 ((rd_T74 l1 x91_4).f2)] 74 (0, 0))) := ⟨by (repeat refine bk1 ?_); refine blk_put (cs := #[.int .i64 ((rd_T74 l1 x91_4).f0), .int .i64 ((rd_T74 l1 x91_4).f1), .int .i64 0]) ?_ 2 _ rfl; (repeat refine bk1 ?_); refine blk_put (cs := #[.int .i64 ((rd_T74 l1 x91_4).f0), .int .i64 0, .int .i64 0]) ?_ 1 _ rfl; (repeat refine bk1 ?_); refine blk_put (cs := #[.int .i64 0, .int .i64 0, .int .i64 0]) ?_ 0 _ rfl; (repeat refine bk1 ?_); exact BK184.out⟩
                     have n5_ : Aside0 (Below w.heap.size w (((w85.setCell ⟨gb184, 0, none⟩ (.int .i64 ((rd_T74 l1 x91_4).f0))).setCell ⟨gb184, 1, none⟩ (.int .i64 ((rd_T74 l1 x91_4).f1))).setCell ⟨gb184, 2, none⟩ (.int .i64 ((rd_T74 l1 x91_4).f2)))) := ⟨by repeat with_reducible first | exact bl HB.out | refine below_set ?_ GE160.out | refine below_set ?_ GE184.out | refine bq ?_⟩
                     (try clear HO_10)
                     (try clear HO_11)
                     (try clear HO_12)
                     (try clear BK160)
                     (try clear BK184)
                     (try clear HB)
                     generalize (((w85.setCell ⟨gb184, 0, none⟩ (.int .i64 ((rd_T74 l1 x91_4).f0))).setCell ⟨gb184, 1, none⟩ (.int .i64 ((rd_T74 l1 x91_4).f1))).setCell ⟨gb184, 2, none⟩ (.int .i64 ((rd_T74 l1 x91_4).f2))) = w88 at n0_ n1_ n2_ n3_ n4_ n5_ ⊢
                     have HO_10 := n0_
                     have HO_11 := n1_
                     have HO_12 := n2_
                     have BK160 := n3_
                     have BK184 := n4_
                     have HB := n5_
                     clear n0_ n1_ n2_ n3_ n4_ n5_
                     have n0_ := Aside0.mk (Kd.R_drew HO_10.out)
                     have n1_ := Aside0.mk (Kd.R_drew HO_11.out)
                     have n2_ := Aside0.mk (Kd.R_drew HO_12.out)
                     have n3_ := Aside0.mk (blk_drew BK160.out)
                     have n4_ := Aside0.mk (blk_drew BK184.out)
                     have n5_ := Aside0.mk (below_drew1 HB.out)
                     clear HO_10
                     clear HO_11
                     clear HO_12
                     clear BK160
                     clear BK184
                     clear HB
                     have HO_10 := n0_
                     have HO_11 := n1_
                     have HO_12 := n2_
                     have BK160 := n3_
                     have BK184 := n4_
                     have HB := n5_
                     clear n0_ n1_ n2_ n3_ n4_ n5_
                     obtain ⟨Ao90, co90, eo90⟩ := Kd.R_slice HO_11.out
                     (first | subst eo90 | (injection eo90 with f1_ f2_ f3_; have f4_ := f1_.symm; have f5_ := f3_.symm; clear f1_ f2_ f3_; subst f4_; subst f5_))
                     have p185 : 0 ≤ (x91_4 : Int) := of_decide_eq_true (by first | (with_reducible assumption) | assumption)
                     have q185 : x91_4 < (x11_3.length : Int) := of_decide_eq_true (by first | (with_reducible assumption) | assumption)
                     obtain ⟨ad185, e185, hx185_0⟩ := Kd.at_int (Kd.R_reads' HO_11.out).2.2 x91_4 p185 q185
                     cases e185
                     replace p185 := eq_true p185
                     replace q185 := eq_true q185
                     refine start_ (n := 26) (S := fun w' => w'.cell? ⟨gb184, 0, none⟩ = some (.int .i64 ((rd_T74 l1 x91_4).f0)) ∧ w'.cell? ⟨gb184, 1, none⟩ = some (.int .i64 ((rd_T74 l1 x91_4).f1)) ∧ w'.cell? ⟨gb184, 2, none⟩ = some (.int .i64 ((rd_T74 l1 x91_4).f2)) ∧ w'.cell? (ad185.add (x91_4).toNat) = some (.int .i64 (rd x11_3 x91_4))) (ds := []) m0_26 (by kernel_rfl) rfl rfl ⟨ck BK184.out 0 rfl, ck BK184.out 1 rfl, ck BK184.out 2 rfl, hx185_0⟩ (fun hHeld => ?_); refine with_tabW impl_RunJobs.tab20 impl_RunJobs.bits20 (fun HT_ HW_ => ?_)
                     generalize w88.drew = w89 at HO_10 HO_11 HO_12 BK160 BK184 HB hx185_0 hHeld ⊢
                     refine pq_ HT_.out 0 96 m1_26 ?_
                     refine pq_ HT_.out 2 98 n50 ?_
                     refine tk_ HT_.out HW_.out 1 97 m3_26 rfl rfl (by kernel_rfl) (by rfl) (by rintro w' ⟨s0, s1, s2, s3⟩; go_simp; with_reducible rfl) hHeld (by simp only [sp_]; rfl) (fun _ _ _ h => h) ?_
                     refine pq_ HT_.out 3 99 m4_26 ?_
                     refine pq_ HT_.out 4 100 m5_26 ?_
                     refine pq_ HT_.out 5 101 m6_26 ?_
                     refine pq_ HT_.out 6 102 m7_26 ?_
                     refine pq_ HT_.out 7 103 m8_26 ?_
                     refine tk_ HT_.out HW_.out 8 104 m9_26 rfl rfl (by kernel_rfl) (by rfl) (by rintro w' ⟨s0, s1, s2, s3⟩; go_simp; with_reducible rfl) hHeld (by simp only [sp_]; rfl) (fun _ _ _ h => h) ?_
                     refine pq_ HT_.out 9 105 m10_26 ?_
                     refine pq_ HT_.out 10 106 m11_26 ?_
                     refine pq_ HT_.out 11 107 m12_26 ?_
                     refine pq_ HT_.out 12 108 m13_26 ?_
                     refine pq_ HT_.out 13 109 m14_26 ?_
                     refine pq_ HT_.out 14 110 m15_26 ?_
                     refine pv_ HT_.out 15 111 m16_26 ?_
                     refine pv_ HT_.out 16 112 m17_26 ?_
                     refine pv_ HT_.out 17 113 m18_26 ?_
                     refine pv_ HT_.out 18 114 m19_26 ?_
                     refine pv_ HT_.out 19 115 m20_26 ?_
                     refine pv_ HT_.out 20 116 m21_26 ?_
                     refine pv_ HT_.out 21 117 m22_26 ?_
                     refine pv_ HT_.out 22 118 m23_26 ?_
                     refine pv_ HT_.out 23 119 m24_26 ?_
                     refine pq_ HT_.out 24 120 m25_26 ?_
                     refine pq_ HT_.out 25 121 m26_26 ?_
                     refine done_ (done_of HT_.out (by kernel_rfl)) ?_
                     try go_wp2
                     go_roundg k4
                     case measure => have := HJ4.out; have := HK2.out; have := HK3.out; have := HK4.out; omega
                     case rel => exact ⟨(x91_4), (wrap64 (x91_4 + 1)), (by first | rfl | (simp; done) | (simp [*]; done)), (by first | rfl | (simp; done) | (simp [*]; done)), H', ⟨by have := HJ4.out; have := HK2.out; have := HK3.out; have := HK4.out; omega⟩, ⟨rl HO_10.out⟩, ⟨rl HO_11.out⟩, ⟨rl HO_12.out⟩, ⟨bk BK160.out⟩, ⟨by repeat with_reducible first | exact bl HB.out | refine below_set ?_ GE160.out | refine below_set ?_ GE184.out | refine bq ?_⟩⟩
                    ·
                     rw [if_neg c84] at H
                     have c84b0 : decide (x18_4 < 0) = false := decide_eq_false c84
                     clear c84
                     by_cases c91 : x91_4 < (x12_3.length : Int)
                     ·
                      rw [if_pos c91] at H
                      have c91b0 : decide (x91_4 < (x12_3.length : Int)) = true := decide_eq_true c91
                      clear c91
                      by_cases c92 : 0 ≤ x18_4
                      ·
                       rw [if_pos c92] at H
                       have c92b0 : decide (0 ≤ x18_4) = true := decide_eq_true c92
                       clear c92
                       by_cases c93 : x18_4 < (x12_3.length : Int)
                       ·
                        rw [if_pos c93] at H
                        have c93b0 : decide (x18_4 < (x12_3.length : Int)) = true := decide_eq_true c93
                        clear c93
                        by_cases c94 : (rd x12_3 x91_4) < (rd x12_3 x18_4)
                        ·
                         rw [if_pos c94] at H
                         have c94b0 : decide ((rd x12_3 x91_4) < (rd x12_3 x18_4)) = true := decide_eq_true c94
                         clear c94
                         have H' := Aside0.mk H
                         clear H
                         have p183 : 0 ≤ (x91_4 : Int) := of_decide_eq_true (by first | (with_reducible assumption) | assumption)
                         have q183 : x91_4 < (l1.length : Int) := of_decide_eq_true (by first | (with_reducible assumption) | assumption)
                         obtain ⟨ad183, e183, hx183_0, hx183_1, hx183_2⟩ := at_T74 HR1.out x91_4 p183 q183
                         cases e183
                         replace hx183_0 := bc HB.out hx183_0
                         replace hx183_1 := bc HB.out hx183_1
                         replace hx183_2 := bc HB.out hx183_2
                         replace p183 := eq_true p183
                         replace q183 := eq_true q183
                         try go_wp2_with (first | ((with_reducible refine gate_dst (N := 20) rfl ?_); (try (refine gate_guard (by rfl) ?_; dsimp only)); refine box_event ?hg (N := 20) ?hd (cs := #[.int .i64 0, .int .i64 0, .int .i64 0]) (t := 74) ?hr ?_; (case hd => rfl); (case hg => rfl); (case hr => first | (go_simp; done) | (go_simp; rfl)); intro gb184 hg w95 hbox hb; replace HO_10 := Aside0.mk (Kd.R_below (rl HO_10.out) hb); replace HO_11 := Aside0.mk (Kd.R_below (rl HO_11.out) hb); replace HO_12 := Aside0.mk (Kd.R_below (rl HO_12.out) hb); have BK184 := Aside0.mk (hbox); have GW184 := Aside0.mk ((by rw [hg]; exact (below_size (by repeat with_reducible first | exact bl HB.out | refine below_set ?_ GE160.out | refine bq ?_)) : w.heap.size ≤ gb184)); have GE184 := GW184; replace HB := Aside0.mk (below_step (by repeat with_reducible first | exact bl HB.out | refine below_set ?_ GE160.out | refine bq ?_) hb); have NB160_184 := nb_ hg BK160.out; have NB184_160 := Aside0.mk NB160_184.out.symm; replace BK160 := Aside0.mk (blk_below (bk BK160.out) hb); clear hb hbox hg; have hnb96 := NB184_160.out; have hnc96 := NB160_184.out; obtain ⟨hcz97_0, hcz97_1, hcz97_2⟩ := ck3 BK184.out; obtain ⟨hfz97_0, hfz97_1, hfz97_2⟩ := fz3 BK184.out))
                         have n0_ : Aside0 (Kd.R (Kd.int .i64) 3 (((w95.setCell ⟨gb184, 0, none⟩ (.int .i64 ((rd_T74 l1 x91_4).f0))).setCell ⟨gb184, 1, none⟩ (.int .i64 ((rd_T74 l1 x91_4).f1))).setCell ⟨gb184, 2, none⟩ (.int .i64 ((rd_T74 l1 x91_4).f2))) w.heap.size (fun k_ => some k_ ≠ (v168 : Value).ownBlock ∧ some k_ ≠ (v171 : Value).ownBlock) v165 x10_3) := ⟨by (repeat apply rl1); exact Kd.R_mono (Kd.R_far (p := ⟨gb184, 2, none⟩) (Kd.R_far (p := ⟨gb184, 1, none⟩) (Kd.R_far (p := ⟨gb184, 0, none⟩) (Kd.R_types HO_10.out BK184.out (by decide)) (fun _ hk => hk.2) (.int .i64 ((rd_T74 l1 x91_4).f0))) (fun _ hk => hk.2) (.int .i64 ((rd_T74 l1 x91_4).f1))) (fun _ hk => hk.2) (.int .i64 ((rd_T74 l1 x91_4).f2))) (fun _ hk => ⟨hk.1.1, hk.1.2⟩)⟩
                         have n1_ : Aside0 (Kd.R (Kd.int .i64) 3 (((w95.setCell ⟨gb184, 0, none⟩ (.int .i64 ((rd_T74 l1 x91_4).f0))).setCell ⟨gb184, 1, none⟩ (.int .i64 ((rd_T74 l1 x91_4).f1))).setCell ⟨gb184, 2, none⟩ (.int .i64 ((rd_T74 l1 x91_4).f2))) w.heap.size (fun k_ => some k_ ≠ (v165 : Value).ownBlock ∧ some k_ ≠ (v171 : Value).ownBlock) v168 x11_3) := ⟨by (repeat apply rl1); exact Kd.R_mono (Kd.R_far (p := ⟨gb184, 2, none⟩) (Kd.R_far (p := ⟨gb184, 1, none⟩) (Kd.R_far (p := ⟨gb184, 0, none⟩) (Kd.R_types HO_11.out BK184.out (by decide)) (fun _ hk => hk.2) (.int .i64 ((rd_T74 l1 x91_4).f0))) (fun _ hk => hk.2) (.int .i64 ((rd_T74 l1 x91_4).f1))) (fun _ hk => hk.2) (.int .i64 ((rd_T74 l1 x91_4).f2))) (fun _ hk => ⟨hk.1.1, hk.1.2⟩)⟩
                         have n2_ : Aside0 (Kd.R (Kd.int .i64) 3 (((w95.setCell ⟨gb184, 0, none⟩ (.int .i64 ((rd_T74 l1 x91_4).f0))).setCell ⟨gb184, 1, none⟩ (.int .i64 ((rd_T74 l1 x91_4).f1))).setCell ⟨gb184, 2, none⟩ (.int .i64 ((rd_T74 l1 x91_4).f2))) w.heap.size (fun k_ => some k_ ≠ (v165 : Value).ownBlock ∧ some k_ ≠ (v168 : Value).ownBlock) v171 x12_3) := ⟨by (repeat apply rl1); exact Kd.R_mono (Kd.R_far (p := ⟨gb184, 2, none⟩) (Kd.R_far (p := ⟨gb184, 1, none⟩) (Kd.R_far (p := ⟨gb184, 0, none⟩) (Kd.R_types HO_12.out BK184.out (by decide)) (fun _ hk => hk.2) (.int .i64 ((rd_T74 l1 x91_4).f0))) (fun _ hk => hk.2) (.int .i64 ((rd_T74 l1 x91_4).f1))) (fun _ hk => hk.2) (.int .i64 ((rd_T74 l1 x91_4).f2))) (fun _ hk => ⟨hk.1.1, hk.1.2⟩)⟩
                         have n3_ : Aside0 ((((w95.setCell ⟨gb184, 0, none⟩ (.int .i64 ((rd_T74 l1 x91_4).f0))).setCell ⟨gb184, 1, none⟩ (.int .i64 ((rd_T74 l1 x91_4).f1))).setCell ⟨gb184, 2, none⟩ (.int .i64 ((rd_T74 l1 x91_4).f2))).heap[gb160]? = some (.cells #[.int .i64 a0_0, .int .i64 a0_1, .slice A0_2 l0_2.length c0_2] 29 (0, 0))) := ⟨by (repeat refine bk1 ?_); refine blk_far ?_ NB160_184.out _; (repeat refine bk1 ?_); refine blk_far ?_ NB160_184.out _; (repeat refine bk1 ?_); refine blk_far ?_ NB160_184.out _; (repeat refine bk1 ?_); exact BK160.out⟩
                         have n4_ : Aside0 ((((w95.setCell ⟨gb184, 0, none⟩ (.int .i64 ((rd_T74 l1 x91_4).f0))).setCell ⟨gb184, 1, none⟩ (.int .i64 ((rd_T74 l1 x91_4).f1))).setCell ⟨gb184, 2, none⟩ (.int .i64 ((rd_T74 l1 x91_4).f2))).heap[gb184]? = some (.cells #[.int .i64 ((rd_T74 l1 x91_4).f0), .int .i64 ((rd_T74 l1 x91_4).f1), .int .i64 ((rd_T74 l1 x91_4).f2)] 74 (0, 0))) := ⟨by (repeat refine bk1 ?_); refine blk_put (cs := #[.int .i64 ((rd_T74 l1 x91_4).f0), .int .i64 ((rd_T74 l1 x91_4).f1), .int .i64 0]) ?_ 2 _ rfl; (repeat refine bk1 ?_); refine blk_put (cs := #[.int .i64 ((rd_T74 l1 x91_4).f0), .int .i64 0, .int .i64 0]) ?_ 1 _ rfl; (repeat refine bk1 ?_); refine blk_put (cs := #[.int .i64 0, .int .i64 0, .int .i64 0]) ?_ 0 _ rfl; (repeat refine bk1 ?_); exact BK184.out⟩
                         have n5_ : Aside0 (Below w.heap.size w (((w95.setCell ⟨gb184, 0, none⟩ (.int .i64 ((rd_T74 l1 x91_4).f0))).setCell ⟨gb184, 1, none⟩ (.int .i64 ((rd_T74 l1 x91_4).f1))).setCell ⟨gb184, 2, none⟩ (.int .i64 ((rd_T74 l1 x91_4).f2)))) := ⟨by repeat with_reducible first | exact bl HB.out | refine below_set ?_ GE160.out | refine below_set ?_ GE184.out | refine bq ?_⟩
                         (try clear HO_10)
                         (try clear HO_11)
                         (try clear HO_12)
                         (try clear BK160)
                         (try clear BK184)
                         (try clear HB)
                         generalize (((w95.setCell ⟨gb184, 0, none⟩ (.int .i64 ((rd_T74 l1 x91_4).f0))).setCell ⟨gb184, 1, none⟩ (.int .i64 ((rd_T74 l1 x91_4).f1))).setCell ⟨gb184, 2, none⟩ (.int .i64 ((rd_T74 l1 x91_4).f2))) = w98 at n0_ n1_ n2_ n3_ n4_ n5_ ⊢
                         have HO_10 := n0_
                         have HO_11 := n1_
                         have HO_12 := n2_
                         have BK160 := n3_
                         have BK184 := n4_
                         have HB := n5_
                         clear n0_ n1_ n2_ n3_ n4_ n5_
                         have n0_ := Aside0.mk (Kd.R_drew HO_10.out)
                         have n1_ := Aside0.mk (Kd.R_drew HO_11.out)
                         have n2_ := Aside0.mk (Kd.R_drew HO_12.out)
                         have n3_ := Aside0.mk (blk_drew BK160.out)
                         have n4_ := Aside0.mk (blk_drew BK184.out)
                         have n5_ := Aside0.mk (below_drew1 HB.out)
                         clear HO_10
                         clear HO_11
                         clear HO_12
                         clear BK160
                         clear BK184
                         clear HB
                         have HO_10 := n0_
                         have HO_11 := n1_
                         have HO_12 := n2_
                         have BK160 := n3_
                         have BK184 := n4_
                         have HB := n5_
                         clear n0_ n1_ n2_ n3_ n4_ n5_
                         obtain ⟨Ao100, co100, eo100⟩ := Kd.R_slice HO_11.out
                         (first | subst eo100 | (injection eo100 with f1_ f2_ f3_; have f4_ := f1_.symm; have f5_ := f3_.symm; clear f1_ f2_ f3_; subst f4_; subst f5_))
                         have p185 : 0 ≤ (x91_4 : Int) := of_decide_eq_true (by first | (with_reducible assumption) | assumption)
                         have q185 : x91_4 < (x11_3.length : Int) := of_decide_eq_true (by first | (with_reducible assumption) | assumption)
                         obtain ⟨ad185, e185, hx185_0⟩ := Kd.at_int (Kd.R_reads' HO_11.out).2.2 x91_4 p185 q185
                         cases e185
                         replace p185 := eq_true p185
                         replace q185 := eq_true q185
                         obtain ⟨Ao101, co101, eo101⟩ := Kd.R_slice HO_12.out
                         (first | subst eo101 | (injection eo101 with f1_ f2_ f3_; have f4_ := f1_.symm; have f5_ := f3_.symm; clear f1_ f2_ f3_; subst f4_; subst f5_))
                         have p186 : 0 ≤ (x91_4 : Int) := of_decide_eq_true (by first | (with_reducible assumption) | assumption)
                         have q186 : x91_4 < (x12_3.length : Int) := of_decide_eq_true (by first | (with_reducible assumption) | assumption)
                         obtain ⟨ad186, e186, hx186_0⟩ := Kd.at_int (Kd.R_reads' HO_12.out).2.2 x91_4 p186 q186
                         cases e186
                         replace p186 := eq_true p186
                         replace q186 := eq_true q186
                         have p187 : 0 ≤ (x18_4 : Int) := of_decide_eq_true (by first | (with_reducible assumption) | assumption)
                         have q187 : x18_4 < (x12_3.length : Int) := of_decide_eq_true (by first | (with_reducible assumption) | assumption)
                         obtain ⟨ad187, e187, hx187_0⟩ := Kd.at_int (Kd.R_reads' HO_12.out).2.2 x18_4 p187 q187
                         obtain rfl : ad186 = ad187 := (by injection e187)
                         replace p187 := eq_true p187
                         replace q187 := eq_true q187
                         refine start_ (n := 26) (S := fun w' => w'.cell? ⟨gb184, 0, none⟩ = some (.int .i64 ((rd_T74 l1 x91_4).f0)) ∧ w'.cell? ⟨gb184, 1, none⟩ = some (.int .i64 ((rd_T74 l1 x91_4).f1)) ∧ w'.cell? ⟨gb184, 2, none⟩ = some (.int .i64 ((rd_T74 l1 x91_4).f2)) ∧ w'.cell? (ad185.add (x91_4).toNat) = some (.int .i64 (rd x11_3 x91_4)) ∧ w'.cell? (ad186.add (x91_4).toNat) = some (.int .i64 (rd x12_3 x91_4)) ∧ w'.cell? (ad186.add (x18_4).toNat) = some (.int .i64 (rd x12_3 x18_4))) (ds := []) m0_26 (by kernel_rfl) rfl rfl ⟨ck BK184.out 0 rfl, ck BK184.out 1 rfl, ck BK184.out 2 rfl, hx185_0, hx186_0, hx187_0⟩ (fun hHeld => ?_); refine with_tabW impl_RunJobs.tab20 impl_RunJobs.bits20 (fun HT_ HW_ => ?_)
                         generalize w98.drew = w99 at HO_10 HO_11 HO_12 BK160 BK184 HB hx185_0 hx186_0 hx187_0 hHeld ⊢
                         refine pq_ HT_.out 0 96 m1_26 ?_
                         refine pq_ HT_.out 2 98 n50 ?_
                         refine tk_ HT_.out HW_.out 1 97 m3_26 rfl rfl (by kernel_rfl) (by rfl) (by rintro w' ⟨s0, s1, s2, s3, s4, s5⟩; go_simp; with_reducible rfl) hHeld (by simp only [sp_]; rfl) (fun _ _ _ h => h) ?_
                         refine pq_ HT_.out 3 99 m4_26 ?_
                         refine pq_ HT_.out 4 100 m5_26 ?_
                         refine pq_ HT_.out 5 101 m6_26 ?_
                         refine pq_ HT_.out 6 102 m7_26 ?_
                         refine pq_ HT_.out 7 103 m8_26 ?_
                         refine tk_ HT_.out HW_.out 8 104 m9_26 rfl rfl (by kernel_rfl) (by rfl) (by rintro w' ⟨s0, s1, s2, s3, s4, s5⟩; go_simp; with_reducible rfl) hHeld (by simp only [sp_]; rfl) (fun _ _ _ h => h) ?_
                         refine pq_ HT_.out 9 105 m10_26 ?_
                         refine pq_ HT_.out 10 106 m11_26 ?_
                         refine pq_ HT_.out 11 107 m12_26 ?_
                         refine pq_ HT_.out 12 108 m13_26 ?_
                         refine pq_ HT_.out 13 109 m14_26 ?_
                         refine pq_ HT_.out 14 110 m15_26 ?_
                         refine pq_ HT_.out 15 111 m16_26 ?_
                         refine pq_ HT_.out 16 112 m17_26 ?_
                         refine pq_ HT_.out 17 113 m18_26 ?_
                         refine pq_ HT_.out 19 115 n67 ?_
                         refine pq_ HT_.out 20 116 n68 ?_
                         refine pq_ HT_.out 21 117 n69 ?_
                         refine tk_ HT_.out HW_.out 18 114 m22_26 rfl rfl (by kernel_rfl) (by rfl) (by rintro w' ⟨s0, s1, s2, s3, s4, s5⟩; go_simp; with_reducible rfl) hHeld (by simp only [sp_]; rfl) (fun _ _ _ h => h) ?_
                         refine tk_ HT_.out HW_.out 22 118 m23_26 rfl rfl (by kernel_rfl) (by rfl) (by rintro w' ⟨s0, s1, s2, s3, s4, s5⟩; go_simp; with_reducible rfl) hHeld (by simp only [sp_]; rfl) (fun _ _ _ h => h) ?_
                         refine pq_ HT_.out 23 119 m24_26 ?_
                         refine pq_ HT_.out 24 120 m25_26 ?_
                         refine pq_ HT_.out 25 121 m26_26 ?_
                         refine done_ (done_of HT_.out (by kernel_rfl)) ?_
                         try go_wp2
                         go_roundg k4
                         case measure => have := HJ4.out; have := HK2.out; have := HK3.out; have := HK4.out; omega
                         case rel => exact ⟨(x91_4), (wrap64 (x91_4 + 1)), (by first | rfl | (simp; done) | (simp [*]; done)), (by first | rfl | (simp; done) | (simp [*]; done)), H', ⟨by have := HJ4.out; have := HK2.out; have := HK3.out; have := HK4.out; omega⟩, ⟨rl HO_10.out⟩, ⟨rl HO_11.out⟩, ⟨rl HO_12.out⟩, ⟨bk BK160.out⟩, ⟨by repeat with_reducible first | exact bl HB.out | refine below_set ?_ GE160.out | refine below_set ?_ GE184.out | refine bq ?_⟩⟩
                        ·
                         rw [if_neg c94] at H
                         have c94b0 : decide ((rd x12_3 x91_4) < (rd x12_3 x18_4)) = false := decide_eq_false c94
                         clear c94
                         have H' := Aside0.mk H
                         clear H
                         have p183 : 0 ≤ (x91_4 : Int) := of_decide_eq_true (by first | (with_reducible assumption) | assumption)
                         have q183 : x91_4 < (l1.length : Int) := of_decide_eq_true (by first | (with_reducible assumption) | assumption)
                         obtain ⟨ad183, e183, hx183_0, hx183_1, hx183_2⟩ := at_T74 HR1.out x91_4 p183 q183
                         cases e183
                         replace hx183_0 := bc HB.out hx183_0
                         replace hx183_1 := bc HB.out hx183_1
                         replace hx183_2 := bc HB.out hx183_2
                         replace p183 := eq_true p183
                         replace q183 := eq_true q183
                         try go_wp2_with (first | ((with_reducible refine gate_dst (N := 20) rfl ?_); (try (refine gate_guard (by rfl) ?_; dsimp only)); refine box_event ?hg (N := 20) ?hd (cs := #[.int .i64 0, .int .i64 0, .int .i64 0]) (t := 74) ?hr ?_; (case hd => rfl); (case hg => rfl); (case hr => first | (go_simp; done) | (go_simp; rfl)); intro gb184 hg w102 hbox hb; replace HO_10 := Aside0.mk (Kd.R_below (rl HO_10.out) hb); replace HO_11 := Aside0.mk (Kd.R_below (rl HO_11.out) hb); replace HO_12 := Aside0.mk (Kd.R_below (rl HO_12.out) hb); have BK184 := Aside0.mk (hbox); have GW184 := Aside0.mk ((by rw [hg]; exact (below_size (by repeat with_reducible first | exact bl HB.out | refine below_set ?_ GE160.out | refine bq ?_)) : w.heap.size ≤ gb184)); have GE184 := GW184; replace HB := Aside0.mk (below_step (by repeat with_reducible first | exact bl HB.out | refine below_set ?_ GE160.out | refine bq ?_) hb); have NB160_184 := nb_ hg BK160.out; have NB184_160 := Aside0.mk NB160_184.out.symm; replace BK160 := Aside0.mk (blk_below (bk BK160.out) hb); clear hb hbox hg; have hnb103 := NB184_160.out; have hnc103 := NB160_184.out; obtain ⟨hcz104_0, hcz104_1, hcz104_2⟩ := ck3 BK184.out; obtain ⟨hfz104_0, hfz104_1, hfz104_2⟩ := fz3 BK184.out))
                         have n0_ : Aside0 (Kd.R (Kd.int .i64) 3 (((w102.setCell ⟨gb184, 0, none⟩ (.int .i64 ((rd_T74 l1 x91_4).f0))).setCell ⟨gb184, 1, none⟩ (.int .i64 ((rd_T74 l1 x91_4).f1))).setCell ⟨gb184, 2, none⟩ (.int .i64 ((rd_T74 l1 x91_4).f2))) w.heap.size (fun k_ => some k_ ≠ (v168 : Value).ownBlock ∧ some k_ ≠ (v171 : Value).ownBlock) v165 x10_3) := ⟨by (repeat apply rl1); exact Kd.R_mono (Kd.R_far (p := ⟨gb184, 2, none⟩) (Kd.R_far (p := ⟨gb184, 1, none⟩) (Kd.R_far (p := ⟨gb184, 0, none⟩) (Kd.R_types HO_10.out BK184.out (by decide)) (fun _ hk => hk.2) (.int .i64 ((rd_T74 l1 x91_4).f0))) (fun _ hk => hk.2) (.int .i64 ((rd_T74 l1 x91_4).f1))) (fun _ hk => hk.2) (.int .i64 ((rd_T74 l1 x91_4).f2))) (fun _ hk => ⟨hk.1.1, hk.1.2⟩)⟩
                         have n1_ : Aside0 (Kd.R (Kd.int .i64) 3 (((w102.setCell ⟨gb184, 0, none⟩ (.int .i64 ((rd_T74 l1 x91_4).f0))).setCell ⟨gb184, 1, none⟩ (.int .i64 ((rd_T74 l1 x91_4).f1))).setCell ⟨gb184, 2, none⟩ (.int .i64 ((rd_T74 l1 x91_4).f2))) w.heap.size (fun k_ => some k_ ≠ (v165 : Value).ownBlock ∧ some k_ ≠ (v171 : Value).ownBlock) v168 x11_3) := ⟨by (repeat apply rl1); exact Kd.R_mono (Kd.R_far (p := ⟨gb184, 2, none⟩) (Kd.R_far (p := ⟨gb184, 1, none⟩) (Kd.R_far (p := ⟨gb184, 0, none⟩) (Kd.R_types HO_11.out BK184.out (by decide)) (fun _ hk => hk.2) (.int .i64 ((rd_T74 l1 x91_4).f0))) (fun _ hk => hk.2) (.int .i64 ((rd_T74 l1 x91_4).f1))) (fun _ hk => hk.2) (.int .i64 ((rd_T74 l1 x91_4).f2))) (fun _ hk => ⟨hk.1.1, hk.1.2⟩)⟩
                         have n2_ : Aside0 (Kd.R (Kd.int .i64) 3 (((w102.setCell ⟨gb184, 0, none⟩ (.int .i64 ((rd_T74 l1 x91_4).f0))).setCell ⟨gb184, 1, none⟩ (.int .i64 ((rd_T74 l1 x91_4).f1))).setCell ⟨gb184, 2, none⟩ (.int .i64 ((rd_T74 l1 x91_4).f2))) w.heap.size (fun k_ => some k_ ≠ (v165 : Value).ownBlock ∧ some k_ ≠ (v168 : Value).ownBlock) v171 x12_3) := ⟨by (repeat apply rl1); exact Kd.R_mono (Kd.R_far (p := ⟨gb184, 2, none⟩) (Kd.R_far (p := ⟨gb184, 1, none⟩) (Kd.R_far (p := ⟨gb184, 0, none⟩) (Kd.R_types HO_12.out BK184.out (by decide)) (fun _ hk => hk.2) (.int .i64 ((rd_T74 l1 x91_4).f0))) (fun _ hk => hk.2) (.int .i64 ((rd_T74 l1 x91_4).f1))) (fun _ hk => hk.2) (.int .i64 ((rd_T74 l1 x91_4).f2))) (fun _ hk => ⟨hk.1.1, hk.1.2⟩)⟩
                         have n3_ : Aside0 ((((w102.setCell ⟨gb184, 0, none⟩ (.int .i64 ((rd_T74 l1 x91_4).f0))).setCell ⟨gb184, 1, none⟩ (.int .i64 ((rd_T74 l1 x91_4).f1))).setCell ⟨gb184, 2, none⟩ (.int .i64 ((rd_T74 l1 x91_4).f2))).heap[gb160]? = some (.cells #[.int .i64 a0_0, .int .i64 a0_1, .slice A0_2 l0_2.length c0_2] 29 (0, 0))) := ⟨by (repeat refine bk1 ?_); refine blk_far ?_ NB160_184.out _; (repeat refine bk1 ?_); refine blk_far ?_ NB160_184.out _; (repeat refine bk1 ?_); refine blk_far ?_ NB160_184.out _; (repeat refine bk1 ?_); exact BK160.out⟩
                         have n4_ : Aside0 ((((w102.setCell ⟨gb184, 0, none⟩ (.int .i64 ((rd_T74 l1 x91_4).f0))).setCell ⟨gb184, 1, none⟩ (.int .i64 ((rd_T74 l1 x91_4).f1))).setCell ⟨gb184, 2, none⟩ (.int .i64 ((rd_T74 l1 x91_4).f2))).heap[gb184]? = some (.cells #[.int .i64 ((rd_T74 l1 x91_4).f0), .int .i64 ((rd_T74 l1 x91_4).f1), .int .i64 ((rd_T74 l1 x91_4).f2)] 74 (0, 0))) := ⟨by (repeat refine bk1 ?_); refine blk_put (cs := #[.int .i64 ((rd_T74 l1 x91_4).f0), .int .i64 ((rd_T74 l1 x91_4).f1), .int .i64 0]) ?_ 2 _ rfl; (repeat refine bk1 ?_); refine blk_put (cs := #[.int .i64 ((rd_T74 l1 x91_4).f0), .int .i64 0, .int .i64 0]) ?_ 1 _ rfl; (repeat refine bk1 ?_); refine blk_put (cs := #[.int .i64 0, .int .i64 0, .int .i64 0]) ?_ 0 _ rfl; (repeat refine bk1 ?_); exact BK184.out⟩
                         have n5_ : Aside0 (Below w.heap.size w (((w102.setCell ⟨gb184, 0, none⟩ (.int .i64 ((rd_T74 l1 x91_4).f0))).setCell ⟨gb184, 1, none⟩ (.int .i64 ((rd_T74 l1 x91_4).f1))).setCell ⟨gb184, 2, none⟩ (.int .i64 ((rd_T74 l1 x91_4).f2)))) := ⟨by repeat with_reducible first | exact bl HB.out | refine below_set ?_ GE160.out | refine below_set ?_ GE184.out | refine bq ?_⟩
                         (try clear HO_10)
                         (try clear HO_11)
                         (try clear HO_12)
                         (try clear BK160)
                         (try clear BK184)
                         (try clear HB)
                         generalize (((w102.setCell ⟨gb184, 0, none⟩ (.int .i64 ((rd_T74 l1 x91_4).f0))).setCell ⟨gb184, 1, none⟩ (.int .i64 ((rd_T74 l1 x91_4).f1))).setCell ⟨gb184, 2, none⟩ (.int .i64 ((rd_T74 l1 x91_4).f2))) = w105 at n0_ n1_ n2_ n3_ n4_ n5_ ⊢
                         have HO_10 := n0_
                         have HO_11 := n1_
                         have HO_12 := n2_
                         have BK160 := n3_
                         have BK184 := n4_
                         have HB := n5_
                         clear n0_ n1_ n2_ n3_ n4_ n5_
                         have n0_ := Aside0.mk (Kd.R_drew HO_10.out)
                         have n1_ := Aside0.mk (Kd.R_drew HO_11.out)
                         have n2_ := Aside0.mk (Kd.R_drew HO_12.out)
                         have n3_ := Aside0.mk (blk_drew BK160.out)
                         have n4_ := Aside0.mk (blk_drew BK184.out)
                         have n5_ := Aside0.mk (below_drew1 HB.out)
                         clear HO_10
                         clear HO_11
                         clear HO_12
                         clear BK160
                         clear BK184
                         clear HB
                         have HO_10 := n0_
                         have HO_11 := n1_
                         have HO_12 := n2_
                         have BK160 := n3_
                         have BK184 := n4_
                         have HB := n5_
                         clear n0_ n1_ n2_ n3_ n4_ n5_
                         obtain ⟨Ao107, co107, eo107⟩ := Kd.R_slice HO_11.out
                         (first | subst eo107 | (injection eo107 with f1_ f2_ f3_; have f4_ := f1_.symm; have f5_ := f3_.symm; clear f1_ f2_ f3_; subst f4_; subst f5_))
                         have p185 : 0 ≤ (x91_4 : Int) := of_decide_eq_true (by first | (with_reducible assumption) | assumption)
                         have q185 : x91_4 < (x11_3.length : Int) := of_decide_eq_true (by first | (with_reducible assumption) | assumption)
                         obtain ⟨ad185, e185, hx185_0⟩ := Kd.at_int (Kd.R_reads' HO_11.out).2.2 x91_4 p185 q185
                         cases e185
                         replace p185 := eq_true p185
                         replace q185 := eq_true q185
                         obtain ⟨Ao108, co108, eo108⟩ := Kd.R_slice HO_12.out
                         (first | subst eo108 | (injection eo108 with f1_ f2_ f3_; have f4_ := f1_.symm; have f5_ := f3_.symm; clear f1_ f2_ f3_; subst f4_; subst f5_))
                         have p186 : 0 ≤ (x91_4 : Int) := of_decide_eq_true (by first | (with_reducible assumption) | assumption)
                         have q186 : x91_4 < (x12_3.length : Int) := of_decide_eq_true (by first | (with_reducible assumption) | assumption)
                         obtain ⟨ad186, e186, hx186_0⟩ := Kd.at_int (Kd.R_reads' HO_12.out).2.2 x91_4 p186 q186
                         cases e186
                         replace p186 := eq_true p186
                         replace q186 := eq_true q186
                         have p187 : 0 ≤ (x18_4 : Int) := of_decide_eq_true (by first | (with_reducible assumption) | assumption)
                         have q187 : x18_4 < (x12_3.length : Int) := of_decide_eq_true (by first | (with_reducible assumption) | assumption)
                         obtain ⟨ad187, e187, hx187_0⟩ := Kd.at_int (Kd.R_reads' HO_12.out).2.2 x18_4 p187 q187
                         obtain rfl : ad186 = ad187 := (by injection e187)
                         replace p187 := eq_true p187
                         replace q187 := eq_true q187
                         refine start_ (n := 26) (S := fun w' => w'.cell? ⟨gb184, 0, none⟩ = some (.int .i64 ((rd_T74 l1 x91_4).f0)) ∧ w'.cell? ⟨gb184, 1, none⟩ = some (.int .i64 ((rd_T74 l1 x91_4).f1)) ∧ w'.cell? ⟨gb184, 2, none⟩ = some (.int .i64 ((rd_T74 l1 x91_4).f2)) ∧ w'.cell? (ad185.add (x91_4).toNat) = some (.int .i64 (rd x11_3 x91_4)) ∧ w'.cell? (ad186.add (x91_4).toNat) = some (.int .i64 (rd x12_3 x91_4)) ∧ w'.cell? (ad186.add (x18_4).toNat) = some (.int .i64 (rd x12_3 x18_4))) (ds := []) m0_26 (by kernel_rfl) rfl rfl ⟨ck BK184.out 0 rfl, ck BK184.out 1 rfl, ck BK184.out 2 rfl, hx185_0, hx186_0, hx187_0⟩ (fun hHeld => ?_); refine with_tabW impl_RunJobs.tab20 impl_RunJobs.bits20 (fun HT_ HW_ => ?_)
                         generalize w105.drew = w106 at HO_10 HO_11 HO_12 BK160 BK184 HB hx185_0 hx186_0 hx187_0 hHeld ⊢
                         refine pq_ HT_.out 0 96 m1_26 ?_
                         refine pq_ HT_.out 2 98 n50 ?_
                         refine tk_ HT_.out HW_.out 1 97 m3_26 rfl rfl (by kernel_rfl) (by rfl) (by rintro w' ⟨s0, s1, s2, s3, s4, s5⟩; go_simp; with_reducible rfl) hHeld (by simp only [sp_]; rfl) (fun _ _ _ h => h) ?_
                         refine pq_ HT_.out 3 99 m4_26 ?_
                         refine pq_ HT_.out 4 100 m5_26 ?_
                         refine pq_ HT_.out 5 101 m6_26 ?_
                         refine pq_ HT_.out 6 102 m7_26 ?_
                         refine pq_ HT_.out 7 103 m8_26 ?_
                         refine tk_ HT_.out HW_.out 8 104 m9_26 rfl rfl (by kernel_rfl) (by rfl) (by rintro w' ⟨s0, s1, s2, s3, s4, s5⟩; go_simp; with_reducible rfl) hHeld (by simp only [sp_]; rfl) (fun _ _ _ h => h) ?_
                         refine pq_ HT_.out 9 105 m10_26 ?_
                         refine pq_ HT_.out 10 106 m11_26 ?_
                         refine pq_ HT_.out 11 107 m12_26 ?_
                         refine pq_ HT_.out 12 108 m13_26 ?_
                         refine pq_ HT_.out 13 109 m14_26 ?_
                         refine pq_ HT_.out 14 110 m15_26 ?_
                         refine pq_ HT_.out 15 111 m16_26 ?_
                         refine pq_ HT_.out 16 112 m17_26 ?_
                         refine pq_ HT_.out 17 113 m18_26 ?_
                         refine pq_ HT_.out 19 115 n67 ?_
                         refine pq_ HT_.out 20 116 n68 ?_
                         refine pq_ HT_.out 21 117 n69 ?_
                         refine tk_ HT_.out HW_.out 18 114 m22_26 rfl rfl (by kernel_rfl) (by rfl) (by rintro w' ⟨s0, s1, s2, s3, s4, s5⟩; go_simp; with_reducible rfl) hHeld (by simp only [sp_]; rfl) (fun _ _ _ h => h) ?_
                         refine tk_ HT_.out HW_.out 22 118 m23_26 rfl rfl (by kernel_rfl) (by rfl) (by rintro w' ⟨s0, s1, s2, s3, s4, s5⟩; go_simp; with_reducible rfl) hHeld (by simp only [sp_]; rfl) (fun _ _ _ h => h) ?_
                         refine pq_ HT_.out 23 119 m24_26 ?_
                         refine pq_ HT_.out 24 120 m25_26 ?_
                         refine pq_ HT_.out 25 121 m26_26 ?_
                         refine done_ (done_of HT_.out (by kernel_rfl)) ?_
                         try go_wp2
                         go_roundg k4
                         case measure => have := HJ4.out; have := HK2.out; have := HK3.out; have := HK4.out; omega
                         case rel => exact ⟨(x18_4), (wrap64 (x91_4 + 1)), (by first | rfl | (simp; done) | (simp [*]; done)), (by first | rfl | (simp; done) | (simp [*]; done)), H', ⟨by have := HJ4.out; have := HK2.out; have := HK3.out; have := HK4.out; omega⟩, ⟨rl HO_10.out⟩, ⟨rl HO_11.out⟩, ⟨rl HO_12.out⟩, ⟨bk BK160.out⟩, ⟨by repeat with_reducible first | exact bl HB.out | refine below_set ?_ GE160.out | refine below_set ?_ GE184.out | refine bq ?_⟩⟩
                       ·
                        rw [if_neg c93] at H
                        exact absurd H (by simp)
                      ·
                       rw [if_neg c92] at H
                       exact absurd H (by simp)
                     ·
                      rw [if_neg c91] at H
                      exact absurd H (by simp)
                   ·
                    rw [if_neg c83] at H
                    have c83b0 : decide (0 < (rd x11_3 x91_4)) = false := decide_eq_false c83
                    clear c83
                    have H' := Aside0.mk H
                    clear H
                    have p183 : 0 ≤ (x91_4 : Int) := of_decide_eq_true (by first | (with_reducible assumption) | assumption)
                    have q183 : x91_4 < (l1.length : Int) := of_decide_eq_true (by first | (with_reducible assumption) | assumption)
                    obtain ⟨ad183, e183, hx183_0, hx183_1, hx183_2⟩ := at_T74 HR1.out x91_4 p183 q183
                    cases e183
                    replace hx183_0 := bc HB.out hx183_0
                    replace hx183_1 := bc HB.out hx183_1
                    replace hx183_2 := bc HB.out hx183_2
                    replace p183 := eq_true p183
                    replace q183 := eq_true q183
                    try go_wp2_with (first | ((with_reducible refine gate_dst (N := 20) rfl ?_); (try (refine gate_guard (by rfl) ?_; dsimp only)); refine box_event ?hg (N := 20) ?hd (cs := #[.int .i64 0, .int .i64 0, .int .i64 0]) (t := 74) ?hr ?_; (case hd => rfl); (case hg => rfl); (case hr => first | (go_simp; done) | (go_simp; rfl)); intro gb184 hg w109 hbox hb; replace HO_10 := Aside0.mk (Kd.R_below (rl HO_10.out) hb); replace HO_11 := Aside0.mk (Kd.R_below (rl HO_11.out) hb); replace HO_12 := Aside0.mk (Kd.R_below (rl HO_12.out) hb); have BK184 := Aside0.mk (hbox); have GW184 := Aside0.mk ((by rw [hg]; exact (below_size (by repeat with_reducible first | exact bl HB.out | refine below_set ?_ GE160.out | refine bq ?_)) : w.heap.size ≤ gb184)); have GE184 := GW184; replace HB := Aside0.mk (below_step (by repeat with_reducible first | exact bl HB.out | refine below_set ?_ GE160.out | refine bq ?_) hb); have NB160_184 := nb_ hg BK160.out; have NB184_160 := Aside0.mk NB160_184.out.symm; replace BK160 := Aside0.mk (blk_below (bk BK160.out) hb); clear hb hbox hg; have hnb110 := NB184_160.out; have hnc110 := NB160_184.out; obtain ⟨hcz111_0, hcz111_1, hcz111_2⟩ := ck3 BK184.out; obtain ⟨hfz111_0, hfz111_1, hfz111_2⟩ := fz3 BK184.out))
                    have n0_ : Aside0 (Kd.R (Kd.int .i64) 3 (((w109.setCell ⟨gb184, 0, none⟩ (.int .i64 ((rd_T74 l1 x91_4).f0))).setCell ⟨gb184, 1, none⟩ (.int .i64 ((rd_T74 l1 x91_4).f1))).setCell ⟨gb184, 2, none⟩ (.int .i64 ((rd_T74 l1 x91_4).f2))) w.heap.size (fun k_ => some k_ ≠ (v168 : Value).ownBlock ∧ some k_ ≠ (v171 : Value).ownBlock) v165 x10_3) := ⟨by (repeat apply rl1); exact Kd.R_mono (Kd.R_far (p := ⟨gb184, 2, none⟩) (Kd.R_far (p := ⟨gb184, 1, none⟩) (Kd.R_far (p := ⟨gb184, 0, none⟩) (Kd.R_types HO_10.out BK184.out (by decide)) (fun _ hk => hk.2) (.int .i64 ((rd_T74 l1 x91_4).f0))) (fun _ hk => hk.2) (.int .i64 ((rd_T74 l1 x91_4).f1))) (fun _ hk => hk.2) (.int .i64 ((rd_T74 l1 x91_4).f2))) (fun _ hk => ⟨hk.1.1, hk.1.2⟩)⟩
                    have n1_ : Aside0 (Kd.R (Kd.int .i64) 3 (((w109.setCell ⟨gb184, 0, none⟩ (.int .i64 ((rd_T74 l1 x91_4).f0))).setCell ⟨gb184, 1, none⟩ (.int .i64 ((rd_T74 l1 x91_4).f1))).setCell ⟨gb184, 2, none⟩ (.int .i64 ((rd_T74 l1 x91_4).f2))) w.heap.size (fun k_ => some k_ ≠ (v165 : Value).ownBlock ∧ some k_ ≠ (v171 : Value).ownBlock) v168 x11_3) := ⟨by (repeat apply rl1); exact Kd.R_mono (Kd.R_far (p := ⟨gb184, 2, none⟩) (Kd.R_far (p := ⟨gb184, 1, none⟩) (Kd.R_far (p := ⟨gb184, 0, none⟩) (Kd.R_types HO_11.out BK184.out (by decide)) (fun _ hk => hk.2) (.int .i64 ((rd_T74 l1 x91_4).f0))) (fun _ hk => hk.2) (.int .i64 ((rd_T74 l1 x91_4).f1))) (fun _ hk => hk.2) (.int .i64 ((rd_T74 l1 x91_4).f2))) (fun _ hk => ⟨hk.1.1, hk.1.2⟩)⟩
                    have n2_ : Aside0 (Kd.R (Kd.int .i64) 3 (((w109.setCell ⟨gb184, 0, none⟩ (.int .i64 ((rd_T74 l1 x91_4).f0))).setCell ⟨gb184, 1, none⟩ (.int .i64 ((rd_T74 l1 x91_4).f1))).setCell ⟨gb184, 2, none⟩ (.int .i64 ((rd_T74 l1 x91_4).f2))) w.heap.size (fun k_ => some k_ ≠ (v165 : Value).ownBlock ∧ some k_ ≠ (v168 : Value).ownBlock) v171 x12_3) := ⟨by (repeat apply rl1); exact Kd.R_mono (Kd.R_far (p := ⟨gb184, 2, none⟩) (Kd.R_far (p := ⟨gb184, 1, none⟩) (Kd.R_far (p := ⟨gb184, 0, none⟩) (Kd.R_types HO_12.out BK184.out (by decide)) (fun _ hk => hk.2) (.int .i64 ((rd_T74 l1 x91_4).f0))) (fun _ hk => hk.2) (.int .i64 ((rd_T74 l1 x91_4).f1))) (fun _ hk => hk.2) (.int .i64 ((rd_T74 l1 x91_4).f2))) (fun _ hk => ⟨hk.1.1, hk.1.2⟩)⟩
                    have n3_ : Aside0 ((((w109.setCell ⟨gb184, 0, none⟩ (.int .i64 ((rd_T74 l1 x91_4).f0))).setCell ⟨gb184, 1, none⟩ (.int .i64 ((rd_T74 l1 x91_4).f1))).setCell ⟨gb184, 2, none⟩ (.int .i64 ((rd_T74 l1 x91_4).f2))).heap[gb160]? = some (.cells #[.int .i64 a0_0, .int .i64 a0_1, .slice A0_2 l0_2.length c0_2] 29 (0, 0))) := ⟨by (repeat refine bk1 ?_); refine blk_far ?_ NB160_184.out _; (repeat refine bk1 ?_); refine blk_far ?_ NB160_184.out _; (repeat refine bk1 ?_); refine blk_far ?_ NB160_184.out _; (repeat refine bk1 ?_); exact BK160.out⟩
                    have n4_ : Aside0 ((((w109.setCell ⟨gb184, 0, none⟩ (.int .i64 ((rd_T74 l1 x91_4).f0))).setCell ⟨gb184, 1, none⟩ (.int .i64 ((rd_T74 l1 x91_4).f1))).setCell ⟨gb184, 2, none⟩ (.int .i64 ((rd_T74 l1 x91_4).f2))).heap[gb184]? = some (.cells #[.int .i64 ((rd_T74 l1 x91_4).f0), .int .i64 ((rd_T74 l1 x91_4).f1), .int .i64 ((rd_T74 l1 x91_4).f2)] 74 (0, 0))) := ⟨by (repeat refine bk1 ?_); refine blk_put (cs := #[.int .i64 ((rd_T74 l1 x91_4).f0), .int .i64 ((rd_T74 l1 x91_4).f1), .int .i64 0]) ?_ 2 _ rfl; (repeat refine bk1 ?_); refine blk_put (cs := #[.int .i64 ((rd_T74 l1 x91_4).f0), .int .i64 0, .int .i64 0]) ?_ 1 _ rfl; (repeat refine bk1 ?_); refine blk_put (cs := #[.int .i64 0, .int .i64 0, .int .i64 0]) ?_ 0 _ rfl; (repeat refine bk1 ?_); exact BK184.out⟩
                    have n5_ : Aside0 (Below w.heap.size w (((w109.setCell ⟨gb184, 0, none⟩ (.int .i64 ((rd_T74 l1 x91_4).f0))).setCell ⟨gb184, 1, none⟩ (.int .i64 ((rd_T74 l1 x91_4).f1))).setCell ⟨gb184, 2, none⟩ (.int .i64 ((rd_T74 l1 x91_4).f2)))) := ⟨by repeat with_reducible first | exact bl HB.out | refine below_set ?_ GE160.out | refine below_set ?_ GE184.out | refine bq ?_⟩
                    (try clear HO_10)
                    (try clear HO_11)
                    (try clear HO_12)
                    (try clear BK160)
                    (try clear BK184)
                    (try clear HB)
                    generalize (((w109.setCell ⟨gb184, 0, none⟩ (.int .i64 ((rd_T74 l1 x91_4).f0))).setCell ⟨gb184, 1, none⟩ (.int .i64 ((rd_T74 l1 x91_4).f1))).setCell ⟨gb184, 2, none⟩ (.int .i64 ((rd_T74 l1 x91_4).f2))) = w112 at n0_ n1_ n2_ n3_ n4_ n5_ ⊢
                    have HO_10 := n0_
                    have HO_11 := n1_
                    have HO_12 := n2_
                    have BK160 := n3_
                    have BK184 := n4_
                    have HB := n5_
                    clear n0_ n1_ n2_ n3_ n4_ n5_
                    have n0_ := Aside0.mk (Kd.R_drew HO_10.out)
                    have n1_ := Aside0.mk (Kd.R_drew HO_11.out)
                    have n2_ := Aside0.mk (Kd.R_drew HO_12.out)
                    have n3_ := Aside0.mk (blk_drew BK160.out)
                    have n4_ := Aside0.mk (blk_drew BK184.out)
                    have n5_ := Aside0.mk (below_drew1 HB.out)
                    clear HO_10
                    clear HO_11
                    clear HO_12
                    clear BK160
                    clear BK184
                    clear HB
                    have HO_10 := n0_
                    have HO_11 := n1_
                    have HO_12 := n2_
                    have BK160 := n3_
                    have BK184 := n4_
                    have HB := n5_
                    clear n0_ n1_ n2_ n3_ n4_ n5_
                    obtain ⟨Ao114, co114, eo114⟩ := Kd.R_slice HO_11.out
                    (first | subst eo114 | (injection eo114 with f1_ f2_ f3_; have f4_ := f1_.symm; have f5_ := f3_.symm; clear f1_ f2_ f3_; subst f4_; subst f5_))
                    have p185 : 0 ≤ (x91_4 : Int) := of_decide_eq_true (by first | (with_reducible assumption) | assumption)
                    have q185 : x91_4 < (x11_3.length : Int) := of_decide_eq_true (by first | (with_reducible assumption) | assumption)
                    obtain ⟨ad185, e185, hx185_0⟩ := Kd.at_int (Kd.R_reads' HO_11.out).2.2 x91_4 p185 q185
                    cases e185
                    replace p185 := eq_true p185
                    replace q185 := eq_true q185
                    refine start_ (n := 26) (S := fun w' => w'.cell? ⟨gb184, 0, none⟩ = some (.int .i64 ((rd_T74 l1 x91_4).f0)) ∧ w'.cell? ⟨gb184, 1, none⟩ = some (.int .i64 ((rd_T74 l1 x91_4).f1)) ∧ w'.cell? ⟨gb184, 2, none⟩ = some (.int .i64 ((rd_T74 l1 x91_4).f2)) ∧ w'.cell? (ad185.add (x91_4).toNat) = some (.int .i64 (rd x11_3 x91_4))) (ds := []) m0_26 (by kernel_rfl) rfl rfl ⟨ck BK184.out 0 rfl, ck BK184.out 1 rfl, ck BK184.out 2 rfl, hx185_0⟩ (fun hHeld => ?_); refine with_tabW impl_RunJobs.tab20 impl_RunJobs.bits20 (fun HT_ HW_ => ?_)
                    generalize w112.drew = w113 at HO_10 HO_11 HO_12 BK160 BK184 HB hx185_0 hHeld ⊢
                    refine pq_ HT_.out 0 96 m1_26 ?_
                    refine pq_ HT_.out 2 98 n50 ?_
                    refine tk_ HT_.out HW_.out 1 97 m3_26 rfl rfl (by kernel_rfl) (by rfl) (by rintro w' ⟨s0, s1, s2, s3⟩; go_simp; with_reducible rfl) hHeld (by simp only [sp_]; rfl) (fun _ _ _ h => h) ?_
                    refine pq_ HT_.out 3 99 m4_26 ?_
                    refine pq_ HT_.out 4 100 m5_26 ?_
                    refine pq_ HT_.out 5 101 m6_26 ?_
                    refine pq_ HT_.out 6 102 m7_26 ?_
                    refine pq_ HT_.out 7 103 m8_26 ?_
                    refine tk_ HT_.out HW_.out 8 104 m9_26 rfl rfl (by kernel_rfl) (by rfl) (by rintro w' ⟨s0, s1, s2, s3⟩; go_simp; with_reducible rfl) hHeld (by simp only [sp_]; rfl) (fun _ _ _ h => h) ?_
                    refine pq_ HT_.out 9 105 m10_26 ?_
                    refine pq_ HT_.out 10 106 m11_26 ?_
                    refine pq_ HT_.out 11 107 m12_26 ?_
                    refine pv_ HT_.out 12 108 m13_26 ?_
                    refine pv_ HT_.out 13 109 m14_26 ?_
                    refine pv_ HT_.out 14 110 m15_26 ?_
                    refine pv_ HT_.out 15 111 m16_26 ?_
                    refine pv_ HT_.out 16 112 m17_26 ?_
                    refine pv_ HT_.out 17 113 m18_26 ?_
                    refine pv_ HT_.out 18 114 m19_26 ?_
                    refine pv_ HT_.out 19 115 m20_26 ?_
                    refine pv_ HT_.out 20 116 m21_26 ?_
                    refine pv_ HT_.out 21 117 m22_26 ?_
                    refine pv_ HT_.out 22 118 m23_26 ?_
                    refine pv_ HT_.out 23 119 m24_26 ?_
                    refine pv_ HT_.out 24 120 m25_26 ?_
                    refine pq_ HT_.out 25 121 m26_26 ?_
                    refine done_ (done_of HT_.out (by kernel_rfl)) ?_
                    try go_wp2
                    go_roundg k4
                    case measure => have := HJ4.out; have := HK2.out; have := HK3.out; have := HK4.out; omega
                    case rel => exact ⟨(x18_4), (wrap64 (x91_4 + 1)), (by first | rfl | (simp; done) | (simp [*]; done)), (by first | rfl | (simp; done) | (simp [*]; done)), H', ⟨by have := HJ4.out; have := HK2.out; have := HK3.out; have := HK4.out; omega⟩, ⟨rl HO_10.out⟩, ⟨rl HO_11.out⟩, ⟨rl HO_12.out⟩, ⟨bk BK160.out⟩, ⟨by repeat with_reducible first | exact bl HB.out | refine below_set ?_ GE160.out | refine below_set ?_ GE184.out | refine bq ?_⟩⟩
                  ·
                   rw [if_neg c82] at H
                   exact absurd H (by simp)
                 ·
                  rw [if_neg c81] at H
                  have c81b0 : (((rd_T74 l1 x91_4).f0) == t182) = false := beq_eq_false_iff_ne.mpr c81
                  have c81b1 : (((rd_T74 l1 x91_4).f0) != t182) = true := bne_iff_ne.mpr c81
                  have H' := Aside0.mk H
                  clear H
                  have p183 : 0 ≤ (x91_4 : Int) := of_decide_eq_true (by first | (with_reducible assumption) | assumption)
                  have q183 : x91_4 < (l1.length : Int) := of_decide_eq_true (by first | (with_reducible assumption) | assumption)
                  obtain ⟨ad183, e183, hx183_0, hx183_1, hx183_2⟩ := at_T74 HR1.out x91_4 p183 q183
                  cases e183
                  replace hx183_0 := bc HB.out hx183_0
                  replace hx183_1 := bc HB.out hx183_1
                  replace hx183_2 := bc HB.out hx183_2
                  replace p183 := eq_true p183
                  replace q183 := eq_true q183
                  try go_wp2_with (first | ((with_reducible refine gate_dst (N := 20) rfl ?_); (try (refine gate_guard (by rfl) ?_; dsimp only)); refine box_event ?hg (N := 20) ?hd (cs := #[.int .i64 0, .int .i64 0, .int .i64 0]) (t := 74) ?hr ?_; (case hd => rfl); (case hg => rfl); (case hr => first | (go_simp; done) | (go_simp; rfl)); intro gb184 hg w115 hbox hb; replace HO_10 := Aside0.mk (Kd.R_below (rl HO_10.out) hb); replace HO_11 := Aside0.mk (Kd.R_below (rl HO_11.out) hb); replace HO_12 := Aside0.mk (Kd.R_below (rl HO_12.out) hb); have BK184 := Aside0.mk (hbox); have GW184 := Aside0.mk ((by rw [hg]; exact (below_size (by repeat with_reducible first | exact bl HB.out | refine below_set ?_ GE160.out | refine bq ?_)) : w.heap.size ≤ gb184)); have GE184 := GW184; replace HB := Aside0.mk (below_step (by repeat with_reducible first | exact bl HB.out | refine below_set ?_ GE160.out | refine bq ?_) hb); have NB160_184 := nb_ hg BK160.out; have NB184_160 := Aside0.mk NB160_184.out.symm; replace BK160 := Aside0.mk (blk_below (bk BK160.out) hb); clear hb hbox hg; have hnb116 := NB184_160.out; have hnc116 := NB160_184.out; obtain ⟨hcz117_0, hcz117_1, hcz117_2⟩ := ck3 BK184.out; obtain ⟨hfz117_0, hfz117_1, hfz117_2⟩ := fz3 BK184.out))
                  have n0_ : Aside0 (Kd.R (Kd.int .i64) 3 (((w115.setCell ⟨gb184, 0, none⟩ (.int .i64 ((rd_T74 l1 x91_4).f0))).setCell ⟨gb184, 1, none⟩ (.int .i64 ((rd_T74 l1 x91_4).f1))).setCell ⟨gb184, 2, none⟩ (.int .i64 ((rd_T74 l1 x91_4).f2))) w.heap.size (fun k_ => some k_ ≠ (v168 : Value).ownBlock ∧ some k_ ≠ (v171 : Value).ownBlock) v165 x10_3) := ⟨by (repeat apply rl1); exact Kd.R_mono (Kd.R_far (p := ⟨gb184, 2, none⟩) (Kd.R_far (p := ⟨gb184, 1, none⟩) (Kd.R_far (p := ⟨gb184, 0, none⟩) (Kd.R_types HO_10.out BK184.out (by decide)) (fun _ hk => hk.2) (.int .i64 ((rd_T74 l1 x91_4).f0))) (fun _ hk => hk.2) (.int .i64 ((rd_T74 l1 x91_4).f1))) (fun _ hk => hk.2) (.int .i64 ((rd_T74 l1 x91_4).f2))) (fun _ hk => ⟨hk.1.1, hk.1.2⟩)⟩
                  have n1_ : Aside0 (Kd.R (Kd.int .i64) 3 (((w115.setCell ⟨gb184, 0, none⟩ (.int .i64 ((rd_T74 l1 x91_4).f0))).setCell ⟨gb184, 1, none⟩ (.int .i64 ((rd_T74 l1 x91_4).f1))).setCell ⟨gb184, 2, none⟩ (.int .i64 ((rd_T74 l1 x91_4).f2))) w.heap.size (fun k_ => some k_ ≠ (v165 : Value).ownBlock ∧ some k_ ≠ (v171 : Value).ownBlock) v168 x11_3) := ⟨by (repeat apply rl1); exact Kd.R_mono (Kd.R_far (p := ⟨gb184, 2, none⟩) (Kd.R_far (p := ⟨gb184, 1, none⟩) (Kd.R_far (p := ⟨gb184, 0, none⟩) (Kd.R_types HO_11.out BK184.out (by decide)) (fun _ hk => hk.2) (.int .i64 ((rd_T74 l1 x91_4).f0))) (fun _ hk => hk.2) (.int .i64 ((rd_T74 l1 x91_4).f1))) (fun _ hk => hk.2) (.int .i64 ((rd_T74 l1 x91_4).f2))) (fun _ hk => ⟨hk.1.1, hk.1.2⟩)⟩
                  have n2_ : Aside0 (Kd.R (Kd.int .i64) 3 (((w115.setCell ⟨gb184, 0, none⟩ (.int .i64 ((rd_T74 l1 x91_4).f0))).setCell ⟨gb184, 1, none⟩ (.int .i64 ((rd_T74 l1 x91_4).f1))).setCell ⟨gb184, 2, none⟩ (.int .i64 ((rd_T74 l1 x91_4).f2))) w.heap.size (fun k_ => some k_ ≠ (v165 : Value).ownBlock ∧ some k_ ≠ (v168 : Value).ownBlock) v171 x12_3) := ⟨by (repeat apply rl1); exact Kd.R_mono (Kd.R_far (p := ⟨gb184, 2, none⟩) (Kd.R_far (p := ⟨gb184, 1, none⟩) (Kd.R_far (p := ⟨gb184, 0, none⟩) (Kd.R_types HO_12.out BK184.out (by decide)) (fun _ hk => hk.2) (.int .i64 ((rd_T74 l1 x91_4).f0))) (fun _ hk => hk.2) (.int .i64 ((rd_T74 l1 x91_4).f1))) (fun _ hk => hk.2) (.int .i64 ((rd_T74 l1 x91_4).f2))) (fun _ hk => ⟨hk.1.1, hk.1.2⟩)⟩
                  have n3_ : Aside0 ((((w115.setCell ⟨gb184, 0, none⟩ (.int .i64 ((rd_T74 l1 x91_4).f0))).setCell ⟨gb184, 1, none⟩ (.int .i64 ((rd_T74 l1 x91_4).f1))).setCell ⟨gb184, 2, none⟩ (.int .i64 ((rd_T74 l1 x91_4).f2))).heap[gb160]? = some (.cells #[.int .i64 a0_0, .int .i64 a0_1, .slice A0_2 l0_2.length c0_2] 29 (0, 0))) := ⟨by (repeat refine bk1 ?_); refine blk_far ?_ NB160_184.out _; (repeat refine bk1 ?_); refine blk_far ?_ NB160_184.out _; (repeat refine bk1 ?_); refine blk_far ?_ NB160_184.out _; (repeat refine bk1 ?_); exact BK160.out⟩
                  have n4_ : Aside0 ((((w115.setCell ⟨gb184, 0, none⟩ (.int .i64 ((rd_T74 l1 x91_4).f0))).setCell ⟨gb184, 1, none⟩ (.int .i64 ((rd_T74 l1 x91_4).f1))).setCell ⟨gb184, 2, none⟩ (.int .i64 ((rd_T74 l1 x91_4).f2))).heap[gb184]? = some (.cells #[.int .i64 ((rd_T74 l1 x91_4).f0), .int .i64 ((rd_T74 l1 x91_4).f1), .int .i64 ((rd_T74 l1 x91_4).f2)] 74 (0, 0))) := ⟨by (repeat refine bk1 ?_); refine blk_put (cs := #[.int .i64 ((rd_T74 l1 x91_4).f0), .int .i64 ((rd_T74 l1 x91_4).f1), .int .i64 0]) ?_ 2 _ rfl; (repeat refine bk1 ?_); refine blk_put (cs := #[.int .i64 ((rd_T74 l1 x91_4).f0), .int .i64 0, .int .i64 0]) ?_ 1 _ rfl; (repeat refine bk1 ?_); refine blk_put (cs := #[.int .i64 0, .int .i64 0, .int .i64 0]) ?_ 0 _ rfl; (repeat refine bk1 ?_); exact BK184.out⟩
                  have n5_ : Aside0 (Below w.heap.size w (((w115.setCell ⟨gb184, 0, none⟩ (.int .i64 ((rd_T74 l1 x91_4).f0))).setCell ⟨gb184, 1, none⟩ (.int .i64 ((rd_T74 l1 x91_4).f1))).setCell ⟨gb184, 2, none⟩ (.int .i64 ((rd_T74 l1 x91_4).f2)))) := ⟨by repeat with_reducible first | exact bl HB.out | refine below_set ?_ GE160.out | refine below_set ?_ GE184.out | refine bq ?_⟩
                  (try clear HO_10)
                  (try clear HO_11)
                  (try clear HO_12)
                  (try clear BK160)
                  (try clear BK184)
                  (try clear HB)
                  generalize (((w115.setCell ⟨gb184, 0, none⟩ (.int .i64 ((rd_T74 l1 x91_4).f0))).setCell ⟨gb184, 1, none⟩ (.int .i64 ((rd_T74 l1 x91_4).f1))).setCell ⟨gb184, 2, none⟩ (.int .i64 ((rd_T74 l1 x91_4).f2))) = w118 at n0_ n1_ n2_ n3_ n4_ n5_ ⊢
                  have HO_10 := n0_
                  have HO_11 := n1_
                  have HO_12 := n2_
                  have BK160 := n3_
                  have BK184 := n4_
                  have HB := n5_
                  clear n0_ n1_ n2_ n3_ n4_ n5_
                  have n0_ := Aside0.mk (Kd.R_drew HO_10.out)
                  have n1_ := Aside0.mk (Kd.R_drew HO_11.out)
                  have n2_ := Aside0.mk (Kd.R_drew HO_12.out)
                  have n3_ := Aside0.mk (blk_drew BK160.out)
                  have n4_ := Aside0.mk (blk_drew BK184.out)
                  have n5_ := Aside0.mk (below_drew1 HB.out)
                  clear HO_10
                  clear HO_11
                  clear HO_12
                  clear BK160
                  clear BK184
                  clear HB
                  have HO_10 := n0_
                  have HO_11 := n1_
                  have HO_12 := n2_
                  have BK160 := n3_
                  have BK184 := n4_
                  have HB := n5_
                  clear n0_ n1_ n2_ n3_ n4_ n5_
                  refine start_ (n := 26) (S := fun w' => w'.cell? ⟨gb184, 0, none⟩ = some (.int .i64 ((rd_T74 l1 x91_4).f0)) ∧ w'.cell? ⟨gb184, 1, none⟩ = some (.int .i64 ((rd_T74 l1 x91_4).f1)) ∧ w'.cell? ⟨gb184, 2, none⟩ = some (.int .i64 ((rd_T74 l1 x91_4).f2))) (ds := []) m0_26 (by kernel_rfl) rfl rfl ⟨ck BK184.out 0 rfl, ck BK184.out 1 rfl, ck BK184.out 2 rfl⟩ (fun hHeld => ?_); refine with_tabW impl_RunJobs.tab20 impl_RunJobs.bits20 (fun HT_ HW_ => ?_)
                  generalize w118.drew = w119 at HO_10 HO_11 HO_12 BK160 BK184 HB hHeld ⊢
                  refine pq_ HT_.out 0 96 m1_26 ?_
                  refine pq_ HT_.out 2 98 n50 ?_
                  refine tk_ HT_.out HW_.out 1 97 m3_26 rfl rfl (by kernel_rfl) (by rfl) (by rintro w' ⟨s0, s1, s2⟩; go_simp; with_reducible rfl) hHeld (by simp only [sp_]; rfl) (fun _ _ _ h => h) ?_
                  refine pq_ HT_.out 3 99 m4_26 ?_
                  refine pq_ HT_.out 4 100 m5_26 ?_
                  refine pv_ HT_.out 5 101 m6_26 ?_
                  refine pv_ HT_.out 6 102 m7_26 ?_
                  refine pv_ HT_.out 7 103 m8_26 ?_
                  refine pv_ HT_.out 8 104 m9_26 ?_
                  refine pv_ HT_.out 9 105 m10_26 ?_
                  refine pq_ HT_.out 10 106 m11_26 ?_
                  refine pq_ HT_.out 11 107 m12_26 ?_
                  refine pv_ HT_.out 12 108 m13_26 ?_
                  refine pv_ HT_.out 13 109 m14_26 ?_
                  refine pv_ HT_.out 14 110 m15_26 ?_
                  refine pv_ HT_.out 15 111 m16_26 ?_
                  refine pv_ HT_.out 16 112 m17_26 ?_
                  refine pv_ HT_.out 17 113 m18_26 ?_
                  refine pv_ HT_.out 18 114 m19_26 ?_
                  refine pv_ HT_.out 19 115 m20_26 ?_
                  refine pv_ HT_.out 20 116 m21_26 ?_
                  refine pv_ HT_.out 21 117 m22_26 ?_
                  refine pv_ HT_.out 22 118 m23_26 ?_
                  refine pv_ HT_.out 23 119 m24_26 ?_
                  refine pv_ HT_.out 24 120 m25_26 ?_
                  refine pq_ HT_.out 25 121 m26_26 ?_
                  refine done_ (done_of HT_.out (by kernel_rfl)) ?_
                  try go_wp2
                  go_roundg k4
                  case measure => have := HJ4.out; have := HK2.out; have := HK3.out; have := HK4.out; omega
                  case rel => exact ⟨(x18_4), (wrap64 (x91_4 + 1)), (by first | rfl | (simp; done) | (simp [*]; done)), (by first | rfl | (simp; done) | (simp [*]; done)), H', ⟨by have := HJ4.out; have := HK2.out; have := HK3.out; have := HK4.out; omega⟩, ⟨rl HO_10.out⟩, ⟨rl HO_11.out⟩, ⟨rl HO_12.out⟩, ⟨bk BK160.out⟩, ⟨by repeat with_reducible first | exact bl HB.out | refine below_set ?_ GE160.out | refine below_set ?_ GE184.out | refine bq ?_⟩⟩
                ·
                 rw [if_neg c80] at H
                 exact absurd H (by simp)
               ·
                rw [if_neg c79] at H
                exact absurd H (by simp)
              ·
               rw [if_neg c78] at H
               have c78b0 : decide (x91_4 < (l1.length : Int)) = false := decide_eq_false c78
               clear c78
               by_cases c120 : x18_4 ≥ 0
               ·
                rw [if_pos c120] at H
                have c120b0 : decide (0 ≤ x18_4) = true := decide_eq_true c120
                clear c120
                by_cases c121 : 0 ≤ x18_4
                ·
                 rw [if_pos c121] at H
                 have c121b0 : decide (0 ≤ x18_4) = true := decide_eq_true c121
                 clear c121
                 by_cases c122 : x18_4 < (x11_3.length : Int)
                 ·
                  rw [if_pos c122] at H
                  have c122b0 : decide (x18_4 < (x11_3.length : Int)) = true := decide_eq_true c122
                  clear c122
                  obtain ⟨y189, hy189⟩ : ∃ y_ : List Int, y_ = (x11_3.set (x18_4 : Int).toNat (wrap64 ((rd x11_3 x18_4) - 1))) := ⟨_, rfl⟩
                  replace H : (impl_RunJobs.l0 k4 l1 x10_3 y189 x12_3 x13_2 a2 (wrap64 (x50_2 + 1)) a0_0 a0_1 l0_2) = some (r1, r2, r3) := by first | (rw [hy189]; with_reducible exact H) | (have H2_ := (Option.bind_some _ _).symm.trans H; rw [hy189]; with_reducible exact H2_) | (have H2_ := (Option.bind_some _ _).symm.trans H; with_reducible exact H2_) | with_reducible exact H | (rw [hy189]; exact H) | exact H
                  have Ny189 := Aside0.mk hy189
                  clear hy189
                  have H' := Aside0.mk H
                  clear H
                  obtain ⟨Ao124, co124, eo124⟩ := Kd.R_slice HO_11.out
                  subst eo124
                  have p188 : 0 ≤ (x18_4 : Int) := of_decide_eq_true (by first | (with_reducible assumption) | assumption)
                  have q188 : x18_4 < (x11_3.length : Int) := of_decide_eq_true (by first | (with_reducible assumption) | assumption)
                  obtain ⟨ad188, e188, hx188_0⟩ := Kd.at_int (Kd.R_reads' HO_11.out).2.2 x18_4 p188 q188
                  cases e188
                  replace p188 := eq_true p188
                  replace q188 := eq_true q188
                  have p123 : 0 ≤ (x18_4 : Int) := of_decide_eq_true (by first | (with_reducible assumption) | assumption)
                  have q123 : (x18_4 : Int) < ((x11_3.length : Int) : Int) := of_decide_eq_true (by first | (with_reducible assumption) | assumption)
                  obtain ⟨go123, co123, eo123, gb123, gl123, cl123, HG123⟩ := Kd.R_form HO_11.out (by omega)
                  (first | cases eo123 | (injection eo123 with ea_ en_ ec_; (first | subst ea_ | (injection ea_ with ea_; subst ea_)); subst ec_; clear en_))
                  have GB123 := Aside0.mk gb123
                  have GG123 := Aside0.mk HG123
                  clear gb123 gl123 HG123
                  (first | simp only [add_plain] at hx188_0 | skip)
                  obtain ⟨hx123_0, hf123_0⟩ := Kd.R_celln 0 HO_11.out (x18_4 : Int) p123 q123
                  replace p123 := eq_true p123
                  replace q123 := eq_true q123
                  have HP125 := Kd.R_putg HO_11.out (x18_4 : Int) (wrap64 ((rd x11_3 x18_4) - 1))
                  go_wp2_with (first | ((with_reducible refine gate_store (t := 3) (p := 132) rfl ?_); refine store_event (t := 3) (p := 132) (v := ?vo_w126) (w1 := (wr.setCell ⟨go123, (x18_4 : Int).toNat, none⟩ (.int .i64 (wrap64 ((rd x11_3 x18_4) - 1))))) ?hg ?ho ?hn ?hr ?_; (case ho => rfl); (case hg => rfl); (case hn => rfl); (case hr => first | (go_simp; done) | (go_simp; rfl)); intro w126 hw; have hg : wr.grownBy w126 (some go123) := (by rw [hw]; exact HP125.2); have hp_ : Kd.R (Kd.int .i64) 3 w126 w.heap.size (fun k_ => some k_ ≠ (v165 : Value).ownBlock ∧ some k_ ≠ (v171 : Value).ownBlock) (.slice (some ⟨go123, 0, none⟩) x11_3.length co124) y189 := (by rw [hw, Ny189.out]; exact HP125.1); clear HP125; replace HO_10 := Aside0.mk (Kd.R_after (v := (.slice (some ⟨go123, 0, none⟩) x11_3.length co124)) (v1 := (.slice (some ⟨go123, 0, none⟩) x11_3.length co124)) (ok := (fun k_ => some k_ ≠ (v171 : Value).ownBlock)) (by (repeat apply rl1); exact Kd.R_mono HO_10.out (fun _ hk => ⟨hk.2, hk.1⟩)) hg (.inl rfl)); replace HO_12 := Aside0.mk (Kd.R_after (v := (.slice (some ⟨go123, 0, none⟩) x11_3.length co124)) (v1 := (.slice (some ⟨go123, 0, none⟩) x11_3.length co124)) (ok := (fun k_ => some k_ ≠ (v165 : Value).ownBlock)) (rl HO_12.out) hg (.inl rfl)); replace BK160 := Aside0.mk (blk_grown (g := gb160) (o := .cells #[.int .i64 a0_0, .int .i64 a0_1, .slice A0_2 l0_2.length c0_2] 29 (0, 0)) (bk BK160.out) hg (Kd.R_ne HO_11.out BK160.out (by decide))); replace HO_11 := Aside0.mk (hp_); replace HB := Aside0.mk ((by rw [hw]; exact below_set (HB.out) GB123.out : Below w.heap.size w w126)); clear hg hw hp_))
                  go_roundg k4
                  case measure => have := HJ4.out; have := HK2.out; have := HK3.out; have := HK4.out; omega
                  case rel => exact ⟨(x10_3), (y189), (x12_3), (x13_2), (wrap64 (x50_2 + 1)), (by first | rfl | (simp; done) | (simp [*]; done)), (by first | rfl | (simp; done) | (simp [*]; done)), H', ⟨by have := HJ4.out; have := HK2.out; have := HK3.out; have := HK4.out; omega⟩, ⟨by (repeat apply rl1); exact Kd.R_mono HO_10.out (fun _ hk => ⟨hk.2, hk.1⟩)⟩, ⟨rl HO_11.out⟩, ⟨rl HO_12.out⟩, ⟨bk BK160.out⟩, ⟨by repeat with_reducible first | exact bl HB.out | refine below_set ?_ GE160.out | refine bq ?_⟩⟩
                 ·
                  rw [if_neg c122] at H
                  exact absurd H (by simp)
                ·
                 rw [if_neg c121] at H
                 exact absurd H (by simp)
               ·
                rw [if_neg c120] at H
                have c120b0 : decide (0 ≤ x18_4) = false := decide_eq_false c120
                clear c120
                by_cases c127 : t182 ≥ 0
                ·
                 rw [if_pos c127] at H
                 have c127b0 : decide (0 ≤ t182) = true := decide_eq_true c127
                 clear c127
                 have H' := Aside0.mk H
                 clear H
                 go_wp2
                 go_roundg k4
                 case measure => have := HJ4.out; have := HK2.out; have := HK3.out; have := HK4.out; omega
                 case rel => exact ⟨(x10_3), (x11_3), (x12_3), (wrap64 (x13_2 + 1)), (wrap64 (x50_2 + 1)), (by first | rfl | (simp; done) | (simp [*]; done)), (by first | rfl | (simp; done) | (simp [*]; done)), H', ⟨by have := HJ4.out; have := HK2.out; have := HK3.out; have := HK4.out; omega⟩, ⟨rl HO_10.out⟩, ⟨rl HO_11.out⟩, ⟨rl HO_12.out⟩, ⟨bk BK160.out⟩, ⟨by repeat with_reducible first | exact bl HB.out | refine below_set ?_ GE160.out | refine bq ?_⟩⟩
                ·
                 rw [if_neg c127] at H
                 have c127b0 : decide (0 ≤ t182) = false := decide_eq_false c127
                 clear c127
                 have H' := Aside0.mk H
                 clear H
                 go_wp2
                 go_roundg k4
                 case measure => have := HJ4.out; have := HK2.out; have := HK3.out; have := HK4.out; omega
                 case rel => exact ⟨(x10_3), (x11_3), (x12_3), (x13_2), (wrap64 (x50_2 + 1)), (by first | rfl | (simp; done) | (simp [*]; done)), (by first | rfl | (simp; done) | (simp [*]; done)), H', ⟨by have := HJ4.out; have := HK2.out; have := HK3.out; have := HK4.out; omega⟩, ⟨rl HO_10.out⟩, ⟨rl HO_11.out⟩, ⟨rl HO_12.out⟩, ⟨bk BK160.out⟩, ⟨by repeat with_reducible first | exact bl HB.out | refine below_set ?_ GE160.out | refine bq ?_⟩⟩
        ·
         rw [if_neg c32] at H
         have c32b0 : decide (x50_2 < a2) = false := decide_eq_false c32
         clear c32
         simp only [Option.some.injEq, Prod.mk.injEq] at H
         obtain ⟨rfl, rfl, rfl⟩ := H
         go_wp2
         go_ret3
         exact ⟨_, by first | rfl | (simp [errW_none, errW_some] <;> rfl) | (simp [*, errW_none, errW_some] <;> rfl), by (repeat apply rl1); exact Kd.R_mono HO_10.out (fun _ hk => trivial), by repeat with_reducible first | exact bl HB.out | refine below_set ?_ GE160.out | refine bq ?_⟩
     ·
      rw [if_neg c23] at H
      exact absurd H (by simp)
    ·
     rw [if_neg c22] at H
     exact absurd H (by simp)

end Go.Proofs.Ytlkphaahkhfgoaa.PFnWindows
