-- Written by a program of this session (wip/xprint.py) out of the translation; Lean checks it.
import Derived.Test.YtlkphaahkhfgoaaPFnExactRunJobsx0
import Derived.Test.YtlkphaahkhfgoaaPFnExactRunJobsx5
namespace Go.Proofs.Ytlkphaahkhfgoaa.PFnExactRunJobs
open Go.RowKit Go.Proofs.YtlkphaahkhfgoaaW.PrintWords Go.Proofs.YtlkphaahkhfgoaaW.PrintLast Go.Proofs.YtlkphaahkhfgoaaW.PrintMore Go.Proofs.Ytlkphaahkhfgoaa.Sq
attribute [local go_sem] max2_int min2_int max_two min_two max_three min_three max_four min_four   -- for this text's walks alone
set_option linter.unusedVariables false
set_option linter.unusedSimpArgs false

/-! ### impl_RunJobs: function 25 -/
mutual
def impl_RunJobs.j0 : Nat → List (S74) → Int → Bool → Int → Int → List (S62) → Option (List Int × Int × Bool)
 | 0, _, _, _, _, _, _ => none
 | k + 1, x1, x2, x39, x219000, x219001, x219002 => if x39 = true then (some (([] : List Int), 0, false)) else (if 0 ≤ (x1.length : Int) then (if ((x1.length : Int) : Int).toNat ≤ 35184372088832 then (impl_RunJobs.l0 k x1 (List.replicate ((x1.length : Int) : Int).toNat 0) (List.replicate ((x1.length : Int) : Int).toNat 0) (List.replicate ((x1.length : Int) : Int).toNat 0) 0 x2 0 x219000 x219001 x219002) else (none)) else (none))
def impl_RunJobs.l0 : Nat → List (S74) → List Int → List Int → List Int → Int → Int → Int → Int → Int → List (S62) → Option (List Int × Int × Bool)
 | 0, _, _, _, _, _, _, _, _, _, _ => none
 | k + 1, x1, x10, x11, x12, x13, x49, x50, x219000, x219001, x219002 => if x50 < x49 then (impl_RunJobs.l1 k x1 x10 x11 x12 x13 x50 x49 x50 x1 (x1.length : Int) 0 x219000 x219001 x219002) else (some (x10, x13, true))
def impl_RunJobs.l1 : Nat → List (S74) → List Int → List Int → List Int → Int → Int → Int → Int → List (S74) → Int → Int → Int → Int → List (S62) → Option (List Int × Int × Bool)
 | 0, _, _, _, _, _, _, _, _, _, _, _, _, _, _ => none
 | k + 1, x1, x10, x11, x12, x13, x14, x49, x50, x53, x54, x55, x219000, x219001, x219002 => if x55 < x54 then (if 0 ≤ x55 then (if x55 < (x53.length : Int) then (if ((rd_T74 x53 x55).f1) = 0 then (none) else (if (Int.tmod x14 ((rd_T74 x53 x55).f1)) = 0 then (if x55 < (x11.length : Int) then (if (rd x11 x55) > 0 then (if x55 < (x10.length : Int) then (if x55 < (x12.length : Int) then (impl_RunJobs.l1 k x1 (x10.set (x55 : Int).toNat (wrap64 ((rd x10 x55) + 1))) (x11.set (x55 : Int).toNat ((rd_T74 x53 x55).f2)) (x12.set (x55 : Int).toNat x14) x13 x14 x49 x50 x53 x54 (wrap64 (x55 + 1)) x219000 x219001 x219002) else (none)) else (none)) else (if x55 < (x12.length : Int) then (impl_RunJobs.l1 k x1 x10 (x11.set (x55 : Int).toNat ((rd_T74 x53 x55).f2)) (x12.set (x55 : Int).toNat x14) x13 x14 x49 x50 x53 x54 (wrap64 (x55 + 1)) x219000 x219001 x219002) else (none))) else (none)) else (impl_RunJobs.l1 k x1 x10 x11 x12 x13 x14 x49 x50 x53 x54 (wrap64 (x55 + 1)) x219000 x219001 x219002))) else (none)) else (none)) else ((impl_owner.f k x219000 x219001 x219002 x14).bind fun t240 => (impl_RunJobs.l2 k x1 x10 x11 x12 x13 t240 (-1) x49 x50 x1 (x1.length : Int) 0 x219000 x219001 x219002))
def impl_RunJobs.l2 : Nat → List (S74) → List Int → List Int → List Int → Int → Int → Int → Int → Int → List (S74) → Int → Int → Int → Int → List (S62) → Option (List Int × Int × Bool)
 | 0, _, _, _, _, _, _, _, _, _, _, _, _, _, _, _ => none
 | k + 1, x1, x10, x11, x12, x13, x17, x18, x49, x50, x89, x90, x91, x219000, x219001, x219002 => if x91 < x90 then (if 0 ≤ x91 then (if x91 < (x89.length : Int) then (if ((rd_T74 x89 x91).f0) = x17 then (if x91 < (x11.length : Int) then (if (rd x11 x91) > 0 then (if x18 < 0 then (impl_RunJobs.l2 k x1 x10 x11 x12 x13 x17 x91 x49 x50 x89 x90 (wrap64 (x91 + 1)) x219000 x219001 x219002) else (if x91 < (x12.length : Int) then (if 0 ≤ x18 then (if x18 < (x12.length : Int) then (if (rd x12 x91) < (rd x12 x18) then (impl_RunJobs.l2 k x1 x10 x11 x12 x13 x17 x91 x49 x50 x89 x90 (wrap64 (x91 + 1)) x219000 x219001 x219002) else (impl_RunJobs.l2 k x1 x10 x11 x12 x13 x17 x18 x49 x50 x89 x90 (wrap64 (x91 + 1)) x219000 x219001 x219002)) else (none)) else (none)) else (none))) else (impl_RunJobs.l2 k x1 x10 x11 x12 x13 x17 x18 x49 x50 x89 x90 (wrap64 (x91 + 1)) x219000 x219001 x219002)) else (none)) else (impl_RunJobs.l2 k x1 x10 x11 x12 x13 x17 x18 x49 x50 x89 x90 (wrap64 (x91 + 1)) x219000 x219001 x219002)) else (none)) else (none)) else (if x18 ≥ 0 then (if 0 ≤ x18 then (if x18 < (x11.length : Int) then (impl_RunJobs.l0 k x1 x10 (x11.set (x18 : Int).toNat (wrap64 ((rd x11 x18) - 1))) x12 x13 x49 (wrap64 (x50 + 1)) x219000 x219001 x219002) else (none)) else (none)) else (if x17 ≥ 0 then (impl_RunJobs.l0 k x1 x10 x11 x12 (wrap64 (x13 + 1)) x49 (wrap64 (x50 + 1)) x219000 x219001 x219002) else (impl_RunJobs.l0 k x1 x10 x11 x12 x13 x49 (wrap64 (x50 + 1)) x219000 x219001 x219002)))
end
def impl_RunJobs.f (k : Nat) (a0_0 : Int) (a0_1 : Int) (l0_2 : List (S62)) (l1 : List (S74)) (a2 : Int) : Option (List Int × Int × Bool) := (slices_ContainsFunc_RunJobs_1.f l1 a0_0 a0_1 l0_2).bind fun t219 => ((impl_PlanOk.f k a0_0 a0_1 l0_2).bind fun t220 => (if t220 = true then (if t219 = true then (impl_RunJobs.j0 k l1 a2 true a0_0 a0_1 l0_2) else (if (l1.length : Int) > 20 then (impl_RunJobs.j0 k l1 a2 true a0_0 a0_1 l0_2) else ((impl_in.f a2 0 5000).bind fun t221 => (impl_RunJobs.j0 k l1 a2 (!t221) a0_0 a0_1 l0_2)))) else (impl_RunJobs.j0 k l1 a2 true a0_0 a0_1 l0_2)))
theorem impl_RunJobs.mono_l : ∀ k, (∀ y0 y1 y2 y3 y4 y5, LeO (impl_RunJobs.j0 k y0 y1 y2 y3 y4 y5) (impl_RunJobs.j0 (k + 1) y0 y1 y2 y3 y4 y5)) ∧ (∀ y0 y1 y2 y3 y4 y5 y6 y7 y8 y9, LeO (impl_RunJobs.l0 k y0 y1 y2 y3 y4 y5 y6 y7 y8 y9) (impl_RunJobs.l0 (k + 1) y0 y1 y2 y3 y4 y5 y6 y7 y8 y9)) ∧ (∀ y0 y1 y2 y3 y4 y5 y6 y7 y8 y9 y10 y11 y12 y13, LeO (impl_RunJobs.l1 k y0 y1 y2 y3 y4 y5 y6 y7 y8 y9 y10 y11 y12 y13) (impl_RunJobs.l1 (k + 1) y0 y1 y2 y3 y4 y5 y6 y7 y8 y9 y10 y11 y12 y13)) ∧ (∀ y0 y1 y2 y3 y4 y5 y6 y7 y8 y9 y10 y11 y12 y13 y14, LeO (impl_RunJobs.l2 k y0 y1 y2 y3 y4 y5 y6 y7 y8 y9 y10 y11 y12 y13 y14) (impl_RunJobs.l2 (k + 1) y0 y1 y2 y3 y4 y5 y6 y7 y8 y9 y10 y11 y12 y13 y14))
 | 0 => ⟨fun _ _ _ _ _ _ r h => by simp [impl_RunJobs.j0] at h, fun _ _ _ _ _ _ _ _ _ _ r h => by simp [impl_RunJobs.l0] at h, fun _ _ _ _ _ _ _ _ _ _ _ _ _ _ r h => by simp [impl_RunJobs.l1] at h, fun _ _ _ _ _ _ _ _ _ _ _ _ _ _ _ r h => by simp [impl_RunJobs.l2] at h⟩
 | k + 1 => by
  obtain ⟨ih0, ih1, ih2, ih3⟩ := impl_RunJobs.mono_l k
  refine ⟨?_, ?_, ?_, ?_⟩
  ·
   intro y0 y1 y2 y3 y4 y5
   unfold impl_RunJobs.j0
   repeat' first
   | (with_reducible exact ih0 _ _ _ _ _ _)
   | (with_reducible exact ih1 _ _ _ _ _ _ _ _ _ _)
   | (with_reducible exact ih2 _ _ _ _ _ _ _ _ _ _ _ _ _ _)
   | (with_reducible exact ih3 _ _ _ _ _ _ _ _ _ _ _ _ _ _ _)
   | (with_reducible exact impl_PlanOk.mono _ _ _ _)
   | (with_reducible exact impl_owner.mono _ _ _ _ _)
   | (with_reducible exact LeO.refl _)
   | (with_reducible exact LeO.none _)
   | (with_reducible refine LeO.ite ?_ ?_)
   | (with_reducible refine LeO.bind ?_ (fun _ => ?_))
   | exact ih0 _ _ _ _ _ _
   | exact ih1 _ _ _ _ _ _ _ _ _ _
   | exact ih2 _ _ _ _ _ _ _ _ _ _ _ _ _ _
   | exact ih3 _ _ _ _ _ _ _ _ _ _ _ _ _ _ _
   | exact impl_PlanOk.mono _ _ _ _
   | exact impl_owner.mono _ _ _ _ _
   | exact LeO.none _
   | refine LeO.ite ?_ ?_
   | refine LeO.bind ?_ (fun _ => ?_)
  ·
   intro y0 y1 y2 y3 y4 y5 y6 y7 y8 y9
   unfold impl_RunJobs.l0
   repeat' first
   | (with_reducible exact ih0 _ _ _ _ _ _)
   | (with_reducible exact ih1 _ _ _ _ _ _ _ _ _ _)
   | (with_reducible exact ih2 _ _ _ _ _ _ _ _ _ _ _ _ _ _)
   | (with_reducible exact ih3 _ _ _ _ _ _ _ _ _ _ _ _ _ _ _)
   | (with_reducible exact impl_PlanOk.mono _ _ _ _)
   | (with_reducible exact impl_owner.mono _ _ _ _ _)
   | (with_reducible exact LeO.refl _)
   | (with_reducible exact LeO.none _)
   | (with_reducible refine LeO.ite ?_ ?_)
   | (with_reducible refine LeO.bind ?_ (fun _ => ?_))
   | exact ih0 _ _ _ _ _ _
   | exact ih1 _ _ _ _ _ _ _ _ _ _
   | exact ih2 _ _ _ _ _ _ _ _ _ _ _ _ _ _
   | exact ih3 _ _ _ _ _ _ _ _ _ _ _ _ _ _ _
   | exact impl_PlanOk.mono _ _ _ _
   | exact impl_owner.mono _ _ _ _ _
   | exact LeO.none _
   | refine LeO.ite ?_ ?_
   | refine LeO.bind ?_ (fun _ => ?_)
  ·
   intro y0 y1 y2 y3 y4 y5 y6 y7 y8 y9 y10 y11 y12 y13
   unfold impl_RunJobs.l1
   repeat' first
   | (with_reducible exact ih0 _ _ _ _ _ _)
   | (with_reducible exact ih1 _ _ _ _ _ _ _ _ _ _)
   | (with_reducible exact ih2 _ _ _ _ _ _ _ _ _ _ _ _ _ _)
   | (with_reducible exact ih3 _ _ _ _ _ _ _ _ _ _ _ _ _ _ _)
   | (with_reducible exact impl_PlanOk.mono _ _ _ _)
   | (with_reducible exact impl_owner.mono _ _ _ _ _)
   | (with_reducible exact LeO.refl _)
   | (with_reducible exact LeO.none _)
   | (with_reducible refine LeO.ite ?_ ?_)
   | (with_reducible refine LeO.bind ?_ (fun _ => ?_))
   | exact ih0 _ _ _ _ _ _
   | exact ih1 _ _ _ _ _ _ _ _ _ _
   | exact ih2 _ _ _ _ _ _ _ _ _ _ _ _ _ _
   | exact ih3 _ _ _ _ _ _ _ _ _ _ _ _ _ _ _
   | exact impl_PlanOk.mono _ _ _ _
   | exact impl_owner.mono _ _ _ _ _
   | exact LeO.none _
   | refine LeO.ite ?_ ?_
   | refine LeO.bind ?_ (fun _ => ?_)
  ·
   intro y0 y1 y2 y3 y4 y5 y6 y7 y8 y9 y10 y11 y12 y13 y14
   unfold impl_RunJobs.l2
   repeat' first
   | (with_reducible exact ih0 _ _ _ _ _ _)
   | (with_reducible exact ih1 _ _ _ _ _ _ _ _ _ _)
   | (with_reducible exact ih2 _ _ _ _ _ _ _ _ _ _ _ _ _ _)
   | (with_reducible exact ih3 _ _ _ _ _ _ _ _ _ _ _ _ _ _ _)
   | (with_reducible exact impl_PlanOk.mono _ _ _ _)
   | (with_reducible exact impl_owner.mono _ _ _ _ _)
   | (with_reducible exact LeO.refl _)
   | (with_reducible exact LeO.none _)
   | (with_reducible refine LeO.ite ?_ ?_)
   | (with_reducible refine LeO.bind ?_ (fun _ => ?_))
   | exact ih0 _ _ _ _ _ _
   | exact ih1 _ _ _ _ _ _ _ _ _ _
   | exact ih2 _ _ _ _ _ _ _ _ _ _ _ _ _ _
   | exact ih3 _ _ _ _ _ _ _ _ _ _ _ _ _ _ _
   | exact impl_PlanOk.mono _ _ _ _
   | exact impl_owner.mono _ _ _ _ _
   | exact LeO.none _
   | refine LeO.ite ?_ ?_
   | refine LeO.bind ?_ (fun _ => ?_)
theorem impl_RunJobs.mono : ∀ a0 a1 a2 a3 a4 k, LeO (impl_RunJobs.f k a0 a1 a2 a3 a4) (impl_RunJobs.f (k + 1) a0 a1 a2 a3 a4) := by
 intro a0 a1 a2 a3 a4 k
 obtain ⟨ih0, ih1, ih2, ih3⟩ := impl_RunJobs.mono_l k
 unfold impl_RunJobs.f
 repeat' first
   | (with_reducible exact ih0 _ _ _ _ _ _)
   | (with_reducible exact ih1 _ _ _ _ _ _ _ _ _ _)
   | (with_reducible exact ih2 _ _ _ _ _ _ _ _ _ _ _ _ _ _)
   | (with_reducible exact ih3 _ _ _ _ _ _ _ _ _ _ _ _ _ _ _)
   | (with_reducible exact impl_PlanOk.mono _ _ _ _)
   | (with_reducible exact impl_owner.mono _ _ _ _ _)
   | (with_reducible exact LeO.refl _)
   | (with_reducible exact LeO.none _)
   | (with_reducible refine LeO.ite ?_ ?_)
   | (with_reducible refine LeO.bind ?_ (fun _ => ?_))
   | exact ih0 _ _ _ _ _ _
   | exact ih1 _ _ _ _ _ _ _ _ _ _
   | exact ih2 _ _ _ _ _ _ _ _ _ _ _ _ _ _
   | exact ih3 _ _ _ _ _ _ _ _ _ _ _ _ _ _ _
   | exact impl_PlanOk.mono _ _ _ _
   | exact impl_owner.mono _ _ _ _ _
   | exact LeO.none _
   | refine LeO.ite ?_ ?_
   | refine LeO.bind ?_ (fun _ => ?_)
def impl_RunJobs.T4 : Bool × List (List Nat × List Nat) := (true, [([], []), ([0], [0]), ([1, 1], [1]), ([], []), ([3], [3]), ([4, 4], [4]), ([], []), ([6], [6]), ([7, 7], [7]), ([2, 0, 1, 2], [2]), ([5, 9, 0, 1, 2, 3, 4, 5, 9], [5]), ([8, 10, 0, 1, 2, 3, 4, 5, 6, 7, 8, 9, 10], [8]), ([11, 0, 1, 2, 3, 4, 5, 6, 7, 8, 9, 10, 11], [])])
def impl_RunJobs.B4 : List Nat := [0, 1, 3, 0, 8, 24, 0, 64, 192, 7, 575, 2047, 4095]
theorem impl_RunJobs.tab4 : rtab .any (opsOf Try.f25 4) = impl_RunJobs.T4 := by kernel_rfl
theorem impl_RunJobs.bits4 : waitsOk impl_RunJobs.T4.2 impl_RunJobs.B4 = true := by kernel_rfl
def impl_RunJobs.T20 : Bool × List (List Nat × List Nat) := (true, [([], []), ([0], [0]), ([], []), ([1, 2], [1, 2]), ([3], [3]), ([4], [4]), ([4], [4]), ([5, 6, 4], [4, 5, 6]), ([7, 4], [4, 7]), ([8, 4], [4, 8]), ([4, 9], [4, 9]), ([10, 4], [10]), ([11], [11]), ([12, 11], [11, 12]), ([13, 11, 11], [11, 13]), ([14], [14]), ([14], [14]), ([15, 16, 14], [14, 15, 16]), ([17, 14], [14, 17]), ([14], [14]), ([14], [14]), ([19, 20, 14], [14, 19, 20]), ([21, 14], [14, 21]), ([18, 22, 14], [14, 18, 22]), ([14, 23, 11], [11, 14, 23]), ([11, 24], [11, 24])])
def impl_RunJobs.B20 : List Nat := [0, 1, 0, 7, 15, 31, 31, 127, 255, 511, 1023, 2047, 4095, 8191, 16383, 32767, 32767, 131071, 262143, 32767, 32767, 1605631, 3702783, 8388607, 16777215, 33554431]
theorem impl_RunJobs.tab20 : rtab .any (opsOf Try.f25 20) = impl_RunJobs.T20 := by kernel_rfl
theorem impl_RunJobs.bits20 : waitsOk impl_RunJobs.T20.2 impl_RunJobs.B20 = true := by kernel_rfl
set_option maxHeartbeats 8000000 in
set_option maxRecDepth 100000 in
theorem impl_RunJobs.calls (k : Nat) (a0_0 : Int) (a0_1 : Int) (A0_2 : Option Addr) (c0_2 : Nat) (l0_2 : List (S62)) (A1 : Option Addr) (c1 : Nat) (l1 : List (S74)) (a2 : Int) (r1 : List Int) (r2 : Int) (r3 : Bool) (w : World) (hr0_2 : Kd.C k62 w A0_2 l0_2.length l0_2) (hc0_2 : l0_2.length ≤ c0_2) (hr1 : Kd.C k74 w A1 l1.length l1) (hc1 : l1.length ≤ c1) (h : impl_RunJobs.f k a0_0 a0_1 l0_2 l1 a2 = some (r1, r2, r3)) :
  Calls Try.prog 25 #[.agg #[.int .i64 a0_0, .int .i64 a0_1, .slice A0_2 l0_2.length c0_2], .slice A1 l1.length c1, .int .i64 a2] w fun e w' => ∃ v0_ : Value, e = .returned (.tuple #[v0_, .int .i64 r2, .bool r3]) ∧ Kd.R (Kd.int .i64) 3 w' w.heap.size (fun _ => True) v0_ r1 ∧ Below w.heap.size w w' := by
 have hu29 := Try.underlying29
 have hu74 := Try.underlying74
 have HR0_2 := Aside0.mk hr0_2
 have HC0_2 := Aside0.mk hc0_2
 clear hr0_2 hc0_2
 have HR1 := Aside0.mk hr1
 have HC1 := Aside0.mk hc1
 clear hr1 hc1
 have HB := Aside0.mk (Below.refl w.heap.size w)
 have H : ((slices_ContainsFunc_RunJobs_1.f l1 a0_0 a0_1 l0_2).bind fun t219 => ((impl_PlanOk.f k a0_0 a0_1 l0_2).bind fun t220 => (if t220 = true then (if t219 = true then (impl_RunJobs.j0 k l1 a2 true a0_0 a0_1 l0_2) else (if (l1.length : Int) > 20 then (impl_RunJobs.j0 k l1 a2 true a0_0 a0_1 l0_2) else ((impl_in.f a2 0 5000).bind fun t221 => (impl_RunJobs.j0 k l1 a2 (!t221) a0_0 a0_1 l0_2)))) else (impl_RunJobs.j0 k l1 a2 true a0_0 a0_1 l0_2)))) = some (r1, r2, r3) := h
 clear h
 replace H := Option.bind_eq_some_iff.mp H
 obtain ⟨t219, A40, H⟩ := H
 replace H : ((impl_PlanOk.f k a0_0 a0_1 l0_2).bind fun t220 => (if t220 = true then (if t219 = true then (impl_RunJobs.j0 k l1 a2 true a0_0 a0_1 l0_2) else (if (l1.length : Int) > 20 then (impl_RunJobs.j0 k l1 a2 true a0_0 a0_1 l0_2) else ((impl_in.f a2 0 5000).bind fun t221 => (impl_RunJobs.j0 k l1 a2 (!t221) a0_0 a0_1 l0_2)))) else (impl_RunJobs.j0 k l1 a2 true a0_0 a0_1 l0_2))) = some (r1, r2, r3) := H
 have A4 := Aside0.mk A40
 clear A40
 have HC5 := Aside0.mk H
 clear H
 go_enter Try.func25, Try.ntmps25
 go_upto_region 2 with (first | ((with_reducible refine gate_dst (N := 3) rfl ?_); (try (refine gate_guard (by rfl) ?_; dsimp only)); refine box_event ?hg (N := 3) ?hd (cs := #[.int .i64 a0_0, .int .i64 a0_1, .slice A0_2 l0_2.length c0_2]) (t := 29) ?hr ?_; (case hd => rfl); (case hg => rfl); (case hr => first | (go_simp; done) | (go_simp; rfl)); intro gb218 hg w6 hbox hb; have n0_ := Aside0.mk (below_step (bl HB.out) hb); have n1_ := Aside0.mk (hbox); have n2_ := Aside0.mk ((by rw [hg]; exact (below_size (bl HB.out)) : w.heap.size ≤ gb218)); have n3_ := Aside0.mk ((by rw [hg]; exact (below_size (bl HB.out)) : w.heap.size ≤ gb218)); clear HB; have HB := n0_; have BK218 := n1_; have GW218 := n2_; have GE218 := n3_; clear n0_ n1_ n2_ n3_; clear hb hbox hg) | ((with_reducible refine gate_callee (f := 52) rfl ?_); refine goesL_ (some 23) rfl rfl Try.func52 (by kernel_rfl) rfl #[.slice A1 l1.length c1, .func (.func 53) #[] #[.pointer (some ⟨gb218, 0, none⟩)]] rfl (by (try simp only [am_]); first | done | rfl) ?_; (with_reducible refine (slices_ContainsFunc_RunJobs_1.calls _ _ l1 a0_0 a0_1 A0_2 c0_2 l0_2 t219 _ ?side1 ?side2 ?side3 ?side4 ?side5 A4.out).mono ?_); (case side1 => exact (bk BK218.out)); (case side2 => exact rc (Kd.C_below HR1.out HB.out)); (case side3 => exact HC1.out); (case side4 => exact rc (Kd.C_below HR0_2.out HB.out)); (case side5 => exact HC0_2.out); rintro e w7 ⟨rfl, hb⟩; refine ⟨_, rfl, ?_⟩; have n0_ := Aside0.mk (blk_below (bk BK218.out) hb); have n1_ := Aside0.mk (below_step (by repeat with_reducible first | exact bl HB.out | refine below_set ?_ GE218.out | refine bq ?_) hb); clear BK218; clear HB; have BK218 := n0_; have HB := n1_; clear n0_ n1_; (try clear hb); (try clear hb2); (try clear hk); (try clear hi)))
 (try simp only [Act.put, List.setIfInBounds_toArray, List.set_cons_zero, List.set_cons_succ])
 go_cut [39] (fun v39 wc => ∃ (kq : Nat) (x39_4 : Bool), v39 = .bool x39_4 ∧ Aside0 (impl_RunJobs.j0 kq l1 a2 x39_4 a0_0 a0_1 l0_2 = some (r1, r2, r3)) ∧ Aside0 (kq ≤ k) ∧ Aside0 (wc.heap[gb218]? = some (.cells #[.int .i64 a0_0, .int .i64 a0_1, (.slice A0_2 l0_2.length c0_2)] 29 (0, 0))) ∧ Aside0 (Below w.heap.size w wc))
 case first =>
  have H := HC5.out
  clear HC5
  replace H := Option.bind_eq_some_iff.mp H
  obtain ⟨t220, A80, H⟩ := H
  replace H : (if t220 = true then (if t219 = true then (impl_RunJobs.j0 k l1 a2 true a0_0 a0_1 l0_2) else (if (l1.length : Int) > 20 then (impl_RunJobs.j0 k l1 a2 true a0_0 a0_1 l0_2) else ((impl_in.f a2 0 5000).bind fun t221 => (impl_RunJobs.j0 k l1 a2 (!t221) a0_0 a0_1 l0_2)))) else (impl_RunJobs.j0 k l1 a2 true a0_0 a0_1 l0_2)) = some (r1, r2, r3) := H
  have A8 := Aside0.mk A80
  clear A80
  by_cases c9 : t220 = true
  ·
   subst c9
   have H1 : (if t219 = true then (impl_RunJobs.j0 k l1 a2 true a0_0 a0_1 l0_2) else (if (l1.length : Int) > 20 then (impl_RunJobs.j0 k l1 a2 true a0_0 a0_1 l0_2) else ((impl_in.f a2 0 5000).bind fun t221 => (impl_RunJobs.j0 k l1 a2 (!t221) a0_0 a0_1 l0_2)))) = some (r1, r2, r3) := by rw [if_pos rfl] at H; exact H
   clear H
   have H := H1
   clear H1
   by_cases c10 : t219 = true
   ·
    subst c10
    have H1 : (impl_RunJobs.j0 k l1 a2 true a0_0 a0_1 l0_2) = some (r1, r2, r3) := by rw [if_pos rfl] at H; exact H
    clear H
    have H := H1
    clear H1
    have H' := Aside0.mk H
    clear H
    have hcz11_0 := ck (v := .int .i64 a0_0) BK218.out 0 rfl
    have hcz11_1 := ck (v := .int .i64 a0_1) BK218.out 1 rfl
    have hcz11_2 := ck (v := .slice A0_2 l0_2.length c0_2) BK218.out 2 rfl
    have hfz11_0 := blk_frozen BK218.out 0
    have hfz11_1 := blk_frozen BK218.out 1
    have hfz11_2 := blk_frozen BK218.out 2
    go_wp2_with (first | ((with_reducible refine gate_callee (f := 12) rfl ?_); refine goesL_ (some 25) rfl rfl Try.func12 (by kernel_rfl) rfl #[.agg #[.int .i64 a0_0, .int .i64 a0_1, .slice A0_2 l0_2.length c0_2]] rfl (by (try simp only [am_]); first | done | rfl) ?_; (with_reducible refine (impl_PlanOk.calls k a0_0 a0_1 _ _ l0_2 true _ ?side1 ?side2 A8.out).mono ?_); (case side1 => exact rc (Kd.C_below HR0_2.out HB.out)); (case side2 => exact HC0_2.out); rintro e w12 ⟨rfl, hb⟩; refine ⟨_, rfl, ?_⟩; have n0_ := Aside0.mk (blk_below (bk BK218.out) hb); have n1_ := Aside0.mk (below_step (by repeat with_reducible first | exact bl HB.out | refine below_set ?_ GE218.out | refine bq ?_) hb); clear BK218; clear HB; have BK218 := n0_; have HB := n1_; clear n0_ n1_; (try clear hb); (try clear hb2); (try clear hk); (try clear hi)))
    go_meet
    case rel => exact ⟨_, (true), (by first | rfl | (simp; done) | (simp [*]; done)), H', ⟨by first | omega | exact Nat.le_refl _⟩, ⟨bk BK218.out⟩, ⟨by repeat with_reducible first | exact bl HB.out | refine below_set ?_ GE218.out | refine bq ?_⟩⟩
   ·
    replace c10 := Bool.eq_false_iff.mpr c10
    subst c10
    have H1 : (if (l1.length : Int) > 20 then (impl_RunJobs.j0 k l1 a2 true a0_0 a0_1 l0_2) else ((impl_in.f a2 0 5000).bind fun t221 => (impl_RunJobs.j0 k l1 a2 (!t221) a0_0 a0_1 l0_2))) = some (r1, r2, r3) := by rw [if_neg (show ¬ (false = true) by decide)] at H; exact H
    clear H
    have H := H1
    clear H1
    by_cases c13 : (l1.length : Int) > 20
    ·
     rw [if_pos c13] at H
     have c13b0 : decide (20 < (l1.length : Int)) = true := decide_eq_true c13
     have c13b1 : decide (20 < l1.length) = true := decide_eq_true (by omega)
     clear c13
     (first | rw [c13b0] | (simp only [i64_w, i32_w]; rw [c13b0]) | rw [c13b1] | skip)
     have H' := Aside0.mk H
     clear H
     have hcz14_0 := ck (v := .int .i64 a0_0) BK218.out 0 rfl
     have hcz14_1 := ck (v := .int .i64 a0_1) BK218.out 1 rfl
     have hcz14_2 := ck (v := .slice A0_2 l0_2.length c0_2) BK218.out 2 rfl
     have hfz14_0 := blk_frozen BK218.out 0
     have hfz14_1 := blk_frozen BK218.out 1
     have hfz14_2 := blk_frozen BK218.out 2
     go_wp2_with (first | ((with_reducible refine gate_callee (f := 12) rfl ?_); refine goesL_ (some 25) rfl rfl Try.func12 (by kernel_rfl) rfl #[.agg #[.int .i64 a0_0, .int .i64 a0_1, .slice A0_2 l0_2.length c0_2]] rfl (by (try simp only [am_]); first | done | rfl) ?_; (with_reducible refine (impl_PlanOk.calls k a0_0 a0_1 _ _ l0_2 true _ ?side1 ?side2 A8.out).mono ?_); (case side1 => exact rc (Kd.C_below HR0_2.out HB.out)); (case side2 => exact HC0_2.out); rintro e w15 ⟨rfl, hb⟩; refine ⟨_, rfl, ?_⟩; have n0_ := Aside0.mk (blk_below (bk BK218.out) hb); have n1_ := Aside0.mk (below_step (by repeat with_reducible first | exact bl HB.out | refine below_set ?_ GE218.out | refine bq ?_) hb); clear BK218; clear HB; have BK218 := n0_; have HB := n1_; clear n0_ n1_; (try clear hb); (try clear hb2); (try clear hk); (try clear hi)))
     go_meet
     case rel => exact ⟨_, (true), (by first | rfl | (simp; done) | (simp [*]; done)), H', ⟨by first | omega | exact Nat.le_refl _⟩, ⟨bk BK218.out⟩, ⟨by repeat with_reducible first | exact bl HB.out | refine below_set ?_ GE218.out | refine bq ?_⟩⟩
    ·
     rw [if_neg c13] at H
     have c13b0 : decide (20 < (l1.length : Int)) = false := decide_eq_false c13
     have c13b1 : decide (20 < l1.length) = false := decide_eq_false (by omega)
     clear c13
     (first | rw [c13b0] | (simp only [i64_w, i32_w]; rw [c13b0]) | rw [c13b1] | skip)
     replace H := Option.bind_eq_some_iff.mp H
     obtain ⟨t221, A160, H⟩ := H
     replace H : (impl_RunJobs.j0 k l1 a2 (!t221) a0_0 a0_1 l0_2) = some (r1, r2, r3) := H
     have A16 := Aside0.mk A160
     clear A160
     have H' := Aside0.mk H
     clear H
     have hcz17_0 := ck (v := .int .i64 a0_0) BK218.out 0 rfl
     have hcz17_1 := ck (v := .int .i64 a0_1) BK218.out 1 rfl
     have hcz17_2 := ck (v := .slice A0_2 l0_2.length c0_2) BK218.out 2 rfl
     have hfz17_0 := blk_frozen BK218.out 0
     have hfz17_1 := blk_frozen BK218.out 1
     have hfz17_2 := blk_frozen BK218.out 2
     go_wp2_with (first | ((with_reducible refine gate_callee (f := 12) rfl ?_); refine goesL_ (some 25) rfl rfl Try.func12 (by kernel_rfl) rfl #[.agg #[.int .i64 a0_0, .int .i64 a0_1, .slice A0_2 l0_2.length c0_2]] rfl (by (try simp only [am_]); first | done | rfl) ?_; (with_reducible refine (impl_PlanOk.calls k a0_0 a0_1 _ _ l0_2 true _ ?side1 ?side2 A8.out).mono ?_); (case side1 => exact rc (Kd.C_below HR0_2.out HB.out)); (case side2 => exact HC0_2.out); rintro e w18 ⟨rfl, hb⟩; refine ⟨_, rfl, ?_⟩; have n0_ := Aside0.mk (blk_below (bk BK218.out) hb); have n1_ := Aside0.mk (below_step (by repeat with_reducible first | exact bl HB.out | refine below_set ?_ GE218.out | refine bq ?_) hb); clear BK218; clear HB; have BK218 := n0_; have HB := n1_; clear n0_ n1_; (try clear hb); (try clear hb2); (try clear hk); (try clear hi)) | (go_at_call 38; (with_reducible refine (impl_in.calls a2 0 5000 t221 _ A16.out).mono ?_); rintro e w' ⟨rfl, ⟨nd, rfl⟩⟩))
     go_meet
     case rel => exact ⟨_, (!t221), (by first | rfl | (simp; done) | (simp [*]; done)), H', ⟨by first | omega | exact Nat.le_refl _⟩, ⟨bk BK218.out⟩, ⟨by repeat with_reducible first | exact bl HB.out | refine below_set ?_ GE218.out | refine bq ?_⟩⟩
  ·
   replace c9 := Bool.eq_false_iff.mpr c9
   subst c9
   have H1 : (impl_RunJobs.j0 k l1 a2 true a0_0 a0_1 l0_2) = some (r1, r2, r3) := by rw [if_neg (show ¬ (false = true) by decide)] at H; exact H
   clear H
   have H := H1
   clear H1
   have H' := Aside0.mk H
   clear H
   have hcz19_0 := ck (v := .int .i64 a0_0) BK218.out 0 rfl
   have hcz19_1 := ck (v := .int .i64 a0_1) BK218.out 1 rfl
   have hcz19_2 := ck (v := .slice A0_2 l0_2.length c0_2) BK218.out 2 rfl
   have hfz19_0 := blk_frozen BK218.out 0
   have hfz19_1 := blk_frozen BK218.out 1
   have hfz19_2 := blk_frozen BK218.out 2
   go_wp2_with (first | ((with_reducible refine gate_callee (f := 12) rfl ?_); refine goesL_ (some 25) rfl rfl Try.func12 (by kernel_rfl) rfl #[.agg #[.int .i64 a0_0, .int .i64 a0_1, .slice A0_2 l0_2.length c0_2]] rfl (by (try simp only [am_]); first | done | rfl) ?_; (with_reducible refine (impl_PlanOk.calls k a0_0 a0_1 _ _ l0_2 false _ ?side1 ?side2 A8.out).mono ?_); (case side1 => exact rc (Kd.C_below HR0_2.out HB.out)); (case side2 => exact HC0_2.out); rintro e w20 ⟨rfl, hb⟩; refine ⟨_, rfl, ?_⟩; have n0_ := Aside0.mk (blk_below (bk BK218.out) hb); have n1_ := Aside0.mk (below_step (by repeat with_reducible first | exact bl HB.out | refine below_set ?_ GE218.out | refine bq ?_) hb); clear BK218; clear HB; have BK218 := n0_; have HB := n1_; clear n0_ n1_; (try clear hb); (try clear hb2); (try clear hk); (try clear hi)))
   go_meet
   case rel => exact ⟨_, (true), (by first | rfl | (simp; done) | (simp [*]; done)), H', ⟨by first | omega | exact Nat.le_refl _⟩, ⟨bk BK218.out⟩, ⟨by repeat with_reducible first | exact bl HB.out | refine below_set ?_ GE218.out | refine bq ?_⟩⟩
 case rest =>
  clear HC5
  try clear c1
  try clear c2
  try clear p2
  try clear c9
  try clear c10
  try clear c12
  try clear c13
  try clear c13b0
  try clear c13b1
  try clear hcz11_0
  try clear hcz11_1
  try clear hcz11_2
  try clear hcz14_0
  try clear hcz14_1
  try clear hcz14_2
  try clear hcz17_0
  try clear hcz17_1
  try clear hcz17_2
  try clear hcz19_0
  try clear hcz19_1
  try clear hcz19_2
  try clear hfz11_0
  try clear hfz11_1
  try clear hfz11_2
  try clear hfz14_0
  try clear hfz14_1
  try clear hfz14_2
  try clear hfz17_0
  try clear hfz17_1
  try clear hfz17_2
  try clear hfz19_0
  try clear hfz19_1
  try clear hfz19_2
  obtain ⟨kq, x39_4, rfl, HA, HJ4, BK218, HB⟩ := hcut
  cases kq with
  | zero => exact absurd HA.out (by simp [impl_RunJobs.j0])
  | succ kj4 =>
   have H := HA.out
   clear HA
   simp only [impl_RunJobs.j0] at H
   by_cases c21 : x39_4 = true
   ·
    subst c21
    have H1 : (some (([] : List Int), 0, false)) = some (r1, r2, r3) := by rw [if_pos rfl] at H; exact H
    clear H
    have H := H1
    clear H1
    simp only [Option.some.injEq, Prod.mk.injEq] at H
    obtain ⟨rfl, rfl, rfl⟩ := H
    go_wp2
    go_ret3
    exact ⟨_, by first | rfl | (simp [errW_none, errW_some] <;> rfl) | (simp [*, errW_none, errW_some] <;> rfl), by first | exact Kd.R_nil _ _ _ _ _ | exact Kd.N_nil _ _ _ _ _ | exact Kd.V_nil _ _ _ _ _ | exact Kd.Q_nil _ _ _ _ _ | exact Kd.S_nil _ _ _ _ _, by repeat with_reducible first | exact bl HB.out | refine below_set ?_ GE218.out | refine bq ?_⟩
   ·
    replace c21 := Bool.eq_false_iff.mpr c21
    subst c21
    have H1 : (if 0 ≤ (l1.length : Int) then (if ((l1.length : Int) : Int).toNat ≤ 35184372088832 then (impl_RunJobs.l0 kj4 l1 (List.replicate ((l1.length : Int) : Int).toNat 0) (List.replicate ((l1.length : Int) : Int).toNat 0) (List.replicate ((l1.length : Int) : Int).toNat 0) 0 a2 0 a0_0 a0_1 l0_2) else (none)) else (none)) = some (r1, r2, r3) := by rw [if_neg (show ¬ (false = true) by decide)] at H; exact H
    clear H
    have H := H1
    clear H1
    by_cases c22 : 0 ≤ (l1.length : Int)
    ·
     rw [if_pos c22] at H
     have c22b0 := eq_true c22
     have c22b1 : decide (0 ≤ (l1.length : Int)) = true := decide_eq_true c22
     clear c22
     by_cases c23 : ((l1.length : Int) : Int).toNat ≤ 35184372088832
     ·
      rw [if_pos c23] at H
      have c23b0 := eq_true c23
      have c23b1 : decide (((l1.length : Int) : Int).toNat ≤ 35184372088832) = true := decide_eq_true c23
      clear c23
      obtain ⟨y222, hy222⟩ : ∃ y_ : List Int, y_ = (List.replicate ((l1.length : Int) : Int).toNat 0) := ⟨_, rfl⟩
      replace H : (impl_RunJobs.l0 kj4 l1 y222 (List.replicate ((l1.length : Int) : Int).toNat 0) (List.replicate ((l1.length : Int) : Int).toNat 0) 0 a2 0 a0_0 a0_1 l0_2) = some (r1, r2, r3) := by first | (rw [hy222]; with_reducible exact H) | (have H2_ := (Option.bind_some _ _).symm.trans H; rw [hy222]; with_reducible exact H2_) | (have H2_ := (Option.bind_some _ _).symm.trans H; with_reducible exact H2_) | with_reducible exact H | (rw [hy222]; exact H) | exact H
      have Ny222 := Aside0.mk hy222
      clear hy222
      obtain ⟨y225, hy225⟩ : ∃ y_ : List Int, y_ = (List.replicate ((l1.length : Int) : Int).toNat 0) := ⟨_, rfl⟩
      replace H : (impl_RunJobs.l0 kj4 l1 y222 y225 (List.replicate ((l1.length : Int) : Int).toNat 0) 0 a2 0 a0_0 a0_1 l0_2) = some (r1, r2, r3) := by first | (rw [hy225]; with_reducible exact H) | (have H2_ := (Option.bind_some _ _).symm.trans H; rw [hy225]; with_reducible exact H2_) | (have H2_ := (Option.bind_some _ _).symm.trans H; with_reducible exact H2_) | with_reducible exact H | (rw [hy225]; exact H) | exact H
      have Ny225 := Aside0.mk hy225
      clear hy225
      obtain ⟨y228, hy228⟩ : ∃ y_ : List Int, y_ = (List.replicate ((l1.length : Int) : Int).toNat 0) := ⟨_, rfl⟩
      replace H : (impl_RunJobs.l0 kj4 l1 y222 y225 y228 0 a2 0 a0_0 a0_1 l0_2) = some (r1, r2, r3) := by first | (rw [hy228]; with_reducible exact H) | (have H2_ := (Option.bind_some _ _).symm.trans H; rw [hy228]; with_reducible exact H2_) | (have H2_ := (Option.bind_some _ _).symm.trans H; with_reducible exact H2_) | with_reducible exact H | (rw [hy228]; exact H) | exact H
      have Ny228 := Aside0.mk hy228
      clear hy228
      have H' := Aside0.mk H
      clear H
      try go_wp2
      have n0_ := Aside0.mk (blk_drew BK218.out)
      have n1_ := Aside0.mk (below_drew1 HB.out)
      clear BK218
      clear HB
      have BK218 := n0_
      have HB := n1_
      clear n0_ n1_
      refine start_ (n := 13) (S := fun w' => True) (ds := []) m0_13 (by kernel_rfl) rfl rfl trivial (fun hHeld => ?_); refine with_tabW impl_RunJobs.tab4 impl_RunJobs.bits4 (fun HT_ HW_ => ?_)
      generalize wc.drew = w24 at BK218 HB hHeld ⊢
      refine pp_ HT_.out 0 40 m1_13 rfl rfl (by kernel_rfl) (by rfl) (by intro w'; go_simp; with_reducible rfl) (by simp only [sp_]; rfl) (fun _ _ _ h => h) ?_
      refine pp_ HT_.out 1 41 m2_13 rfl rfl (by kernel_rfl) (by rfl) (by intro w'; go_simp; with_reducible rfl) (by simp only [sp_]; rfl) (fun _ _ _ h => h) ?_
      refine pp_ HT_.out 3 43 n13 rfl rfl (by kernel_rfl) (by rfl) (by intro w'; go_simp; with_reducible rfl) (by simp only [sp_]; rfl) (fun _ _ _ h => h) ?_
      refine pp_ HT_.out 4 44 n14 rfl rfl (by kernel_rfl) (by rfl) (by intro w'; go_simp; with_reducible rfl) (by simp only [sp_]; rfl) (fun _ _ _ h => h) ?_
      refine pp_ HT_.out 6 46 n15 rfl rfl (by kernel_rfl) (by rfl) (by intro w'; go_simp; with_reducible rfl) (by simp only [sp_]; rfl) (fun _ _ _ h => h) ?_
      refine pp_ HT_.out 7 47 n16 rfl rfl (by kernel_rfl) (by rfl) (by intro w'; go_simp; with_reducible rfl) (by simp only [sp_]; rfl) (fun _ _ _ h => h) ?_
      refine join_ (σ := Value × Value × Value) 2 m11_13 (fun s_ => [(42, s_.1), (45, s_.2.1), (48, s_.2.2), (10, s_.1), (11, s_.2.1)]) (fun s_ w' => (Kd.R (Kd.int .i64) 3 w' w.heap.size (fun k_ => some k_ ≠ (s_.2.1 : Value).ownBlock ∧ some k_ ≠ (s_.2.2 : Value).ownBlock) s_.1 y222) ∧ (Kd.R (Kd.int .i64) 3 w' w.heap.size (fun k_ => some k_ ≠ (s_.1 : Value).ownBlock ∧ some k_ ≠ (s_.2.2 : Value).ownBlock) s_.2.1 y225) ∧ (Kd.R (Kd.int .i64) 3 w' w.heap.size (fun k_ => some k_ ≠ (s_.1 : Value).ownBlock ∧ some k_ ≠ (s_.2.1 : Value).ownBlock) s_.2.2 y228) ∧ (w'.heap[gb218]? = some (.cells #[.int .i64 a0_0, .int .i64 a0_1, .slice A0_2 l0_2.length c0_2] 29 (0, 0))) ∧ (Below w.heap.size w w')) ?_ ?_
      rotate_left
      ·
       intro hJ2_5_8
       refine join_ (σ := Value × Value) 3 n20 (fun s_ => [(42, s_.1), (45, s_.2), (10, s_.1), (11, s_.2)]) (fun s_ w' => (Kd.R (Kd.int .i64) 3 w' w.heap.size (fun k_ => some k_ ≠ (s_.2 : Value).ownBlock) s_.1 y222) ∧ (Kd.R (Kd.int .i64) 3 w' w.heap.size (fun k_ => some k_ ≠ (s_.1 : Value).ownBlock) s_.2 y225) ∧ (w'.heap[gb218]? = some (.cells #[.int .i64 a0_0, .int .i64 a0_1, .slice A0_2 l0_2.length c0_2] 29 (0, 0))) ∧ (Below w.heap.size w w')) ?_ ?_
       rotate_left
       ·
        intro hJ2_5
        refine join_ (σ := Value × Value) 4 n18 (fun s_ => [(42, s_.1), (48, s_.2), (10, s_.1)]) (fun s_ w' => (Kd.R (Kd.int .i64) 3 w' w.heap.size (fun k_ => some k_ ≠ (s_.2 : Value).ownBlock) s_.1 y222) ∧ (Kd.R (Kd.int .i64) 3 w' w.heap.size (fun k_ => some k_ ≠ (s_.1 : Value).ownBlock) s_.2 y228) ∧ (w'.heap[gb218]? = some (.cells #[.int .i64 a0_0, .int .i64 a0_1, .slice A0_2 l0_2.length c0_2] 29 (0, 0))) ∧ (Below w.heap.size w w')) ?_ ?_
        rotate_left
        ·
         intro hJ2_8
         refine join_ (σ := Value × Value) 5 n55 (fun s_ => [(45, s_.1), (48, s_.2)]) (fun s_ w' => (Kd.R (Kd.int .i64) 3 w' w.heap.size (fun k_ => some k_ ≠ (s_.2 : Value).ownBlock) s_.1 y225) ∧ (Kd.R (Kd.int .i64) 3 w' w.heap.size (fun k_ => some k_ ≠ (s_.1 : Value).ownBlock) s_.2 y228) ∧ (w'.heap[gb218]? = some (.cells #[.int .i64 a0_0, .int .i64 a0_1, .slice A0_2 l0_2.length c0_2] 29 (0, 0))) ∧ (Below w.heap.size w w')) ?_ ?_
         rotate_left
         ·
          intro hJ5_8
          refine join_ (σ := Value) 5 n17 (fun s_ => [(42, s_), (10, s_)]) (fun s_ w' => (Kd.R (Kd.int .i64) 3 w' w.heap.size (fun _ => True) s_ y222) ∧ (w'.heap[gb218]? = some (.cells #[.int .i64 a0_0, .int .i64 a0_1, .slice A0_2 l0_2.length c0_2] 29 (0, 0))) ∧ (Below w.heap.size w w')) ?_ ?_
          rotate_left
          ·
           intro hJ2
           refine join_ (σ := Value) 6 n56 (fun s_ => [(45, s_)]) (fun s_ w' => (Kd.R (Kd.int .i64) 3 w' w.heap.size (fun _ => True) s_ y225) ∧ (w'.heap[gb218]? = some (.cells #[.int .i64 a0_0, .int .i64 a0_1, .slice A0_2 l0_2.length c0_2] 29 (0, 0))) ∧ (Below w.heap.size w w')) ?_ ?_
           rotate_left
           ·
            intro hJ5
            refine join_ (σ := Value) 6 n57 (fun s_ => [(48, s_)]) (fun s_ w' => (Kd.R (Kd.int .i64) 3 w' w.heap.size (fun _ => True) s_ y228) ∧ (w'.heap[gb218]? = some (.cells #[.int .i64 a0_0, .int .i64 a0_1, .slice A0_2 l0_2.length c0_2] 29 (0, 0))) ∧ (Below w.heap.size w w')) ?_ ?_
            rotate_left
            ·
             intro hJ8
             refine three_ (i := 2) (j := 5) (k := 8) (Ni := some 42) (Nj := some 45) (Nk := some 48) n58 n56 n57 rfl rfl rfl rfl rfl rfl (three_of HT_.out (by kernel_rfl)) (by decide) (by decide) (by decide) (fun K hK => ?_) (fun K hK => ?_) (fun K hK => ?_)
             ·
              skip
              refine Kd.R_make_step (Kd.int .i64) _ 3 (by rfl) (N := 42) rfl 44 _ _ rfl (l1.length : Int) rfl rfl Try.underlying44 (.int .i64 0) 8 info3 rfl (by decide) (by omega) 0 (ok := fun _ => True) (okp := fun _ => True) rfl (fun _ hk => hk) trivial (of_decide_eq_true (by first | (with_reducible assumption) | assumption)) (Nat.le_trans (Nat.mul_le_mul_right _ (of_decide_eq_true (by first | (with_reducible assumption) | assumption) : (l1.length : Int).toNat ≤ 35184372088832)) (by omega)) (Below.refl _ _) (Nat.le_refl _) ?_
              intro v223 w25 ho26 hb hg_ hnew_
              clear hg_ hnew_
              (first | rw [← Ny222.out] at ho26 | (simp only [Int.reduceToNat] at ho26; rw [← Ny222.out] at ho26))
              have n0_ := Aside0.mk (Kd.R_lower ho26 (below_size (by repeat with_reducible first | exact bl HB.out | refine below_set ?_ GE218.out | refine bq ?_)))
              have n1_ := Aside0.mk (blk_below (bk BK218.out) hb)
              have n2_ := Aside0.mk (below_step (by repeat with_reducible first | exact bl HB.out | refine below_set ?_ GE218.out | refine bq ?_) hb)
              clear BK218
              clear HB
              have HO224 := n0_
              have BK218 := n1_
              have HB := n2_
              clear n0_ n1_ n2_
              clear hb ho26
              refine hK.out _ _ trivial (fun hHeld => ?_)
              clear hK K
              refine norm_ (a' := ?_) ?_ ?_
              rotate_left
              ·
               show Act.put _ (some 42) _ = _
               simp only [sp_]
               rfl
              refine pp_ HT_.out 9 10 n17 rfl rfl (by kernel_rfl) (by rfl) (by intro w'; go_simp; with_reducible rfl) (by simp only [sp_]; rfl) (fun _ _ _ h => h) ?_
              exact norm_ (by first | (simp only [putAll, Act.put, List.setIfInBounds_toArray, List.set_cons_zero, List.set_cons_succ]; done) | (simp only [putAll, Act.put, List.setIfInBounds_toArray, List.set_cons_zero, List.set_cons_succ]; rfl)) (hJ2 (v223) _ ⟨(rl HO224.out), (bk BK218.out), (by repeat with_reducible first | exact bl HB.out | refine below_set ?_ GE218.out | refine bq ?_)⟩)
             ·
              skip
              refine Kd.R_make_step (Kd.int .i64) _ 3 (by rfl) (N := 45) rfl 44 _ _ rfl (l1.length : Int) rfl rfl Try.underlying44 (.int .i64 0) 8 info3 rfl (by decide) (by omega) 0 (ok := fun _ => True) (okp := fun _ => True) rfl (fun _ hk => hk) trivial (of_decide_eq_true (by first | (with_reducible assumption) | assumption)) (Nat.le_trans (Nat.mul_le_mul_right _ (of_decide_eq_true (by first | (with_reducible assumption) | assumption) : (l1.length : Int).toNat ≤ 35184372088832)) (by omega)) (Below.refl _ _) (Nat.le_refl _) ?_
              intro v226 w25 ho26 hb hg_ hnew_
              clear hg_ hnew_
              (first | rw [← Ny225.out] at ho26 | (simp only [Int.reduceToNat] at ho26; rw [← Ny225.out] at ho26))
              have n0_ := Aside0.mk (Kd.R_lower ho26 (below_size (by repeat with_reducible first | exact bl HB.out | refine below_set ?_ GE218.out | refine bq ?_)))
              have n1_ := Aside0.mk (blk_below (bk BK218.out) hb)
              have n2_ := Aside0.mk (below_step (by repeat with_reducible first | exact bl HB.out | refine below_set ?_ GE218.out | refine bq ?_) hb)
              clear BK218
              clear HB
              have HO227 := n0_
              have BK218 := n1_
              have HB := n2_
              clear n0_ n1_ n2_
              clear hb ho26
              refine hK.out _ _ trivial (fun hHeld => ?_)
              clear hK K
              refine norm_ (a' := ?_) ?_ ?_
              rotate_left
              ·
               show Act.put _ (some 45) _ = _
               simp only [sp_]
               rfl
              exact norm_ (by first | (simp only [putAll, Act.put, List.setIfInBounds_toArray, List.set_cons_zero, List.set_cons_succ]; done) | (simp only [putAll, Act.put, List.setIfInBounds_toArray, List.set_cons_zero, List.set_cons_succ]; rfl)) (hJ5 (v226) _ ⟨(rl HO227.out), (bk BK218.out), (by repeat with_reducible first | exact bl HB.out | refine below_set ?_ GE218.out | refine bq ?_)⟩)
             ·
              skip
              refine Kd.R_make_step (Kd.int .i64) _ 3 (by rfl) (N := 48) rfl 44 _ _ rfl (l1.length : Int) rfl rfl Try.underlying44 (.int .i64 0) 8 info3 rfl (by decide) (by omega) 0 (ok := fun _ => True) (okp := fun _ => True) rfl (fun _ hk => hk) trivial (of_decide_eq_true (by first | (with_reducible assumption) | assumption)) (Nat.le_trans (Nat.mul_le_mul_right _ (of_decide_eq_true (by first | (with_reducible assumption) | assumption) : (l1.length : Int).toNat ≤ 35184372088832)) (by omega)) (Below.refl _ _) (Nat.le_refl _) ?_
              intro v229 w25 ho26 hb hg_ hnew_
              clear hg_ hnew_
              (first | rw [← Ny228.out] at ho26 | (simp only [Int.reduceToNat] at ho26; rw [← Ny228.out] at ho26))
              have n0_ := Aside0.mk (Kd.R_lower ho26 (below_size (by repeat with_reducible first | exact bl HB.out | refine below_set ?_ GE218.out | refine bq ?_)))
              have n1_ := Aside0.mk (blk_below (bk BK218.out) hb)
              have n2_ := Aside0.mk (below_step (by repeat with_reducible first | exact bl HB.out | refine below_set ?_ GE218.out | refine bq ?_) hb)
              clear BK218
              clear HB
              have HO230 := n0_
              have BK218 := n1_
              have HB := n2_
              clear n0_ n1_ n2_
              clear hb ho26
              refine hK.out _ _ trivial (fun hHeld => ?_)
              clear hK K
              refine norm_ (a' := ?_) ?_ ?_
              rotate_left
              ·
               show Act.put _ (some 48) _ = _
               simp only [sp_]
               rfl
              exact norm_ (by first | (simp only [putAll, Act.put, List.setIfInBounds_toArray, List.set_cons_zero, List.set_cons_succ]; done) | (simp only [putAll, Act.put, List.setIfInBounds_toArray, List.set_cons_zero, List.set_cons_succ]; rfl)) (hJ8 (v229) _ ⟨(rl HO230.out), (bk BK218.out), (by repeat with_reducible first | exact bl HB.out | refine below_set ?_ GE218.out | refine bq ?_)⟩)
            ·
             skip
             rintro v229 w27 ⟨h0_, h1_, h2_⟩
             have n0_ : Aside0 (Kd.R (Kd.int .i64) 3 w27 w.heap.size (fun _ => True) v229 y228) := ⟨h0_⟩
             have n1_ : Aside0 (w27.heap[gb218]? = some (.cells #[.int .i64 a0_0, .int .i64 a0_1, .slice A0_2 l0_2.length c0_2] 29 (0, 0))) := ⟨h1_⟩
             have n2_ : Aside0 (Below w.heap.size w w27) := ⟨h2_⟩
             clear BK218
             clear HB
             clear h0_ h1_ h2_
             have HO230 := n0_
             have BK218 := n1_
             have HB := n2_
             clear n0_ n1_ n2_
             have hHeld := trivial
             refine norm_ (a' := ?_) ?_ ?_
             rotate_left
             ·
              simp only [putAll, Act.put, List.setIfInBounds_toArray, List.set_cons_zero, List.set_cons_succ]
              rfl
             refine two_ (i := 2) (j := 5) (Ni := some 42) (Nj := some 45) n59 n55 rfl rfl rfl rfl (two_of HT_.out (by kernel_rfl)) (by decide) (by decide) (fun K hK => ?_) (fun K hK => ?_)
             ·
              skip
              refine Kd.R_make_step (Kd.int .i64) _ 3 (by rfl) (N := 42) rfl 44 _ _ rfl (l1.length : Int) rfl rfl Try.underlying44 (.int .i64 0) 8 info3 rfl (by decide) (by omega) 0 (ok := fun _ => True) (okp := fun _ => True) rfl (fun _ hk => hk) trivial (of_decide_eq_true (by first | (with_reducible assumption) | assumption)) (Nat.le_trans (Nat.mul_le_mul_right _ (of_decide_eq_true (by first | (with_reducible assumption) | assumption) : (l1.length : Int).toNat ≤ 35184372088832)) (by omega)) (Below.refl _ _) (Nat.le_refl _) ?_
              intro v223 w28 ho29 hb hg_ hnew_
              clear hg_ hnew_
              (first | rw [← Ny222.out] at ho29 | (simp only [Int.reduceToNat] at ho29; rw [← Ny222.out] at ho29))
              have n0_ := Aside0.mk (Kd.R_elder' (rl HO230.out) (Kd.R_base ho29) hb)
              have n1_ := Aside0.mk (Kd.R_lower (Kd.R_new' ho29 (Kd.R_lt (by (repeat apply rl1); exact HO230.out))) (below_size (by repeat with_reducible first | exact bl HB.out | refine below_set ?_ GE218.out | refine bq ?_)))
              have n2_ := Aside0.mk (blk_below (bk BK218.out) hb)
              have n3_ := Aside0.mk (below_step (by repeat with_reducible first | exact bl HB.out | refine below_set ?_ GE218.out | refine bq ?_) hb)
              clear HO230
              clear BK218
              clear HB
              have HO230 := n0_
              have HO224 := n1_
              have BK218 := n2_
              have HB := n3_
              clear n0_ n1_ n2_ n3_
              clear hb ho29
              refine hK.out _ _ trivial (fun hHeld => ?_)
              clear hK K
              refine norm_ (a' := ?_) ?_ ?_
              rotate_left
              ·
               show Act.put _ (some 42) _ = _
               simp only [sp_]
               rfl
              refine pp_ HT_.out 9 10 n18 rfl rfl (by kernel_rfl) (by rfl) (by intro w'; go_simp; with_reducible rfl) (by simp only [sp_]; rfl) (fun _ _ _ h => h) ?_
              exact norm_ (by first | (simp only [putAll, Act.put, List.setIfInBounds_toArray, List.set_cons_zero, List.set_cons_succ]; done) | (simp only [putAll, Act.put, List.setIfInBounds_toArray, List.set_cons_zero, List.set_cons_succ]; rfl)) (hJ2_8 (v223, v229) _ ⟨(by (repeat apply rl1); exact Kd.R_mono HO224.out (fun _ hk => hk.2)), (by (repeat apply rl1); exact Kd.R_mono HO230.out (fun _ hk => hk.2)), (bk BK218.out), (by repeat with_reducible first | exact bl HB.out | refine below_set ?_ GE218.out | refine bq ?_)⟩)
             ·
              skip
              refine Kd.R_make_step (Kd.int .i64) _ 3 (by rfl) (N := 45) rfl 44 _ _ rfl (l1.length : Int) rfl rfl Try.underlying44 (.int .i64 0) 8 info3 rfl (by decide) (by omega) 0 (ok := fun _ => True) (okp := fun _ => True) rfl (fun _ hk => hk) trivial (of_decide_eq_true (by first | (with_reducible assumption) | assumption)) (Nat.le_trans (Nat.mul_le_mul_right _ (of_decide_eq_true (by first | (with_reducible assumption) | assumption) : (l1.length : Int).toNat ≤ 35184372088832)) (by omega)) (Below.refl _ _) (Nat.le_refl _) ?_
              intro v226 w28 ho29 hb hg_ hnew_
              clear hg_ hnew_
              (first | rw [← Ny225.out] at ho29 | (simp only [Int.reduceToNat] at ho29; rw [← Ny225.out] at ho29))
              have n0_ := Aside0.mk (Kd.R_elder' (rl HO230.out) (Kd.R_base ho29) hb)
              have n1_ := Aside0.mk (Kd.R_lower (Kd.R_new' ho29 (Kd.R_lt (by (repeat apply rl1); exact HO230.out))) (below_size (by repeat with_reducible first | exact bl HB.out | refine below_set ?_ GE218.out | refine bq ?_)))
              have n2_ := Aside0.mk (blk_below (bk BK218.out) hb)
              have n3_ := Aside0.mk (below_step (by repeat with_reducible first | exact bl HB.out | refine below_set ?_ GE218.out | refine bq ?_) hb)
              clear HO230
              clear BK218
              clear HB
              have HO230 := n0_
              have HO227 := n1_
              have BK218 := n2_
              have HB := n3_
              clear n0_ n1_ n2_ n3_
              clear hb ho29
              refine hK.out _ _ trivial (fun hHeld => ?_)
              clear hK K
              refine norm_ (a' := ?_) ?_ ?_
              rotate_left
              ·
               show Act.put _ (some 45) _ = _
               simp only [sp_]
               rfl
              exact norm_ (by first | (simp only [putAll, Act.put, List.setIfInBounds_toArray, List.set_cons_zero, List.set_cons_succ]; done) | (simp only [putAll, Act.put, List.setIfInBounds_toArray, List.set_cons_zero, List.set_cons_succ]; rfl)) (hJ5_8 (v226, v229) _ ⟨(by (repeat apply rl1); exact Kd.R_mono HO227.out (fun _ hk => hk.2)), (by (repeat apply rl1); exact Kd.R_mono HO230.out (fun _ hk => hk.2)), (bk BK218.out), (by repeat with_reducible first | exact bl HB.out | refine below_set ?_ GE218.out | refine bq ?_)⟩)
           ·
            skip
            rintro v226 w27 ⟨h0_, h1_, h2_⟩
            have n0_ : Aside0 (Kd.R (Kd.int .i64) 3 w27 w.heap.size (fun _ => True) v226 y225) := ⟨h0_⟩
            have n1_ : Aside0 (w27.heap[gb218]? = some (.cells #[.int .i64 a0_0, .int .i64 a0_1, .slice A0_2 l0_2.length c0_2] 29 (0, 0))) := ⟨h1_⟩
            have n2_ : Aside0 (Below w.heap.size w w27) := ⟨h2_⟩
            clear BK218
            clear HB
            clear h0_ h1_ h2_
            have HO227 := n0_
            have BK218 := n1_
            have HB := n2_
            clear n0_ n1_ n2_
            have hHeld := trivial
            refine norm_ (a' := ?_) ?_ ?_
            rotate_left
            ·
             simp only [putAll, Act.put, List.setIfInBounds_toArray, List.set_cons_zero, List.set_cons_succ]
             rfl
            refine two_ (i := 2) (j := 8) (Ni := some 42) (Nj := some 48) m8_13 n55 rfl rfl rfl rfl (two_of HT_.out (by kernel_rfl)) (by decide) (by decide) (fun K hK => ?_) (fun K hK => ?_)
            ·
             skip
             refine Kd.R_make_step (Kd.int .i64) _ 3 (by rfl) (N := 42) rfl 44 _ _ rfl (l1.length : Int) rfl rfl Try.underlying44 (.int .i64 0) 8 info3 rfl (by decide) (by omega) 0 (ok := fun _ => True) (okp := fun _ => True) rfl (fun _ hk => hk) trivial (of_decide_eq_true (by first | (with_reducible assumption) | assumption)) (Nat.le_trans (Nat.mul_le_mul_right _ (of_decide_eq_true (by first | (with_reducible assumption) | assumption) : (l1.length : Int).toNat ≤ 35184372088832)) (by omega)) (Below.refl _ _) (Nat.le_refl _) ?_
             intro v223 w28 ho29 hb hg_ hnew_
             clear hg_ hnew_
             (first | rw [← Ny222.out] at ho29 | (simp only [Int.reduceToNat] at ho29; rw [← Ny222.out] at ho29))
             have n0_ := Aside0.mk (Kd.R_elder' (rl HO227.out) (Kd.R_base ho29) hb)
             have n1_ := Aside0.mk (Kd.R_lower (Kd.R_new' ho29 (Kd.R_lt (by (repeat apply rl1); exact HO227.out))) (below_size (by repeat with_reducible first | exact bl HB.out | refine below_set ?_ GE218.out | refine bq ?_)))
             have n2_ := Aside0.mk (blk_below (bk BK218.out) hb)
             have n3_ := Aside0.mk (below_step (by repeat with_reducible first | exact bl HB.out | refine below_set ?_ GE218.out | refine bq ?_) hb)
             clear HO227
             clear BK218
             clear HB
             have HO227 := n0_
             have HO224 := n1_
             have BK218 := n2_
             have HB := n3_
             clear n0_ n1_ n2_ n3_
             clear hb ho29
             refine hK.out _ _ trivial (fun hHeld => ?_)
             clear hK K
             refine norm_ (a' := ?_) ?_ ?_
             rotate_left
             ·
              show Act.put _ (some 42) _ = _
              simp only [sp_]
              rfl
             refine pp_ HT_.out 9 10 n19 rfl rfl (by kernel_rfl) (by rfl) (by intro w'; go_simp; with_reducible rfl) (by simp only [sp_]; rfl) (fun _ _ _ h => h) ?_
             refine pp_ HT_.out 10 11 n20 rfl rfl (by kernel_rfl) (by rfl) (by intro w'; go_simp; with_reducible rfl) (by simp only [sp_]; rfl) (fun _ _ _ h => h) ?_
             exact norm_ (by first | (simp only [putAll, Act.put, List.setIfInBounds_toArray, List.set_cons_zero, List.set_cons_succ]; done) | (simp only [putAll, Act.put, List.setIfInBounds_toArray, List.set_cons_zero, List.set_cons_succ]; rfl)) (hJ2_5 (v223, v226) _ ⟨(by (repeat apply rl1); exact Kd.R_mono HO224.out (fun _ hk => hk.2)), (by (repeat apply rl1); exact Kd.R_mono HO227.out (fun _ hk => hk.2)), (bk BK218.out), (by repeat with_reducible first | exact bl HB.out | refine below_set ?_ GE218.out | refine bq ?_)⟩)
            ·
             skip
             refine Kd.R_make_step (Kd.int .i64) _ 3 (by rfl) (N := 48) rfl 44 _ _ rfl (l1.length : Int) rfl rfl Try.underlying44 (.int .i64 0) 8 info3 rfl (by decide) (by omega) 0 (ok := fun _ => True) (okp := fun _ => True) rfl (fun _ hk => hk) trivial (of_decide_eq_true (by first | (with_reducible assumption) | assumption)) (Nat.le_trans (Nat.mul_le_mul_right _ (of_decide_eq_true (by first | (with_reducible assumption) | assumption) : (l1.length : Int).toNat ≤ 35184372088832)) (by omega)) (Below.refl _ _) (Nat.le_refl _) ?_
             intro v229 w28 ho29 hb hg_ hnew_
             clear hg_ hnew_
             (first | rw [← Ny228.out] at ho29 | (simp only [Int.reduceToNat] at ho29; rw [← Ny228.out] at ho29))
             have n0_ := Aside0.mk (Kd.R_elder' (rl HO227.out) (Kd.R_base ho29) hb)
             have n1_ := Aside0.mk (Kd.R_lower (Kd.R_new' ho29 (Kd.R_lt (by (repeat apply rl1); exact HO227.out))) (below_size (by repeat with_reducible first | exact bl HB.out | refine below_set ?_ GE218.out | refine bq ?_)))
             have n2_ := Aside0.mk (blk_below (bk BK218.out) hb)
             have n3_ := Aside0.mk (below_step (by repeat with_reducible first | exact bl HB.out | refine below_set ?_ GE218.out | refine bq ?_) hb)
             clear HO227
             clear BK218
             clear HB
             have HO227 := n0_
             have HO230 := n1_
             have BK218 := n2_
             have HB := n3_
             clear n0_ n1_ n2_ n3_
             clear hb ho29
             refine hK.out _ _ trivial (fun hHeld => ?_)
             clear hK K
             refine norm_ (a' := ?_) ?_ ?_
             rotate_left
             ·
              show Act.put _ (some 48) _ = _
              simp only [sp_]
              rfl
             exact norm_ (by first | (simp only [putAll, Act.put, List.setIfInBounds_toArray, List.set_cons_zero, List.set_cons_succ]; done) | (simp only [putAll, Act.put, List.setIfInBounds_toArray, List.set_cons_zero, List.set_cons_succ]; rfl)) (hJ5_8 (v226, v229) _ ⟨(by (repeat apply rl1); exact Kd.R_mono HO227.out (fun _ hk => hk.2)), (by (repeat apply rl1); exact Kd.R_mono HO230.out (fun _ hk => hk.2)), (bk BK218.out), (by repeat with_reducible first | exact bl HB.out | refine below_set ?_ GE218.out | refine bq ?_)⟩)
          ·
           skip
           rintro v223 w27 ⟨h0_, h1_, h2_⟩
           have n0_ : Aside0 (Kd.R (Kd.int .i64) 3 w27 w.heap.size (fun _ => True) v223 y222) := ⟨h0_⟩
           have n1_ : Aside0 (w27.heap[gb218]? = some (.cells #[.int .i64 a0_0, .int .i64 a0_1, .slice A0_2 l0_2.length c0_2] 29 (0, 0))) := ⟨h1_⟩
           have n2_ : Aside0 (Below w.heap.size w w27) := ⟨h2_⟩
           clear BK218
           clear HB
           clear h0_ h1_ h2_
           have HO224 := n0_
           have BK218 := n1_
           have HB := n2_
           clear n0_ n1_ n2_
           have hHeld := trivial
           refine norm_ (a' := ?_) ?_ ?_
           rotate_left
           ·
            simp only [putAll, Act.put, List.setIfInBounds_toArray, List.set_cons_zero, List.set_cons_succ]
            rfl
           refine two_ (i := 5) (j := 8) (Ni := some 45) (Nj := some 48) n19 n18 rfl rfl rfl rfl (two_of HT_.out (by kernel_rfl)) (by decide) (by decide) (fun K hK => ?_) (fun K hK => ?_)
           ·
            skip
            refine Kd.R_make_step (Kd.int .i64) _ 3 (by rfl) (N := 45) rfl 44 _ _ rfl (l1.length : Int) rfl rfl Try.underlying44 (.int .i64 0) 8 info3 rfl (by decide) (by omega) 0 (ok := fun _ => True) (okp := fun _ => True) rfl (fun _ hk => hk) trivial (of_decide_eq_true (by first | (with_reducible assumption) | assumption)) (Nat.le_trans (Nat.mul_le_mul_right _ (of_decide_eq_true (by first | (with_reducible assumption) | assumption) : (l1.length : Int).toNat ≤ 35184372088832)) (by omega)) (Below.refl _ _) (Nat.le_refl _) ?_
            intro v226 w28 ho29 hb hg_ hnew_
            clear hg_ hnew_
            (first | rw [← Ny225.out] at ho29 | (simp only [Int.reduceToNat] at ho29; rw [← Ny225.out] at ho29))
            have n0_ := Aside0.mk (Kd.R_elder' (rl HO224.out) (Kd.R_base ho29) hb)
            have n1_ := Aside0.mk (Kd.R_lower (Kd.R_new' ho29 (Kd.R_lt (by (repeat apply rl1); exact HO224.out))) (below_size (by repeat with_reducible first | exact bl HB.out | refine below_set ?_ GE218.out | refine bq ?_)))
            have n2_ := Aside0.mk (blk_below (bk BK218.out) hb)
            have n3_ := Aside0.mk (below_step (by repeat with_reducible first | exact bl HB.out | refine below_set ?_ GE218.out | refine bq ?_) hb)
            clear HO224
            clear BK218
            clear HB
            have HO224 := n0_
            have HO227 := n1_
            have BK218 := n2_
            have HB := n3_
            clear n0_ n1_ n2_ n3_
            clear hb ho29
            refine hK.out _ _ trivial (fun hHeld => ?_)
            clear hK K
            refine norm_ (a' := ?_) ?_ ?_
            rotate_left
            ·
             show Act.put _ (some 45) _ = _
             simp only [sp_]
             rfl
            refine pp_ HT_.out 10 11 n20 rfl rfl (by kernel_rfl) (by rfl) (by intro w'; go_simp; with_reducible rfl) (by simp only [sp_]; rfl) (fun _ _ _ h => h) ?_
            exact norm_ (by first | (simp only [putAll, Act.put, List.setIfInBounds_toArray, List.set_cons_zero, List.set_cons_succ]; done) | (simp only [putAll, Act.put, List.setIfInBounds_toArray, List.set_cons_zero, List.set_cons_succ]; rfl)) (hJ2_5 (v223, v226) _ ⟨(by (repeat apply rl1); exact Kd.R_mono HO224.out (fun _ hk => hk.2)), (by (repeat apply rl1); exact Kd.R_mono HO227.out (fun _ hk => hk.2)), (bk BK218.out), (by repeat with_reducible first | exact bl HB.out | refine below_set ?_ GE218.out | refine bq ?_)⟩)
           ·
            skip
            refine Kd.R_make_step (Kd.int .i64) _ 3 (by rfl) (N := 48) rfl 44 _ _ rfl (l1.length : Int) rfl rfl Try.underlying44 (.int .i64 0) 8 info3 rfl (by decide) (by omega) 0 (ok := fun _ => True) (okp := fun _ => True) rfl (fun _ hk => hk) trivial (of_decide_eq_true (by first | (with_reducible assumption) | assumption)) (Nat.le_trans (Nat.mul_le_mul_right _ (of_decide_eq_true (by first | (with_reducible assumption) | assumption) : (l1.length : Int).toNat ≤ 35184372088832)) (by omega)) (Below.refl _ _) (Nat.le_refl _) ?_
            intro v229 w28 ho29 hb hg_ hnew_
            clear hg_ hnew_
            (first | rw [← Ny228.out] at ho29 | (simp only [Int.reduceToNat] at ho29; rw [← Ny228.out] at ho29))
            have n0_ := Aside0.mk (Kd.R_elder' (rl HO224.out) (Kd.R_base ho29) hb)
            have n1_ := Aside0.mk (Kd.R_lower (Kd.R_new' ho29 (Kd.R_lt (by (repeat apply rl1); exact HO224.out))) (below_size (by repeat with_reducible first | exact bl HB.out | refine below_set ?_ GE218.out | refine bq ?_)))
            have n2_ := Aside0.mk (blk_below (bk BK218.out) hb)
            have n3_ := Aside0.mk (below_step (by repeat with_reducible first | exact bl HB.out | refine below_set ?_ GE218.out | refine bq ?_) hb)
            clear HO224
            clear BK218
            clear HB
            have HO224 := n0_
            have HO230 := n1_
            have BK218 := n2_
            have HB := n3_
            clear n0_ n1_ n2_ n3_
            clear hb ho29
            refine hK.out _ _ trivial (fun hHeld => ?_)
            clear hK K
            refine norm_ (a' := ?_) ?_ ?_
            rotate_left
            ·
             show Act.put _ (some 48) _ = _
             simp only [sp_]
             rfl
            exact norm_ (by first | (simp only [putAll, Act.put, List.setIfInBounds_toArray, List.set_cons_zero, List.set_cons_succ]; done) | (simp only [putAll, Act.put, List.setIfInBounds_toArray, List.set_cons_zero, List.set_cons_succ]; rfl)) (hJ2_8 (v223, v229) _ ⟨(by (repeat apply rl1); exact Kd.R_mono HO224.out (fun _ hk => hk.2)), (by (repeat apply rl1); exact Kd.R_mono HO230.out (fun _ hk => hk.2)), (bk BK218.out), (by repeat with_reducible first | exact bl HB.out | refine below_set ?_ GE218.out | refine bq ?_)⟩)
         ·
          skip
          rintro ⟨v226, v229⟩ w29 ⟨h0_, h1_, h2_, h3_⟩
          have n0_ : Aside0 (Kd.R (Kd.int .i64) 3 w29 w.heap.size (fun k_ => some k_ ≠ (v229 : Value).ownBlock) v226 y225) := ⟨h0_⟩
          have n1_ : Aside0 (Kd.R (Kd.int .i64) 3 w29 w.heap.size (fun k_ => some k_ ≠ (v226 : Value).ownBlock) v229 y228) := ⟨h1_⟩
          have n2_ : Aside0 (w29.heap[gb218]? = some (.cells #[.int .i64 a0_0, .int .i64 a0_1, .slice A0_2 l0_2.length c0_2] 29 (0, 0))) := ⟨h2_⟩
          have n3_ : Aside0 (Below w.heap.size w w29) := ⟨h3_⟩
          clear BK218
          clear HB
          clear h0_ h1_ h2_ h3_
          have HO227 := n0_
          have HO230 := n1_
          have BK218 := n2_
          have HB := n3_
          clear n0_ n1_ n2_ n3_
          have hHeld := trivial
          refine norm_ (a' := ?_) ?_ ?_
          rotate_left
          ·
           simp only [putAll, Act.put, List.setIfInBounds_toArray, List.set_cons_zero, List.set_cons_succ]
           rfl
          refine one_ (i := 2) (N := some 42) m9_13 rfl rfl (one_of HT_.out (by kernel_rfl)) (by decide) (fun K hK => ?_)
          refine Kd.R_make_step (Kd.int .i64) _ 3 (by rfl) (N := 42) rfl 44 _ _ rfl (l1.length : Int) rfl rfl Try.underlying44 (.int .i64 0) 8 info3 rfl (by decide) (by omega) 0 (ok := fun _ => True) (okp := fun _ => True) rfl (fun _ hk => hk) trivial (of_decide_eq_true (by first | (with_reducible assumption) | assumption)) (Nat.le_trans (Nat.mul_le_mul_right _ (of_decide_eq_true (by first | (with_reducible assumption) | assumption) : (l1.length : Int).toNat ≤ 35184372088832)) (by omega)) (Below.refl _ _) (Nat.le_refl _) ?_
          intro v223 w30 ho31 hb hg_ hnew_
          clear hg_ hnew_
          (first | rw [← Ny222.out] at ho31 | (simp only [Int.reduceToNat] at ho31; rw [← Ny222.out] at ho31))
          have n0_ := Aside0.mk (Kd.R_elder' (rl HO227.out) (Kd.R_base ho31) hb)
          have n1_ := Aside0.mk (Kd.R_elder' (rl HO230.out) (Kd.R_base ho31) hb)
          have n2_ := Aside0.mk (Kd.R_lower (Kd.R_new' (Kd.R_new' ho31 (Kd.R_lt (by (repeat apply rl1); exact HO227.out))) (Kd.R_lt (by (repeat apply rl1); exact HO230.out))) (below_size (by repeat with_reducible first | exact bl HB.out | refine below_set ?_ GE218.out | refine bq ?_)))
          have n3_ := Aside0.mk (blk_below (bk BK218.out) hb)
          have n4_ := Aside0.mk (below_step (by repeat with_reducible first | exact bl HB.out | refine below_set ?_ GE218.out | refine bq ?_) hb)
          clear HO227
          clear HO230
          clear BK218
          clear HB
          have HO227 := n0_
          have HO230 := n1_
          have HO224 := n2_
          have BK218 := n3_
          have HB := n4_
          clear n0_ n1_ n2_ n3_ n4_
          clear hb ho31
          refine hK.out _ _ trivial (fun hHeld => ?_)
          clear hK K
          refine norm_ (a' := ?_) ?_ ?_
          rotate_left
          ·
           show Act.put _ (some 42) _ = _
           simp only [sp_]
           rfl
          refine pp_ HT_.out 9 10 m10_13 rfl rfl (by kernel_rfl) (by rfl) (by intro w'; go_simp; with_reducible rfl) (by simp only [sp_]; rfl) (fun _ _ _ h => h) ?_
          refine pp_ HT_.out 10 11 m11_13 rfl rfl (by kernel_rfl) (by rfl) (by intro w'; go_simp; with_reducible rfl) (by simp only [sp_]; rfl) (fun _ _ _ h => h) ?_
          exact norm_ (by first | (simp only [putAll, Act.put, List.setIfInBounds_toArray, List.set_cons_zero, List.set_cons_succ]; done) | (simp only [putAll, Act.put, List.setIfInBounds_toArray, List.set_cons_zero, List.set_cons_succ]; rfl)) (hJ2_5_8 (v223, v226, v229) _ ⟨(by (repeat apply rl1); exact Kd.R_mono HO224.out (fun _ hk => ⟨hk.1.2, hk.2⟩)), (by (repeat apply rl1); exact Kd.R_mono HO227.out (fun _ hk => ⟨hk.2, hk.1⟩)), (by (repeat apply rl1); exact Kd.R_mono HO230.out (fun _ hk => ⟨hk.2, hk.1⟩)), (bk BK218.out), (by repeat with_reducible first | exact bl HB.out | refine below_set ?_ GE218.out | refine bq ?_)⟩)
        ·
         skip
         rintro ⟨v223, v229⟩ w29 ⟨h0_, h1_, h2_, h3_⟩
         have n0_ : Aside0 (Kd.R (Kd.int .i64) 3 w29 w.heap.size (fun k_ => some k_ ≠ (v229 : Value).ownBlock) v223 y222) := ⟨h0_⟩
         have n1_ : Aside0 (Kd.R (Kd.int .i64) 3 w29 w.heap.size (fun k_ => some k_ ≠ (v223 : Value).ownBlock) v229 y228) := ⟨h1_⟩
         have n2_ : Aside0 (w29.heap[gb218]? = some (.cells #[.int .i64 a0_0, .int .i64 a0_1, .slice A0_2 l0_2.length c0_2] 29 (0, 0))) := ⟨h2_⟩
         have n3_ : Aside0 (Below w.heap.size w w29) := ⟨h3_⟩
         clear BK218
         clear HB
         clear h0_ h1_ h2_ h3_
         have HO224 := n0_
         have HO230 := n1_
         have BK218 := n2_
         have HB := n3_
         clear n0_ n1_ n2_ n3_
         have hHeld := trivial
         refine norm_ (a' := ?_) ?_ ?_
         rotate_left
         ·
          simp only [putAll, Act.put, List.setIfInBounds_toArray, List.set_cons_zero, List.set_cons_succ]
          rfl
         refine one_ (i := 5) (N := some 45) m10_13 rfl rfl (one_of HT_.out (by kernel_rfl)) (by decide) (fun K hK => ?_)
         refine Kd.R_make_step (Kd.int .i64) _ 3 (by rfl) (N := 45) rfl 44 _ _ rfl (l1.length : Int) rfl rfl Try.underlying44 (.int .i64 0) 8 info3 rfl (by decide) (by omega) 0 (ok := fun _ => True) (okp := fun _ => True) rfl (fun _ hk => hk) trivial (of_decide_eq_true (by first | (with_reducible assumption) | assumption)) (Nat.le_trans (Nat.mul_le_mul_right _ (of_decide_eq_true (by first | (with_reducible assumption) | assumption) : (l1.length : Int).toNat ≤ 35184372088832)) (by omega)) (Below.refl _ _) (Nat.le_refl _) ?_
         intro v226 w30 ho31 hb hg_ hnew_
         clear hg_ hnew_
         (first | rw [← Ny225.out] at ho31 | (simp only [Int.reduceToNat] at ho31; rw [← Ny225.out] at ho31))
         have n0_ := Aside0.mk (Kd.R_elder' (rl HO224.out) (Kd.R_base ho31) hb)
         have n1_ := Aside0.mk (Kd.R_elder' (rl HO230.out) (Kd.R_base ho31) hb)
         have n2_ := Aside0.mk (Kd.R_lower (Kd.R_new' (Kd.R_new' ho31 (Kd.R_lt (by (repeat apply rl1); exact HO224.out))) (Kd.R_lt (by (repeat apply rl1); exact HO230.out))) (below_size (by repeat with_reducible first | exact bl HB.out | refine below_set ?_ GE218.out | refine bq ?_)))
         have n3_ := Aside0.mk (blk_below (bk BK218.out) hb)
         have n4_ := Aside0.mk (below_step (by repeat with_reducible first | exact bl HB.out | refine below_set ?_ GE218.out | refine bq ?_) hb)
         clear HO224
         clear HO230
         clear BK218
         clear HB
         have HO224 := n0_
         have HO230 := n1_
         have HO227 := n2_
         have BK218 := n3_
         have HB := n4_
         clear n0_ n1_ n2_ n3_ n4_
         clear hb ho31
         refine hK.out _ _ trivial (fun hHeld => ?_)
         clear hK K
         refine norm_ (a' := ?_) ?_ ?_
         rotate_left
         ·
          show Act.put _ (some 45) _ = _
          simp only [sp_]
          rfl
         refine pp_ HT_.out 10 11 m11_13 rfl rfl (by kernel_rfl) (by rfl) (by intro w'; go_simp; with_reducible rfl) (by simp only [sp_]; rfl) (fun _ _ _ h => h) ?_
         exact norm_ (by first | (simp only [putAll, Act.put, List.setIfInBounds_toArray, List.set_cons_zero, List.set_cons_succ]; done) | (simp only [putAll, Act.put, List.setIfInBounds_toArray, List.set_cons_zero, List.set_cons_succ]; rfl)) (hJ2_5_8 (v223, v226, v229) _ ⟨(by (repeat apply rl1); exact Kd.R_mono HO224.out (fun _ hk => ⟨hk.2, hk.1⟩)), (by (repeat apply rl1); exact Kd.R_mono HO227.out (fun _ hk => ⟨hk.1.2, hk.2⟩)), (rl HO230.out), (bk BK218.out), (by repeat with_reducible first | exact bl HB.out | refine below_set ?_ GE218.out | refine bq ?_)⟩)
       ·
        skip
        rintro ⟨v223, v226⟩ w29 ⟨h0_, h1_, h2_, h3_⟩
        have n0_ : Aside0 (Kd.R (Kd.int .i64) 3 w29 w.heap.size (fun k_ => some k_ ≠ (v226 : Value).ownBlock) v223 y222) := ⟨h0_⟩
        have n1_ : Aside0 (Kd.R (Kd.int .i64) 3 w29 w.heap.size (fun k_ => some k_ ≠ (v223 : Value).ownBlock) v226 y225) := ⟨h1_⟩
        have n2_ : Aside0 (w29.heap[gb218]? = some (.cells #[.int .i64 a0_0, .int .i64 a0_1, .slice A0_2 l0_2.length c0_2] 29 (0, 0))) := ⟨h2_⟩
        have n3_ : Aside0 (Below w.heap.size w w29) := ⟨h3_⟩
        clear BK218
        clear HB
        clear h0_ h1_ h2_ h3_
        have HO224 := n0_
        have HO227 := n1_
        have BK218 := n2_
        have HB := n3_
        clear n0_ n1_ n2_ n3_
        have hHeld := trivial
        refine norm_ (a' := ?_) ?_ ?_
        rotate_left
        ·
         simp only [putAll, Act.put, List.setIfInBounds_toArray, List.set_cons_zero, List.set_cons_succ]
         rfl
        refine one_ (i := 8) (N := some 48) m11_13 rfl rfl (one_of HT_.out (by kernel_rfl)) (by decide) (fun K hK => ?_)
        refine Kd.R_make_step (Kd.int .i64) _ 3 (by rfl) (N := 48) rfl 44 _ _ rfl (l1.length : Int) rfl rfl Try.underlying44 (.int .i64 0) 8 info3 rfl (by decide) (by omega) 0 (ok := fun _ => True) (okp := fun _ => True) rfl (fun _ hk => hk) trivial (of_decide_eq_true (by first | (with_reducible assumption) | assumption)) (Nat.le_trans (Nat.mul_le_mul_right _ (of_decide_eq_true (by first | (with_reducible assumption) | assumption) : (l1.length : Int).toNat ≤ 35184372088832)) (by omega)) (Below.refl _ _) (Nat.le_refl _) ?_
        intro v229 w30 ho31 hb hg_ hnew_
        clear hg_ hnew_
        (first | rw [← Ny228.out] at ho31 | (simp only [Int.reduceToNat] at ho31; rw [← Ny228.out] at ho31))
        have n0_ := Aside0.mk (Kd.R_elder' (rl HO224.out) (Kd.R_base ho31) hb)
        have n1_ := Aside0.mk (Kd.R_elder' (rl HO227.out) (Kd.R_base ho31) hb)
        have n2_ := Aside0.mk (Kd.R_lower (Kd.R_new' (Kd.R_new' ho31 (Kd.R_lt (by (repeat apply rl1); exact HO224.out))) (Kd.R_lt (by (repeat apply rl1); exact HO227.out))) (below_size (by repeat with_reducible first | exact bl HB.out | refine below_set ?_ GE218.out | refine bq ?_)))
        have n3_ := Aside0.mk (blk_below (bk BK218.out) hb)
        have n4_ := Aside0.mk (below_step (by repeat with_reducible first | exact bl HB.out | refine below_set ?_ GE218.out | refine bq ?_) hb)
        clear HO224
        clear HO227
        clear BK218
        clear HB
        have HO224 := n0_
        have HO227 := n1_
        have HO230 := n2_
        have BK218 := n3_
        have HB := n4_
        clear n0_ n1_ n2_ n3_ n4_
        clear hb ho31
        refine hK.out _ _ trivial (fun hHeld => ?_)
        clear hK K
        refine norm_ (a' := ?_) ?_ ?_
        rotate_left
        ·
         show Act.put _ (some 48) _ = _
         simp only [sp_]
         rfl
        exact norm_ (by first | (simp only [putAll, Act.put, List.setIfInBounds_toArray, List.set_cons_zero, List.set_cons_succ]; done) | (simp only [putAll, Act.put, List.setIfInBounds_toArray, List.set_cons_zero, List.set_cons_succ]; rfl)) (hJ2_5_8 (v223, v226, v229) _ ⟨(rl HO224.out), (rl HO227.out), (by (repeat apply rl1); exact Kd.R_mono HO230.out (fun _ hk => ⟨hk.1.2, hk.2⟩)), (bk BK218.out), (by repeat with_reducible first | exact bl HB.out | refine below_set ?_ GE218.out | refine bq ?_)⟩)
      rintro ⟨v223, v226, v229⟩ w31 ⟨h0_, h1_, h2_, h3_, h4_⟩
      have n0_ : Aside0 (Kd.R (Kd.int .i64) 3 w31 w.heap.size (fun k_ => some k_ ≠ (v226 : Value).ownBlock ∧ some k_ ≠ (v229 : Value).ownBlock) v223 y222) := ⟨h0_⟩
      have n1_ : Aside0 (Kd.R (Kd.int .i64) 3 w31 w.heap.size (fun k_ => some k_ ≠ (v223 : Value).ownBlock ∧ some k_ ≠ (v229 : Value).ownBlock) v226 y225) := ⟨h1_⟩
      have n2_ : Aside0 (Kd.R (Kd.int .i64) 3 w31 w.heap.size (fun k_ => some k_ ≠ (v223 : Value).ownBlock ∧ some k_ ≠ (v226 : Value).ownBlock) v229 y228) := ⟨h2_⟩
      have n3_ : Aside0 (w31.heap[gb218]? = some (.cells #[.int .i64 a0_0, .int .i64 a0_1, .slice A0_2 l0_2.length c0_2] 29 (0, 0))) := ⟨h3_⟩
      have n4_ : Aside0 (Below w.heap.size w w31) := ⟨h4_⟩
      clear BK218
      clear HB
      clear h0_ h1_ h2_ h3_ h4_
      have HO224 := n0_
      have HO227 := n1_
      have HO230 := n2_
      have BK218 := n3_
      have HB := n4_
      clear n0_ n1_ n2_ n3_ n4_
      have hHeld := trivial
      refine norm_ (a' := ?_) ?_ ?_
      rotate_left
      ·
       simp only [putAll, Act.put, List.setIfInBounds_toArray, List.set_cons_zero, List.set_cons_succ]
       rfl
      refine pp_ HT_.out 11 12 m12_13 rfl rfl (by kernel_rfl) (by rfl) (by intro w'; go_simp; with_reducible rfl) (by simp only [sp_]; rfl) (fun _ _ _ h => h) ?_
      refine pp_ HT_.out 12 13 m13_13 rfl rfl (by kernel_rfl) (by rfl) (by intro w'; go_simp; with_reducible rfl) (by simp only [sp_]; rfl) (fun _ _ _ h => h) ?_
      refine done_ (done_of HT_.out (by kernel_rfl)) ?_
      try go_wp2
      go_loopg [13, 50] kj4 (fun kq v13 v50 w' => ∃ (x10_2 : List Int) (x11_2 : List Int) (x12_2 : List Int) (x13_2 : Int) (x50_2 : Int), v13 = .int .i64 x13_2 ∧ v50 = .int .i64 x50_2 ∧ Aside0 (impl_RunJobs.l0 kq l1 x10_2 x11_2 x12_2 x13_2 a2 x50_2 a0_0 a0_1 l0_2 = some (r1, r2, r3)) ∧ Aside0 (kq ≤ kj4) ∧ Aside0 (Kd.R (Kd.int .i64) 3 w' w.heap.size (fun k_ => some k_ ≠ (v226 : Value).ownBlock ∧ some k_ ≠ (v229 : Value).ownBlock) v223 x10_2) ∧ Aside0 (Kd.R (Kd.int .i64) 3 w' w.heap.size (fun k_ => some k_ ≠ (v223 : Value).ownBlock ∧ some k_ ≠ (v229 : Value).ownBlock) v226 x11_2) ∧ Aside0 (Kd.R (Kd.int .i64) 3 w' w.heap.size (fun k_ => some k_ ≠ (v223 : Value).ownBlock ∧ some k_ ≠ (v226 : Value).ownBlock) v229 x12_2) ∧ Aside0 (w'.heap[gb218]? = some (.cells #[.int .i64 a0_0, .int .i64 a0_1, (.slice A0_2 l0_2.length c0_2)] 29 (0, 0))) ∧ Aside0 (Below w.heap.size w w'))
      case atStart => exact ⟨(y222), (y225), (y228), (0), (0), (by first | rfl | (simp; done) | (simp [*]; done)), (by first | rfl | (simp; done) | (simp [*]; done)), H', ⟨Nat.le_refl _⟩, ⟨rl HO224.out⟩, ⟨rl HO227.out⟩, ⟨rl HO230.out⟩, ⟨bk BK218.out⟩, ⟨by repeat with_reducible first | exact bl HB.out | refine below_set ?_ GE218.out | refine bq ?_⟩⟩
      case round =>
       clear H'
       try clear p2
       obtain ⟨x10_2, x11_2, x12_2, x13_2, x50_2, rfl, rfl, HA, HK2, HO_10, HO_11, HO_12, BK218, HB⟩ := hrel
       cases gk with
       | zero => exact absurd HA.out (by simp [impl_RunJobs.l0])
       | succ k2 =>
        have H := HA.out
        clear HA
        simp only [impl_RunJobs.l0] at H
        by_cases c32 : x50_2 < a2
        ·
         rw [if_pos c32] at H
         have c32b0 : decide (x50_2 < a2) = true := decide_eq_true c32
         clear c32
         have H' := Aside0.mk H
         clear H
         go_wp2
         go_loopg [55] k2 (fun kq v55 w' => ∃ (x10_3 : List Int) (x11_3 : List Int) (x12_3 : List Int) (x55_3 : Int), v55 = .int .i64 x55_3 ∧ Aside0 (impl_RunJobs.l1 kq l1 x10_3 x11_3 x12_3 x13_2 x50_2 a2 x50_2 l1 (l1.length : Int) x55_3 a0_0 a0_1 l0_2 = some (r1, r2, r3)) ∧ Aside0 (kq ≤ k2) ∧ Aside0 (Kd.R (Kd.int .i64) 3 w' w.heap.size (fun k_ => some k_ ≠ (v226 : Value).ownBlock ∧ some k_ ≠ (v229 : Value).ownBlock) v223 x10_3) ∧ Aside0 (Kd.R (Kd.int .i64) 3 w' w.heap.size (fun k_ => some k_ ≠ (v223 : Value).ownBlock ∧ some k_ ≠ (v229 : Value).ownBlock) v226 x11_3) ∧ Aside0 (Kd.R (Kd.int .i64) 3 w' w.heap.size (fun k_ => some k_ ≠ (v223 : Value).ownBlock ∧ some k_ ≠ (v226 : Value).ownBlock) v229 x12_3) ∧ Aside0 (w'.heap[gb218]? = some (.cells #[.int .i64 a0_0, .int .i64 a0_1, (.slice A0_2 l0_2.length c0_2)] 29 (0, 0))) ∧ Aside0 (Below w.heap.size w w'))
         case atStart => exact ⟨(x10_2), (x11_2), (x12_2), (0), (by first | rfl | (simp; done) | (simp [*]; done)), H', ⟨Nat.le_refl _⟩, ⟨rl HO_10.out⟩, ⟨rl HO_11.out⟩, ⟨rl HO_12.out⟩, ⟨bk BK218.out⟩, ⟨by repeat with_reducible first | exact bl HB.out | refine below_set ?_ GE218.out | refine bq ?_⟩⟩
         case round =>
          clear H'
          try clear p2
          try clear c3
          try clear c32
          try clear c32b0
          try clear p2
          obtain ⟨x10_3, x11_3, x12_3, x55_3, rfl, HA, HK3, HO_10, HO_11, HO_12, BK218, HB⟩ := hrel
          cases gk with
          | zero => exact absurd HA.out (by simp [impl_RunJobs.l1])
          | succ k3 =>
           have H := HA.out
           clear HA
           simp only [impl_RunJobs.l1] at H
           by_cases c33 : x55_3 < (l1.length : Int)
           ·
            rw [if_pos c33] at H
            have c33b0 : decide (x55_3 < (l1.length : Int)) = true := decide_eq_true c33
            clear c33
            by_cases c34 : 0 ≤ x55_3
            ·
             rw [if_pos c34] at H
             have c34b0 : decide (0 ≤ x55_3) = true := decide_eq_true c34
             clear c34
             by_cases c35 : x55_3 < (l1.length : Int)
             ·
              rw [if_pos c35] at H
              have c35b0 : decide (x55_3 < (l1.length : Int)) = true := decide_eq_true c35
              clear c35
              by_cases c36 : ((rd_T74 l1 x55_3).f1) = 0
              ·
               rw [if_pos c36] at H
               exact absurd H (by simp)
              ·
               rw [if_neg c36] at H
               have c36b0 : (((rd_T74 l1 x55_3).f1) == 0) = false := beq_eq_false_iff_ne.mpr c36
               have c36b1 : (((rd_T74 l1 x55_3).f1) != 0) = true := bne_iff_ne.mpr c36
               by_cases c37 : (Int.tmod x50_2 ((rd_T74 l1 x55_3).f1)) = 0
               ·
                rw [if_pos c37] at H
                have c37b0 : ((Int.tmod x50_2 ((rd_T74 l1 x55_3).f1)) == 0) = true := beq_iff_eq.mpr c37
                have c37b1 : ((Int.tmod x50_2 ((rd_T74 l1 x55_3).f1)) != 0) = false := bne_eq_false_iff_eq.mpr c37
                clear c37
                by_cases c38 : x55_3 < (x11_3.length : Int)
                ·
                 rw [if_pos c38] at H
                 have c38b0 : decide (x55_3 < (x11_3.length : Int)) = true := decide_eq_true c38
                 clear c38
                 by_cases c39 : (rd x11_3 x55_3) > 0
                 ·
                  rw [if_pos c39] at H
                  have c39b0 : decide (0 < (rd x11_3 x55_3)) = true := decide_eq_true c39
                  clear c39
                  by_cases c40 : x55_3 < (x10_3.length : Int)
                  ·
                   rw [if_pos c40] at H
                   have c40b0 : decide (x55_3 < (x10_3.length : Int)) = true := decide_eq_true c40
                   clear c40
                   obtain ⟨y235, hy235⟩ : ∃ y_ : List Int, y_ = (x10_3.set (x55_3 : Int).toNat (wrap64 ((rd x10_3 x55_3) + 1))) := ⟨_, rfl⟩
                   replace H : (if x55_3 < (x12_3.length : Int) then (impl_RunJobs.l1 k3 l1 y235 (x11_3.set (x55_3 : Int).toNat ((rd_T74 l1 x55_3).f2)) (x12_3.set (x55_3 : Int).toNat x50_2) x13_2 x50_2 a2 x50_2 l1 (l1.length : Int) (wrap64 (x55_3 + 1)) a0_0 a0_1 l0_2) else (none)) = some (r1, r2, r3) := by first | (rw [hy235]; with_reducible exact H) | (have H2_ := (Option.bind_some _ _).symm.trans H; rw [hy235]; with_reducible exact H2_) | (have H2_ := (Option.bind_some _ _).symm.trans H; with_reducible exact H2_) | with_reducible exact H | (rw [hy235]; exact H) | exact H
                   have Ny235 := Aside0.mk hy235
                   clear hy235
                   obtain ⟨y236, hy236⟩ : ∃ y_ : List Int, y_ = (x11_3.set (x55_3 : Int).toNat ((rd_T74 l1 x55_3).f2)) := ⟨_, rfl⟩
                   replace H : (if x55_3 < (x12_3.length : Int) then (impl_RunJobs.l1 k3 l1 y235 y236 (x12_3.set (x55_3 : Int).toNat x50_2) x13_2 x50_2 a2 x50_2 l1 (l1.length : Int) (wrap64 (x55_3 + 1)) a0_0 a0_1 l0_2) else (none)) = some (r1, r2, r3) := by first | (rw [hy236]; with_reducible exact H) | (have H2_ := (Option.bind_some _ _).symm.trans H; rw [hy236]; with_reducible exact H2_) | (have H2_ := (Option.bind_some _ _).symm.trans H; with_reducible exact H2_) | with_reducible exact H | (rw [hy236]; exact H) | exact H
                   have Ny236 := Aside0.mk hy236
                   clear hy236
                   by_cases c43 : x55_3 < (x12_3.length : Int)
                   ·
                    rw [if_pos c43] at H
                    have c43b0 : decide (x55_3 < (x12_3.length : Int)) = true := decide_eq_true c43
                    clear c43
                    obtain ⟨y237, hy237⟩ : ∃ y_ : List Int, y_ = (x12_3.set (x55_3 : Int).toNat x50_2) := ⟨_, rfl⟩
                    replace H : (impl_RunJobs.l1 k3 l1 y235 y236 y237 x13_2 x50_2 a2 x50_2 l1 (l1.length : Int) (wrap64 (x55_3 + 1)) a0_0 a0_1 l0_2) = some (r1, r2, r3) := by first | (rw [hy237]; with_reducible exact H) | (have H2_ := (Option.bind_some _ _).symm.trans H; rw [hy237]; with_reducible exact H2_) | (have H2_ := (Option.bind_some _ _).symm.trans H; with_reducible exact H2_) | with_reducible exact H | (rw [hy237]; exact H) | exact H
                    have Ny237 := Aside0.mk hy237
                    clear hy237
                    have H' := Aside0.mk H
                    clear H
                    have p231 : 0 ≤ (x55_3 : Int) := of_decide_eq_true (by first | (with_reducible assumption) | assumption)
                    have q231 : x55_3 < (l1.length : Int) := of_decide_eq_true (by first | (with_reducible assumption) | assumption)
                    obtain ⟨ad231, e231, hx231_0, hx231_1, hx231_2⟩ := at_T74 HR1.out x55_3 p231 q231
                    cases e231
                    replace hx231_0 := (HB.out.cell (World.block_lt_of_cell? w _ hx231_0)).trans hx231_0
                    replace hx231_1 := (HB.out.cell (World.block_lt_of_cell? w _ hx231_1)).trans hx231_1
                    replace hx231_2 := (HB.out.cell (World.block_lt_of_cell? w _ hx231_2)).trans hx231_2
                    replace p231 := eq_true p231
                    replace q231 := eq_true q231
                    go_wp2_with (first | ((with_reducible refine gate_dst (N := 16) rfl ?_); (try (refine gate_guard (by rfl) ?_; dsimp only)); refine box_event ?hg (N := 16) ?hd (cs := #[.int .i64 0, .int .i64 0, .int .i64 0]) (t := 74) ?hr ?_; (case hd => rfl); (case hg => rfl); (case hr => first | (go_simp; done) | (go_simp; rfl)); intro gb232 hg w45 hbox hb; have n0_ := Aside0.mk (Kd.R_below (rl HO_10.out) hb); have n1_ := Aside0.mk (Kd.R_below (rl HO_11.out) hb); have n2_ := Aside0.mk (Kd.R_below (rl HO_12.out) hb); have n3_ := Aside0.mk (blk_below (bk BK218.out) hb); have n4_ := Aside0.mk (below_step (by repeat with_reducible first | exact bl HB.out | refine below_set ?_ GE218.out | refine bq ?_) hb); have n5_ := Aside0.mk (hbox); have n6_ := Aside0.mk ((by rw [hg]; exact (below_size (by repeat with_reducible first | exact bl HB.out | refine below_set ?_ GE218.out | refine bq ?_)) : w.heap.size ≤ gb232)); have n7_ := Aside0.mk ((by rw [hg]; exact (below_size (by repeat with_reducible first | exact bl HB.out | refine below_set ?_ GE218.out | refine bq ?_)) : w.heap.size ≤ gb232)); have n8_ := Aside0.mk ((by rw [hg]; exact Nat.ne_of_lt (blk_lt (g := gb218) (o := .cells #[.int .i64 a0_0, .int .i64 a0_1, .slice A0_2 l0_2.length c0_2] 29 (0, 0)) (bk BK218.out)) : gb218 ≠ gb232)); have n9_ := Aside0.mk ((by rw [hg]; exact Nat.ne_of_gt (blk_lt (g := gb218) (o := .cells #[.int .i64 a0_0, .int .i64 a0_1, .slice A0_2 l0_2.length c0_2] 29 (0, 0)) (bk BK218.out)) : gb232 ≠ gb218)); clear HO_10; clear HO_11; clear HO_12; clear BK218; clear HB; have HO_10 := n0_; have HO_11 := n1_; have HO_12 := n2_; have BK218 := n3_; have HB := n4_; have BK232 := n5_; have GW232 := n6_; have GE232 := n7_; have NB218_232 := n8_; have NB232_218 := n9_; clear n0_ n1_ n2_ n3_ n4_ n5_ n6_ n7_ n8_ n9_; clear hb hbox hg; have hnb46 := NB232_218.out; have hnc46 := NB218_232.out; have hcz47_0 := ck (v := .int .i64 0) BK232.out 0 rfl; have hcz47_1 := ck (v := .int .i64 0) BK232.out 1 rfl; have hcz47_2 := ck (v := .int .i64 0) BK232.out 2 rfl; have hfz47_0 := blk_frozen BK232.out 0; have hfz47_1 := blk_frozen BK232.out 1; have hfz47_2 := blk_frozen BK232.out 2) | ((with_reducible refine gate_store (t := 74) (p := 16) rfl ?_); refine store_event (t := 74) (p := 16) (v := ?vo_w48) (w1 := (((w45.setCell ⟨gb232, 0, none⟩ (.int .i64 ((rd_T74 l1 x55_3).f0))).setCell ⟨gb232, 1, none⟩ (.int .i64 ((rd_T74 l1 x55_3).f1))).setCell ⟨gb232, 2, none⟩ (.int .i64 ((rd_T74 l1 x55_3).f2)))) ?hg ?ho ?hn ?hr ?_; (case ho => rfl); (case hg => rfl); (case hn => rfl); (case hr => first | (go_simp; done) | (go_simp; rfl)); intro w48 hw; have n0_ : Aside0 (Kd.R (Kd.int .i64) 3 w48 w.heap.size (fun k_ => some k_ ≠ (v226 : Value).ownBlock ∧ some k_ ≠ (v229 : Value).ownBlock) v223 x10_3) := ⟨(by rw [hw]; exact (by (repeat apply rl1); exact Kd.R_mono (Kd.R_far (p := ⟨gb232, 2, none⟩) (Kd.R_far (p := ⟨gb232, 1, none⟩) (Kd.R_far (p := ⟨gb232, 0, none⟩) (Kd.R_types HO_10.out BK232.out (by decide)) (fun _ hk => hk.2) (.int .i64 ((rd_T74 l1 x55_3).f0))) (fun _ hk => hk.2) (.int .i64 ((rd_T74 l1 x55_3).f1))) (fun _ hk => hk.2) (.int .i64 ((rd_T74 l1 x55_3).f2))) (fun _ hk => ⟨hk.1.1, hk.1.2⟩)))⟩; have n1_ : Aside0 (Kd.R (Kd.int .i64) 3 w48 w.heap.size (fun k_ => some k_ ≠ (v223 : Value).ownBlock ∧ some k_ ≠ (v229 : Value).ownBlock) v226 x11_3) := ⟨(by rw [hw]; exact (by (repeat apply rl1); exact Kd.R_mono (Kd.R_far (p := ⟨gb232, 2, none⟩) (Kd.R_far (p := ⟨gb232, 1, none⟩) (Kd.R_far (p := ⟨gb232, 0, none⟩) (Kd.R_types HO_11.out BK232.out (by decide)) (fun _ hk => hk.2) (.int .i64 ((rd_T74 l1 x55_3).f0))) (fun _ hk => hk.2) (.int .i64 ((rd_T74 l1 x55_3).f1))) (fun _ hk => hk.2) (.int .i64 ((rd_T74 l1 x55_3).f2))) (fun _ hk => ⟨hk.1.1, hk.1.2⟩)))⟩; have n2_ : Aside0 (Kd.R (Kd.int .i64) 3 w48 w.heap.size (fun k_ => some k_ ≠ (v223 : Value).ownBlock ∧ some k_ ≠ (v226 : Value).ownBlock) v229 x12_3) := ⟨(by rw [hw]; exact (by (repeat apply rl1); exact Kd.R_mono (Kd.R_far (p := ⟨gb232, 2, none⟩) (Kd.R_far (p := ⟨gb232, 1, none⟩) (Kd.R_far (p := ⟨gb232, 0, none⟩) (Kd.R_types HO_12.out BK232.out (by decide)) (fun _ hk => hk.2) (.int .i64 ((rd_T74 l1 x55_3).f0))) (fun _ hk => hk.2) (.int .i64 ((rd_T74 l1 x55_3).f1))) (fun _ hk => hk.2) (.int .i64 ((rd_T74 l1 x55_3).f2))) (fun _ hk => ⟨hk.1.1, hk.1.2⟩)))⟩; have n3_ : Aside0 (w48.heap[gb218]? = some (.cells #[.int .i64 a0_0, .int .i64 a0_1, .slice A0_2 l0_2.length c0_2] 29 (0, 0))) := ⟨(by rw [hw]; exact (by (repeat refine bk1 ?_); refine blk_far ?_ NB218_232.out _; (repeat refine bk1 ?_); refine blk_far ?_ NB218_232.out _; (repeat refine bk1 ?_); refine blk_far ?_ NB218_232.out _; (repeat refine bk1 ?_); exact BK218.out))⟩; have n4_ : Aside0 (w48.heap[gb232]? = some (.cells #[.int .i64 ((rd_T74 l1 x55_3).f0), .int .i64 ((rd_T74 l1 x55_3).f1), .int .i64 ((rd_T74 l1 x55_3).f2)] 74 (0, 0))) := ⟨(by rw [hw]; exact (by (repeat refine bk1 ?_); refine blk_put (cs := #[.int .i64 ((rd_T74 l1 x55_3).f0), .int .i64 ((rd_T74 l1 x55_3).f1), .int .i64 0]) ?_ 2 _ rfl; (repeat refine bk1 ?_); refine blk_put (cs := #[.int .i64 ((rd_T74 l1 x55_3).f0), .int .i64 0, .int .i64 0]) ?_ 1 _ rfl; (repeat refine bk1 ?_); refine blk_put (cs := #[.int .i64 0, .int .i64 0, .int .i64 0]) ?_ 0 _ rfl; (repeat refine bk1 ?_); exact BK232.out))⟩; have n5_ : Aside0 (Below w.heap.size w w48) := ⟨(by rw [hw]; exact (by repeat with_reducible first | exact bl HB.out | refine below_set ?_ GE218.out | refine below_set ?_ GE232.out | refine bq ?_))⟩; clear hw; clear HO_10; clear HO_11; clear HO_12; clear BK218; clear BK232; clear HB; have HO_10 := n0_; have HO_11 := n1_; have HO_12 := n2_; have BK218 := n3_; have BK232 := n4_; have HB := n5_; clear n0_ n1_ n2_ n3_ n4_ n5_; have hcz49_0 := ck (v := .int .i64 ((rd_T74 l1 x55_3).f0)) BK232.out 0 rfl; have hcz49_1 := ck (v := .int .i64 ((rd_T74 l1 x55_3).f1)) BK232.out 1 rfl; have hcz49_2 := ck (v := .int .i64 ((rd_T74 l1 x55_3).f2)) BK232.out 2 rfl; have hfz49_0 := blk_frozen BK232.out 0; have hfz49_1 := blk_frozen BK232.out 1; have hfz49_2 := blk_frozen BK232.out 2; obtain ⟨Ao50, co50, eo50⟩ := Kd.R_slice HO_11.out; subst eo50; have p233 : 0 ≤ (x55_3 : Int) := of_decide_eq_true (by first | (with_reducible assumption) | assumption); have q233 : x55_3 < (x11_3.length : Int) := of_decide_eq_true (by first | (with_reducible assumption) | assumption); obtain ⟨ad233, e233, hx233_0⟩ := Kd.at_int (Kd.R_reads' HO_11.out).2.2 x55_3 p233 q233; cases e233; replace p233 := eq_true p233; replace q233 := eq_true q233; obtain ⟨Ao51, co51, eo51⟩ := Kd.R_slice HO_10.out; subst eo51; have p234 : 0 ≤ (x55_3 : Int) := of_decide_eq_true (by first | (with_reducible assumption) | assumption); have q234 : x55_3 < (x10_3.length : Int) := of_decide_eq_true (by first | (with_reducible assumption) | assumption); obtain ⟨ad234, e234, hx234_0⟩ := Kd.at_int (Kd.R_reads' HO_10.out).2.2 x55_3 p234 q234; cases e234; replace p234 := eq_true p234; replace q234 := eq_true q234; have p41 : 0 ≤ (x55_3 : Int) := of_decide_eq_true (by first | (with_reducible assumption) | assumption); have q41 : (x55_3 : Int) < ((x10_3.length : Int) : Int) := of_decide_eq_true (by first | (with_reducible assumption) | assumption); obtain ⟨go41, co41, eo41, gb41, gl41, cl41, HG41⟩ := Kd.R_form HO_10.out (by omega); (first | cases eo41 | (injection eo41 with ea_ en_ ec_; (first | subst ea_ | (injection ea_ with ea_; subst ea_)); subst ec_; clear en_)); have GB41 := Aside0.mk gb41; have GG41 := Aside0.mk HG41; clear gb41 gl41 HG41; (first | simp only [add_plain] at hx234_0 | skip); obtain ⟨hx41_0, hf41_0⟩ := Kd.R_celln 0 HO_10.out (x55_3 : Int) p41 q41; replace p41 := eq_true p41; replace q41 := eq_true q41; obtain ⟨hy52_, hz52_⟩ := Kd.R_celln 0 HO_10.out (x55_3 : Int) (of_decide_eq_true (by first | (with_reducible assumption) | assumption)) (of_decide_eq_true (by first | (with_reducible assumption) | assumption)); have HP52 := Kd.R_putg HO_10.out (x55_3 : Int) (wrap64 ((rd x10_3 x55_3) + 1))) | ((with_reducible refine gate_store (t := 3) (p := 75) rfl ?_); refine store_event (t := 3) (p := 75) (v := ?vo_w53) (w1 := (w48.setCell ⟨go41, (x55_3 : Int).toNat, none⟩ (.int .i64 (wrap64 ((rd x10_3 x55_3) + 1))))) ?hg ?ho ?hn ?hr ?_; (case ho => rfl); (case hg => rfl); (case hn => rfl); (case hr => first | (go_simp; done) | (go_simp; rfl)); intro w53 hw; have hg : w48.grownBy w53 (some go41) := (by rw [hw]; exact HP52.2); have hp_ : Kd.R (Kd.int .i64) 3 w53 w.heap.size (fun k_ => some k_ ≠ (.slice (some ad233) x11_3.length co50 : Value).ownBlock ∧ some k_ ≠ (v229 : Value).ownBlock) (.slice (some ⟨go41, 0, none⟩) x10_3.length co51) y235 := (by rw [hw, Ny235.out]; exact HP52.1); clear HP52; have n0_ := Aside0.mk (hp_); have n1_ := Aside0.mk (Kd.R_after (v := (.slice (some ⟨go41, 0, none⟩) x10_3.length co51)) (v1 := (.slice (some ⟨go41, 0, none⟩) x10_3.length co51)) (ok := (fun k_ => some k_ ≠ (v229 : Value).ownBlock)) (by (repeat apply rl1); exact Kd.R_mono HO_11.out (fun _ hk => ⟨hk.2, hk.1⟩)) hg (.inl rfl)); have n2_ := Aside0.mk (Kd.R_after (v := (.slice (some ⟨go41, 0, none⟩) x10_3.length co51)) (v1 := (.slice (some ⟨go41, 0, none⟩) x10_3.length co51)) (ok := (fun k_ => some k_ ≠ (.slice (some ad233) x11_3.length co50 : Value).ownBlock)) (by (repeat apply rl1); exact Kd.R_mono HO_12.out (fun _ hk => ⟨hk.2, hk.1⟩)) hg (.inl rfl)); have n3_ := Aside0.mk (blk_grown (g := gb218) (o := .cells #[.int .i64 a0_0, .int .i64 a0_1, .slice A0_2 l0_2.length c0_2] 29 (0, 0)) (bk BK218.out) hg (Kd.R_ne HO_10.out BK218.out (by decide))); have n4_ := Aside0.mk (blk_grown (g := gb232) (o := .cells #[.int .i64 ((rd_T74 l1 x55_3).f0), .int .i64 ((rd_T74 l1 x55_3).f1), .int .i64 ((rd_T74 l1 x55_3).f2)] 74 (0, 0)) (bk BK232.out) hg (Kd.R_ne HO_10.out BK232.out (by decide))); have n5_ := Aside0.mk ((by rw [hw]; exact below_set (HB.out) GB41.out : Below w.heap.size w w53)); clear HO_10; clear HO_11; clear HO_12; clear BK218; clear BK232; clear HB; have HO_10 := n0_; have HO_11 := n1_; have HO_12 := n2_; have BK218 := n3_; have BK232 := n4_; have HB := n5_; clear n0_ n1_ n2_ n3_ n4_ n5_; clear hg hw hp_; have hcz54_0 := ck (v := .int .i64 ((rd_T74 l1 x55_3).f0)) BK232.out 0 rfl; have hcz54_1 := ck (v := .int .i64 ((rd_T74 l1 x55_3).f1)) BK232.out 1 rfl; have hcz54_2 := ck (v := .int .i64 ((rd_T74 l1 x55_3).f2)) BK232.out 2 rfl; have hfz54_0 := blk_frozen BK232.out 0; have hfz54_1 := blk_frozen BK232.out 1; have hfz54_2 := blk_frozen BK232.out 2; have p42 : 0 ≤ (x55_3 : Int) := of_decide_eq_true (by first | (with_reducible assumption) | assumption); have q42 : (x55_3 : Int) < ((x11_3.length : Int) : Int) := of_decide_eq_true (by first | (with_reducible assumption) | assumption); obtain ⟨go42, co42, eo42, gb42, gl42, cl42, HG42⟩ := Kd.R_form HO_11.out (by omega); (first | cases eo42 | (injection eo42 with ea_ en_ ec_; (first | subst ea_ | (injection ea_ with ea_; subst ea_)); subst ec_; clear en_)); have GB42 := Aside0.mk gb42; have GG42 := Aside0.mk HG42; clear gb42 gl42 HG42; (first | simp only [add_plain] at hx233_0 | skip); obtain ⟨hx42_0, hf42_0⟩ := Kd.R_celln 0 HO_11.out (x55_3 : Int) p42 q42; replace p42 := eq_true p42; replace q42 := eq_true q42; obtain ⟨hy55_, hz55_⟩ := Kd.R_celln 0 HO_11.out (x55_3 : Int) (of_decide_eq_true (by first | (with_reducible assumption) | assumption)) (of_decide_eq_true (by first | (with_reducible assumption) | assumption)); have HP55 := Kd.R_putg HO_11.out (x55_3 : Int) ((rd_T74 l1 x55_3).f2)) | ((with_reducible refine gate_store (t := 3) (p := 83) rfl ?_); refine store_event (t := 3) (p := 83) (v := ?vo_w56) (w1 := (w53.setCell ⟨go42, (x55_3 : Int).toNat, none⟩ (.int .i64 ((rd_T74 l1 x55_3).f2)))) ?hg ?ho ?hn ?hr ?_; (case ho => rfl); (case hg => rfl); (case hn => rfl); (case hr => first | (go_simp; done) | (go_simp; rfl)); intro w56 hw; have hg : w53.grownBy w56 (some go42) := (by rw [hw]; exact HP55.2); have hp_ : Kd.R (Kd.int .i64) 3 w56 w.heap.size (fun k_ => some k_ ≠ (v229 : Value).ownBlock ∧ some k_ ≠ (.slice (some ⟨go41, 0, none⟩) x10_3.length co51 : Value).ownBlock) (.slice (some ⟨go42, 0, none⟩) x11_3.length co50) y236 := (by rw [hw, Ny236.out]; exact HP55.1); clear HP55; have n0_ := Aside0.mk (Kd.R_after (v := (.slice (some ⟨go42, 0, none⟩) x11_3.length co50)) (v1 := (.slice (some ⟨go42, 0, none⟩) x11_3.length co50)) (ok := (fun k_ => some k_ ≠ (v229 : Value).ownBlock)) (by (repeat apply rl1); exact Kd.R_mono HO_10.out (fun _ hk => ⟨hk.2, hk.1⟩)) hg (.inl rfl)); have n1_ := Aside0.mk (hp_); have n2_ := Aside0.mk (Kd.R_after (v := (.slice (some ⟨go42, 0, none⟩) x11_3.length co50)) (v1 := (.slice (some ⟨go42, 0, none⟩) x11_3.length co50)) (ok := (fun k_ => some k_ ≠ (.slice (some ⟨go41, 0, none⟩) x10_3.length co51 : Value).ownBlock)) (by (repeat apply rl1); exact Kd.R_mono HO_12.out (fun _ hk => ⟨hk.2, hk.1⟩)) hg (.inl rfl)); have n3_ := Aside0.mk (blk_grown (g := gb218) (o := .cells #[.int .i64 a0_0, .int .i64 a0_1, .slice A0_2 l0_2.length c0_2] 29 (0, 0)) (bk BK218.out) hg (Kd.R_ne HO_11.out BK218.out (by decide))); have n4_ := Aside0.mk (blk_grown (g := gb232) (o := .cells #[.int .i64 ((rd_T74 l1 x55_3).f0), .int .i64 ((rd_T74 l1 x55_3).f1), .int .i64 ((rd_T74 l1 x55_3).f2)] 74 (0, 0)) (bk BK232.out) hg (Kd.R_ne HO_11.out BK232.out (by decide))); have n5_ := Aside0.mk ((by rw [hw]; exact below_set (HB.out) GB42.out : Below w.heap.size w w56)); clear HO_10; clear HO_11; clear HO_12; clear BK218; clear BK232; clear HB; have HO_10 := n0_; have HO_11 := n1_; have HO_12 := n2_; have BK218 := n3_; have BK232 := n4_; have HB := n5_; clear n0_ n1_ n2_ n3_ n4_ n5_; clear hg hw hp_; have p44 : 0 ≤ (x55_3 : Int) := of_decide_eq_true (by first | (with_reducible assumption) | assumption); have q44 : (x55_3 : Int) < ((x12_3.length : Int) : Int) := of_decide_eq_true (by first | (with_reducible assumption) | assumption); obtain ⟨go44, co44, eo44, gb44, gl44, cl44, HG44⟩ := Kd.R_form HO_12.out (by omega); (first | cases eo44 | (injection eo44 with ea_ en_ ec_; (first | subst ea_ | (injection ea_ with ea_; subst ea_)); subst ec_; clear en_)); have GB44 := Aside0.mk gb44; have GG44 := Aside0.mk HG44; clear gb44 gl44 HG44; obtain ⟨hx44_0, hf44_0⟩ := Kd.R_celln 0 HO_12.out (x55_3 : Int) p44 q44; replace p44 := eq_true p44; replace q44 := eq_true q44; obtain ⟨hy57_, hz57_⟩ := Kd.R_celln 0 HO_12.out (x55_3 : Int) (of_decide_eq_true (by first | (with_reducible assumption) | assumption)) (of_decide_eq_true (by first | (with_reducible assumption) | assumption)); have HP57 := Kd.R_putg HO_12.out (x55_3 : Int) x50_2) | ((with_reducible refine gate_store (t := 3) (p := 84) rfl ?_); refine store_event (t := 3) (p := 84) (v := ?vo_w58) (w1 := (w56.setCell ⟨go44, (x55_3 : Int).toNat, none⟩ (.int .i64 x50_2))) ?hg ?ho ?hn ?hr ?_; (case ho => rfl); (case hg => rfl); (case hn => rfl); (case hr => first | (go_simp; done) | (go_simp; rfl)); intro w58 hw; have hg : w56.grownBy w58 (some go44) := (by rw [hw]; exact HP57.2); have hp_ : Kd.R (Kd.int .i64) 3 w58 w.heap.size (fun k_ => some k_ ≠ (.slice (some ⟨go41, 0, none⟩) x10_3.length co51 : Value).ownBlock ∧ some k_ ≠ (.slice (some ⟨go42, 0, none⟩) x11_3.length co50 : Value).ownBlock) (.slice (some ⟨go44, 0, none⟩) x12_3.length co44) y237 := (by rw [hw, Ny237.out]; exact HP57.1); clear HP57; have n0_ := Aside0.mk (Kd.R_after (v := (.slice (some ⟨go44, 0, none⟩) x12_3.length co44)) (v1 := (.slice (some ⟨go44, 0, none⟩) x12_3.length co44)) (ok := (fun k_ => some k_ ≠ (.slice (some ⟨go42, 0, none⟩) x11_3.length co50 : Value).ownBlock)) (by (repeat apply rl1); exact Kd.R_mono HO_10.out (fun _ hk => ⟨hk.2, hk.1⟩)) hg (.inl rfl)); have n1_ := Aside0.mk (Kd.R_after (v := (.slice (some ⟨go44, 0, none⟩) x12_3.length co44)) (v1 := (.slice (some ⟨go44, 0, none⟩) x12_3.length co44)) (ok := (fun k_ => some k_ ≠ (.slice (some ⟨go41, 0, none⟩) x10_3.length co51 : Value).ownBlock)) (by (repeat apply rl1); exact Kd.R_mono HO_11.out (fun _ hk => ⟨hk.2, hk.1⟩)) hg (.inl rfl)); have n2_ := Aside0.mk (hp_); have n3_ := Aside0.mk (blk_grown (g := gb218) (o := .cells #[.int .i64 a0_0, .int .i64 a0_1, .slice A0_2 l0_2.length c0_2] 29 (0, 0)) (bk BK218.out) hg (Kd.R_ne HO_12.out BK218.out (by decide))); have n4_ := Aside0.mk (blk_grown (g := gb232) (o := .cells #[.int .i64 ((rd_T74 l1 x55_3).f0), .int .i64 ((rd_T74 l1 x55_3).f1), .int .i64 ((rd_T74 l1 x55_3).f2)] 74 (0, 0)) (bk BK232.out) hg (Kd.R_ne HO_12.out BK232.out (by decide))); have n5_ := Aside0.mk ((by rw [hw]; exact below_set (HB.out) GB44.out : Below w.heap.size w w58)); clear HO_10; clear HO_11; clear HO_12; clear BK218; clear BK232; clear HB; have HO_10 := n0_; have HO_11 := n1_; have HO_12 := n2_; have BK218 := n3_; have BK232 := n4_; have HB := n5_; clear n0_ n1_ n2_ n3_ n4_ n5_; clear hg hw hp_))
                    go_roundg k3
                    case measure => have := HJ4.out; have := HK2.out; have := HK3.out; omega
                    case rel => exact ⟨(y235), (y236), (y237), (wrap64 (x55_3 + 1)), (by first | rfl | (simp; done) | (simp [*]; done)), H', ⟨by have := HJ4.out; have := HK2.out; have := HK3.out; omega⟩, ⟨rl HO_10.out⟩, ⟨rl HO_11.out⟩, ⟨rl HO_12.out⟩, ⟨bk BK218.out⟩, ⟨by repeat with_reducible first | exact bl HB.out | refine below_set ?_ GE218.out | refine below_set ?_ GE232.out | refine bq ?_⟩⟩
                   ·
                    rw [if_neg c43] at H
                    exact absurd H (by simp)
                  ·
                   rw [if_neg c40] at H
                   exact absurd H (by simp)
                 ·
                  rw [if_neg c39] at H
                  have c39b0 : decide (0 < (rd x11_3 x55_3)) = false := decide_eq_false c39
                  clear c39
                  obtain ⟨y238, hy238⟩ : ∃ y_ : List Int, y_ = (x11_3.set (x55_3 : Int).toNat ((rd_T74 l1 x55_3).f2)) := ⟨_, rfl⟩
                  replace H : (if x55_3 < (x12_3.length : Int) then (impl_RunJobs.l1 k3 l1 x10_3 y238 (x12_3.set (x55_3 : Int).toNat x50_2) x13_2 x50_2 a2 x50_2 l1 (l1.length : Int) (wrap64 (x55_3 + 1)) a0_0 a0_1 l0_2) else (none)) = some (r1, r2, r3) := by first | (rw [hy238]; with_reducible exact H) | (have H2_ := (Option.bind_some _ _).symm.trans H; rw [hy238]; with_reducible exact H2_) | (have H2_ := (Option.bind_some _ _).symm.trans H; with_reducible exact H2_) | with_reducible exact H | (rw [hy238]; exact H) | exact H
                  have Ny238 := Aside0.mk hy238
                  clear hy238
                  by_cases c60 : x55_3 < (x12_3.length : Int)
                  ·
                   rw [if_pos c60] at H
                   have c60b0 : decide (x55_3 < (x12_3.length : Int)) = true := decide_eq_true c60
                   clear c60
                   obtain ⟨y239, hy239⟩ : ∃ y_ : List Int, y_ = (x12_3.set (x55_3 : Int).toNat x50_2) := ⟨_, rfl⟩
                   replace H : (impl_RunJobs.l1 k3 l1 x10_3 y238 y239 x13_2 x50_2 a2 x50_2 l1 (l1.length : Int) (wrap64 (x55_3 + 1)) a0_0 a0_1 l0_2) = some (r1, r2, r3) := by first | (rw [hy239]; with_reducible exact H) | (have H2_ := (Option.bind_some _ _).symm.trans H; rw [hy239]; with_reducible exact H2_) | (have H2_ := (Option.bind_some _ _).symm.trans H; with_reducible exact H2_) | with_reducible exact H | (rw [hy239]; exact H) | exact H
                   have Ny239 := Aside0.mk hy239
                   clear hy239
                   have H' := Aside0.mk H
                   clear H
                   have p231 : 0 ≤ (x55_3 : Int) := of_decide_eq_true (by first | (with_reducible assumption) | assumption)
                   have q231 : x55_3 < (l1.length : Int) := of_decide_eq_true (by first | (with_reducible assumption) | assumption)
                   obtain ⟨ad231, e231, hx231_0, hx231_1, hx231_2⟩ := at_T74 HR1.out x55_3 p231 q231
                   cases e231
                   replace hx231_0 := (HB.out.cell (World.block_lt_of_cell? w _ hx231_0)).trans hx231_0
                   replace hx231_1 := (HB.out.cell (World.block_lt_of_cell? w _ hx231_1)).trans hx231_1
                   replace hx231_2 := (HB.out.cell (World.block_lt_of_cell? w _ hx231_2)).trans hx231_2
                   replace p231 := eq_true p231
                   replace q231 := eq_true q231
                   go_wp2_with (first | ((with_reducible refine gate_dst (N := 16) rfl ?_); (try (refine gate_guard (by rfl) ?_; dsimp only)); refine box_event ?hg (N := 16) ?hd (cs := #[.int .i64 0, .int .i64 0, .int .i64 0]) (t := 74) ?hr ?_; (case hd => rfl); (case hg => rfl); (case hr => first | (go_simp; done) | (go_simp; rfl)); intro gb232 hg w62 hbox hb; have n0_ := Aside0.mk (Kd.R_below (rl HO_10.out) hb); have n1_ := Aside0.mk (Kd.R_below (rl HO_11.out) hb); have n2_ := Aside0.mk (Kd.R_below (rl HO_12.out) hb); have n3_ := Aside0.mk (blk_below (bk BK218.out) hb); have n4_ := Aside0.mk (below_step (by repeat with_reducible first | exact bl HB.out | refine below_set ?_ GE218.out | refine bq ?_) hb); have n5_ := Aside0.mk (hbox); have n6_ := Aside0.mk ((by rw [hg]; exact (below_size (by repeat with_reducible first | exact bl HB.out | refine below_set ?_ GE218.out | refine bq ?_)) : w.heap.size ≤ gb232)); have n7_ := Aside0.mk ((by rw [hg]; exact (below_size (by repeat with_reducible first | exact bl HB.out | refine below_set ?_ GE218.out | refine bq ?_)) : w.heap.size ≤ gb232)); have n8_ := Aside0.mk ((by rw [hg]; exact Nat.ne_of_lt (blk_lt (g := gb218) (o := .cells #[.int .i64 a0_0, .int .i64 a0_1, .slice A0_2 l0_2.length c0_2] 29 (0, 0)) (bk BK218.out)) : gb218 ≠ gb232)); have n9_ := Aside0.mk ((by rw [hg]; exact Nat.ne_of_gt (blk_lt (g := gb218) (o := .cells #[.int .i64 a0_0, .int .i64 a0_1, .slice A0_2 l0_2.length c0_2] 29 (0, 0)) (bk BK218.out)) : gb232 ≠ gb218)); clear HO_10; clear HO_11; clear HO_12; clear BK218; clear HB; have HO_10 := n0_; have HO_11 := n1_; have HO_12 := n2_; have BK218 := n3_; have HB := n4_; have BK232 := n5_; have GW232 := n6_; have GE232 := n7_; have NB218_232 := n8_; have NB232_218 := n9_; clear n0_ n1_ n2_ n3_ n4_ n5_ n6_ n7_ n8_ n9_; clear hb hbox hg; have hnb63 := NB232_218.out; have hnc63 := NB218_232.out; have hcz64_0 := ck (v := .int .i64 0) BK232.out 0 rfl; have hcz64_1 := ck (v := .int .i64 0) BK232.out 1 rfl; have hcz64_2 := ck (v := .int .i64 0) BK232.out 2 rfl; have hfz64_0 := blk_frozen BK232.out 0; have hfz64_1 := blk_frozen BK232.out 1; have hfz64_2 := blk_frozen BK232.out 2) | ((with_reducible refine gate_store (t := 74) (p := 16) rfl ?_); refine store_event (t := 74) (p := 16) (v := ?vo_w65) (w1 := (((w62.setCell ⟨gb232, 0, none⟩ (.int .i64 ((rd_T74 l1 x55_3).f0))).setCell ⟨gb232, 1, none⟩ (.int .i64 ((rd_T74 l1 x55_3).f1))).setCell ⟨gb232, 2, none⟩ (.int .i64 ((rd_T74 l1 x55_3).f2)))) ?hg ?ho ?hn ?hr ?_; (case ho => rfl); (case hg => rfl); (case hn => rfl); (case hr => first | (go_simp; done) | (go_simp; rfl)); intro w65 hw; have n0_ : Aside0 (Kd.R (Kd.int .i64) 3 w65 w.heap.size (fun k_ => some k_ ≠ (v226 : Value).ownBlock ∧ some k_ ≠ (v229 : Value).ownBlock) v223 x10_3) := ⟨(by rw [hw]; exact (by (repeat apply rl1); exact Kd.R_mono (Kd.R_far (p := ⟨gb232, 2, none⟩) (Kd.R_far (p := ⟨gb232, 1, none⟩) (Kd.R_far (p := ⟨gb232, 0, none⟩) (Kd.R_types HO_10.out BK232.out (by decide)) (fun _ hk => hk.2) (.int .i64 ((rd_T74 l1 x55_3).f0))) (fun _ hk => hk.2) (.int .i64 ((rd_T74 l1 x55_3).f1))) (fun _ hk => hk.2) (.int .i64 ((rd_T74 l1 x55_3).f2))) (fun _ hk => ⟨hk.1.1, hk.1.2⟩)))⟩; have n1_ : Aside0 (Kd.R (Kd.int .i64) 3 w65 w.heap.size (fun k_ => some k_ ≠ (v223 : Value).ownBlock ∧ some k_ ≠ (v229 : Value).ownBlock) v226 x11_3) := ⟨(by rw [hw]; exact (by (repeat apply rl1); exact Kd.R_mono (Kd.R_far (p := ⟨gb232, 2, none⟩) (Kd.R_far (p := ⟨gb232, 1, none⟩) (Kd.R_far (p := ⟨gb232, 0, none⟩) (Kd.R_types HO_11.out BK232.out (by decide)) (fun _ hk => hk.2) (.int .i64 ((rd_T74 l1 x55_3).f0))) (fun _ hk => hk.2) (.int .i64 ((rd_T74 l1 x55_3).f1))) (fun _ hk => hk.2) (.int .i64 ((rd_T74 l1 x55_3).f2))) (fun _ hk => ⟨hk.1.1, hk.1.2⟩)))⟩; have n2_ : Aside0 (Kd.R (Kd.int .i64) 3 w65 w.heap.size (fun k_ => some k_ ≠ (v223 : Value).ownBlock ∧ some k_ ≠ (v226 : Value).ownBlock) v229 x12_3) := ⟨(by rw [hw]; exact (by (repeat apply rl1); exact Kd.R_mono (Kd.R_far (p := ⟨gb232, 2, none⟩) (Kd.R_far (p := ⟨gb232, 1, none⟩) (Kd.R_far (p := ⟨gb232, 0, none⟩) (Kd.R_types HO_12.out BK232.out (by decide)) (fun _ hk => hk.2) (.int .i64 ((rd_T74 l1 x55_3).f0))) (fun _ hk => hk.2) (.int .i64 ((rd_T74 l1 x55_3).f1))) (fun _ hk => hk.2) (.int .i64 ((rd_T74 l1 x55_3).f2))) (fun _ hk => ⟨hk.1.1, hk.1.2⟩)))⟩; have n3_ : Aside0 (w65.heap[gb218]? = some (.cells #[.int .i64 a0_0, .int .i64 a0_1, .slice A0_2 l0_2.length c0_2] 29 (0, 0))) := ⟨(by rw [hw]; exact (by (repeat refine bk1 ?_); refine blk_far ?_ NB218_232.out _; (repeat refine bk1 ?_); refine blk_far ?_ NB218_232.out _; (repeat refine bk1 ?_); refine blk_far ?_ NB218_232.out _; (repeat refine bk1 ?_); exact BK218.out))⟩; have n4_ : Aside0 (w65.heap[gb232]? = some (.cells #[.int .i64 ((rd_T74 l1 x55_3).f0), .int .i64 ((rd_T74 l1 x55_3).f1), .int .i64 ((rd_T74 l1 x55_3).f2)] 74 (0, 0))) := ⟨(by rw [hw]; exact (by (repeat refine bk1 ?_); refine blk_put (cs := #[.int .i64 ((rd_T74 l1 x55_3).f0), .int .i64 ((rd_T74 l1 x55_3).f1), .int .i64 0]) ?_ 2 _ rfl; (repeat refine bk1 ?_); refine blk_put (cs := #[.int .i64 ((rd_T74 l1 x55_3).f0), .int .i64 0, .int .i64 0]) ?_ 1 _ rfl; (repeat refine bk1 ?_); refine blk_put (cs := #[.int .i64 0, .int .i64 0, .int .i64 0]) ?_ 0 _ rfl; (repeat refine bk1 ?_); exact BK232.out))⟩; have n5_ : Aside0 (Below w.heap.size w w65) := ⟨(by rw [hw]; exact (by repeat with_reducible first | exact bl HB.out | refine below_set ?_ GE218.out | refine below_set ?_ GE232.out | refine bq ?_))⟩; clear hw; clear HO_10; clear HO_11; clear HO_12; clear BK218; clear BK232; clear HB; have HO_10 := n0_; have HO_11 := n1_; have HO_12 := n2_; have BK218 := n3_; have BK232 := n4_; have HB := n5_; clear n0_ n1_ n2_ n3_ n4_ n5_; have hcz66_0 := ck (v := .int .i64 ((rd_T74 l1 x55_3).f0)) BK232.out 0 rfl; have hcz66_1 := ck (v := .int .i64 ((rd_T74 l1 x55_3).f1)) BK232.out 1 rfl; have hcz66_2 := ck (v := .int .i64 ((rd_T74 l1 x55_3).f2)) BK232.out 2 rfl; have hfz66_0 := blk_frozen BK232.out 0; have hfz66_1 := blk_frozen BK232.out 1; have hfz66_2 := blk_frozen BK232.out 2; obtain ⟨Ao67, co67, eo67⟩ := Kd.R_slice HO_11.out; subst eo67; have p233 : 0 ≤ (x55_3 : Int) := of_decide_eq_true (by first | (with_reducible assumption) | assumption); have q233 : x55_3 < (x11_3.length : Int) := of_decide_eq_true (by first | (with_reducible assumption) | assumption); obtain ⟨ad233, e233, hx233_0⟩ := Kd.at_int (Kd.R_reads' HO_11.out).2.2 x55_3 p233 q233; cases e233; replace p233 := eq_true p233; replace q233 := eq_true q233; have p59 : 0 ≤ (x55_3 : Int) := of_decide_eq_true (by first | (with_reducible assumption) | assumption); have q59 : (x55_3 : Int) < ((x11_3.length : Int) : Int) := of_decide_eq_true (by first | (with_reducible assumption) | assumption); obtain ⟨go59, co59, eo59, gb59, gl59, cl59, HG59⟩ := Kd.R_form HO_11.out (by omega); (first | cases eo59 | (injection eo59 with ea_ en_ ec_; (first | subst ea_ | (injection ea_ with ea_; subst ea_)); subst ec_; clear en_)); have GB59 := Aside0.mk gb59; have GG59 := Aside0.mk HG59; clear gb59 gl59 HG59; (first | simp only [add_plain] at hx233_0 | skip); obtain ⟨hx59_0, hf59_0⟩ := Kd.R_celln 0 HO_11.out (x55_3 : Int) p59 q59; replace p59 := eq_true p59; replace q59 := eq_true q59; obtain ⟨hy68_, hz68_⟩ := Kd.R_celln 0 HO_11.out (x55_3 : Int) (of_decide_eq_true (by first | (with_reducible assumption) | assumption)) (of_decide_eq_true (by first | (with_reducible assumption) | assumption)); have HP68 := Kd.R_putg HO_11.out (x55_3 : Int) ((rd_T74 l1 x55_3).f2)) | ((with_reducible refine gate_store (t := 3) (p := 83) rfl ?_); refine store_event (t := 3) (p := 83) (v := ?vo_w69) (w1 := (w65.setCell ⟨go59, (x55_3 : Int).toNat, none⟩ (.int .i64 ((rd_T74 l1 x55_3).f2)))) ?hg ?ho ?hn ?hr ?_; (case ho => rfl); (case hg => rfl); (case hn => rfl); (case hr => first | (go_simp; done) | (go_simp; rfl)); intro w69 hw; have hg : w65.grownBy w69 (some go59) := (by rw [hw]; exact HP68.2); have hp_ : Kd.R (Kd.int .i64) 3 w69 w.heap.size (fun k_ => some k_ ≠ (v223 : Value).ownBlock ∧ some k_ ≠ (v229 : Value).ownBlock) (.slice (some ⟨go59, 0, none⟩) x11_3.length co67) y238 := (by rw [hw, Ny238.out]; exact HP68.1); clear HP68; have n0_ := Aside0.mk (Kd.R_after (v := (.slice (some ⟨go59, 0, none⟩) x11_3.length co67)) (v1 := (.slice (some ⟨go59, 0, none⟩) x11_3.length co67)) (ok := (fun k_ => some k_ ≠ (v229 : Value).ownBlock)) (by (repeat apply rl1); exact Kd.R_mono HO_10.out (fun _ hk => ⟨hk.2, hk.1⟩)) hg (.inl rfl)); have n1_ := Aside0.mk (hp_); have n2_ := Aside0.mk (Kd.R_after (v := (.slice (some ⟨go59, 0, none⟩) x11_3.length co67)) (v1 := (.slice (some ⟨go59, 0, none⟩) x11_3.length co67)) (ok := (fun k_ => some k_ ≠ (v223 : Value).ownBlock)) (rl HO_12.out) hg (.inl rfl)); have n3_ := Aside0.mk (blk_grown (g := gb218) (o := .cells #[.int .i64 a0_0, .int .i64 a0_1, .slice A0_2 l0_2.length c0_2] 29 (0, 0)) (bk BK218.out) hg (Kd.R_ne HO_11.out BK218.out (by decide))); have n4_ := Aside0.mk (blk_grown (g := gb232) (o := .cells #[.int .i64 ((rd_T74 l1 x55_3).f0), .int .i64 ((rd_T74 l1 x55_3).f1), .int .i64 ((rd_T74 l1 x55_3).f2)] 74 (0, 0)) (bk BK232.out) hg (Kd.R_ne HO_11.out BK232.out (by decide))); have n5_ := Aside0.mk ((by rw [hw]; exact below_set (HB.out) GB59.out : Below w.heap.size w w69)); clear HO_10; clear HO_11; clear HO_12; clear BK218; clear BK232; clear HB; have HO_10 := n0_; have HO_11 := n1_; have HO_12 := n2_; have BK218 := n3_; have BK232 := n4_; have HB := n5_; clear n0_ n1_ n2_ n3_ n4_ n5_; clear hg hw hp_; have p61 : 0 ≤ (x55_3 : Int) := of_decide_eq_true (by first | (with_reducible assumption) | assumption); have q61 : (x55_3 : Int) < ((x12_3.length : Int) : Int) := of_decide_eq_true (by first | (with_reducible assumption) | assumption); obtain ⟨go61, co61, eo61, gb61, gl61, cl61, HG61⟩ := Kd.R_form HO_12.out (by omega); (first | cases eo61 | (injection eo61 with ea_ en_ ec_; (first | subst ea_ | (injection ea_ with ea_; subst ea_)); subst ec_; clear en_)); have GB61 := Aside0.mk gb61; have GG61 := Aside0.mk HG61; clear gb61 gl61 HG61; obtain ⟨hx61_0, hf61_0⟩ := Kd.R_celln 0 HO_12.out (x55_3 : Int) p61 q61; replace p61 := eq_true p61; replace q61 := eq_true q61; obtain ⟨hy70_, hz70_⟩ := Kd.R_celln 0 HO_12.out (x55_3 : Int) (of_decide_eq_true (by first | (with_reducible assumption) | assumption)) (of_decide_eq_true (by first | (with_reducible assumption) | assumption)); have HP70 := Kd.R_putg HO_12.out (x55_3 : Int) x50_2) | ((with_reducible refine gate_store (t := 3) (p := 84) rfl ?_); refine store_event (t := 3) (p := 84) (v := ?vo_w71) (w1 := (w69.setCell ⟨go61, (x55_3 : Int).toNat, none⟩ (.int .i64 x50_2))) ?hg ?ho ?hn ?hr ?_; (case ho => rfl); (case hg => rfl); (case hn => rfl); (case hr => first | (go_simp; done) | (go_simp; rfl)); intro w71 hw; have hg : w69.grownBy w71 (some go61) := (by rw [hw]; exact HP70.2); have hp_ : Kd.R (Kd.int .i64) 3 w71 w.heap.size (fun k_ => some k_ ≠ (v223 : Value).ownBlock ∧ some k_ ≠ (.slice (some ⟨go59, 0, none⟩) x11_3.length co67 : Value).ownBlock) (.slice (some ⟨go61, 0, none⟩) x12_3.length co61) y239 := (by rw [hw, Ny239.out]; exact HP70.1); clear HP70; have n0_ := Aside0.mk (Kd.R_after (v := (.slice (some ⟨go61, 0, none⟩) x12_3.length co61)) (v1 := (.slice (some ⟨go61, 0, none⟩) x12_3.length co61)) (ok := (fun k_ => some k_ ≠ (.slice (some ⟨go59, 0, none⟩) x11_3.length co67 : Value).ownBlock)) (by (repeat apply rl1); exact Kd.R_mono HO_10.out (fun _ hk => ⟨hk.2, hk.1⟩)) hg (.inl rfl)); have n1_ := Aside0.mk (Kd.R_after (v := (.slice (some ⟨go61, 0, none⟩) x12_3.length co61)) (v1 := (.slice (some ⟨go61, 0, none⟩) x12_3.length co61)) (ok := (fun k_ => some k_ ≠ (v223 : Value).ownBlock)) (rl HO_11.out) hg (.inl rfl)); have n2_ := Aside0.mk (hp_); have n3_ := Aside0.mk (blk_grown (g := gb218) (o := .cells #[.int .i64 a0_0, .int .i64 a0_1, .slice A0_2 l0_2.length c0_2] 29 (0, 0)) (bk BK218.out) hg (Kd.R_ne HO_12.out BK218.out (by decide))); have n4_ := Aside0.mk (blk_grown (g := gb232) (o := .cells #[.int .i64 ((rd_T74 l1 x55_3).f0), .int .i64 ((rd_T74 l1 x55_3).f1), .int .i64 ((rd_T74 l1 x55_3).f2)] 74 (0, 0)) (bk BK232.out) hg (Kd.R_ne HO_12.out BK232.out (by decide))); have n5_ := Aside0.mk ((by rw [hw]; exact below_set (HB.out) GB61.out : Below w.heap.size w w71)); clear HO_10; clear HO_11; clear HO_12; clear BK218; clear BK232; clear HB; have HO_10 := n0_; have HO_11 := n1_; have HO_12 := n2_; have BK218 := n3_; have BK232 := n4_; have HB := n5_; clear n0_ n1_ n2_ n3_ n4_ n5_; clear hg hw hp_))
                   go_roundg k3
                   case measure => have := HJ4.out; have := HK2.out; have := HK3.out; omega
                   case rel => exact ⟨(x10_3), (y238), (y239), (wrap64 (x55_3 + 1)), (by first | rfl | (simp; done) | (simp [*]; done)), H', ⟨by have := HJ4.out; have := HK2.out; have := HK3.out; omega⟩, ⟨rl HO_10.out⟩, ⟨rl HO_11.out⟩, ⟨rl HO_12.out⟩, ⟨bk BK218.out⟩, ⟨by repeat with_reducible first | exact bl HB.out | refine below_set ?_ GE218.out | refine below_set ?_ GE232.out | refine bq ?_⟩⟩
                  ·
                   rw [if_neg c60] at H
                   exact absurd H (by simp)
                ·
                 rw [if_neg c38] at H
                 exact absurd H (by simp)
               ·
                rw [if_neg c37] at H
                have c37b0 : ((Int.tmod x50_2 ((rd_T74 l1 x55_3).f1)) == 0) = false := beq_eq_false_iff_ne.mpr c37
                have c37b1 : ((Int.tmod x50_2 ((rd_T74 l1 x55_3).f1)) != 0) = true := bne_iff_ne.mpr c37
                have H' := Aside0.mk H
                clear H
                have p231 : 0 ≤ (x55_3 : Int) := of_decide_eq_true (by first | (with_reducible assumption) | assumption)
                have q231 : x55_3 < (l1.length : Int) := of_decide_eq_true (by first | (with_reducible assumption) | assumption)
                obtain ⟨ad231, e231, hx231_0, hx231_1, hx231_2⟩ := at_T74 HR1.out x55_3 p231 q231
                cases e231
                replace hx231_0 := (HB.out.cell (World.block_lt_of_cell? w _ hx231_0)).trans hx231_0
                replace hx231_1 := (HB.out.cell (World.block_lt_of_cell? w _ hx231_1)).trans hx231_1
                replace hx231_2 := (HB.out.cell (World.block_lt_of_cell? w _ hx231_2)).trans hx231_2
                replace p231 := eq_true p231
                replace q231 := eq_true q231
                go_wp2_with (first | ((with_reducible refine gate_dst (N := 16) rfl ?_); (try (refine gate_guard (by rfl) ?_; dsimp only)); refine box_event ?hg (N := 16) ?hd (cs := #[.int .i64 0, .int .i64 0, .int .i64 0]) (t := 74) ?hr ?_; (case hd => rfl); (case hg => rfl); (case hr => first | (go_simp; done) | (go_simp; rfl)); intro gb232 hg w72 hbox hb; have n0_ := Aside0.mk (Kd.R_below (rl HO_10.out) hb); have n1_ := Aside0.mk (Kd.R_below (rl HO_11.out) hb); have n2_ := Aside0.mk (Kd.R_below (rl HO_12.out) hb); have n3_ := Aside0.mk (blk_below (bk BK218.out) hb); have n4_ := Aside0.mk (below_step (by repeat with_reducible first | exact bl HB.out | refine below_set ?_ GE218.out | refine bq ?_) hb); have n5_ := Aside0.mk (hbox); have n6_ := Aside0.mk ((by rw [hg]; exact (below_size (by repeat with_reducible first | exact bl HB.out | refine below_set ?_ GE218.out | refine bq ?_)) : w.heap.size ≤ gb232)); have n7_ := Aside0.mk ((by rw [hg]; exact (below_size (by repeat with_reducible first | exact bl HB.out | refine below_set ?_ GE218.out | refine bq ?_)) : w.heap.size ≤ gb232)); have n8_ := Aside0.mk ((by rw [hg]; exact Nat.ne_of_lt (blk_lt (g := gb218) (o := .cells #[.int .i64 a0_0, .int .i64 a0_1, .slice A0_2 l0_2.length c0_2] 29 (0, 0)) (bk BK218.out)) : gb218 ≠ gb232)); have n9_ := Aside0.mk ((by rw [hg]; exact Nat.ne_of_gt (blk_lt (g := gb218) (o := .cells #[.int .i64 a0_0, .int .i64 a0_1, .slice A0_2 l0_2.length c0_2] 29 (0, 0)) (bk BK218.out)) : gb232 ≠ gb218)); clear HO_10; clear HO_11; clear HO_12; clear BK218; clear HB; have HO_10 := n0_; have HO_11 := n1_; have HO_12 := n2_; have BK218 := n3_; have HB := n4_; have BK232 := n5_; have GW232 := n6_; have GE232 := n7_; have NB218_232 := n8_; have NB232_218 := n9_; clear n0_ n1_ n2_ n3_ n4_ n5_ n6_ n7_ n8_ n9_; clear hb hbox hg; have hnb73 := NB232_218.out; have hnc73 := NB218_232.out; have hcz74_0 := ck (v := .int .i64 0) BK232.out 0 rfl; have hcz74_1 := ck (v := .int .i64 0) BK232.out 1 rfl; have hcz74_2 := ck (v := .int .i64 0) BK232.out 2 rfl; have hfz74_0 := blk_frozen BK232.out 0; have hfz74_1 := blk_frozen BK232.out 1; have hfz74_2 := blk_frozen BK232.out 2))
                go_roundg k3
                case measure => have := HJ4.out; have := HK2.out; have := HK3.out; omega
                case rel => exact ⟨(x10_3), (x11_3), (x12_3), (wrap64 (x55_3 + 1)), (by first | rfl | (simp; done) | (simp [*]; done)), H', ⟨by have := HJ4.out; have := HK2.out; have := HK3.out; omega⟩, ⟨by (repeat apply rl1); exact Kd.R_mono (Kd.R_far (p := ⟨gb232, 2, none⟩) (Kd.R_far (p := ⟨gb232, 1, none⟩) (Kd.R_far (p := ⟨gb232, 0, none⟩) (Kd.R_types HO_10.out BK232.out (by decide)) (fun _ hk => hk.2) (.int .i64 ((rd_T74 l1 x55_3).f0))) (fun _ hk => hk.2) (.int .i64 ((rd_T74 l1 x55_3).f1))) (fun _ hk => hk.2) (.int .i64 ((rd_T74 l1 x55_3).f2))) (fun _ hk => ⟨hk.1.1, hk.1.2⟩)⟩, ⟨by (repeat apply rl1); exact Kd.R_mono (Kd.R_far (p := ⟨gb232, 2, none⟩) (Kd.R_far (p := ⟨gb232, 1, none⟩) (Kd.R_far (p := ⟨gb232, 0, none⟩) (Kd.R_types HO_11.out BK232.out (by decide)) (fun _ hk => hk.2) (.int .i64 ((rd_T74 l1 x55_3).f0))) (fun _ hk => hk.2) (.int .i64 ((rd_T74 l1 x55_3).f1))) (fun _ hk => hk.2) (.int .i64 ((rd_T74 l1 x55_3).f2))) (fun _ hk => ⟨hk.1.1, hk.1.2⟩)⟩, ⟨by (repeat apply rl1); exact Kd.R_mono (Kd.R_far (p := ⟨gb232, 2, none⟩) (Kd.R_far (p := ⟨gb232, 1, none⟩) (Kd.R_far (p := ⟨gb232, 0, none⟩) (Kd.R_types HO_12.out BK232.out (by decide)) (fun _ hk => hk.2) (.int .i64 ((rd_T74 l1 x55_3).f0))) (fun _ hk => hk.2) (.int .i64 ((rd_T74 l1 x55_3).f1))) (fun _ hk => hk.2) (.int .i64 ((rd_T74 l1 x55_3).f2))) (fun _ hk => ⟨hk.1.1, hk.1.2⟩)⟩, ⟨by (repeat refine bk1 ?_); refine blk_far ?_ NB218_232.out _; (repeat refine bk1 ?_); refine blk_far ?_ NB218_232.out _; (repeat refine bk1 ?_); refine blk_far ?_ NB218_232.out _; (repeat refine bk1 ?_); exact BK218.out⟩, ⟨by repeat with_reducible first | exact bl HB.out | refine below_set ?_ GE218.out | refine below_set ?_ GE232.out | refine bq ?_⟩⟩
             ·
              rw [if_neg c35] at H
              exact absurd H (by simp)
            ·
             rw [if_neg c34] at H
             exact absurd H (by simp)
           ·
            rw [if_neg c33] at H
            have c33b0 : decide (x55_3 < (l1.length : Int)) = false := decide_eq_false c33
            clear c33
            replace H := Option.bind_eq_some_iff.mp H
            obtain ⟨t240, A750, H⟩ := H
            replace H : (impl_RunJobs.l2 k3 l1 x10_3 x11_3 x12_3 x13_2 t240 (-1) a2 x50_2 l1 (l1.length : Int) 0 a0_0 a0_1 l0_2) = some (r1, r2, r3) := H
            have A75 := Aside0.mk A750
            clear A750
            have H' := Aside0.mk H
            clear H
            have hcz76_0 := ck (v := .int .i64 a0_0) BK218.out 0 rfl
            have hcz76_1 := ck (v := .int .i64 a0_1) BK218.out 1 rfl
            have hcz76_2 := ck (v := .slice A0_2 l0_2.length c0_2) BK218.out 2 rfl
            have hfz76_0 := blk_frozen BK218.out 0
            have hfz76_1 := blk_frozen BK218.out 1
            have hfz76_2 := blk_frozen BK218.out 2
            go_wp2_with (first | ((with_reducible refine gate_callee (f := 42) rfl ?_); refine goesL_ (some 88) rfl rfl Try.func42 (by kernel_rfl) rfl #[.agg #[.int .i64 a0_0, .int .i64 a0_1, .slice A0_2 l0_2.length c0_2], .int .i64 x50_2] rfl (by (try simp only [am_]); first | done | rfl) ?_; (with_reducible refine (impl_owner.calls k3 a0_0 a0_1 _ _ l0_2 x50_2 t240 _ ?side1 ?side2 A75.out).mono ?_); (case side1 => exact rc (Kd.C_below HR0_2.out HB.out)); (case side2 => exact HC0_2.out); rintro e w77 ⟨rfl, hb⟩; refine ⟨_, rfl, ?_⟩; have n0_ := Aside0.mk (Kd.R_below (rl HO_10.out) hb); have n1_ := Aside0.mk (Kd.R_below (rl HO_11.out) hb); have n2_ := Aside0.mk (Kd.R_below (rl HO_12.out) hb); have n3_ := Aside0.mk (blk_below (bk BK218.out) hb); have n4_ := Aside0.mk (below_step (by repeat with_reducible first | exact bl HB.out | refine below_set ?_ GE218.out | refine bq ?_) hb); clear HO_10; clear HO_11; clear HO_12; clear BK218; clear HB; have HO_10 := n0_; have HO_11 := n1_; have HO_12 := n2_; have BK218 := n3_; have HB := n4_; clear n0_ n1_ n2_ n3_ n4_; (try clear hb); (try clear hb2); (try clear hk); (try clear hi)))
            go_loopg [18, 91] k3 (fun kq v18 v91 w' => ∃ (x18_4 : Int) (x91_4 : Int), v18 = .int .i64 x18_4 ∧ v91 = .int .i64 x91_4 ∧ Aside0 (impl_RunJobs.l2 kq l1 x10_3 x11_3 x12_3 x13_2 t240 x18_4 a2 x50_2 l1 (l1.length : Int) x91_4 a0_0 a0_1 l0_2 = some (r1, r2, r3)) ∧ Aside0 (kq ≤ k3) ∧ Aside0 (Kd.R (Kd.int .i64) 3 w' w.heap.size (fun k_ => some k_ ≠ (v226 : Value).ownBlock ∧ some k_ ≠ (v229 : Value).ownBlock) v223 x10_3) ∧ Aside0 (Kd.R (Kd.int .i64) 3 w' w.heap.size (fun k_ => some k_ ≠ (v223 : Value).ownBlock ∧ some k_ ≠ (v229 : Value).ownBlock) v226 x11_3) ∧ Aside0 (Kd.R (Kd.int .i64) 3 w' w.heap.size (fun k_ => some k_ ≠ (v223 : Value).ownBlock ∧ some k_ ≠ (v226 : Value).ownBlock) v229 x12_3) ∧ Aside0 (w'.heap[gb218]? = some (.cells #[.int .i64 a0_0, .int .i64 a0_1, (.slice A0_2 l0_2.length c0_2)] 29 (0, 0))) ∧ Aside0 (Below w.heap.size w w'))
            case atStart => exact ⟨((-1)), (0), (by first | rfl | (simp; done) | (simp [*]; done)), (by first | rfl | (simp; done) | (simp [*]; done)), H', ⟨Nat.le_refl _⟩, ⟨rl HO_10.out⟩, ⟨rl HO_11.out⟩, ⟨rl HO_12.out⟩, ⟨bk BK218.out⟩, ⟨by repeat with_reducible first | exact bl HB.out | refine below_set ?_ GE218.out | refine bq ?_⟩⟩
            case round =>
             clear H'
             try clear p2
             try clear q2
             try clear hx2
             try clear c3
             try clear c4
             try clear p4
             try clear q4
             try clear hx4
             try clear hf4
             try clear p5
             try clear q5
             try clear hx5
             try clear hf5
             try clear c6
             try clear p6
             try clear q6
             try clear hx6
             try clear hf6
             try clear c7
             try clear p23
             try clear q23
             try clear hx23
             try clear c32
             try clear c32b0
             try clear c33
             try clear c33b0
             try clear c34
             try clear c34b0
             try clear c35
             try clear c35b0
             try clear c36
             try clear c36b0
             try clear c36b1
             try clear c37
             try clear c37b0
             try clear c37b1
             try clear c38
             try clear c38b0
             try clear c39
             try clear c39b0
             try clear c40
             try clear c40b0
             try clear p41
             try clear q41
             try clear hx41
             try clear hf41
             try clear c42
             try clear p42
             try clear q42
             try clear hx42
             try clear hf42
             try clear c43
             try clear c43b0
             try clear p44
             try clear q44
             try clear hx44
             try clear hf44
             try clear c46
             try clear p59
             try clear q59
             try clear hx59
             try clear hf59
             try clear c60
             try clear c60b0
             try clear p61
             try clear q61
             try clear hx61
             try clear hf61
             try clear c63
             try clear p64
             try clear c73
             try clear hcz47_0
             try clear hcz47_1
             try clear hcz47_2
             try clear hcz49_0
             try clear hcz49_1
             try clear hcz49_2
             try clear hcz54_0
             try clear hcz54_1
             try clear hcz54_2
             try clear hcz64_0
             try clear hcz64_1
             try clear hcz64_2
             try clear hcz66_0
             try clear hcz66_1
             try clear hcz66_2
             try clear hcz74_0
             try clear hcz74_1
             try clear hcz74_2
             try clear hcz76_0
             try clear hcz76_1
             try clear hcz76_2
             try clear hfz47_0
             try clear hfz47_1
             try clear hfz47_2
             try clear hfz49_0
             try clear hfz49_1
             try clear hfz49_2
             try clear hfz54_0
             try clear hfz54_1
             try clear hfz54_2
             try clear hfz64_0
             try clear hfz64_1
             try clear hfz64_2
             try clear hfz66_0
             try clear hfz66_1
             try clear hfz66_2
             try clear hfz74_0
             try clear hfz74_1
             try clear hfz74_2
             try clear hfz76_0
             try clear hfz76_1
             try clear hfz76_2
             try clear hx231_0
             try clear hx231_1
             try clear hx231_2
             try clear hx233_0
             try clear hx234_0
             try clear hx41_0
             try clear hx42_0
             try clear hx44_0
             try clear hx59_0
             try clear hx61_0
             try clear p2
             try clear p231
             try clear p233
             try clear p234
             try clear p41
             try clear p42
             try clear p44
             try clear p59
             try clear p61
             try clear q231
             try clear q233
             try clear q234
             try clear q41
             try clear q42
             try clear q44
             try clear q59
             try clear q61
             obtain ⟨x18_4, x91_4, rfl, rfl, HA, HK4, HO_10, HO_11, HO_12, BK218, HB⟩ := hrel
             cases gk with
             | zero => exact absurd HA.out (by simp [impl_RunJobs.l2])
             | succ k4 =>
              have H := HA.out
              clear HA
              simp only [impl_RunJobs.l2] at H
              by_cases c78 : x91_4 < (l1.length : Int)
              ·
               rw [if_pos c78] at H
               have c78b0 : decide (x91_4 < (l1.length : Int)) = true := decide_eq_true c78
               clear c78
               by_cases c79 : 0 ≤ x91_4
               ·
                rw [if_pos c79] at H
                have c79b0 : decide (0 ≤ x91_4) = true := decide_eq_true c79
                clear c79
                by_cases c80 : x91_4 < (l1.length : Int)
                ·
                 rw [if_pos c80] at H
                 have c80b0 : decide (x91_4 < (l1.length : Int)) = true := decide_eq_true c80
                 clear c80
                 by_cases c81 : ((rd_T74 l1 x91_4).f0) = t240
                 ·
                  rw [if_pos c81] at H
                  have c81b0 : (((rd_T74 l1 x91_4).f0) == t240) = true := beq_iff_eq.mpr c81
                  have c81b1 : (((rd_T74 l1 x91_4).f0) != t240) = false := bne_eq_false_iff_eq.mpr c81
                  clear c81
                  by_cases c82 : x91_4 < (x11_3.length : Int)
                  ·
                   rw [if_pos c82] at H
                   have c82b0 : decide (x91_4 < (x11_3.length : Int)) = true := decide_eq_true c82
                   clear c82
                   by_cases c83 : (rd x11_3 x91_4) > 0
                   ·
                    rw [if_pos c83] at H
                    have c83b0 : decide (0 < (rd x11_3 x91_4)) = true := decide_eq_true c83
                    clear c83
                    by_cases c84 : x18_4 < 0
                    ·
                     rw [if_pos c84] at H
                     have c84b0 : decide (x18_4 < 0) = true := decide_eq_true c84
                     clear c84
                     have H' := Aside0.mk H
                     clear H
                     have p241 : 0 ≤ (x91_4 : Int) := of_decide_eq_true (by first | (with_reducible assumption) | assumption)
                     have q241 : x91_4 < (l1.length : Int) := of_decide_eq_true (by first | (with_reducible assumption) | assumption)
                     obtain ⟨ad241, e241, hx241_0, hx241_1, hx241_2⟩ := at_T74 HR1.out x91_4 p241 q241
                     cases e241
                     replace hx241_0 := (HB.out.cell (World.block_lt_of_cell? w _ hx241_0)).trans hx241_0
                     replace hx241_1 := (HB.out.cell (World.block_lt_of_cell? w _ hx241_1)).trans hx241_1
                     replace hx241_2 := (HB.out.cell (World.block_lt_of_cell? w _ hx241_2)).trans hx241_2
                     replace p241 := eq_true p241
                     replace q241 := eq_true q241
                     try go_wp2_with (first | ((with_reducible refine gate_dst (N := 20) rfl ?_); (try (refine gate_guard (by rfl) ?_; dsimp only)); refine box_event ?hg (N := 20) ?hd (cs := #[.int .i64 0, .int .i64 0, .int .i64 0]) (t := 74) ?hr ?_; (case hd => rfl); (case hg => rfl); (case hr => first | (go_simp; done) | (go_simp; rfl)); intro gb242 hg w85 hbox hb; have n0_ := Aside0.mk (Kd.R_below (rl HO_10.out) hb); have n1_ := Aside0.mk (Kd.R_below (rl HO_11.out) hb); have n2_ := Aside0.mk (Kd.R_below (rl HO_12.out) hb); have n3_ := Aside0.mk (blk_below (bk BK218.out) hb); have n4_ := Aside0.mk (below_step (by repeat with_reducible first | exact bl HB.out | refine below_set ?_ GE218.out | refine bq ?_) hb); have n5_ := Aside0.mk (hbox); have n6_ := Aside0.mk ((by rw [hg]; exact (below_size (by repeat with_reducible first | exact bl HB.out | refine below_set ?_ GE218.out | refine bq ?_)) : w.heap.size ≤ gb242)); have n7_ := Aside0.mk ((by rw [hg]; exact (below_size (by repeat with_reducible first | exact bl HB.out | refine below_set ?_ GE218.out | refine bq ?_)) : w.heap.size ≤ gb242)); have n8_ := Aside0.mk ((by rw [hg]; exact Nat.ne_of_lt (blk_lt (g := gb218) (o := .cells #[.int .i64 a0_0, .int .i64 a0_1, .slice A0_2 l0_2.length c0_2] 29 (0, 0)) (bk BK218.out)) : gb218 ≠ gb242)); have n9_ := Aside0.mk ((by rw [hg]; exact Nat.ne_of_gt (blk_lt (g := gb218) (o := .cells #[.int .i64 a0_0, .int .i64 a0_1, .slice A0_2 l0_2.length c0_2] 29 (0, 0)) (bk BK218.out)) : gb242 ≠ gb218)); clear HO_10; clear HO_11; clear HO_12; clear BK218; clear HB; have HO_10 := n0_; have HO_11 := n1_; have HO_12 := n2_; have BK218 := n3_; have HB := n4_; have BK242 := n5_; have GW242 := n6_; have GE242 := n7_; have NB218_242 := n8_; have NB242_218 := n9_; clear n0_ n1_ n2_ n3_ n4_ n5_ n6_ n7_ n8_ n9_; clear hb hbox hg; have hnb86 := NB242_218.out; have hnc86 := NB218_242.out; have hcz87_0 := ck (v := .int .i64 0) BK242.out 0 rfl; have hcz87_1 := ck (v := .int .i64 0) BK242.out 1 rfl; have hcz87_2 := ck (v := .int .i64 0) BK242.out 2 rfl; have hfz87_0 := blk_frozen BK242.out 0; have hfz87_1 := blk_frozen BK242.out 1; have hfz87_2 := blk_frozen BK242.out 2))
                     have n0_ : Aside0 (Kd.R (Kd.int .i64) 3 (((w85.setCell ⟨gb242, 0, none⟩ (.int .i64 ((rd_T74 l1 x91_4).f0))).setCell ⟨gb242, 1, none⟩ (.int .i64 ((rd_T74 l1 x91_4).f1))).setCell ⟨gb242, 2, none⟩ (.int .i64 ((rd_T74 l1 x91_4).f2))) w.heap.size (fun k_ => some k_ ≠ (v226 : Value).ownBlock ∧ some k_ ≠ (v229 : Value).ownBlock) v223 x10_3) := ⟨by (repeat apply rl1); exact Kd.R_mono (Kd.R_far (p := ⟨gb242, 2, none⟩) (Kd.R_far (p := ⟨gb242, 1, none⟩) (Kd.R_far (p := ⟨gb242, 0, none⟩) (Kd.R_types HO_10.out BK242.out (by decide)) (fun _ hk => hk.2) (.int .i64 ((rd_T74 l1 x91_4).f0))) (fun _ hk => hk.2) (.int .i64 ((rd_T74 l1 x91_4).f1))) (fun _ hk => hk.2) (.int .i64 ((rd_T74 l1 x91_4).f2))) (fun _ hk => ⟨hk.1.1, hk.1.2⟩)⟩
                     have n1_ : Aside0 (Kd.R (Kd.int .i64) 3 (((w85.setCell ⟨gb242, 0, none⟩ (.int .i64 ((rd_T74 l1 x91_4).f0))).setCell ⟨gb242, 1, none⟩ (.int .i64 ((rd_T74 l1 x91_4).f1))).setCell ⟨gb242, 2, none⟩ (.int .i64 ((rd_T74 l1 x91_4).f2))) w.heap.size (fun k_ => some k_ ≠ (v223 : Value).ownBlock ∧ some k_ ≠ (v229 : Value).ownBlock) v226 x11_3) := ⟨by (repeat apply rl1); exact Kd.R_mono (Kd.R_far (p := ⟨gb242, 2, none⟩) (Kd.R_far (p := ⟨gb242, 1, none⟩) (Kd.R_far (p := ⟨gb242, 0, none⟩) (Kd.R_types HO_11.out BK242.out (by decide)) (fun _ hk => hk.2) (.int .i64 ((rd_T74 l1 x91_4).f0))) (fun _ hk => hk.2) (.int .i64 ((rd_T74 l1 x91_4).f1))) (fun _ hk => hk.2) (.int .i64 ((rd_T74 l1 x91_4).f2))) (fun _ hk => ⟨hk.1.1, hk.1.2⟩)⟩
                     have n2_ : Aside0 (Kd.R (Kd.int .i64) 3 (((w85.setCell ⟨gb242, 0, none⟩ (.int .i64 ((rd_T74 l1 x91_4).f0))).setCell ⟨gb242, 1, none⟩ (.int .i64 ((rd_T74 l1 x91_4).f1))).setCell ⟨gb242, 2, none⟩ (.int .i64 ((rd_T74 l1 x91_4).f2))) w.heap.size (fun k_ => some k_ ≠ (v223 : Value).ownBlock ∧ some k_ ≠ (v226 : Value).ownBlock) v229 x12_3) := ⟨by (repeat apply rl1); exact Kd.R_mono (Kd.R_far (p := ⟨gb242, 2, none⟩) (Kd.R_far (p := ⟨gb242, 1, none⟩) (Kd.R_far (p := ⟨gb242, 0, none⟩) (Kd.R_types HO_12.out BK242.out (by decide)) (fun _ hk => hk.2) (.int .i64 ((rd_T74 l1 x91_4).f0))) (fun _ hk => hk.2) (.int .i64 ((rd_T74 l1 x91_4).f1))) (fun _ hk => hk.2) (.int .i64 ((rd_T74 l1 x91_4).f2))) (fun _ hk => ⟨hk.1.1, hk.1.2⟩)⟩
                     have n3_ : Aside0 ((((w85.setCell ⟨gb242, 0, none⟩ (.int .i64 ((rd_T74 l1 x91_4).f0))).setCell ⟨gb242, 1, none⟩ (.int .i64 ((rd_T74 l1 x91_4).f1))).setCell ⟨gb242, 2, none⟩ (.int .i64 ((rd_T74 l1 x91_4).f2))).heap[gb218]? = some (.cells #[.int .i64 a0_0, .int .i64 a0_1, .slice A0_2 l0_2.length c0_2] 29 (0, 0))) := ⟨by (repeat refine bk1 ?_); refine blk_far ?_ NB218_242.out _; (repeat refine bk1 ?_); refine blk_far ?_ NB218_242.out _; (repeat refine bk1 ?_); refine blk_far ?_ NB218_242.out _; (repeat refine bk1 ?_); exact BK218.out⟩
                     have n4_ : Aside0 ((((w85.setCell ⟨gb242, 0, none⟩ (.int .i64 ((rd_T74 l1 x91_4).f0))).setCell ⟨gb242, 1, none⟩ (.int .i64 ((rd_T74 l1 x91_4).f1))).setCell ⟨gb242, 2, none⟩ (.int .i64 ((rd_T74 l1 x91_4).f2))).heap[gb242]? = some (.cells #[.int .i64 ((rd_T74 l1 x91_4).f0), .int .i64 ((rd_T74 l1 x91_4).f1), .int .i64 ((rd_T74 l1 x91_4).f2)] 74 (0, 0))) := ⟨by (repeat refine bk1 ?_); refine blk_put (cs := #[.int .i64 ((rd_T74 l1 x91_4).f0), .int .i64 ((rd_T74 l1 x91_4).f1), .int .i64 0]) ?_ 2 _ rfl; (repeat refine bk1 ?_); refine blk_put (cs := #[.int .i64 ((rd_T74 l1 x91_4).f0), .int .i64 0, .int .i64 0]) ?_ 1 _ rfl; (repeat refine bk1 ?_); refine blk_put (cs := #[.int .i64 0, .int .i64 0, .int .i64 0]) ?_ 0 _ rfl; (repeat refine bk1 ?_); exact BK242.out⟩
                     have n5_ : Aside0 (Below w.heap.size w (((w85.setCell ⟨gb242, 0, none⟩ (.int .i64 ((rd_T74 l1 x91_4).f0))).setCell ⟨gb242, 1, none⟩ (.int .i64 ((rd_T74 l1 x91_4).f1))).setCell ⟨gb242, 2, none⟩ (.int .i64 ((rd_T74 l1 x91_4).f2)))) := ⟨by repeat with_reducible first | exact bl HB.out | refine below_set ?_ GE218.out | refine below_set ?_ GE242.out | refine bq ?_⟩
                     (try clear HO_10)
                     (try clear HO_11)
                     (try clear HO_12)
                     (try clear BK218)
                     (try clear BK242)
                     (try clear HB)
                     generalize (((w85.setCell ⟨gb242, 0, none⟩ (.int .i64 ((rd_T74 l1 x91_4).f0))).setCell ⟨gb242, 1, none⟩ (.int .i64 ((rd_T74 l1 x91_4).f1))).setCell ⟨gb242, 2, none⟩ (.int .i64 ((rd_T74 l1 x91_4).f2))) = w88 at n0_ n1_ n2_ n3_ n4_ n5_ ⊢
                     have HO_10 := n0_
                     have HO_11 := n1_
                     have HO_12 := n2_
                     have BK218 := n3_
                     have BK242 := n4_
                     have HB := n5_
                     clear n0_ n1_ n2_ n3_ n4_ n5_
                     have n0_ := Aside0.mk (Kd.R_drew HO_10.out)
                     have n1_ := Aside0.mk (Kd.R_drew HO_11.out)
                     have n2_ := Aside0.mk (Kd.R_drew HO_12.out)
                     have n3_ := Aside0.mk (blk_drew BK218.out)
                     have n4_ := Aside0.mk (blk_drew BK242.out)
                     have n5_ := Aside0.mk (below_drew1 HB.out)
                     clear HO_10
                     clear HO_11
                     clear HO_12
                     clear BK218
                     clear BK242
                     clear HB
                     have HO_10 := n0_
                     have HO_11 := n1_
                     have HO_12 := n2_
                     have BK218 := n3_
                     have BK242 := n4_
                     have HB := n5_
                     clear n0_ n1_ n2_ n3_ n4_ n5_
                     obtain ⟨Ao90, co90, eo90⟩ := Kd.R_slice HO_11.out
                     (first | subst eo90 | (injection eo90 with f1_ f2_ f3_; have f4_ := f1_.symm; have f5_ := f3_.symm; clear f1_ f2_ f3_; subst f4_; subst f5_))
                     have p243 : 0 ≤ (x91_4 : Int) := of_decide_eq_true (by first | (with_reducible assumption) | assumption)
                     have q243 : x91_4 < (x11_3.length : Int) := of_decide_eq_true (by first | (with_reducible assumption) | assumption)
                     obtain ⟨ad243, e243, hx243_0⟩ := Kd.at_int (Kd.R_reads' HO_11.out).2.2 x91_4 p243 q243
                     cases e243
                     replace p243 := eq_true p243
                     replace q243 := eq_true q243
                     refine start_ (n := 26) (S := fun w' => w'.cell? ⟨gb242, 0, none⟩ = some (.int .i64 ((rd_T74 l1 x91_4).f0)) ∧ w'.cell? ⟨gb242, 1, none⟩ = some (.int .i64 ((rd_T74 l1 x91_4).f1)) ∧ w'.cell? ⟨gb242, 2, none⟩ = some (.int .i64 ((rd_T74 l1 x91_4).f2)) ∧ w'.cell? (ad243.add (x91_4).toNat) = some (.int .i64 (rd x11_3 x91_4))) (ds := []) m0_26 (by kernel_rfl) rfl rfl ⟨ck BK242.out 0 rfl, ck BK242.out 1 rfl, ck BK242.out 2 rfl, hx243_0⟩ (fun hHeld => ?_); refine with_tabW impl_RunJobs.tab20 impl_RunJobs.bits20 (fun HT_ HW_ => ?_)
                     generalize w88.drew = w89 at HO_10 HO_11 HO_12 BK218 BK242 HB hx243_0 hHeld ⊢
                     refine pp_ HT_.out 0 96 m1_26 rfl rfl (by kernel_rfl) (by rfl) (by intro w'; go_simp; with_reducible rfl) (by simp only [sp_]; rfl) (fun _ _ _ h => h) ?_
                     refine pp_ HT_.out 2 98 n26 rfl rfl (by kernel_rfl) (by rfl) (by intro w'; go_simp; with_reducible rfl) (by simp only [sp_]; rfl) (fun _ _ _ h => h) ?_
                     refine tk_ HT_.out HW_.out 1 97 m3_26 rfl rfl (by kernel_rfl) (by rfl) (by rintro w' ⟨s0, s1, s2, s3⟩; go_simp; with_reducible rfl) hHeld (by simp only [sp_]; rfl) (fun _ _ _ h => h) ?_
                     refine pp_ HT_.out 3 99 m4_26 rfl rfl (by kernel_rfl) (by rfl) (by intro w'; go_simp; with_reducible rfl) (by simp only [sp_]; rfl) (fun _ _ _ h => h) ?_
                     refine pp_ HT_.out 4 100 m5_26 rfl rfl (by kernel_rfl) (by rfl) (by intro w'; go_simp; with_reducible rfl) (by simp only [sp_]; rfl) (fun _ _ _ h => h) ?_
                     refine pp_ HT_.out 5 101 m6_26 rfl rfl (by kernel_rfl) (by rfl) (by intro w'; go_simp; with_reducible rfl) (by simp only [sp_]; rfl) (fun _ _ _ h => h) ?_
                     refine pp_ HT_.out 6 102 m7_26 rfl rfl (by kernel_rfl) (by rfl) (by intro w'; go_simp; with_reducible rfl) (by simp only [sp_]; rfl) (fun _ _ _ h => h) ?_
                     refine pp_ HT_.out 7 103 m8_26 rfl rfl (by kernel_rfl) (by rfl) (by intro w'; go_simp; with_reducible rfl) (by simp only [sp_]; rfl) (fun _ _ _ h => h) ?_
                     refine tk_ HT_.out HW_.out 8 104 m9_26 rfl rfl (by kernel_rfl) (by rfl) (by rintro w' ⟨s0, s1, s2, s3⟩; go_simp; with_reducible rfl) hHeld (by simp only [sp_]; rfl) (fun _ _ _ h => h) ?_
                     refine pp_ HT_.out 9 105 m10_26 rfl rfl (by kernel_rfl) (by rfl) (by intro w'; go_simp; with_reducible rfl) (by simp only [sp_]; rfl) (fun _ _ _ h => h) ?_
                     refine pp_ HT_.out 10 106 m11_26 rfl rfl (by kernel_rfl) (by rfl) (by intro w'; go_simp; with_reducible rfl) (by simp only [sp_]; rfl) (fun _ _ _ h => h) ?_
                     refine pp_ HT_.out 11 107 m12_26 rfl rfl (by kernel_rfl) (by rfl) (by intro w'; go_simp; with_reducible rfl) (by simp only [sp_]; rfl) (fun _ _ _ h => h) ?_
                     refine pp_ HT_.out 12 108 m13_26 rfl rfl (by kernel_rfl) (by rfl) (by intro w'; go_simp; with_reducible rfl) (by simp only [sp_]; rfl) (fun _ _ _ h => h) ?_
                     refine pp_ HT_.out 13 109 m14_26 rfl rfl (by kernel_rfl) (by rfl) (by intro w'; go_simp; with_reducible rfl) (by simp only [sp_]; rfl) (fun _ _ _ h => h) ?_
                     refine pp_ HT_.out 14 110 m15_26 rfl rfl (by kernel_rfl) (by rfl) (by intro w'; go_simp; with_reducible rfl) (by simp only [sp_]; rfl) (fun _ _ _ h => h) ?_
                     refine pu_ HT_.out 15 111 m16_26 rfl rfl (by kernel_rfl) (by rfl) (by simp only [sp_]; rfl) (fun _ _ _ h => h) ?_
                     refine pu_ HT_.out 16 112 m17_26 rfl rfl (by kernel_rfl) (by rfl) (by simp only [sp_]; rfl) (fun _ _ _ h => h) ?_
                     refine pu_ HT_.out 17 113 m18_26 rfl rfl (by kernel_rfl) (by rfl) (by simp only [sp_]; rfl) (fun _ _ _ h => h) ?_
                     refine pu_ HT_.out 18 114 m19_26 rfl rfl (by kernel_rfl) (by rfl) (by simp only [sp_]; rfl) (fun _ _ _ h => h) ?_
                     refine pu_ HT_.out 19 115 m20_26 rfl rfl (by kernel_rfl) (by rfl) (by simp only [sp_]; rfl) (fun _ _ _ h => h) ?_
                     refine pu_ HT_.out 20 116 m21_26 rfl rfl (by kernel_rfl) (by rfl) (by simp only [sp_]; rfl) (fun _ _ _ h => h) ?_
                     refine pu_ HT_.out 21 117 m22_26 rfl rfl (by kernel_rfl) (by rfl) (by simp only [sp_]; rfl) (fun _ _ _ h => h) ?_
                     refine pu_ HT_.out 22 118 m23_26 rfl rfl (by kernel_rfl) (by rfl) (by simp only [sp_]; rfl) (fun _ _ _ h => h) ?_
                     refine pu_ HT_.out 23 119 m24_26 rfl rfl (by kernel_rfl) (by rfl) (by simp only [sp_]; rfl) (fun _ _ _ h => h) ?_
                     refine pp_ HT_.out 24 120 m25_26 rfl rfl (by kernel_rfl) (by rfl) (by intro w'; go_simp; with_reducible rfl) (by simp only [sp_]; rfl) (fun _ _ _ h => h) ?_
                     refine pp_ HT_.out 25 121 m26_26 rfl rfl (by kernel_rfl) (by rfl) (by intro w'; go_simp; with_reducible rfl) (by simp only [sp_]; rfl) (fun _ _ _ h => h) ?_
                     refine done_ (done_of HT_.out (by kernel_rfl)) ?_
                     try go_wp2
                     go_roundg k4
                     case measure => have := HJ4.out; have := HK2.out; have := HK3.out; have := HK4.out; omega
                     case rel => exact ⟨(x91_4), (wrap64 (x91_4 + 1)), (by first | rfl | (simp; done) | (simp [*]; done)), (by first | rfl | (simp; done) | (simp [*]; done)), H', ⟨by have := HJ4.out; have := HK2.out; have := HK3.out; have := HK4.out; omega⟩, ⟨rl HO_10.out⟩, ⟨rl HO_11.out⟩, ⟨rl HO_12.out⟩, ⟨bk BK218.out⟩, ⟨by repeat with_reducible first | exact bl HB.out | refine below_set ?_ GE218.out | refine below_set ?_ GE242.out | refine bq ?_⟩⟩
                    ·
                     rw [if_neg c84] at H
                     have c84b0 : decide (x18_4 < 0) = false := decide_eq_false c84
                     clear c84
                     by_cases c91 : x91_4 < (x12_3.length : Int)
                     ·
                      rw [if_pos c91] at H
                      have c91b0 : decide (x91_4 < (x12_3.length : Int)) = true := decide_eq_true c91
                      clear c91
                      by_cases c92 : 0 ≤ x18_4
                      ·
                       rw [if_pos c92] at H
                       have c92b0 : decide (0 ≤ x18_4) = true := decide_eq_true c92
                       clear c92
                       by_cases c93 : x18_4 < (x12_3.length : Int)
                       ·
                        rw [if_pos c93] at H
                        have c93b0 : decide (x18_4 < (x12_3.length : Int)) = true := decide_eq_true c93
                        clear c93
                        by_cases c94 : (rd x12_3 x91_4) < (rd x12_3 x18_4)
                        ·
                         rw [if_pos c94] at H
                         have c94b0 : decide ((rd x12_3 x91_4) < (rd x12_3 x18_4)) = true := decide_eq_true c94
                         clear c94
                         have H' := Aside0.mk H
                         clear H
                         have p241 : 0 ≤ (x91_4 : Int) := of_decide_eq_true (by first | (with_reducible assumption) | assumption)
                         have q241 : x91_4 < (l1.length : Int) := of_decide_eq_true (by first | (with_reducible assumption) | assumption)
                         obtain ⟨ad241, e241, hx241_0, hx241_1, hx241_2⟩ := at_T74 HR1.out x91_4 p241 q241
                         cases e241
                         replace hx241_0 := (HB.out.cell (World.block_lt_of_cell? w _ hx241_0)).trans hx241_0
                         replace hx241_1 := (HB.out.cell (World.block_lt_of_cell? w _ hx241_1)).trans hx241_1
                         replace hx241_2 := (HB.out.cell (World.block_lt_of_cell? w _ hx241_2)).trans hx241_2
                         replace p241 := eq_true p241
                         replace q241 := eq_true q241
                         try go_wp2_with (first | ((with_reducible refine gate_dst (N := 20) rfl ?_); (try (refine gate_guard (by rfl) ?_; dsimp only)); refine box_event ?hg (N := 20) ?hd (cs := #[.int .i64 0, .int .i64 0, .int .i64 0]) (t := 74) ?hr ?_; (case hd => rfl); (case hg => rfl); (case hr => first | (go_simp; done) | (go_simp; rfl)); intro gb242 hg w95 hbox hb; have n0_ := Aside0.mk (Kd.R_below (rl HO_10.out) hb); have n1_ := Aside0.mk (Kd.R_below (rl HO_11.out) hb); have n2_ := Aside0.mk (Kd.R_below (rl HO_12.out) hb); have n3_ := Aside0.mk (blk_below (bk BK218.out) hb); have n4_ := Aside0.mk (below_step (by repeat with_reducible first | exact bl HB.out | refine below_set ?_ GE218.out | refine bq ?_) hb); have n5_ := Aside0.mk (hbox); have n6_ := Aside0.mk ((by rw [hg]; exact (below_size (by repeat with_reducible first | exact bl HB.out | refine below_set ?_ GE218.out | refine bq ?_)) : w.heap.size ≤ gb242)); have n7_ := Aside0.mk ((by rw [hg]; exact (below_size (by repeat with_reducible first | exact bl HB.out | refine below_set ?_ GE218.out | refine bq ?_)) : w.heap.size ≤ gb242)); have n8_ := Aside0.mk ((by rw [hg]; exact Nat.ne_of_lt (blk_lt (g := gb218) (o := .cells #[.int .i64 a0_0, .int .i64 a0_1, .slice A0_2 l0_2.length c0_2] 29 (0, 0)) (bk BK218.out)) : gb218 ≠ gb242)); have n9_ := Aside0.mk ((by rw [hg]; exact Nat.ne_of_gt (blk_lt (g := gb218) (o := .cells #[.int .i64 a0_0, .int .i64 a0_1, .slice A0_2 l0_2.length c0_2] 29 (0, 0)) (bk BK218.out)) : gb242 ≠ gb218)); clear HO_10; clear HO_11; clear HO_12; clear BK218; clear HB; have HO_10 := n0_; have HO_11 := n1_; have HO_12 := n2_; have BK218 := n3_; have HB := n4_; have BK242 := n5_; have GW242 := n6_; have GE242 := n7_; have NB218_242 := n8_; have NB242_218 := n9_; clear n0_ n1_ n2_ n3_ n4_ n5_ n6_ n7_ n8_ n9_; clear hb hbox hg; have hnb96 := NB242_218.out; have hnc96 := NB218_242.out; have hcz97_0 := ck (v := .int .i64 0) BK242.out 0 rfl; have hcz97_1 := ck (v := .int .i64 0) BK242.out 1 rfl; have hcz97_2 := ck (v := .int .i64 0) BK242.out 2 rfl; have hfz97_0 := blk_frozen BK242.out 0; have hfz97_1 := blk_frozen BK242.out 1; have hfz97_2 := blk_frozen BK242.out 2))
                         have n0_ : Aside0 (Kd.R (Kd.int .i64) 3 (((w95.setCell ⟨gb242, 0, none⟩ (.int .i64 ((rd_T74 l1 x91_4).f0))).setCell ⟨gb242, 1, none⟩ (.int .i64 ((rd_T74 l1 x91_4).f1))).setCell ⟨gb242, 2, none⟩ (.int .i64 ((rd_T74 l1 x91_4).f2))) w.heap.size (fun k_ => some k_ ≠ (v226 : Value).ownBlock ∧ some k_ ≠ (v229 : Value).ownBlock) v223 x10_3) := ⟨by (repeat apply rl1); exact Kd.R_mono (Kd.R_far (p := ⟨gb242, 2, none⟩) (Kd.R_far (p := ⟨gb242, 1, none⟩) (Kd.R_far (p := ⟨gb242, 0, none⟩) (Kd.R_types HO_10.out BK242.out (by decide)) (fun _ hk => hk.2) (.int .i64 ((rd_T74 l1 x91_4).f0))) (fun _ hk => hk.2) (.int .i64 ((rd_T74 l1 x91_4).f1))) (fun _ hk => hk.2) (.int .i64 ((rd_T74 l1 x91_4).f2))) (fun _ hk => ⟨hk.1.1, hk.1.2⟩)⟩
                         have n1_ : Aside0 (Kd.R (Kd.int .i64) 3 (((w95.setCell ⟨gb242, 0, none⟩ (.int .i64 ((rd_T74 l1 x91_4).f0))).setCell ⟨gb242, 1, none⟩ (.int .i64 ((rd_T74 l1 x91_4).f1))).setCell ⟨gb242, 2, none⟩ (.int .i64 ((rd_T74 l1 x91_4).f2))) w.heap.size (fun k_ => some k_ ≠ (v223 : Value).ownBlock ∧ some k_ ≠ (v229 : Value).ownBlock) v226 x11_3) := ⟨by (repeat apply rl1); exact Kd.R_mono (Kd.R_far (p := ⟨gb242, 2, none⟩) (Kd.R_far (p := ⟨gb242, 1, none⟩) (Kd.R_far (p := ⟨gb242, 0, none⟩) (Kd.R_types HO_11.out BK242.out (by decide)) (fun _ hk => hk.2) (.int .i64 ((rd_T74 l1 x91_4).f0))) (fun _ hk => hk.2) (.int .i64 ((rd_T74 l1 x91_4).f1))) (fun _ hk => hk.2) (.int .i64 ((rd_T74 l1 x91_4).f2))) (fun _ hk => ⟨hk.1.1, hk.1.2⟩)⟩
                         have n2_ : Aside0 (Kd.R (Kd.int .i64) 3 (((w95.setCell ⟨gb242, 0, none⟩ (.int .i64 ((rd_T74 l1 x91_4).f0))).setCell ⟨gb242, 1, none⟩ (.int .i64 ((rd_T74 l1 x91_4).f1))).setCell ⟨gb242, 2, none⟩ (.int .i64 ((rd_T74 l1 x91_4).f2))) w.heap.size (fun k_ => some k_ ≠ (v223 : Value).ownBlock ∧ some k_ ≠ (v226 : Value).ownBlock) v229 x12_3) := ⟨by (repeat apply rl1); exact Kd.R_mono (Kd.R_far (p := ⟨gb242, 2, none⟩) (Kd.R_far (p := ⟨gb242, 1, none⟩) (Kd.R_far (p := ⟨gb242, 0, none⟩) (Kd.R_types HO_12.out BK242.out (by decide)) (fun _ hk => hk.2) (.int .i64 ((rd_T74 l1 x91_4).f0))) (fun _ hk => hk.2) (.int .i64 ((rd_T74 l1 x91_4).f1))) (fun _ hk => hk.2) (.int .i64 ((rd_T74 l1 x91_4).f2))) (fun _ hk => ⟨hk.1.1, hk.1.2⟩)⟩
                         have n3_ : Aside0 ((((w95.setCell ⟨gb242, 0, none⟩ (.int .i64 ((rd_T74 l1 x91_4).f0))).setCell ⟨gb242, 1, none⟩ (.int .i64 ((rd_T74 l1 x91_4).f1))).setCell ⟨gb242, 2, none⟩ (.int .i64 ((rd_T74 l1 x91_4).f2))).heap[gb218]? = some (.cells #[.int .i64 a0_0, .int .i64 a0_1, .slice A0_2 l0_2.length c0_2] 29 (0, 0))) := ⟨by (repeat refine bk1 ?_); refine blk_far ?_ NB218_242.out _; (repeat refine bk1 ?_); refine blk_far ?_ NB218_242.out _; (repeat refine bk1 ?_); refine blk_far ?_ NB218_242.out _; (repeat refine bk1 ?_); exact BK218.out⟩
                         have n4_ : Aside0 ((((w95.setCell ⟨gb242, 0, none⟩ (.int .i64 ((rd_T74 l1 x91_4).f0))).setCell ⟨gb242, 1, none⟩ (.int .i64 ((rd_T74 l1 x91_4).f1))).setCell ⟨gb242, 2, none⟩ (.int .i64 ((rd_T74 l1 x91_4).f2))).heap[gb242]? = some (.cells #[.int .i64 ((rd_T74 l1 x91_4).f0), .int .i64 ((rd_T74 l1 x91_4).f1), .int .i64 ((rd_T74 l1 x91_4).f2)] 74 (0, 0))) := ⟨by (repeat refine bk1 ?_); refine blk_put (cs := #[.int .i64 ((rd_T74 l1 x91_4).f0), .int .i64 ((rd_T74 l1 x91_4).f1), .int .i64 0]) ?_ 2 _ rfl; (repeat refine bk1 ?_); refine blk_put (cs := #[.int .i64 ((rd_T74 l1 x91_4).f0), .int .i64 0, .int .i64 0]) ?_ 1 _ rfl; (repeat refine bk1 ?_); refine blk_put (cs := #[.int .i64 0, .int .i64 0, .int .i64 0]) ?_ 0 _ rfl; (repeat refine bk1 ?_); exact BK242.out⟩
                         have n5_ : Aside0 (Below w.heap.size w (((w95.setCell ⟨gb242, 0, none⟩ (.int .i64 ((rd_T74 l1 x91_4).f0))).setCell ⟨gb242, 1, none⟩ (.int .i64 ((rd_T74 l1 x91_4).f1))).setCell ⟨gb242, 2, none⟩ (.int .i64 ((rd_T74 l1 x91_4).f2)))) := ⟨by repeat with_reducible first | exact bl HB.out | refine below_set ?_ GE218.out | refine below_set ?_ GE242.out | refine bq ?_⟩
                         (try clear HO_10)
                         (try clear HO_11)
                         (try clear HO_12)
                         (try clear BK218)
                         (try clear BK242)
                         (try clear HB)
                         generalize (((w95.setCell ⟨gb242, 0, none⟩ (.int .i64 ((rd_T74 l1 x91_4).f0))).setCell ⟨gb242, 1, none⟩ (.int .i64 ((rd_T74 l1 x91_4).f1))).setCell ⟨gb242, 2, none⟩ (.int .i64 ((rd_T74 l1 x91_4).f2))) = w98 at n0_ n1_ n2_ n3_ n4_ n5_ ⊢
                         have HO_10 := n0_
                         have HO_11 := n1_
                         have HO_12 := n2_
                         have BK218 := n3_
                         have BK242 := n4_
                         have HB := n5_
                         clear n0_ n1_ n2_ n3_ n4_ n5_
                         have n0_ := Aside0.mk (Kd.R_drew HO_10.out)
                         have n1_ := Aside0.mk (Kd.R_drew HO_11.out)
                         have n2_ := Aside0.mk (Kd.R_drew HO_12.out)
                         have n3_ := Aside0.mk (blk_drew BK218.out)
                         have n4_ := Aside0.mk (blk_drew BK242.out)
                         have n5_ := Aside0.mk (below_drew1 HB.out)
                         clear HO_10
                         clear HO_11
                         clear HO_12
                         clear BK218
                         clear BK242
                         clear HB
                         have HO_10 := n0_
                         have HO_11 := n1_
                         have HO_12 := n2_
                         have BK218 := n3_
                         have BK242 := n4_
                         have HB := n5_
                         clear n0_ n1_ n2_ n3_ n4_ n5_
                         obtain ⟨Ao100, co100, eo100⟩ := Kd.R_slice HO_11.out
                         (first | subst eo100 | (injection eo100 with f1_ f2_ f3_; have f4_ := f1_.symm; have f5_ := f3_.symm; clear f1_ f2_ f3_; subst f4_; subst f5_))
                         have p243 : 0 ≤ (x91_4 : Int) := of_decide_eq_true (by first | (with_reducible assumption) | assumption)
                         have q243 : x91_4 < (x11_3.length : Int) := of_decide_eq_true (by first | (with_reducible assumption) | assumption)
                         obtain ⟨ad243, e243, hx243_0⟩ := Kd.at_int (Kd.R_reads' HO_11.out).2.2 x91_4 p243 q243
                         cases e243
                         replace p243 := eq_true p243
                         replace q243 := eq_true q243
                         obtain ⟨Ao101, co101, eo101⟩ := Kd.R_slice HO_12.out
                         (first | subst eo101 | (injection eo101 with f1_ f2_ f3_; have f4_ := f1_.symm; have f5_ := f3_.symm; clear f1_ f2_ f3_; subst f4_; subst f5_))
                         have p244 : 0 ≤ (x91_4 : Int) := of_decide_eq_true (by first | (with_reducible assumption) | assumption)
                         have q244 : x91_4 < (x12_3.length : Int) := of_decide_eq_true (by first | (with_reducible assumption) | assumption)
                         obtain ⟨ad244, e244, hx244_0⟩ := Kd.at_int (Kd.R_reads' HO_12.out).2.2 x91_4 p244 q244
                         cases e244
                         replace p244 := eq_true p244
                         replace q244 := eq_true q244
                         have p245 : 0 ≤ (x18_4 : Int) := of_decide_eq_true (by first | (with_reducible assumption) | assumption)
                         have q245 : x18_4 < (x12_3.length : Int) := of_decide_eq_true (by first | (with_reducible assumption) | assumption)
                         obtain ⟨ad245, e245, hx245_0⟩ := Kd.at_int (Kd.R_reads' HO_12.out).2.2 x18_4 p245 q245
                         obtain rfl : ad244 = ad245 := (by injection e245)
                         replace p245 := eq_true p245
                         replace q245 := eq_true q245
                         refine start_ (n := 26) (S := fun w' => w'.cell? ⟨gb242, 0, none⟩ = some (.int .i64 ((rd_T74 l1 x91_4).f0)) ∧ w'.cell? ⟨gb242, 1, none⟩ = some (.int .i64 ((rd_T74 l1 x91_4).f1)) ∧ w'.cell? ⟨gb242, 2, none⟩ = some (.int .i64 ((rd_T74 l1 x91_4).f2)) ∧ w'.cell? (ad243.add (x91_4).toNat) = some (.int .i64 (rd x11_3 x91_4)) ∧ w'.cell? (ad244.add (x91_4).toNat) = some (.int .i64 (rd x12_3 x91_4)) ∧ w'.cell? (ad244.add (x18_4).toNat) = some (.int .i64 (rd x12_3 x18_4))) (ds := []) m0_26 (by kernel_rfl) rfl rfl ⟨ck BK242.out 0 rfl, ck BK242.out 1 rfl, ck BK242.out 2 rfl, hx243_0, hx244_0, hx245_0⟩ (fun hHeld => ?_); refine with_tabW impl_RunJobs.tab20 impl_RunJobs.bits20 (fun HT_ HW_ => ?_)
                         generalize w98.drew = w99 at HO_10 HO_11 HO_12 BK218 BK242 HB hx243_0 hx244_0 hx245_0 hHeld ⊢
                         refine pp_ HT_.out 0 96 m1_26 rfl rfl (by kernel_rfl) (by rfl) (by intro w'; go_simp; with_reducible rfl) (by simp only [sp_]; rfl) (fun _ _ _ h => h) ?_
                         refine pp_ HT_.out 2 98 n26 rfl rfl (by kernel_rfl) (by rfl) (by intro w'; go_simp; with_reducible rfl) (by simp only [sp_]; rfl) (fun _ _ _ h => h) ?_
                         refine tk_ HT_.out HW_.out 1 97 m3_26 rfl rfl (by kernel_rfl) (by rfl) (by rintro w' ⟨s0, s1, s2, s3, s4, s5⟩; go_simp; with_reducible rfl) hHeld (by simp only [sp_]; rfl) (fun _ _ _ h => h) ?_
                         refine pp_ HT_.out 3 99 m4_26 rfl rfl (by kernel_rfl) (by rfl) (by intro w'; go_simp; with_reducible rfl) (by simp only [sp_]; rfl) (fun _ _ _ h => h) ?_
                         refine pp_ HT_.out 4 100 m5_26 rfl rfl (by kernel_rfl) (by rfl) (by intro w'; go_simp; with_reducible rfl) (by simp only [sp_]; rfl) (fun _ _ _ h => h) ?_
                         refine pp_ HT_.out 5 101 m6_26 rfl rfl (by kernel_rfl) (by rfl) (by intro w'; go_simp; with_reducible rfl) (by simp only [sp_]; rfl) (fun _ _ _ h => h) ?_
                         refine pp_ HT_.out 6 102 m7_26 rfl rfl (by kernel_rfl) (by rfl) (by intro w'; go_simp; with_reducible rfl) (by simp only [sp_]; rfl) (fun _ _ _ h => h) ?_
                         refine pp_ HT_.out 7 103 m8_26 rfl rfl (by kernel_rfl) (by rfl) (by intro w'; go_simp; with_reducible rfl) (by simp only [sp_]; rfl) (fun _ _ _ h => h) ?_
                         refine tk_ HT_.out HW_.out 8 104 m9_26 rfl rfl (by kernel_rfl) (by rfl) (by rintro w' ⟨s0, s1, s2, s3, s4, s5⟩; go_simp; with_reducible rfl) hHeld (by simp only [sp_]; rfl) (fun _ _ _ h => h) ?_
                         refine pp_ HT_.out 9 105 m10_26 rfl rfl (by kernel_rfl) (by rfl) (by intro w'; go_simp; with_reducible rfl) (by simp only [sp_]; rfl) (fun _ _ _ h => h) ?_
                         refine pp_ HT_.out 10 106 m11_26 rfl rfl (by kernel_rfl) (by rfl) (by intro w'; go_simp; with_reducible rfl) (by simp only [sp_]; rfl) (fun _ _ _ h => h) ?_
                         refine pp_ HT_.out 11 107 m12_26 rfl rfl (by kernel_rfl) (by rfl) (by intro w'; go_simp; with_reducible rfl) (by simp only [sp_]; rfl) (fun _ _ _ h => h) ?_
                         refine pp_ HT_.out 12 108 m13_26 rfl rfl (by kernel_rfl) (by rfl) (by intro w'; go_simp; with_reducible rfl) (by simp only [sp_]; rfl) (fun _ _ _ h => h) ?_
                         refine pp_ HT_.out 13 109 m14_26 rfl rfl (by kernel_rfl) (by rfl) (by intro w'; go_simp; with_reducible rfl) (by simp only [sp_]; rfl) (fun _ _ _ h => h) ?_
                         refine pp_ HT_.out 14 110 m15_26 rfl rfl (by kernel_rfl) (by rfl) (by intro w'; go_simp; with_reducible rfl) (by simp only [sp_]; rfl) (fun _ _ _ h => h) ?_
                         refine pp_ HT_.out 15 111 m16_26 rfl rfl (by kernel_rfl) (by rfl) (by intro w'; go_simp; with_reducible rfl) (by simp only [sp_]; rfl) (fun _ _ _ h => h) ?_
                         refine pp_ HT_.out 16 112 m17_26 rfl rfl (by kernel_rfl) (by rfl) (by intro w'; go_simp; with_reducible rfl) (by simp only [sp_]; rfl) (fun _ _ _ h => h) ?_
                         refine pp_ HT_.out 17 113 m18_26 rfl rfl (by kernel_rfl) (by rfl) (by intro w'; go_simp; with_reducible rfl) (by simp only [sp_]; rfl) (fun _ _ _ h => h) ?_
                         refine pp_ HT_.out 19 115 n43 rfl rfl (by kernel_rfl) (by rfl) (by intro w'; go_simp; with_reducible rfl) (by simp only [sp_]; rfl) (fun _ _ _ h => h) ?_
                         refine pp_ HT_.out 20 116 n44 rfl rfl (by kernel_rfl) (by rfl) (by intro w'; go_simp; with_reducible rfl) (by simp only [sp_]; rfl) (fun _ _ _ h => h) ?_
                         refine pp_ HT_.out 21 117 n45 rfl rfl (by kernel_rfl) (by rfl) (by intro w'; go_simp; with_reducible rfl) (by simp only [sp_]; rfl) (fun _ _ _ h => h) ?_
                         refine tk_ HT_.out HW_.out 18 114 m22_26 rfl rfl (by kernel_rfl) (by rfl) (by rintro w' ⟨s0, s1, s2, s3, s4, s5⟩; go_simp; with_reducible rfl) hHeld (by simp only [sp_]; rfl) (fun _ _ _ h => h) ?_
                         refine tk_ HT_.out HW_.out 22 118 m23_26 rfl rfl (by kernel_rfl) (by rfl) (by rintro w' ⟨s0, s1, s2, s3, s4, s5⟩; go_simp; with_reducible rfl) hHeld (by simp only [sp_]; rfl) (fun _ _ _ h => h) ?_
                         refine pp_ HT_.out 23 119 m24_26 rfl rfl (by kernel_rfl) (by rfl) (by intro w'; go_simp; with_reducible rfl) (by simp only [sp_]; rfl) (fun _ _ _ h => h) ?_
                         refine pp_ HT_.out 24 120 m25_26 rfl rfl (by kernel_rfl) (by rfl) (by intro w'; go_simp; with_reducible rfl) (by simp only [sp_]; rfl) (fun _ _ _ h => h) ?_
                         refine pp_ HT_.out 25 121 m26_26 rfl rfl (by kernel_rfl) (by rfl) (by intro w'; go_simp; with_reducible rfl) (by simp only [sp_]; rfl) (fun _ _ _ h => h) ?_
                         refine done_ (done_of HT_.out (by kernel_rfl)) ?_
                         try go_wp2
                         go_roundg k4
                         case measure => have := HJ4.out; have := HK2.out; have := HK3.out; have := HK4.out; omega
                         case rel => exact ⟨(x91_4), (wrap64 (x91_4 + 1)), (by first | rfl | (simp; done) | (simp [*]; done)), (by first | rfl | (simp; done) | (simp [*]; done)), H', ⟨by have := HJ4.out; have := HK2.out; have := HK3.out; have := HK4.out; omega⟩, ⟨rl HO_10.out⟩, ⟨rl HO_11.out⟩, ⟨rl HO_12.out⟩, ⟨bk BK218.out⟩, ⟨by repeat with_reducible first | exact bl HB.out | refine below_set ?_ GE218.out | refine below_set ?_ GE242.out | refine bq ?_⟩⟩
                        ·
                         rw [if_neg c94] at H
                         have c94b0 : decide ((rd x12_3 x91_4) < (rd x12_3 x18_4)) = false := decide_eq_false c94
                         clear c94
                         have H' := Aside0.mk H
                         clear H
                         have p241 : 0 ≤ (x91_4 : Int) := of_decide_eq_true (by first | (with_reducible assumption) | assumption)
                         have q241 : x91_4 < (l1.length : Int) := of_decide_eq_true (by first | (with_reducible assumption) | assumption)
                         obtain ⟨ad241, e241, hx241_0, hx241_1, hx241_2⟩ := at_T74 HR1.out x91_4 p241 q241
                         cases e241
                         replace hx241_0 := (HB.out.cell (World.block_lt_of_cell? w _ hx241_0)).trans hx241_0
                         replace hx241_1 := (HB.out.cell (World.block_lt_of_cell? w _ hx241_1)).trans hx241_1
                         replace hx241_2 := (HB.out.cell (World.block_lt_of_cell? w _ hx241_2)).trans hx241_2
                         replace p241 := eq_true p241
                         replace q241 := eq_true q241
                         try go_wp2_with (first | ((with_reducible refine gate_dst (N := 20) rfl ?_); (try (refine gate_guard (by rfl) ?_; dsimp only)); refine box_event ?hg (N := 20) ?hd (cs := #[.int .i64 0, .int .i64 0, .int .i64 0]) (t := 74) ?hr ?_; (case hd => rfl); (case hg => rfl); (case hr => first | (go_simp; done) | (go_simp; rfl)); intro gb242 hg w102 hbox hb; have n0_ := Aside0.mk (Kd.R_below (rl HO_10.out) hb); have n1_ := Aside0.mk (Kd.R_below (rl HO_11.out) hb); have n2_ := Aside0.mk (Kd.R_below (rl HO_12.out) hb); have n3_ := Aside0.mk (blk_below (bk BK218.out) hb); have n4_ := Aside0.mk (below_step (by repeat with_reducible first | exact bl HB.out | refine below_set ?_ GE218.out | refine bq ?_) hb); have n5_ := Aside0.mk (hbox); have n6_ := Aside0.mk ((by rw [hg]; exact (below_size (by repeat with_reducible first | exact bl HB.out | refine below_set ?_ GE218.out | refine bq ?_)) : w.heap.size ≤ gb242)); have n7_ := Aside0.mk ((by rw [hg]; exact (below_size (by repeat with_reducible first | exact bl HB.out | refine below_set ?_ GE218.out | refine bq ?_)) : w.heap.size ≤ gb242)); have n8_ := Aside0.mk ((by rw [hg]; exact Nat.ne_of_lt (blk_lt (g := gb218) (o := .cells #[.int .i64 a0_0, .int .i64 a0_1, .slice A0_2 l0_2.length c0_2] 29 (0, 0)) (bk BK218.out)) : gb218 ≠ gb242)); have n9_ := Aside0.mk ((by rw [hg]; exact Nat.ne_of_gt (blk_lt (g := gb218) (o := .cells #[.int .i64 a0_0, .int .i64 a0_1, .slice A0_2 l0_2.length c0_2] 29 (0, 0)) (bk BK218.out)) : gb242 ≠ gb218)); clear HO_10; clear HO_11; clear HO_12; clear BK218; clear HB; have HO_10 := n0_; have HO_11 := n1_; have HO_12 := n2_; have BK218 := n3_; have HB := n4_; have BK242 := n5_; have GW242 := n6_; have GE242 := n7_; have NB218_242 := n8_; have NB242_218 := n9_; clear n0_ n1_ n2_ n3_ n4_ n5_ n6_ n7_ n8_ n9_; clear hb hbox hg; have hnb103 := NB242_218.out; have hnc103 := NB218_242.out; have hcz104_0 := ck (v := .int .i64 0) BK242.out 0 rfl; have hcz104_1 := ck (v := .int .i64 0) BK242.out 1 rfl; have hcz104_2 := ck (v := .int .i64 0) BK242.out 2 rfl; have hfz104_0 := blk_frozen BK242.out 0; have hfz104_1 := blk_frozen BK242.out 1; have hfz104_2 := blk_frozen BK242.out 2))
                         have n0_ : Aside0 (Kd.R (Kd.int .i64) 3 (((w102.setCell ⟨gb242, 0, none⟩ (.int .i64 ((rd_T74 l1 x91_4).f0))).setCell ⟨gb242, 1, none⟩ (.int .i64 ((rd_T74 l1 x91_4).f1))).setCell ⟨gb242, 2, none⟩ (.int .i64 ((rd_T74 l1 x91_4).f2))) w.heap.size (fun k_ => some k_ ≠ (v226 : Value).ownBlock ∧ some k_ ≠ (v229 : Value).ownBlock) v223 x10_3) := ⟨by (repeat apply rl1); exact Kd.R_mono (Kd.R_far (p := ⟨gb242, 2, none⟩) (Kd.R_far (p := ⟨gb242, 1, none⟩) (Kd.R_far (p := ⟨gb242, 0, none⟩) (Kd.R_types HO_10.out BK242.out (by decide)) (fun _ hk => hk.2) (.int .i64 ((rd_T74 l1 x91_4).f0))) (fun _ hk => hk.2) (.int .i64 ((rd_T74 l1 x91_4).f1))) (fun _ hk => hk.2) (.int .i64 ((rd_T74 l1 x91_4).f2))) (fun _ hk => ⟨hk.1.1, hk.1.2⟩)⟩
                         have n1_ : Aside0 (Kd.R (Kd.int .i64) 3 (((w102.setCell ⟨gb242, 0, none⟩ (.int .i64 ((rd_T74 l1 x91_4).f0))).setCell ⟨gb242, 1, none⟩ (.int .i64 ((rd_T74 l1 x91_4).f1))).setCell ⟨gb242, 2, none⟩ (.int .i64 ((rd_T74 l1 x91_4).f2))) w.heap.size (fun k_ => some k_ ≠ (v223 : Value).ownBlock ∧ some k_ ≠ (v229 : Value).ownBlock) v226 x11_3) := ⟨by (repeat apply rl1); exact Kd.R_mono (Kd.R_far (p := ⟨gb242, 2, none⟩) (Kd.R_far (p := ⟨gb242, 1, none⟩) (Kd.R_far (p := ⟨gb242, 0, none⟩) (Kd.R_types HO_11.out BK242.out (by decide)) (fun _ hk => hk.2) (.int .i64 ((rd_T74 l1 x91_4).f0))) (fun _ hk => hk.2) (.int .i64 ((rd_T74 l1 x91_4).f1))) (fun _ hk => hk.2) (.int .i64 ((rd_T74 l1 x91_4).f2))) (fun _ hk => ⟨hk.1.1, hk.1.2⟩)⟩
                         have n2_ : Aside0 (Kd.R (Kd.int .i64) 3 (((w102.setCell ⟨gb242, 0, none⟩ (.int .i64 ((rd_T74 l1 x91_4).f0))).setCell ⟨gb242, 1, none⟩ (.int .i64 ((rd_T74 l1 x91_4).f1))).setCell ⟨gb242, 2, none⟩ (.int .i64 ((rd_T74 l1 x91_4).f2))) w.heap.size (fun k_ => some k_ ≠ (v223 : Value).ownBlock ∧ some k_ ≠ (v226 : Value).ownBlock) v229 x12_3) := ⟨by (repeat apply rl1); exact Kd.R_mono (Kd.R_far (p := ⟨gb242, 2, none⟩) (Kd.R_far (p := ⟨gb242, 1, none⟩) (Kd.R_far (p := ⟨gb242, 0, none⟩) (Kd.R_types HO_12.out BK242.out (by decide)) (fun _ hk => hk.2) (.int .i64 ((rd_T74 l1 x91_4).f0))) (fun _ hk => hk.2) (.int .i64 ((rd_T74 l1 x91_4).f1))) (fun _ hk => hk.2) (.int .i64 ((rd_T74 l1 x91_4).f2))) (fun _ hk => ⟨hk.1.1, hk.1.2⟩)⟩
                         have n3_ : Aside0 ((((w102.setCell ⟨gb242, 0, none⟩ (.int .i64 ((rd_T74 l1 x91_4).f0))).setCell ⟨gb242, 1, none⟩ (.int .i64 ((rd_T74 l1 x91_4).f1))).setCell ⟨gb242, 2, none⟩ (.int .i64 ((rd_T74 l1 x91_4).f2))).heap[gb218]? = some (.cells #[.int .i64 a0_0, .int .i64 a0_1, .slice A0_2 l0_2.length c0_2] 29 (0, 0))) := ⟨by (repeat refine bk1 ?_); refine blk_far ?_ NB218_242.out _; (repeat refine bk1 ?_); refine blk_far ?_ NB218_242.out _; (repeat refine bk1 ?_); refine blk_far ?_ NB218_242.out _; (repeat refine bk1 ?_); exact BK218.out⟩
                         have n4_ : Aside0 ((((w102.setCell ⟨gb242, 0, none⟩ (.int .i64 ((rd_T74 l1 x91_4).f0))).setCell ⟨gb242, 1, none⟩ (.int .i64 ((rd_T74 l1 x91_4).f1))).setCell ⟨gb242, 2, none⟩ (.int .i64 ((rd_T74 l1 x91_4).f2))).heap[gb242]? = some (.cells #[.int .i64 ((rd_T74 l1 x91_4).f0), .int .i64 ((rd_T74 l1 x91_4).f1), .int .i64 ((rd_T74 l1 x91_4).f2)] 74 (0, 0))) := ⟨by (repeat refine bk1 ?_); refine blk_put (cs := #[.int .i64 ((rd_T74 l1 x91_4).f0), .int .i64 ((rd_T74 l1 x91_4).f1), .int .i64 0]) ?_ 2 _ rfl; (repeat refine bk1 ?_); refine blk_put (cs := #[.int .i64 ((rd_T74 l1 x91_4).f0), .int .i64 0, .int .i64 0]) ?_ 1 _ rfl; (repeat refine bk1 ?_); refine blk_put (cs := #[.int .i64 0, .int .i64 0, .int .i64 0]) ?_ 0 _ rfl; (repeat refine bk1 ?_); exact BK242.out⟩
                         have n5_ : Aside0 (Below w.heap.size w (((w102.setCell ⟨gb242, 0, none⟩ (.int .i64 ((rd_T74 l1 x91_4).f0))).setCell ⟨gb242, 1, none⟩ (.int .i64 ((rd_T74 l1 x91_4).f1))).setCell ⟨gb242, 2, none⟩ (.int .i64 ((rd_T74 l1 x91_4).f2)))) := ⟨by repeat with_reducible first | exact bl HB.out | refine below_set ?_ GE218.out | refine below_set ?_ GE242.out | refine bq ?_⟩
                         (try clear HO_10)
                         (try clear HO_11)
                         (try clear HO_12)
                         (try clear BK218)
                         (try clear BK242)
                         (try clear HB)
                         generalize (((w102.setCell ⟨gb242, 0, none⟩ (.int .i64 ((rd_T74 l1 x91_4).f0))).setCell ⟨gb242, 1, none⟩ (.int .i64 ((rd_T74 l1 x91_4).f1))).setCell ⟨gb242, 2, none⟩ (.int .i64 ((rd_T74 l1 x91_4).f2))) = w105 at n0_ n1_ n2_ n3_ n4_ n5_ ⊢
                         have HO_10 := n0_
                         have HO_11 := n1_
                         have HO_12 := n2_
                         have BK218 := n3_
                         have BK242 := n4_
                         have HB := n5_
                         clear n0_ n1_ n2_ n3_ n4_ n5_
                         have n0_ := Aside0.mk (Kd.R_drew HO_10.out)
                         have n1_ := Aside0.mk (Kd.R_drew HO_11.out)
                         have n2_ := Aside0.mk (Kd.R_drew HO_12.out)
                         have n3_ := Aside0.mk (blk_drew BK218.out)
                         have n4_ := Aside0.mk (blk_drew BK242.out)
                         have n5_ := Aside0.mk (below_drew1 HB.out)
                         clear HO_10
                         clear HO_11
                         clear HO_12
                         clear BK218
                         clear BK242
                         clear HB
                         have HO_10 := n0_
                         have HO_11 := n1_
                         have HO_12 := n2_
                         have BK218 := n3_
                         have BK242 := n4_
                         have HB := n5_
                         clear n0_ n1_ n2_ n3_ n4_ n5_
                         obtain ⟨Ao107, co107, eo107⟩ := Kd.R_slice HO_11.out
                         (first | subst eo107 | (injection eo107 with f1_ f2_ f3_; have f4_ := f1_.symm; have f5_ := f3_.symm; clear f1_ f2_ f3_; subst f4_; subst f5_))
                         have p243 : 0 ≤ (x91_4 : Int) := of_decide_eq_true (by first | (with_reducible assumption) | assumption)
                         have q243 : x91_4 < (x11_3.length : Int) := of_decide_eq_true (by first | (with_reducible assumption) | assumption)
                         obtain ⟨ad243, e243, hx243_0⟩ := Kd.at_int (Kd.R_reads' HO_11.out).2.2 x91_4 p243 q243
                         cases e243
                         replace p243 := eq_true p243
                         replace q243 := eq_true q243
                         obtain ⟨Ao108, co108, eo108⟩ := Kd.R_slice HO_12.out
                         (first | subst eo108 | (injection eo108 with f1_ f2_ f3_; have f4_ := f1_.symm; have f5_ := f3_.symm; clear f1_ f2_ f3_; subst f4_; subst f5_))
                         have p244 : 0 ≤ (x91_4 : Int) := of_decide_eq_true (by first | (with_reducible assumption) | assumption)
                         have q244 : x91_4 < (x12_3.length : Int) := of_decide_eq_true (by first | (with_reducible assumption) | assumption)
                         obtain ⟨ad244, e244, hx244_0⟩ := Kd.at_int (Kd.R_reads' HO_12.out).2.2 x91_4 p244 q244
                         cases e244
                         replace p244 := eq_true p244
                         replace q244 := eq_true q244
                         have p245 : 0 ≤ (x18_4 : Int) := of_decide_eq_true (by first | (with_reducible assumption) | assumption)
                         have q245 : x18_4 < (x12_3.length : Int) := of_decide_eq_true (by first | (with_reducible assumption) | assumption)
                         obtain ⟨ad245, e245, hx245_0⟩ := Kd.at_int (Kd.R_reads' HO_12.out).2.2 x18_4 p245 q245
                         obtain rfl : ad244 = ad245 := (by injection e245)
                         replace p245 := eq_true p245
                         replace q245 := eq_true q245
                         refine start_ (n := 26) (S := fun w' => w'.cell? ⟨gb242, 0, none⟩ = some (.int .i64 ((rd_T74 l1 x91_4).f0)) ∧ w'.cell? ⟨gb242, 1, none⟩ = some (.int .i64 ((rd_T74 l1 x91_4).f1)) ∧ w'.cell? ⟨gb242, 2, none⟩ = some (.int .i64 ((rd_T74 l1 x91_4).f2)) ∧ w'.cell? (ad243.add (x91_4).toNat) = some (.int .i64 (rd x11_3 x91_4)) ∧ w'.cell? (ad244.add (x91_4).toNat) = some (.int .i64 (rd x12_3 x91_4)) ∧ w'.cell? (ad244.add (x18_4).toNat) = some (.int .i64 (rd x12_3 x18_4))) (ds := []) m0_26 (by kernel_rfl) rfl rfl ⟨ck BK242.out 0 rfl, ck BK242.out 1 rfl, ck BK242.out 2 rfl, hx243_0, hx244_0, hx245_0⟩ (fun hHeld => ?_); refine with_tabW impl_RunJobs.tab20 impl_RunJobs.bits20 (fun HT_ HW_ => ?_)
                         generalize w105.drew = w106 at HO_10 HO_11 HO_12 BK218 BK242 HB hx243_0 hx244_0 hx245_0 hHeld ⊢
                         refine pp_ HT_.out 0 96 m1_26 rfl rfl (by kernel_rfl) (by rfl) (by intro w'; go_simp; with_reducible rfl) (by simp only [sp_]; rfl) (fun _ _ _ h => h) ?_
                         refine pp_ HT_.out 2 98 n26 rfl rfl (by kernel_rfl) (by rfl) (by intro w'; go_simp; with_reducible rfl) (by simp only [sp_]; rfl) (fun _ _ _ h => h) ?_
                         refine tk_ HT_.out HW_.out 1 97 m3_26 rfl rfl (by kernel_rfl) (by rfl) (by rintro w' ⟨s0, s1, s2, s3, s4, s5⟩; go_simp; with_reducible rfl) hHeld (by simp only [sp_]; rfl) (fun _ _ _ h => h) ?_
                         refine pp_ HT_.out 3 99 m4_26 rfl rfl (by kernel_rfl) (by rfl) (by intro w'; go_simp; with_reducible rfl) (by simp only [sp_]; rfl) (fun _ _ _ h => h) ?_
                         refine pp_ HT_.out 4 100 m5_26 rfl rfl (by kernel_rfl) (by rfl) (by intro w'; go_simp; with_reducible rfl) (by simp only [sp_]; rfl) (fun _ _ _ h => h) ?_
                         refine pp_ HT_.out 5 101 m6_26 rfl rfl (by kernel_rfl) (by rfl) (by intro w'; go_simp; with_reducible rfl) (by simp only [sp_]; rfl) (fun _ _ _ h => h) ?_
                         refine pp_ HT_.out 6 102 m7_26 rfl rfl (by kernel_rfl) (by rfl) (by intro w'; go_simp; with_reducible rfl) (by simp only [sp_]; rfl) (fun _ _ _ h => h) ?_
                         refine pp_ HT_.out 7 103 m8_26 rfl rfl (by kernel_rfl) (by rfl) (by intro w'; go_simp; with_reducible rfl) (by simp only [sp_]; rfl) (fun _ _ _ h => h) ?_
                         refine tk_ HT_.out HW_.out 8 104 m9_26 rfl rfl (by kernel_rfl) (by rfl) (by rintro w' ⟨s0, s1, s2, s3, s4, s5⟩; go_simp; with_reducible rfl) hHeld (by simp only [sp_]; rfl) (fun _ _ _ h => h) ?_
                         refine pp_ HT_.out 9 105 m10_26 rfl rfl (by kernel_rfl) (by rfl) (by intro w'; go_simp; with_reducible rfl) (by simp only [sp_]; rfl) (fun _ _ _ h => h) ?_
                         refine pp_ HT_.out 10 106 m11_26 rfl rfl (by kernel_rfl) (by rfl) (by intro w'; go_simp; with_reducible rfl) (by simp only [sp_]; rfl) (fun _ _ _ h => h) ?_
                         refine pp_ HT_.out 11 107 m12_26 rfl rfl (by kernel_rfl) (by rfl) (by intro w'; go_simp; with_reducible rfl) (by simp only [sp_]; rfl) (fun _ _ _ h => h) ?_
                         refine pp_ HT_.out 12 108 m13_26 rfl rfl (by kernel_rfl) (by rfl) (by intro w'; go_simp; with_reducible rfl) (by simp only [sp_]; rfl) (fun _ _ _ h => h) ?_
                         refine pp_ HT_.out 13 109 m14_26 rfl rfl (by kernel_rfl) (by rfl) (by intro w'; go_simp; with_reducible rfl) (by simp only [sp_]; rfl) (fun _ _ _ h => h) ?_
                         refine pp_ HT_.out 14 110 m15_26 rfl rfl (by kernel_rfl) (by rfl) (by intro w'; go_simp; with_reducible rfl) (by simp only [sp_]; rfl) (fun _ _ _ h => h) ?_
                         refine pp_ HT_.out 15 111 m16_26 rfl rfl (by kernel_rfl) (by rfl) (by intro w'; go_simp; with_reducible rfl) (by simp only [sp_]; rfl) (fun _ _ _ h => h) ?_
                         refine pp_ HT_.out 16 112 m17_26 rfl rfl (by kernel_rfl) (by rfl) (by intro w'; go_simp; with_reducible rfl) (by simp only [sp_]; rfl) (fun _ _ _ h => h) ?_
                         refine pp_ HT_.out 17 113 m18_26 rfl rfl (by kernel_rfl) (by rfl) (by intro w'; go_simp; with_reducible rfl) (by simp only [sp_]; rfl) (fun _ _ _ h => h) ?_
                         refine pp_ HT_.out 19 115 n43 rfl rfl (by kernel_rfl) (by rfl) (by intro w'; go_simp; with_reducible rfl) (by simp only [sp_]; rfl) (fun _ _ _ h => h) ?_
                         refine pp_ HT_.out 20 116 n44 rfl rfl (by kernel_rfl) (by rfl) (by intro w'; go_simp; with_reducible rfl) (by simp only [sp_]; rfl) (fun _ _ _ h => h) ?_
                         refine pp_ HT_.out 21 117 n45 rfl rfl (by kernel_rfl) (by rfl) (by intro w'; go_simp; with_reducible rfl) (by simp only [sp_]; rfl) (fun _ _ _ h => h) ?_
                         refine tk_ HT_.out HW_.out 18 114 m22_26 rfl rfl (by kernel_rfl) (by rfl) (by rintro w' ⟨s0, s1, s2, s3, s4, s5⟩; go_simp; with_reducible rfl) hHeld (by simp only [sp_]; rfl) (fun _ _ _ h => h) ?_
                         refine tk_ HT_.out HW_.out 22 118 m23_26 rfl rfl (by kernel_rfl) (by rfl) (by rintro w' ⟨s0, s1, s2, s3, s4, s5⟩; go_simp; with_reducible rfl) hHeld (by simp only [sp_]; rfl) (fun _ _ _ h => h) ?_
                         refine pp_ HT_.out 23 119 m24_26 rfl rfl (by kernel_rfl) (by rfl) (by intro w'; go_simp; with_reducible rfl) (by simp only [sp_]; rfl) (fun _ _ _ h => h) ?_
                         refine pp_ HT_.out 24 120 m25_26 rfl rfl (by kernel_rfl) (by rfl) (by intro w'; go_simp; with_reducible rfl) (by simp only [sp_]; rfl) (fun _ _ _ h => h) ?_
                         refine pp_ HT_.out 25 121 m26_26 rfl rfl (by kernel_rfl) (by rfl) (by intro w'; go_simp; with_reducible rfl) (by simp only [sp_]; rfl) (fun _ _ _ h => h) ?_
                         refine done_ (done_of HT_.out (by kernel_rfl)) ?_
                         try go_wp2
                         go_roundg k4
                         case measure => have := HJ4.out; have := HK2.out; have := HK3.out; have := HK4.out; omega
                         case rel => exact ⟨(x18_4), (wrap64 (x91_4 + 1)), (by first | rfl | (simp; done) | (simp [*]; done)), (by first | rfl | (simp; done) | (simp [*]; done)), H', ⟨by have := HJ4.out; have := HK2.out; have := HK3.out; have := HK4.out; omega⟩, ⟨rl HO_10.out⟩, ⟨rl HO_11.out⟩, ⟨rl HO_12.out⟩, ⟨bk BK218.out⟩, ⟨by repeat with_reducible first | exact bl HB.out | refine below_set ?_ GE218.out | refine below_set ?_ GE242.out | refine bq ?_⟩⟩
                       ·
                        rw [if_neg c93] at H
                        exact absurd H (by simp)
                      ·
                       rw [if_neg c92] at H
                       exact absurd H (by simp)
                     ·
                      rw [if_neg c91] at H
                      exact absurd H (by simp)
                   ·
                    rw [if_neg c83] at H
                    have c83b0 : decide (0 < (rd x11_3 x91_4)) = false := decide_eq_false c83
                    clear c83
                    have H' := Aside0.mk H
                    clear H
                    have p241 : 0 ≤ (x91_4 : Int) := of_decide_eq_true (by first | (with_reducible assumption) | assumption)
                    have q241 : x91_4 < (l1.length : Int) := of_decide_eq_true (by first | (with_reducible assumption) | assumption)
                    obtain ⟨ad241, e241, hx241_0, hx241_1, hx241_2⟩ := at_T74 HR1.out x91_4 p241 q241
                    cases e241
                    replace hx241_0 := (HB.out.cell (World.block_lt_of_cell? w _ hx241_0)).trans hx241_0
                    replace hx241_1 := (HB.out.cell (World.block_lt_of_cell? w _ hx241_1)).trans hx241_1
                    replace hx241_2 := (HB.out.cell (World.block_lt_of_cell? w _ hx241_2)).trans hx241_2
                    replace p241 := eq_true p241
                    replace q241 := eq_true q241
                    try go_wp2_with (first | ((with_reducible refine gate_dst (N := 20) rfl ?_); (try (refine gate_guard (by rfl) ?_; dsimp only)); refine box_event ?hg (N := 20) ?hd (cs := #[.int .i64 0, .int .i64 0, .int .i64 0]) (t := 74) ?hr ?_; (case hd => rfl); (case hg => rfl); (case hr => first | (go_simp; done) | (go_simp; rfl)); intro gb242 hg w109 hbox hb; have n0_ := Aside0.mk (Kd.R_below (rl HO_10.out) hb); have n1_ := Aside0.mk (Kd.R_below (rl HO_11.out) hb); have n2_ := Aside0.mk (Kd.R_below (rl HO_12.out) hb); have n3_ := Aside0.mk (blk_below (bk BK218.out) hb); have n4_ := Aside0.mk (below_step (by repeat with_reducible first | exact bl HB.out | refine below_set ?_ GE218.out | refine bq ?_) hb); have n5_ := Aside0.mk (hbox); have n6_ := Aside0.mk ((by rw [hg]; exact (below_size (by repeat with_reducible first | exact bl HB.out | refine below_set ?_ GE218.out | refine bq ?_)) : w.heap.size ≤ gb242)); have n7_ := Aside0.mk ((by rw [hg]; exact (below_size (by repeat with_reducible first | exact bl HB.out | refine below_set ?_ GE218.out | refine bq ?_)) : w.heap.size ≤ gb242)); have n8_ := Aside0.mk ((by rw [hg]; exact Nat.ne_of_lt (blk_lt (g := gb218) (o := .cells #[.int .i64 a0_0, .int .i64 a0_1, .slice A0_2 l0_2.length c0_2] 29 (0, 0)) (bk BK218.out)) : gb218 ≠ gb242)); have n9_ := Aside0.mk ((by rw [hg]; exact Nat.ne_of_gt (blk_lt (g := gb218) (o := .cells #[.int .i64 a0_0, .int .i64 a0_1, .slice A0_2 l0_2.length c0_2] 29 (0, 0)) (bk BK218.out)) : gb242 ≠ gb218)); clear HO_10; clear HO_11; clear HO_12; clear BK218; clear HB; have HO_10 := n0_; have HO_11 := n1_; have HO_12 := n2_; have BK218 := n3_; have HB := n4_; have BK242 := n5_; have GW242 := n6_; have GE242 := n7_; have NB218_242 := n8_; have NB242_218 := n9_; clear n0_ n1_ n2_ n3_ n4_ n5_ n6_ n7_ n8_ n9_; clear hb hbox hg; have hnb110 := NB242_218.out; have hnc110 := NB218_242.out; have hcz111_0 := ck (v := .int .i64 0) BK242.out 0 rfl; have hcz111_1 := ck (v := .int .i64 0) BK242.out 1 rfl; have hcz111_2 := ck (v := .int .i64 0) BK242.out 2 rfl; have hfz111_0 := blk_frozen BK242.out 0; have hfz111_1 := blk_frozen BK242.out 1; have hfz111_2 := blk_frozen BK242.out 2))
                    have n0_ : Aside0 (Kd.R (Kd.int .i64) 3 (((w109.setCell ⟨gb242, 0, none⟩ (.int .i64 ((rd_T74 l1 x91_4).f0))).setCell ⟨gb242, 1, none⟩ (.int .i64 ((rd_T74 l1 x91_4).f1))).setCell ⟨gb242, 2, none⟩ (.int .i64 ((rd_T74 l1 x91_4).f2))) w.heap.size (fun k_ => some k_ ≠ (v226 : Value).ownBlock ∧ some k_ ≠ (v229 : Value).ownBlock) v223 x10_3) := ⟨by (repeat apply rl1); exact Kd.R_mono (Kd.R_far (p := ⟨gb242, 2, none⟩) (Kd.R_far (p := ⟨gb242, 1, none⟩) (Kd.R_far (p := ⟨gb242, 0, none⟩) (Kd.R_types HO_10.out BK242.out (by decide)) (fun _ hk => hk.2) (.int .i64 ((rd_T74 l1 x91_4).f0))) (fun _ hk => hk.2) (.int .i64 ((rd_T74 l1 x91_4).f1))) (fun _ hk => hk.2) (.int .i64 ((rd_T74 l1 x91_4).f2))) (fun _ hk => ⟨hk.1.1, hk.1.2⟩)⟩
                    have n1_ : Aside0 (Kd.R (Kd.int .i64) 3 (((w109.setCell ⟨gb242, 0, none⟩ (.int .i64 ((rd_T74 l1 x91_4).f0))).setCell ⟨gb242, 1, none⟩ (.int .i64 ((rd_T74 l1 x91_4).f1))).setCell ⟨gb242, 2, none⟩ (.int .i64 ((rd_T74 l1 x91_4).f2))) w.heap.size (fun k_ => some k_ ≠ (v223 : Value).ownBlock ∧ some k_ ≠ (v229 : Value).ownBlock) v226 x11_3) := ⟨by (repeat apply rl1); exact Kd.R_mono (Kd.R_far (p := ⟨gb242, 2, none⟩) (Kd.R_far (p := ⟨gb242, 1, none⟩) (Kd.R_far (p := ⟨gb242, 0, none⟩) (Kd.R_types HO_11.out BK242.out (by decide)) (fun _ hk => hk.2) (.int .i64 ((rd_T74 l1 x91_4).f0))) (fun _ hk => hk.2) (.int .i64 ((rd_T74 l1 x91_4).f1))) (fun _ hk => hk.2) (.int .i64 ((rd_T74 l1 x91_4).f2))) (fun _ hk => ⟨hk.1.1, hk.1.2⟩)⟩
                    have n2_ : Aside0 (Kd.R (Kd.int .i64) 3 (((w109.setCell ⟨gb242, 0, none⟩ (.int .i64 ((rd_T74 l1 x91_4).f0))).setCell ⟨gb242, 1, none⟩ (.int .i64 ((rd_T74 l1 x91_4).f1))).setCell ⟨gb242, 2, none⟩ (.int .i64 ((rd_T74 l1 x91_4).f2))) w.heap.size (fun k_ => some k_ ≠ (v223 : Value).ownBlock ∧ some k_ ≠ (v226 : Value).ownBlock) v229 x12_3) := ⟨by (repeat apply rl1); exact Kd.R_mono (Kd.R_far (p := ⟨gb242, 2, none⟩) (Kd.R_far (p := ⟨gb242, 1, none⟩) (Kd.R_far (p := ⟨gb242, 0, none⟩) (Kd.R_types HO_12.out BK242.out (by decide)) (fun _ hk => hk.2) (.int .i64 ((rd_T74 l1 x91_4).f0))) (fun _ hk => hk.2) (.int .i64 ((rd_T74 l1 x91_4).f1))) (fun _ hk => hk.2) (.int .i64 ((rd_T74 l1 x91_4).f2))) (fun _ hk => ⟨hk.1.1, hk.1.2⟩)⟩
                    have n3_ : Aside0 ((((w109.setCell ⟨gb242, 0, none⟩ (.int .i64 ((rd_T74 l1 x91_4).f0))).setCell ⟨gb242, 1, none⟩ (.int .i64 ((rd_T74 l1 x91_4).f1))).setCell ⟨gb242, 2, none⟩ (.int .i64 ((rd_T74 l1 x91_4).f2))).heap[gb218]? = some (.cells #[.int .i64 a0_0, .int .i64 a0_1, .slice A0_2 l0_2.length c0_2] 29 (0, 0))) := ⟨by (repeat refine bk1 ?_); refine blk_far ?_ NB218_242.out _; (repeat refine bk1 ?_); refine blk_far ?_ NB218_242.out _; (repeat refine bk1 ?_); refine blk_far ?_ NB218_242.out _; (repeat refine bk1 ?_); exact BK218.out⟩
                    have n4_ : Aside0 ((((w109.setCell ⟨gb242, 0, none⟩ (.int .i64 ((rd_T74 l1 x91_4).f0))).setCell ⟨gb242, 1, none⟩ (.int .i64 ((rd_T74 l1 x91_4).f1))).setCell ⟨gb242, 2, none⟩ (.int .i64 ((rd_T74 l1 x91_4).f2))).heap[gb242]? = some (.cells #[.int .i64 ((rd_T74 l1 x91_4).f0), .int .i64 ((rd_T74 l1 x91_4).f1), .int .i64 ((rd_T74 l1 x91_4).f2)] 74 (0, 0))) := ⟨by (repeat refine bk1 ?_); refine blk_put (cs := #[.int .i64 ((rd_T74 l1 x91_4).f0), .int .i64 ((rd_T74 l1 x91_4).f1), .int .i64 0]) ?_ 2 _ rfl; (repeat refine bk1 ?_); refine blk_put (cs := #[.int .i64 ((rd_T74 l1 x91_4).f0), .int .i64 0, .int .i64 0]) ?_ 1 _ rfl; (repeat refine bk1 ?_); refine blk_put (cs := #[.int .i64 0, .int .i64 0, .int .i64 0]) ?_ 0 _ rfl; (repeat refine bk1 ?_); exact BK242.out⟩
                    have n5_ : Aside0 (Below w.heap.size w (((w109.setCell ⟨gb242, 0, none⟩ (.int .i64 ((rd_T74 l1 x91_4).f0))).setCell ⟨gb242, 1, none⟩ (.int .i64 ((rd_T74 l1 x91_4).f1))).setCell ⟨gb242, 2, none⟩ (.int .i64 ((rd_T74 l1 x91_4).f2)))) := ⟨by repeat with_reducible first | exact bl HB.out | refine below_set ?_ GE218.out | refine below_set ?_ GE242.out | refine bq ?_⟩
                    (try clear HO_10)
                    (try clear HO_11)
                    (try clear HO_12)
                    (try clear BK218)
                    (try clear BK242)
                    (try clear HB)
                    generalize (((w109.setCell ⟨gb242, 0, none⟩ (.int .i64 ((rd_T74 l1 x91_4).f0))).setCell ⟨gb242, 1, none⟩ (.int .i64 ((rd_T74 l1 x91_4).f1))).setCell ⟨gb242, 2, none⟩ (.int .i64 ((rd_T74 l1 x91_4).f2))) = w112 at n0_ n1_ n2_ n3_ n4_ n5_ ⊢
                    have HO_10 := n0_
                    have HO_11 := n1_
                    have HO_12 := n2_
                    have BK218 := n3_
                    have BK242 := n4_
                    have HB := n5_
                    clear n0_ n1_ n2_ n3_ n4_ n5_
                    have n0_ := Aside0.mk (Kd.R_drew HO_10.out)
                    have n1_ := Aside0.mk (Kd.R_drew HO_11.out)
                    have n2_ := Aside0.mk (Kd.R_drew HO_12.out)
                    have n3_ := Aside0.mk (blk_drew BK218.out)
                    have n4_ := Aside0.mk (blk_drew BK242.out)
                    have n5_ := Aside0.mk (below_drew1 HB.out)
                    clear HO_10
                    clear HO_11
                    clear HO_12
                    clear BK218
                    clear BK242
                    clear HB
                    have HO_10 := n0_
                    have HO_11 := n1_
                    have HO_12 := n2_
                    have BK218 := n3_
                    have BK242 := n4_
                    have HB := n5_
                    clear n0_ n1_ n2_ n3_ n4_ n5_
                    obtain ⟨Ao114, co114, eo114⟩ := Kd.R_slice HO_11.out
                    (first | subst eo114 | (injection eo114 with f1_ f2_ f3_; have f4_ := f1_.symm; have f5_ := f3_.symm; clear f1_ f2_ f3_; subst f4_; subst f5_))
                    have p243 : 0 ≤ (x91_4 : Int) := of_decide_eq_true (by first | (with_reducible assumption) | assumption)
                    have q243 : x91_4 < (x11_3.length : Int) := of_decide_eq_true (by first | (with_reducible assumption) | assumption)
                    obtain ⟨ad243, e243, hx243_0⟩ := Kd.at_int (Kd.R_reads' HO_11.out).2.2 x91_4 p243 q243
                    cases e243
                    replace p243 := eq_true p243
                    replace q243 := eq_true q243
                    refine start_ (n := 26) (S := fun w' => w'.cell? ⟨gb242, 0, none⟩ = some (.int .i64 ((rd_T74 l1 x91_4).f0)) ∧ w'.cell? ⟨gb242, 1, none⟩ = some (.int .i64 ((rd_T74 l1 x91_4).f1)) ∧ w'.cell? ⟨gb242, 2, none⟩ = some (.int .i64 ((rd_T74 l1 x91_4).f2)) ∧ w'.cell? (ad243.add (x91_4).toNat) = some (.int .i64 (rd x11_3 x91_4))) (ds := []) m0_26 (by kernel_rfl) rfl rfl ⟨ck BK242.out 0 rfl, ck BK242.out 1 rfl, ck BK242.out 2 rfl, hx243_0⟩ (fun hHeld => ?_); refine with_tabW impl_RunJobs.tab20 impl_RunJobs.bits20 (fun HT_ HW_ => ?_)
                    generalize w112.drew = w113 at HO_10 HO_11 HO_12 BK218 BK242 HB hx243_0 hHeld ⊢
                    refine pp_ HT_.out 0 96 m1_26 rfl rfl (by kernel_rfl) (by rfl) (by intro w'; go_simp; with_reducible rfl) (by simp only [sp_]; rfl) (fun _ _ _ h => h) ?_
                    refine pp_ HT_.out 2 98 n26 rfl rfl (by kernel_rfl) (by rfl) (by intro w'; go_simp; with_reducible rfl) (by simp only [sp_]; rfl) (fun _ _ _ h => h) ?_
                    refine tk_ HT_.out HW_.out 1 97 m3_26 rfl rfl (by kernel_rfl) (by rfl) (by rintro w' ⟨s0, s1, s2, s3⟩; go_simp; with_reducible rfl) hHeld (by simp only [sp_]; rfl) (fun _ _ _ h => h) ?_
                    refine pp_ HT_.out 3 99 m4_26 rfl rfl (by kernel_rfl) (by rfl) (by intro w'; go_simp; with_reducible rfl) (by simp only [sp_]; rfl) (fun _ _ _ h => h) ?_
                    refine pp_ HT_.out 4 100 m5_26 rfl rfl (by kernel_rfl) (by rfl) (by intro w'; go_simp; with_reducible rfl) (by simp only [sp_]; rfl) (fun _ _ _ h => h) ?_
                    refine pp_ HT_.out 5 101 m6_26 rfl rfl (by kernel_rfl) (by rfl) (by intro w'; go_simp; with_reducible rfl) (by simp only [sp_]; rfl) (fun _ _ _ h => h) ?_
                    refine pp_ HT_.out 6 102 m7_26 rfl rfl (by kernel_rfl) (by rfl) (by intro w'; go_simp; with_reducible rfl) (by simp only [sp_]; rfl) (fun _ _ _ h => h) ?_
                    refine pp_ HT_.out 7 103 m8_26 rfl rfl (by kernel_rfl) (by rfl) (by intro w'; go_simp; with_reducible rfl) (by simp only [sp_]; rfl) (fun _ _ _ h => h) ?_
                    refine tk_ HT_.out HW_.out 8 104 m9_26 rfl rfl (by kernel_rfl) (by rfl) (by rintro w' ⟨s0, s1, s2, s3⟩; go_simp; with_reducible rfl) hHeld (by simp only [sp_]; rfl) (fun _ _ _ h => h) ?_
                    refine pp_ HT_.out 9 105 m10_26 rfl rfl (by kernel_rfl) (by rfl) (by intro w'; go_simp; with_reducible rfl) (by simp only [sp_]; rfl) (fun _ _ _ h => h) ?_
                    refine pp_ HT_.out 10 106 m11_26 rfl rfl (by kernel_rfl) (by rfl) (by intro w'; go_simp; with_reducible rfl) (by simp only [sp_]; rfl) (fun _ _ _ h => h) ?_
                    refine pp_ HT_.out 11 107 m12_26 rfl rfl (by kernel_rfl) (by rfl) (by intro w'; go_simp; with_reducible rfl) (by simp only [sp_]; rfl) (fun _ _ _ h => h) ?_
                    refine pu_ HT_.out 12 108 m13_26 rfl rfl (by kernel_rfl) (by rfl) (by simp only [sp_]; rfl) (fun _ _ _ h => h) ?_
                    refine pu_ HT_.out 13 109 m14_26 rfl rfl (by kernel_rfl) (by rfl) (by simp only [sp_]; rfl) (fun _ _ _ h => h) ?_
                    refine pu_ HT_.out 14 110 m15_26 rfl rfl (by kernel_rfl) (by rfl) (by simp only [sp_]; rfl) (fun _ _ _ h => h) ?_
                    refine pu_ HT_.out 15 111 m16_26 rfl rfl (by kernel_rfl) (by rfl) (by simp only [sp_]; rfl) (fun _ _ _ h => h) ?_
                    refine pu_ HT_.out 16 112 m17_26 rfl rfl (by kernel_rfl) (by rfl) (by simp only [sp_]; rfl) (fun _ _ _ h => h) ?_
                    refine pu_ HT_.out 17 113 m18_26 rfl rfl (by kernel_rfl) (by rfl) (by simp only [sp_]; rfl) (fun _ _ _ h => h) ?_
                    refine pu_ HT_.out 18 114 m19_26 rfl rfl (by kernel_rfl) (by rfl) (by simp only [sp_]; rfl) (fun _ _ _ h => h) ?_
                    refine pu_ HT_.out 19 115 m20_26 rfl rfl (by kernel_rfl) (by rfl) (by simp only [sp_]; rfl) (fun _ _ _ h => h) ?_
                    refine pu_ HT_.out 20 116 m21_26 rfl rfl (by kernel_rfl) (by rfl) (by simp only [sp_]; rfl) (fun _ _ _ h => h) ?_
                    refine pu_ HT_.out 21 117 m22_26 rfl rfl (by kernel_rfl) (by rfl) (by simp only [sp_]; rfl) (fun _ _ _ h => h) ?_
                    refine pu_ HT_.out 22 118 m23_26 rfl rfl (by kernel_rfl) (by rfl) (by simp only [sp_]; rfl) (fun _ _ _ h => h) ?_
                    refine pu_ HT_.out 23 119 m24_26 rfl rfl (by kernel_rfl) (by rfl) (by simp only [sp_]; rfl) (fun _ _ _ h => h) ?_
                    refine pu_ HT_.out 24 120 m25_26 rfl rfl (by kernel_rfl) (by rfl) (by simp only [sp_]; rfl) (fun _ _ _ h => h) ?_
                    refine pp_ HT_.out 25 121 m26_26 rfl rfl (by kernel_rfl) (by rfl) (by intro w'; go_simp; with_reducible rfl) (by simp only [sp_]; rfl) (fun _ _ _ h => h) ?_
                    refine done_ (done_of HT_.out (by kernel_rfl)) ?_
                    try go_wp2
                    go_roundg k4
                    case measure => have := HJ4.out; have := HK2.out; have := HK3.out; have := HK4.out; omega
                    case rel => exact ⟨(x18_4), (wrap64 (x91_4 + 1)), (by first | rfl | (simp; done) | (simp [*]; done)), (by first | rfl | (simp; done) | (simp [*]; done)), H', ⟨by have := HJ4.out; have := HK2.out; have := HK3.out; have := HK4.out; omega⟩, ⟨rl HO_10.out⟩, ⟨rl HO_11.out⟩, ⟨rl HO_12.out⟩, ⟨bk BK218.out⟩, ⟨by repeat with_reducible first | exact bl HB.out | refine below_set ?_ GE218.out | refine below_set ?_ GE242.out | refine bq ?_⟩⟩
                  ·
                   rw [if_neg c82] at H
                   exact absurd H (by simp)
                 ·
                  rw [if_neg c81] at H
                  have c81b0 : (((rd_T74 l1 x91_4).f0) == t240) = false := beq_eq_false_iff_ne.mpr c81
                  have c81b1 : (((rd_T74 l1 x91_4).f0) != t240) = true := bne_iff_ne.mpr c81
                  have H' := Aside0.mk H
                  clear H
                  have p241 : 0 ≤ (x91_4 : Int) := of_decide_eq_true (by first | (with_reducible assumption) | assumption)
                  have q241 : x91_4 < (l1.length : Int) := of_decide_eq_true (by first | (with_reducible assumption) | assumption)
                  obtain ⟨ad241, e241, hx241_0, hx241_1, hx241_2⟩ := at_T74 HR1.out x91_4 p241 q241
                  cases e241
                  replace hx241_0 := (HB.out.cell (World.block_lt_of_cell? w _ hx241_0)).trans hx241_0
                  replace hx241_1 := (HB.out.cell (World.block_lt_of_cell? w _ hx241_1)).trans hx241_1
                  replace hx241_2 := (HB.out.cell (World.block_lt_of_cell? w _ hx241_2)).trans hx241_2
                  replace p241 := eq_true p241
                  replace q241 := eq_true q241
                  try go_wp2_with (first | ((with_reducible refine gate_dst (N := 20) rfl ?_); (try (refine gate_guard (by rfl) ?_; dsimp only)); refine box_event ?hg (N := 20) ?hd (cs := #[.int .i64 0, .int .i64 0, .int .i64 0]) (t := 74) ?hr ?_; (case hd => rfl); (case hg => rfl); (case hr => first | (go_simp; done) | (go_simp; rfl)); intro gb242 hg w115 hbox hb; have n0_ := Aside0.mk (Kd.R_below (rl HO_10.out) hb); have n1_ := Aside0.mk (Kd.R_below (rl HO_11.out) hb); have n2_ := Aside0.mk (Kd.R_below (rl HO_12.out) hb); have n3_ := Aside0.mk (blk_below (bk BK218.out) hb); have n4_ := Aside0.mk (below_step (by repeat with_reducible first | exact bl HB.out | refine below_set ?_ GE218.out | refine bq ?_) hb); have n5_ := Aside0.mk (hbox); have n6_ := Aside0.mk ((by rw [hg]; exact (below_size (by repeat with_reducible first | exact bl HB.out | refine below_set ?_ GE218.out | refine bq ?_)) : w.heap.size ≤ gb242)); have n7_ := Aside0.mk ((by rw [hg]; exact (below_size (by repeat with_reducible first | exact bl HB.out | refine below_set ?_ GE218.out | refine bq ?_)) : w.heap.size ≤ gb242)); have n8_ := Aside0.mk ((by rw [hg]; exact Nat.ne_of_lt (blk_lt (g := gb218) (o := .cells #[.int .i64 a0_0, .int .i64 a0_1, .slice A0_2 l0_2.length c0_2] 29 (0, 0)) (bk BK218.out)) : gb218 ≠ gb242)); have n9_ := Aside0.mk ((by rw [hg]; exact Nat.ne_of_gt (blk_lt (g := gb218) (o := .cells #[.int .i64 a0_0, .int .i64 a0_1, .slice A0_2 l0_2.length c0_2] 29 (0, 0)) (bk BK218.out)) : gb242 ≠ gb218)); clear HO_10; clear HO_11; clear HO_12; clear BK218; clear HB; have HO_10 := n0_; have HO_11 := n1_; have HO_12 := n2_; have BK218 := n3_; have HB := n4_; have BK242 := n5_; have GW242 := n6_; have GE242 := n7_; have NB218_242 := n8_; have NB242_218 := n9_; clear n0_ n1_ n2_ n3_ n4_ n5_ n6_ n7_ n8_ n9_; clear hb hbox hg; have hnb116 := NB242_218.out; have hnc116 := NB218_242.out; have hcz117_0 := ck (v := .int .i64 0) BK242.out 0 rfl; have hcz117_1 := ck (v := .int .i64 0) BK242.out 1 rfl; have hcz117_2 := ck (v := .int .i64 0) BK242.out 2 rfl; have hfz117_0 := blk_frozen BK242.out 0; have hfz117_1 := blk_frozen BK242.out 1; have hfz117_2 := blk_frozen BK242.out 2))
                  have n0_ : Aside0 (Kd.R (Kd.int .i64) 3 (((w115.setCell ⟨gb242, 0, none⟩ (.int .i64 ((rd_T74 l1 x91_4).f0))).setCell ⟨gb242, 1, none⟩ (.int .i64 ((rd_T74 l1 x91_4).f1))).setCell ⟨gb242, 2, none⟩ (.int .i64 ((rd_T74 l1 x91_4).f2))) w.heap.size (fun k_ => some k_ ≠ (v226 : Value).ownBlock ∧ some k_ ≠ (v229 : Value).ownBlock) v223 x10_3) := ⟨by (repeat apply rl1); exact Kd.R_mono (Kd.R_far (p := ⟨gb242, 2, none⟩) (Kd.R_far (p := ⟨gb242, 1, none⟩) (Kd.R_far (p := ⟨gb242, 0, none⟩) (Kd.R_types HO_10.out BK242.out (by decide)) (fun _ hk => hk.2) (.int .i64 ((rd_T74 l1 x91_4).f0))) (fun _ hk => hk.2) (.int .i64 ((rd_T74 l1 x91_4).f1))) (fun _ hk => hk.2) (.int .i64 ((rd_T74 l1 x91_4).f2))) (fun _ hk => ⟨hk.1.1, hk.1.2⟩)⟩
                  have n1_ : Aside0 (Kd.R (Kd.int .i64) 3 (((w115.setCell ⟨gb242, 0, none⟩ (.int .i64 ((rd_T74 l1 x91_4).f0))).setCell ⟨gb242, 1, none⟩ (.int .i64 ((rd_T74 l1 x91_4).f1))).setCell ⟨gb242, 2, none⟩ (.int .i64 ((rd_T74 l1 x91_4).f2))) w.heap.size (fun k_ => some k_ ≠ (v223 : Value).ownBlock ∧ some k_ ≠ (v229 : Value).ownBlock) v226 x11_3) := ⟨by (repeat apply rl1); exact Kd.R_mono (Kd.R_far (p := ⟨gb242, 2, none⟩) (Kd.R_far (p := ⟨gb242, 1, none⟩) (Kd.R_far (p := ⟨gb242, 0, none⟩) (Kd.R_types HO_11.out BK242.out (by decide)) (fun _ hk => hk.2) (.int .i64 ((rd_T74 l1 x91_4).f0))) (fun _ hk => hk.2) (.int .i64 ((rd_T74 l1 x91_4).f1))) (fun _ hk => hk.2) (.int .i64 ((rd_T74 l1 x91_4).f2))) (fun _ hk => ⟨hk.1.1, hk.1.2⟩)⟩
                  have n2_ : Aside0 (Kd.R (Kd.int .i64) 3 (((w115.setCell ⟨gb242, 0, none⟩ (.int .i64 ((rd_T74 l1 x91_4).f0))).setCell ⟨gb242, 1, none⟩ (.int .i64 ((rd_T74 l1 x91_4).f1))).setCell ⟨gb242, 2, none⟩ (.int .i64 ((rd_T74 l1 x91_4).f2))) w.heap.size (fun k_ => some k_ ≠ (v223 : Value).ownBlock ∧ some k_ ≠ (v226 : Value).ownBlock) v229 x12_3) := ⟨by (repeat apply rl1); exact Kd.R_mono (Kd.R_far (p := ⟨gb242, 2, none⟩) (Kd.R_far (p := ⟨gb242, 1, none⟩) (Kd.R_far (p := ⟨gb242, 0, none⟩) (Kd.R_types HO_12.out BK242.out (by decide)) (fun _ hk => hk.2) (.int .i64 ((rd_T74 l1 x91_4).f0))) (fun _ hk => hk.2) (.int .i64 ((rd_T74 l1 x91_4).f1))) (fun _ hk => hk.2) (.int .i64 ((rd_T74 l1 x91_4).f2))) (fun _ hk => ⟨hk.1.1, hk.1.2⟩)⟩
                  have n3_ : Aside0 ((((w115.setCell ⟨gb242, 0, none⟩ (.int .i64 ((rd_T74 l1 x91_4).f0))).setCell ⟨gb242, 1, none⟩ (.int .i64 ((rd_T74 l1 x91_4).f1))).setCell ⟨gb242, 2, none⟩ (.int .i64 ((rd_T74 l1 x91_4).f2))).heap[gb218]? = some (.cells #[.int .i64 a0_0, .int .i64 a0_1, .slice A0_2 l0_2.length c0_2] 29 (0, 0))) := ⟨by (repeat refine bk1 ?_); refine blk_far ?_ NB218_242.out _; (repeat refine bk1 ?_); refine blk_far ?_ NB218_242.out _; (repeat refine bk1 ?_); refine blk_far ?_ NB218_242.out _; (repeat refine bk1 ?_); exact BK218.out⟩
                  have n4_ : Aside0 ((((w115.setCell ⟨gb242, 0, none⟩ (.int .i64 ((rd_T74 l1 x91_4).f0))).setCell ⟨gb242, 1, none⟩ (.int .i64 ((rd_T74 l1 x91_4).f1))).setCell ⟨gb242, 2, none⟩ (.int .i64 ((rd_T74 l1 x91_4).f2))).heap[gb242]? = some (.cells #[.int .i64 ((rd_T74 l1 x91_4).f0), .int .i64 ((rd_T74 l1 x91_4).f1), .int .i64 ((rd_T74 l1 x91_4).f2)] 74 (0, 0))) := ⟨by (repeat refine bk1 ?_); refine blk_put (cs := #[.int .i64 ((rd_T74 l1 x91_4).f0), .int .i64 ((rd_T74 l1 x91_4).f1), .int .i64 0]) ?_ 2 _ rfl; (repeat refine bk1 ?_); refine blk_put (cs := #[.int .i64 ((rd_T74 l1 x91_4).f0), .int .i64 0, .int .i64 0]) ?_ 1 _ rfl; (repeat refine bk1 ?_); refine blk_put (cs := #[.int .i64 0, .int .i64 0, .int .i64 0]) ?_ 0 _ rfl; (repeat refine bk1 ?_); exact BK242.out⟩
                  have n5_ : Aside0 (Below w.heap.size w (((w115.setCell ⟨gb242, 0, none⟩ (.int .i64 ((rd_T74 l1 x91_4).f0))).setCell ⟨gb242, 1, none⟩ (.int .i64 ((rd_T74 l1 x91_4).f1))).setCell ⟨gb242, 2, none⟩ (.int .i64 ((rd_T74 l1 x91_4).f2)))) := ⟨by repeat with_reducible first | exact bl HB.out | refine below_set ?_ GE218.out | refine below_set ?_ GE242.out | refine bq ?_⟩
                  (try clear HO_10)
                  (try clear HO_11)
                  (try clear HO_12)
                  (try clear BK218)
                  (try clear BK242)
                  (try clear HB)
                  generalize (((w115.setCell ⟨gb242, 0, none⟩ (.int .i64 ((rd_T74 l1 x91_4).f0))).setCell ⟨gb242, 1, none⟩ (.int .i64 ((rd_T74 l1 x91_4).f1))).setCell ⟨gb242, 2, none⟩ (.int .i64 ((rd_T74 l1 x91_4).f2))) = w118 at n0_ n1_ n2_ n3_ n4_ n5_ ⊢
                  have HO_10 := n0_
                  have HO_11 := n1_
                  have HO_12 := n2_
                  have BK218 := n3_
                  have BK242 := n4_
                  have HB := n5_
                  clear n0_ n1_ n2_ n3_ n4_ n5_
                  have n0_ := Aside0.mk (Kd.R_drew HO_10.out)
                  have n1_ := Aside0.mk (Kd.R_drew HO_11.out)
                  have n2_ := Aside0.mk (Kd.R_drew HO_12.out)
                  have n3_ := Aside0.mk (blk_drew BK218.out)
                  have n4_ := Aside0.mk (blk_drew BK242.out)
                  have n5_ := Aside0.mk (below_drew1 HB.out)
                  clear HO_10
                  clear HO_11
                  clear HO_12
                  clear BK218
                  clear BK242
                  clear HB
                  have HO_10 := n0_
                  have HO_11 := n1_
                  have HO_12 := n2_
                  have BK218 := n3_
                  have BK242 := n4_
                  have HB := n5_
                  clear n0_ n1_ n2_ n3_ n4_ n5_
                  refine start_ (n := 26) (S := fun w' => w'.cell? ⟨gb242, 0, none⟩ = some (.int .i64 ((rd_T74 l1 x91_4).f0)) ∧ w'.cell? ⟨gb242, 1, none⟩ = some (.int .i64 ((rd_T74 l1 x91_4).f1)) ∧ w'.cell? ⟨gb242, 2, none⟩ = some (.int .i64 ((rd_T74 l1 x91_4).f2))) (ds := []) m0_26 (by kernel_rfl) rfl rfl ⟨ck BK242.out 0 rfl, ck BK242.out 1 rfl, ck BK242.out 2 rfl⟩ (fun hHeld => ?_); refine with_tabW impl_RunJobs.tab20 impl_RunJobs.bits20 (fun HT_ HW_ => ?_)
                  generalize w118.drew = w119 at HO_10 HO_11 HO_12 BK218 BK242 HB hHeld ⊢
                  refine pp_ HT_.out 0 96 m1_26 rfl rfl (by kernel_rfl) (by rfl) (by intro w'; go_simp; with_reducible rfl) (by simp only [sp_]; rfl) (fun _ _ _ h => h) ?_
                  refine pp_ HT_.out 2 98 n26 rfl rfl (by kernel_rfl) (by rfl) (by intro w'; go_simp; with_reducible rfl) (by simp only [sp_]; rfl) (fun _ _ _ h => h) ?_
                  refine tk_ HT_.out HW_.out 1 97 m3_26 rfl rfl (by kernel_rfl) (by rfl) (by rintro w' ⟨s0, s1, s2⟩; go_simp; with_reducible rfl) hHeld (by simp only [sp_]; rfl) (fun _ _ _ h => h) ?_
                  refine pp_ HT_.out 3 99 m4_26 rfl rfl (by kernel_rfl) (by rfl) (by intro w'; go_simp; with_reducible rfl) (by simp only [sp_]; rfl) (fun _ _ _ h => h) ?_
                  refine pp_ HT_.out 4 100 m5_26 rfl rfl (by kernel_rfl) (by rfl) (by intro w'; go_simp; with_reducible rfl) (by simp only [sp_]; rfl) (fun _ _ _ h => h) ?_
                  refine pu_ HT_.out 5 101 m6_26 rfl rfl (by kernel_rfl) (by rfl) (by simp only [sp_]; rfl) (fun _ _ _ h => h) ?_
                  refine pu_ HT_.out 6 102 m7_26 rfl rfl (by kernel_rfl) (by rfl) (by simp only [sp_]; rfl) (fun _ _ _ h => h) ?_
                  refine pu_ HT_.out 7 103 m8_26 rfl rfl (by kernel_rfl) (by rfl) (by simp only [sp_]; rfl) (fun _ _ _ h => h) ?_
                  refine pu_ HT_.out 8 104 m9_26 rfl rfl (by kernel_rfl) (by rfl) (by simp only [sp_]; rfl) (fun _ _ _ h => h) ?_
                  refine pu_ HT_.out 9 105 m10_26 rfl rfl (by kernel_rfl) (by rfl) (by simp only [sp_]; rfl) (fun _ _ _ h => h) ?_
                  refine pp_ HT_.out 10 106 m11_26 rfl rfl (by kernel_rfl) (by rfl) (by intro w'; go_simp; with_reducible rfl) (by simp only [sp_]; rfl) (fun _ _ _ h => h) ?_
                  refine pp_ HT_.out 11 107 m12_26 rfl rfl (by kernel_rfl) (by rfl) (by intro w'; go_simp; with_reducible rfl) (by simp only [sp_]; rfl) (fun _ _ _ h => h) ?_
                  refine pu_ HT_.out 12 108 m13_26 rfl rfl (by kernel_rfl) (by rfl) (by simp only [sp_]; rfl) (fun _ _ _ h => h) ?_
                  refine pu_ HT_.out 13 109 m14_26 rfl rfl (by kernel_rfl) (by rfl) (by simp only [sp_]; rfl) (fun _ _ _ h => h) ?_
                  refine pu_ HT_.out 14 110 m15_26 rfl rfl (by kernel_rfl) (by rfl) (by simp only [sp_]; rfl) (fun _ _ _ h => h) ?_
                  refine pu_ HT_.out 15 111 m16_26 rfl rfl (by kernel_rfl) (by rfl) (by simp only [sp_]; rfl) (fun _ _ _ h => h) ?_
                  refine pu_ HT_.out 16 112 m17_26 rfl rfl (by kernel_rfl) (by rfl) (by simp only [sp_]; rfl) (fun _ _ _ h => h) ?_
                  refine pu_ HT_.out 17 113 m18_26 rfl rfl (by kernel_rfl) (by rfl) (by simp only [sp_]; rfl) (fun _ _ _ h => h) ?_
                  refine pu_ HT_.out 18 114 m19_26 rfl rfl (by kernel_rfl) (by rfl) (by simp only [sp_]; rfl) (fun _ _ _ h => h) ?_
                  refine pu_ HT_.out 19 115 m20_26 rfl rfl (by kernel_rfl) (by rfl) (by simp only [sp_]; rfl) (fun _ _ _ h => h) ?_
                  refine pu_ HT_.out 20 116 m21_26 rfl rfl (by kernel_rfl) (by rfl) (by simp only [sp_]; rfl) (fun _ _ _ h => h) ?_
                  refine pu_ HT_.out 21 117 m22_26 rfl rfl (by kernel_rfl) (by rfl) (by simp only [sp_]; rfl) (fun _ _ _ h => h) ?_
                  refine pu_ HT_.out 22 118 m23_26 rfl rfl (by kernel_rfl) (by rfl) (by simp only [sp_]; rfl) (fun _ _ _ h => h) ?_
                  refine pu_ HT_.out 23 119 m24_26 rfl rfl (by kernel_rfl) (by rfl) (by simp only [sp_]; rfl) (fun _ _ _ h => h) ?_
                  refine pu_ HT_.out 24 120 m25_26 rfl rfl (by kernel_rfl) (by rfl) (by simp only [sp_]; rfl) (fun _ _ _ h => h) ?_
                  refine pp_ HT_.out 25 121 m26_26 rfl rfl (by kernel_rfl) (by rfl) (by intro w'; go_simp; with_reducible rfl) (by simp only [sp_]; rfl) (fun _ _ _ h => h) ?_
                  refine done_ (done_of HT_.out (by kernel_rfl)) ?_
                  try go_wp2
                  go_roundg k4
                  case measure => have := HJ4.out; have := HK2.out; have := HK3.out; have := HK4.out; omega
                  case rel => exact ⟨(x18_4), (wrap64 (x91_4 + 1)), (by first | rfl | (simp; done) | (simp [*]; done)), (by first | rfl | (simp; done) | (simp [*]; done)), H', ⟨by have := HJ4.out; have := HK2.out; have := HK3.out; have := HK4.out; omega⟩, ⟨rl HO_10.out⟩, ⟨rl HO_11.out⟩, ⟨rl HO_12.out⟩, ⟨bk BK218.out⟩, ⟨by repeat with_reducible first | exact bl HB.out | refine below_set ?_ GE218.out | refine below_set ?_ GE242.out | refine bq ?_⟩⟩
                ·
                 rw [if_neg c80] at H
                 exact absurd H (by simp)
               ·
                rw [if_neg c79] at H
                exact absurd H (by simp)
              ·
               rw [if_neg c78] at H
               have c78b0 : decide (x91_4 < (l1.length : Int)) = false := decide_eq_false c78
               clear c78
               by_cases c120 : x18_4 ≥ 0
               ·
                rw [if_pos c120] at H
                have c120b0 : decide (0 ≤ x18_4) = true := decide_eq_true c120
                clear c120
                by_cases c121 : 0 ≤ x18_4
                ·
                 rw [if_pos c121] at H
                 have c121b0 : decide (0 ≤ x18_4) = true := decide_eq_true c121
                 clear c121
                 by_cases c122 : x18_4 < (x11_3.length : Int)
                 ·
                  rw [if_pos c122] at H
                  have c122b0 : decide (x18_4 < (x11_3.length : Int)) = true := decide_eq_true c122
                  clear c122
                  obtain ⟨y247, hy247⟩ : ∃ y_ : List Int, y_ = (x11_3.set (x18_4 : Int).toNat (wrap64 ((rd x11_3 x18_4) - 1))) := ⟨_, rfl⟩
                  replace H : (impl_RunJobs.l0 k4 l1 x10_3 y247 x12_3 x13_2 a2 (wrap64 (x50_2 + 1)) a0_0 a0_1 l0_2) = some (r1, r2, r3) := by first | (rw [hy247]; with_reducible exact H) | (have H2_ := (Option.bind_some _ _).symm.trans H; rw [hy247]; with_reducible exact H2_) | (have H2_ := (Option.bind_some _ _).symm.trans H; with_reducible exact H2_) | with_reducible exact H | (rw [hy247]; exact H) | exact H
                  have Ny247 := Aside0.mk hy247
                  clear hy247
                  have H' := Aside0.mk H
                  clear H
                  obtain ⟨Ao124, co124, eo124⟩ := Kd.R_slice HO_11.out
                  subst eo124
                  have p246 : 0 ≤ (x18_4 : Int) := of_decide_eq_true (by first | (with_reducible assumption) | assumption)
                  have q246 : x18_4 < (x11_3.length : Int) := of_decide_eq_true (by first | (with_reducible assumption) | assumption)
                  obtain ⟨ad246, e246, hx246_0⟩ := Kd.at_int (Kd.R_reads' HO_11.out).2.2 x18_4 p246 q246
                  cases e246
                  replace p246 := eq_true p246
                  replace q246 := eq_true q246
                  have p123 : 0 ≤ (x18_4 : Int) := of_decide_eq_true (by first | (with_reducible assumption) | assumption)
                  have q123 : (x18_4 : Int) < ((x11_3.length : Int) : Int) := of_decide_eq_true (by first | (with_reducible assumption) | assumption)
                  obtain ⟨go123, co123, eo123, gb123, gl123, cl123, HG123⟩ := Kd.R_form HO_11.out (by omega)
                  (first | cases eo123 | (injection eo123 with ea_ en_ ec_; (first | subst ea_ | (injection ea_ with ea_; subst ea_)); subst ec_; clear en_))
                  have GB123 := Aside0.mk gb123
                  have GG123 := Aside0.mk HG123
                  clear gb123 gl123 HG123
                  (first | simp only [add_plain] at hx246_0 | skip)
                  obtain ⟨hx123_0, hf123_0⟩ := Kd.R_celln 0 HO_11.out (x18_4 : Int) p123 q123
                  replace p123 := eq_true p123
                  replace q123 := eq_true q123
                  have HP125 := Kd.R_putg HO_11.out (x18_4 : Int) (wrap64 ((rd x11_3 x18_4) - 1))
                  go_wp2_with (first | ((with_reducible refine gate_store (t := 3) (p := 132) rfl ?_); refine store_event (t := 3) (p := 132) (v := ?vo_w126) (w1 := (wr.setCell ⟨go123, (x18_4 : Int).toNat, none⟩ (.int .i64 (wrap64 ((rd x11_3 x18_4) - 1))))) ?hg ?ho ?hn ?hr ?_; (case ho => rfl); (case hg => rfl); (case hn => rfl); (case hr => first | (go_simp; done) | (go_simp; rfl)); intro w126 hw; have hg : wr.grownBy w126 (some go123) := (by rw [hw]; exact HP125.2); have hp_ : Kd.R (Kd.int .i64) 3 w126 w.heap.size (fun k_ => some k_ ≠ (v223 : Value).ownBlock ∧ some k_ ≠ (v229 : Value).ownBlock) (.slice (some ⟨go123, 0, none⟩) x11_3.length co124) y247 := (by rw [hw, Ny247.out]; exact HP125.1); clear HP125; have n0_ := Aside0.mk (Kd.R_after (v := (.slice (some ⟨go123, 0, none⟩) x11_3.length co124)) (v1 := (.slice (some ⟨go123, 0, none⟩) x11_3.length co124)) (ok := (fun k_ => some k_ ≠ (v229 : Value).ownBlock)) (by (repeat apply rl1); exact Kd.R_mono HO_10.out (fun _ hk => ⟨hk.2, hk.1⟩)) hg (.inl rfl)); have n1_ := Aside0.mk (hp_); have n2_ := Aside0.mk (Kd.R_after (v := (.slice (some ⟨go123, 0, none⟩) x11_3.length co124)) (v1 := (.slice (some ⟨go123, 0, none⟩) x11_3.length co124)) (ok := (fun k_ => some k_ ≠ (v223 : Value).ownBlock)) (rl HO_12.out) hg (.inl rfl)); have n3_ := Aside0.mk (blk_grown (g := gb218) (o := .cells #[.int .i64 a0_0, .int .i64 a0_1, .slice A0_2 l0_2.length c0_2] 29 (0, 0)) (bk BK218.out) hg (Kd.R_ne HO_11.out BK218.out (by decide))); have n4_ := Aside0.mk ((by rw [hw]; exact below_set (HB.out) GB123.out : Below w.heap.size w w126)); clear HO_10; clear HO_11; clear HO_12; clear BK218; clear HB; have HO_10 := n0_; have HO_11 := n1_; have HO_12 := n2_; have BK218 := n3_; have HB := n4_; clear n0_ n1_ n2_ n3_ n4_; clear hg hw hp_))
                  go_roundg k4
                  case measure => have := HJ4.out; have := HK2.out; have := HK3.out; have := HK4.out; omega
                  case rel => exact ⟨(x10_3), (y247), (x12_3), (x13_2), (wrap64 (x50_2 + 1)), (by first | rfl | (simp; done) | (simp [*]; done)), (by first | rfl | (simp; done) | (simp [*]; done)), H', ⟨by have := HJ4.out; have := HK2.out; have := HK3.out; have := HK4.out; omega⟩, ⟨by (repeat apply rl1); exact Kd.R_mono HO_10.out (fun _ hk => ⟨hk.2, hk.1⟩)⟩, ⟨rl HO_11.out⟩, ⟨rl HO_12.out⟩, ⟨bk BK218.out⟩, ⟨by repeat with_reducible first | exact bl HB.out | refine below_set ?_ GE218.out | refine bq ?_⟩⟩
                 ·
                  rw [if_neg c122] at H
                  exact absurd H (by simp)
                ·
                 rw [if_neg c121] at H
                 exact absurd H (by simp)
               ·
                rw [if_neg c120] at H
                have c120b0 : decide (0 ≤ x18_4) = false := decide_eq_false c120
                clear c120
                by_cases c127 : t240 ≥ 0
                ·
                 rw [if_pos c127] at H
                 have c127b0 : decide (0 ≤ t240) = true := decide_eq_true c127
                 clear c127
                 have H' := Aside0.mk H
                 clear H
                 go_wp2
                 go_roundg k4
                 case measure => have := HJ4.out; have := HK2.out; have := HK3.out; have := HK4.out; omega
                 case rel => exact ⟨(x10_3), (x11_3), (x12_3), (wrap64 (x13_2 + 1)), (wrap64 (x50_2 + 1)), (by first | rfl | (simp; done) | (simp [*]; done)), (by first | rfl | (simp; done) | (simp [*]; done)), H', ⟨by have := HJ4.out; have := HK2.out; have := HK3.out; have := HK4.out; omega⟩, ⟨rl HO_10.out⟩, ⟨rl HO_11.out⟩, ⟨rl HO_12.out⟩, ⟨bk BK218.out⟩, ⟨by repeat with_reducible first | exact bl HB.out | refine below_set ?_ GE218.out | refine bq ?_⟩⟩
                ·
                 rw [if_neg c127] at H
                 have c127b0 : decide (0 ≤ t240) = false := decide_eq_false c127
                 clear c127
                 have H' := Aside0.mk H
                 clear H
                 go_wp2
                 go_roundg k4
                 case measure => have := HJ4.out; have := HK2.out; have := HK3.out; have := HK4.out; omega
                 case rel => exact ⟨(x10_3), (x11_3), (x12_3), (x13_2), (wrap64 (x50_2 + 1)), (by first | rfl | (simp; done) | (simp [*]; done)), (by first | rfl | (simp; done) | (simp [*]; done)), H', ⟨by have := HJ4.out; have := HK2.out; have := HK3.out; have := HK4.out; omega⟩, ⟨rl HO_10.out⟩, ⟨rl HO_11.out⟩, ⟨rl HO_12.out⟩, ⟨bk BK218.out⟩, ⟨by repeat with_reducible first | exact bl HB.out | refine below_set ?_ GE218.out | refine bq ?_⟩⟩
        ·
         rw [if_neg c32] at H
         have c32b0 : decide (x50_2 < a2) = false := decide_eq_false c32
         clear c32
         simp only [Option.some.injEq, Prod.mk.injEq] at H
         obtain ⟨rfl, rfl, rfl⟩ := H
         go_wp2
         go_ret3
         exact ⟨_, by first | rfl | (simp [errW_none, errW_some] <;> rfl) | (simp [*, errW_none, errW_some] <;> rfl), by (repeat apply rl1); exact Kd.R_mono HO_10.out (fun _ hk => trivial), by repeat with_reducible first | exact bl HB.out | refine below_set ?_ GE218.out | refine bq ?_⟩
     ·
      rw [if_neg c23] at H
      exact absurd H (by simp)
    ·
     rw [if_neg c22] at H
     exact absurd H (by simp)

end Go.Proofs.Ytlkphaahkhfgoaa.PFnExactRunJobs
