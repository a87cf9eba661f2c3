-- Written by a program of this session (wip/xprint.py) out of the translation; Lean checks it.
import Derived.Test.YtlkphaahkhfgoaaPFnExactRunJobsx0
import Derived.Test.YtlkphaahkhfgoaaPFnExactRunJobsx2
import Derived.Test.YtlkphaahkhfgoaaPFnExactRunJobsx3
namespace Go.Proofs.Ytlkphaahkhfgoaa.PFnExactRunJobs
open Go.RowKit Go.Proofs.YtlkphaahkhfgoaaW.PrintWords Go.Proofs.YtlkphaahkhfgoaaW.PrintLast Go.Proofs.YtlkphaahkhfgoaaW.PrintMore Go.Proofs.Ytlkphaahkhfgoaa.Sq
attribute [local go_sem] max2_int min2_int max_two min_two max_three min_three max_four min_four   -- for this text's walks alone
set_option linter.unusedVariables false
set_option linter.unusedSimpArgs false

/-! ### spec_RunJobs: function 23 -/
mutual
def spec_RunJobs.j0 : Nat → List (S74) → Int → Bool → Int → Int → List (S62) → Option (List Int × Int × Bool)
 | 0, _, _, _, _, _, _ => none
 | k + 1, x1, x2, x32, x150000, x150001, x150002 => if x32 = true then (some ((([] : List Int)), 0, false)) else (spec_RunJobs.l0 k x1 x2 0 x150000 x150001 x150002)
def spec_RunJobs.l0 : Nat → List (S74) → Int → Int → Int → Int → List (S62) → Option (List Int × Int × Bool)
 | 0, _, _, _, _, _, _ => none
 | k + 1, x1, x2, x9, x150000, x150001, x150002 => if x9 < (x1.length : Int) then (if 0 ≤ x9 then ((spec_l1In.f ((rd_T74 x1 x9).f0) 0 (wrap64 (x150001 - 1))).bind fun t156 => (if t156 = true then ((spec_l1In.f ((rd_T74 x1 x9).f1) 1 100000).bind fun t158 => (if t158 = true then ((spec_l1In.f ((rd_T74 x1 x9).f2) 1 100000).bind fun t160 => (if t160 = true then (spec_RunJobs.l0 k x1 x2 (wrap64 (x9 + 1)) x150000 x150001 x150002) else (some ((([] : List Int)), 0, false)))) else (some ((([] : List Int)), 0, false)))) else (some ((([] : List Int)), 0, false)))) else (none)) else (if 0 ≤ (x1.length : Int) then (if ((x1.length : Int) : Int).toNat ≤ 35184372088832 then (spec_RunJobs.l1 k x1 x2 (List.replicate ((x1.length : Int) : Int).toNat 0) (List.replicate ((x1.length : Int) : Int).toNat 0) (List.replicate ((x1.length : Int) : Int).toNat 0) 0 0 x150000 x150001 x150002) else (none)) else (none))
def spec_RunJobs.l1 : Nat → List (S74) → Int → List Int → List Int → List Int → Int → Int → Int → Int → List (S62) → Option (List Int × Int × Bool)
 | 0, _, _, _, _, _, _, _, _, _, _ => none
 | k + 1, x1, x2, x10, x11, x12, x13, x14, x150000, x150001, x150002 => if x14 < x2 then (spec_RunJobs.l2 k x1 x2 x10 x11 x12 x13 x14 0 x150000 x150001 x150002) else (some (x10, x13, true))
def spec_RunJobs.l2 : Nat → List (S74) → Int → List Int → List Int → List Int → Int → Int → Int → Int → Int → List (S62) → Option (List Int × Int × Bool)
 | 0, _, _, _, _, _, _, _, _, _, _, _ => none
 | k + 1, x1, x2, x10, x11, x12, x13, x14, x15, x150000, x150001, x150002 => if x15 < (x1.length : Int) then (if 0 ≤ x15 then (if ((rd_T74 x1 x15).f1) = 0 then (none) else (if (Int.tmod x14 ((rd_T74 x1 x15).f1)) = 0 then (if x15 < (x11.length : Int) then (if (rd x11 x15) > 0 then (if x15 < (x10.length : Int) then (if x15 < (x12.length : Int) then (spec_RunJobs.l2 k x1 x2 (x10.set (x15 : Int).toNat (wrap64 ((rd x10 x15) + 1))) (x11.set (x15 : Int).toNat ((rd_T74 x1 x15).f2)) (x12.set (x15 : Int).toNat x14) x13 x14 (wrap64 (x15 + 1)) x150000 x150001 x150002) else (none)) else (none)) else (if x15 < (x12.length : Int) then (spec_RunJobs.l2 k x1 x2 x10 (x11.set (x15 : Int).toNat ((rd_T74 x1 x15).f2)) (x12.set (x15 : Int).toNat x14) x13 x14 (wrap64 (x15 + 1)) x150000 x150001 x150002) else (none))) else (none)) else (spec_RunJobs.l2 k x1 x2 x10 x11 x12 x13 x14 (wrap64 (x15 + 1)) x150000 x150001 x150002))) else (none)) else ((spec_Owner.f k x150000 x150001 x150002 x14).bind fun bt189 => (spec_RunJobs.l3 k x1 x2 x10 x11 x12 x13 x14 bt189.1 (-1) 0 x150000 x150001 x150002))
def spec_RunJobs.l3 : Nat → List (S74) → Int → List Int → List Int → List Int → Int → Int → Int → Int → Int → Int → Int → List (S62) → Option (List Int × Int × Bool)
 | 0, _, _, _, _, _, _, _, _, _, _, _, _, _ => none
 | k + 1, x1, x2, x10, x11, x12, x13, x14, x16, x18, x19, x150000, x150001, x150002 => if x19 < (x1.length : Int) then (if 0 ≤ x19 then (if ((rd_T74 x1 x19).f0) = x16 then (if x19 < (x11.length : Int) then (if (rd x11 x19) > 0 then (if x18 < 0 then (spec_RunJobs.l3 k x1 x2 x10 x11 x12 x13 x14 x16 x19 (wrap64 (x19 + 1)) x150000 x150001 x150002) else (if x19 < (x12.length : Int) then (if 0 ≤ x18 then (if x18 < (x12.length : Int) then (if (rd x12 x19) < (rd x12 x18) then (spec_RunJobs.l3 k x1 x2 x10 x11 x12 x13 x14 x16 x19 (wrap64 (x19 + 1)) x150000 x150001 x150002) else (spec_RunJobs.l3 k x1 x2 x10 x11 x12 x13 x14 x16 x18 (wrap64 (x19 + 1)) x150000 x150001 x150002)) else (none)) else (none)) else (none))) else (spec_RunJobs.l3 k x1 x2 x10 x11 x12 x13 x14 x16 x18 (wrap64 (x19 + 1)) x150000 x150001 x150002)) else (none)) else (spec_RunJobs.l3 k x1 x2 x10 x11 x12 x13 x14 x16 x18 (wrap64 (x19 + 1)) x150000 x150001 x150002)) else (none)) else (if x18 ≥ 0 then (if 0 ≤ x18 then (if x18 < (x11.length : Int) then (spec_RunJobs.l1 k x1 x2 x10 (x11.set (x18 : Int).toNat (wrap64 ((rd x11 x18) - 1))) x12 x13 (wrap64 (x14 + 1)) x150000 x150001 x150002) else (none)) else (none)) else (if x16 ≥ 0 then (spec_RunJobs.l1 k x1 x2 x10 x11 x12 (wrap64 (x13 + 1)) (wrap64 (x14 + 1)) x150000 x150001 x150002) else (spec_RunJobs.l1 k x1 x2 x10 x11 x12 x13 (wrap64 (x14 + 1)) x150000 x150001 x150002)))
end
def spec_RunJobs.f (k : Nat) (a0_0 : Int) (a0_1 : Int) (l0_2 : List (S62)) (l1 : List (S74)) (a2 : Int) : Option (List Int × Int × Bool) := (spec_PlanOk.f k a0_0 a0_1 l0_2).bind fun t150 => (if t150 = true then (if (l1.length : Int) > 20 then (spec_RunJobs.j0 k l1 a2 true a0_0 a0_1 l0_2) else ((spec_l1In.f a2 0 5000).bind fun t151 => (spec_RunJobs.j0 k l1 a2 (!t151) a0_0 a0_1 l0_2))) else (spec_RunJobs.j0 k l1 a2 true a0_0 a0_1 l0_2))
theorem spec_RunJobs.mono_l : ∀ k, (∀ y0 y1 y2 y3 y4 y5, LeO (spec_RunJobs.j0 k y0 y1 y2 y3 y4 y5) (spec_RunJobs.j0 (k + 1) y0 y1 y2 y3 y4 y5)) ∧ (∀ y0 y1 y2 y3 y4 y5, LeO (spec_RunJobs.l0 k y0 y1 y2 y3 y4 y5) (spec_RunJobs.l0 (k + 1) y0 y1 y2 y3 y4 y5)) ∧ (∀ y0 y1 y2 y3 y4 y5 y6 y7 y8 y9, LeO (spec_RunJobs.l1 k y0 y1 y2 y3 y4 y5 y6 y7 y8 y9) (spec_RunJobs.l1 (k + 1) y0 y1 y2 y3 y4 y5 y6 y7 y8 y9)) ∧ (∀ y0 y1 y2 y3 y4 y5 y6 y7 y8 y9 y10, LeO (spec_RunJobs.l2 k y0 y1 y2 y3 y4 y5 y6 y7 y8 y9 y10) (spec_RunJobs.l2 (k + 1) y0 y1 y2 y3 y4 y5 y6 y7 y8 y9 y10)) ∧ (∀ y0 y1 y2 y3 y4 y5 y6 y7 y8 y9 y10 y11 y12, LeO (spec_RunJobs.l3 k y0 y1 y2 y3 y4 y5 y6 y7 y8 y9 y10 y11 y12) (spec_RunJobs.l3 (k + 1) y0 y1 y2 y3 y4 y5 y6 y7 y8 y9 y10 y11 y12))
 | 0 => ⟨fun _ _ _ _ _ _ r h => by simp [spec_RunJobs.j0] at h, fun _ _ _ _ _ _ r h => by simp [spec_RunJobs.l0] at h, fun _ _ _ _ _ _ _ _ _ _ r h => by simp [spec_RunJobs.l1] at h, fun _ _ _ _ _ _ _ _ _ _ _ r h => by simp [spec_RunJobs.l2] at h, fun _ _ _ _ _ _ _ _ _ _ _ _ _ r h => by simp [spec_RunJobs.l3] at h⟩
 | k + 1 => by
  obtain ⟨ih0, ih1, ih2, ih3, ih4⟩ := spec_RunJobs.mono_l k
  refine ⟨?_, ?_, ?_, ?_, ?_⟩
  ·
   intro y0 y1 y2 y3 y4 y5
   unfold spec_RunJobs.j0
   repeat' first
   | (with_reducible exact ih0 _ _ _ _ _ _)
   | (with_reducible exact ih1 _ _ _ _ _ _)
   | (with_reducible exact ih2 _ _ _ _ _ _ _ _ _ _)
   | (with_reducible exact ih3 _ _ _ _ _ _ _ _ _ _ _)
   | (with_reducible exact ih4 _ _ _ _ _ _ _ _ _ _ _ _ _)
   | (with_reducible exact spec_Owner.mono _ _ _ _ _)
   | (with_reducible exact spec_PlanOk.mono _ _ _ _)
   | (with_reducible exact LeO.refl _)
   | (with_reducible exact LeO.none _)
   | (with_reducible refine LeO.ite ?_ ?_)
   | (with_reducible refine LeO.bind ?_ (fun _ => ?_))
   | exact ih0 _ _ _ _ _ _
   | exact ih1 _ _ _ _ _ _
   | exact ih2 _ _ _ _ _ _ _ _ _ _
   | exact ih3 _ _ _ _ _ _ _ _ _ _ _
   | exact ih4 _ _ _ _ _ _ _ _ _ _ _ _ _
   | exact spec_Owner.mono _ _ _ _ _
   | exact spec_PlanOk.mono _ _ _ _
   | exact LeO.none _
   | refine LeO.ite ?_ ?_
   | refine LeO.bind ?_ (fun _ => ?_)
  ·
   intro y0 y1 y2 y3 y4 y5
   unfold spec_RunJobs.l0
   repeat' first
   | (with_reducible exact ih0 _ _ _ _ _ _)
   | (with_reducible exact ih1 _ _ _ _ _ _)
   | (with_reducible exact ih2 _ _ _ _ _ _ _ _ _ _)
   | (with_reducible exact ih3 _ _ _ _ _ _ _ _ _ _ _)
   | (with_reducible exact ih4 _ _ _ _ _ _ _ _ _ _ _ _ _)
   | (with_reducible exact spec_Owner.mono _ _ _ _ _)
   | (with_reducible exact spec_PlanOk.mono _ _ _ _)
   | (with_reducible exact LeO.refl _)
   | (with_reducible exact LeO.none _)
   | (with_reducible refine LeO.ite ?_ ?_)
   | (with_reducible refine LeO.bind ?_ (fun _ => ?_))
   | exact ih0 _ _ _ _ _ _
   | exact ih1 _ _ _ _ _ _
   | exact ih2 _ _ _ _ _ _ _ _ _ _
   | exact ih3 _ _ _ _ _ _ _ _ _ _ _
   | exact ih4 _ _ _ _ _ _ _ _ _ _ _ _ _
   | exact spec_Owner.mono _ _ _ _ _
   | exact spec_PlanOk.mono _ _ _ _
   | exact LeO.none _
   | refine LeO.ite ?_ ?_
   | refine LeO.bind ?_ (fun _ => ?_)
  ·
   intro y0 y1 y2 y3 y4 y5 y6 y7 y8 y9
   unfold spec_RunJobs.l1
   repeat' first
   | (with_reducible exact ih0 _ _ _ _ _ _)
   | (with_reducible exact ih1 _ _ _ _ _ _)
   | (with_reducible exact ih2 _ _ _ _ _ _ _ _ _ _)
   | (with_reducible exact ih3 _ _ _ _ _ _ _ _ _ _ _)
   | (with_reducible exact ih4 _ _ _ _ _ _ _ _ _ _ _ _ _)
   | (with_reducible exact spec_Owner.mono _ _ _ _ _)
   | (with_reducible exact spec_PlanOk.mono _ _ _ _)
   | (with_reducible exact LeO.refl _)
   | (with_reducible exact LeO.none _)
   | (with_reducible refine LeO.ite ?_ ?_)
   | (with_reducible refine LeO.bind ?_ (fun _ => ?_))
   | exact ih0 _ _ _ _ _ _
   | exact ih1 _ _ _ _ _ _
   | exact ih2 _ _ _ _ _ _ _ _ _ _
   | exact ih3 _ _ _ _ _ _ _ _ _ _ _
   | exact ih4 _ _ _ _ _ _ _ _ _ _ _ _ _
   | exact spec_Owner.mono _ _ _ _ _
   | exact spec_PlanOk.mono _ _ _ _
   | exact LeO.none _
   | refine LeO.ite ?_ ?_
   | refine LeO.bind ?_ (fun _ => ?_)
  ·
   intro y0 y1 y2 y3 y4 y5 y6 y7 y8 y9 y10
   unfold spec_RunJobs.l2
   repeat' first
   | (with_reducible exact ih0 _ _ _ _ _ _)
   | (with_reducible exact ih1 _ _ _ _ _ _)
   | (with_reducible exact ih2 _ _ _ _ _ _ _ _ _ _)
   | (with_reducible exact ih3 _ _ _ _ _ _ _ _ _ _ _)
   | (with_reducible exact ih4 _ _ _ _ _ _ _ _ _ _ _ _ _)
   | (with_reducible exact spec_Owner.mono _ _ _ _ _)
   | (with_reducible exact spec_PlanOk.mono _ _ _ _)
   | (with_reducible exact LeO.refl _)
   | (with_reducible exact LeO.none _)
   | (with_reducible refine LeO.ite ?_ ?_)
   | (with_reducible refine LeO.bind ?_ (fun _ => ?_))
   | exact ih0 _ _ _ _ _ _
   | exact ih1 _ _ _ _ _ _
   | exact ih2 _ _ _ _ _ _ _ _ _ _
   | exact ih3 _ _ _ _ _ _ _ _ _ _ _
   | exact ih4 _ _ _ _ _ _ _ _ _ _ _ _ _
   | exact spec_Owner.mono _ _ _ _ _
   | exact spec_PlanOk.mono _ _ _ _
   | exact LeO.none _
   | refine LeO.ite ?_ ?_
   | refine LeO.bind ?_ (fun _ => ?_)
  ·
   intro y0 y1 y2 y3 y4 y5 y6 y7 y8 y9 y10 y11 y12
   unfold spec_RunJobs.l3
   repeat' first
   | (with_reducible exact ih0 _ _ _ _ _ _)
   | (with_reducible exact ih1 _ _ _ _ _ _)
   | (with_reducible exact ih2 _ _ _ _ _ _ _ _ _ _)
   | (with_reducible exact ih3 _ _ _ _ _ _ _ _ _ _ _)
   | (with_reducible exact ih4 _ _ _ _ _ _ _ _ _ _ _ _ _)
   | (with_reducible exact spec_Owner.mono _ _ _ _ _)
   | (with_reducible exact spec_PlanOk.mono _ _ _ _)
   | (with_reducible exact LeO.refl _)
   | (with_reducible exact LeO.none _)
   | (with_reducible refine LeO.ite ?_ ?_)
   | (with_reducible refine LeO.bind ?_ (fun _ => ?_))
   | exact ih0 _ _ _ _ _ _
   | exact ih1 _ _ _ _ _ _
   | exact ih2 _ _ _ _ _ _ _ _ _ _
   | exact ih3 _ _ _ _ _ _ _ _ _ _ _
   | exact ih4 _ _ _ _ _ _ _ _ _ _ _ _ _
   | exact spec_Owner.mono _ _ _ _ _
   | exact spec_PlanOk.mono _ _ _ _
   | exact LeO.none _
   | refine LeO.ite ?_ ?_
   | refine LeO.bind ?_ (fun _ => ?_)
theorem spec_RunJobs.mono : ∀ a0 a1 a2 a3 a4 k, LeO (spec_RunJobs.f k a0 a1 a2 a3 a4) (spec_RunJobs.f (k + 1) a0 a1 a2 a3 a4) := by
 intro a0 a1 a2 a3 a4 k
 obtain ⟨ih0, ih1, ih2, ih3, ih4⟩ := spec_RunJobs.mono_l k
 unfold spec_RunJobs.f
 repeat' first
   | (with_reducible exact ih0 _ _ _ _ _ _)
   | (with_reducible exact ih1 _ _ _ _ _ _)
   | (with_reducible exact ih2 _ _ _ _ _ _ _ _ _ _)
   | (with_reducible exact ih3 _ _ _ _ _ _ _ _ _ _ _)
   | (with_reducible exact ih4 _ _ _ _ _ _ _ _ _ _ _ _ _)
   | (with_reducible exact spec_Owner.mono _ _ _ _ _)
   | (with_reducible exact spec_PlanOk.mono _ _ _ _)
   | (with_reducible exact LeO.refl _)
   | (with_reducible exact LeO.none _)
   | (with_reducible refine LeO.ite ?_ ?_)
   | (with_reducible refine LeO.bind ?_ (fun _ => ?_))
   | exact ih0 _ _ _ _ _ _
   | exact ih1 _ _ _ _ _ _
   | exact ih2 _ _ _ _ _ _ _ _ _ _
   | exact ih3 _ _ _ _ _ _ _ _ _ _ _
   | exact ih4 _ _ _ _ _ _ _ _ _ _ _ _ _
   | exact spec_Owner.mono _ _ _ _ _
   | exact spec_PlanOk.mono _ _ _ _
   | exact LeO.none _
   | refine LeO.ite ?_ ?_
   | refine LeO.bind ?_ (fun _ => ?_)
set_option maxHeartbeats 8000000 in
set_option maxRecDepth 100000 in
theorem spec_RunJobs.calls (k : Nat) (a0_0 : Int) (a0_1 : Int) (A0_2 : Option Addr) (c0_2 : Nat) (l0_2 : List (S62)) (A1 : Option Addr) (c1 : Nat) (l1 : List (S74)) (a2 : Int) (r1 : List Int) (r2 : Int) (r3 : Bool) (w : World) (hr0_2 : Kd.C k62 w A0_2 l0_2.length l0_2) (hc0_2 : l0_2.length ≤ c0_2) (hr1 : Kd.C k74 w A1 l1.length l1) (hc1 : l1.length ≤ c1) (h : spec_RunJobs.f k a0_0 a0_1 l0_2 l1 a2 = some (r1, r2, r3)) :
  Calls Try.prog 23 #[.agg #[.int .i64 a0_0, .int .i64 a0_1, .slice A0_2 l0_2.length c0_2], .slice A1 l1.length c1, .int .i64 a2] w fun e w' => ∃ v0_ : Value, e = .returned (.tuple #[v0_, .int .i64 r2, .bool r3]) ∧ Kd.R (Kd.int .i64) 3 w' w.heap.size (fun _ => True) v0_ r1 ∧ Below w.heap.size w w' := by
 have hu29 := Try.underlying29
 have HR0_2 := Aside0.mk hr0_2
 have HC0_2 := Aside0.mk hc0_2
 clear hr0_2 hc0_2
 have HR1 := Aside0.mk hr1
 have HC1 := Aside0.mk hc1
 clear hr1 hc1
 have HB := Aside0.mk (Below.refl w.heap.size w)
 have H : ((spec_PlanOk.f k a0_0 a0_1 l0_2).bind fun t150 => (if t150 = true then (if (l1.length : Int) > 20 then (spec_RunJobs.j0 k l1 a2 true a0_0 a0_1 l0_2) else ((spec_l1In.f a2 0 5000).bind fun t151 => (spec_RunJobs.j0 k l1 a2 (!t151) a0_0 a0_1 l0_2))) else (spec_RunJobs.j0 k l1 a2 true a0_0 a0_1 l0_2))) = some (r1, r2, r3) := h
 clear h
 have HC4 := Aside0.mk H
 clear H
 go_enter Try.func23, Try.ntmps23
 go_upto_region 1 with (first | ((with_reducible refine gate_dst (N := 3) rfl ?_); (try (refine gate_guard (by rfl) ?_; dsimp only)); refine box_event ?hg (N := 3) ?hd (cs := #[.int .i64 a0_0, .int .i64 a0_1, .slice A0_2 l0_2.length c0_2]) (t := 29) ?hr ?_; (case hd => rfl); (case hg => rfl); (case hr => first | (go_simp; done) | (go_simp; rfl)); intro gb149 hg w5 hbox hb; have n0_ := Aside0.mk (below_step (bl HB.out) hb); have n1_ := Aside0.mk (hbox); have n2_ := Aside0.mk ((by rw [hg]; exact (below_size (bl HB.out)) : w.heap.size ≤ gb149)); have n3_ := Aside0.mk ((by rw [hg]; exact (below_size (bl HB.out)) : w.heap.size ≤ gb149)); clear HB; have HB := n0_; have BK149 := n1_; have GW149 := n2_; have GE149 := n3_; clear n0_ n1_ n2_ n3_; clear hb hbox hg))
 repeat (go_quiet (first | ((with_reducible refine gate_dst (N := 3) rfl ?_); (try (refine gate_guard (by rfl) ?_; dsimp only)); refine box_event ?hg (N := 3) ?hd (cs := #[.int .i64 a0_0, .int .i64 a0_1, .slice A0_2 l0_2.length c0_2]) (t := 29) ?hr ?_; (case hd => rfl); (case hg => rfl); (case hr => first | (go_simp; done) | (go_simp; rfl)); intro gb149 hg w5 hbox hb; have n0_ := Aside0.mk (below_step (bl HB.out) hb); have n1_ := Aside0.mk (hbox); have n2_ := Aside0.mk ((by rw [hg]; exact (below_size (bl HB.out)) : w.heap.size ≤ gb149)); have n3_ := Aside0.mk ((by rw [hg]; exact (below_size (bl HB.out)) : w.heap.size ≤ gb149)); clear HB; have HB := n0_; have BK149 := n1_; have GW149 := n2_; have GE149 := n3_; clear n0_ n1_ n2_ n3_; clear hb hbox hg)); go_upto_region 1 with (first | ((with_reducible refine gate_dst (N := 3) rfl ?_); (try (refine gate_guard (by rfl) ?_; dsimp only)); refine box_event ?hg (N := 3) ?hd (cs := #[.int .i64 a0_0, .int .i64 a0_1, .slice A0_2 l0_2.length c0_2]) (t := 29) ?hr ?_; (case hd => rfl); (case hg => rfl); (case hr => first | (go_simp; done) | (go_simp; rfl)); intro gb149 hg w5 hbox hb; have n0_ := Aside0.mk (below_step (bl HB.out) hb); have n1_ := Aside0.mk (hbox); have n2_ := Aside0.mk ((by rw [hg]; exact (below_size (bl HB.out)) : w.heap.size ≤ gb149)); have n3_ := Aside0.mk ((by rw [hg]; exact (below_size (bl HB.out)) : w.heap.size ≤ gb149)); clear HB; have HB := n0_; have BK149 := n1_; have GW149 := n2_; have GE149 := n3_; clear n0_ n1_ n2_ n3_; clear hb hbox hg)))
 (try simp only [Act.put, List.setIfInBounds_toArray, List.set_cons_zero, List.set_cons_succ])
 go_cut [32] (fun v32 wc => ∃ (kq : Nat) (x32_3 : Bool), v32 = .bool x32_3 ∧ Aside0 (spec_RunJobs.j0 kq l1 a2 x32_3 a0_0 a0_1 l0_2 = some (r1, r2, r3)) ∧ Aside0 (kq ≤ k) ∧ Aside0 (wc.heap[gb149]? = some (.cells #[.int .i64 a0_0, .int .i64 a0_1, (.slice A0_2 l0_2.length c0_2)] 29 (0, 0))) ∧ Aside0 (Below w.heap.size w wc))
 case first =>
  have H := HC4.out
  clear HC4
  replace H := Option.bind_eq_some_iff.mp H
  obtain ⟨t150, A60, H⟩ := H
  replace H : (if t150 = true then (if (l1.length : Int) > 20 then (spec_RunJobs.j0 k l1 a2 true a0_0 a0_1 l0_2) else ((spec_l1In.f a2 0 5000).bind fun t151 => (spec_RunJobs.j0 k l1 a2 (!t151) a0_0 a0_1 l0_2))) else (spec_RunJobs.j0 k l1 a2 true a0_0 a0_1 l0_2)) = some (r1, r2, r3) := H
  have A6 := Aside0.mk A60
  clear A60
  by_cases c7 : t150 = true
  ·
   subst c7
   have H1 : (if (l1.length : Int) > 20 then (spec_RunJobs.j0 k l1 a2 true a0_0 a0_1 l0_2) else ((spec_l1In.f a2 0 5000).bind fun t151 => (spec_RunJobs.j0 k l1 a2 (!t151) a0_0 a0_1 l0_2))) = some (r1, r2, r3) := by rw [if_pos rfl] at H; exact H
   clear H
   have H := H1
   clear H1
   by_cases c8 : (l1.length : Int) > 20
   ·
    rw [if_pos c8] at H
    have c8b0 : decide (20 < (l1.length : Int)) = true := decide_eq_true c8
    have c8b1 : decide (20 < l1.length) = true := decide_eq_true (by omega)
    clear c8
    (first | rw [c8b0] | (simp only [i64_w, i32_w]; rw [c8b0]) | rw [c8b1] | skip)
    have H' := Aside0.mk H
    clear H
    have hcz9_0 := ck (v := .int .i64 a0_0) BK149.out 0 rfl
    have hcz9_1 := ck (v := .int .i64 a0_1) BK149.out 1 rfl
    have hcz9_2 := ck (v := .slice A0_2 l0_2.length c0_2) BK149.out 2 rfl
    have hfz9_0 := blk_frozen BK149.out 0
    have hfz9_1 := blk_frozen BK149.out 1
    have hfz9_2 := blk_frozen BK149.out 2
    go_wp2_with (first | (go_at_call 10; (with_reducible refine (spec_PlanOk.calls k a0_0 a0_1 _ _ l0_2 true _ ?side1 ?side2 A6.out).mono ?_); (case side1 => exact rc (Kd.C_below HR0_2.out HB.out)); (case side2 => exact HC0_2.out); rintro e w10 ⟨rfl, hb⟩; have n0_ := Aside0.mk (blk_below (bk BK149.out) hb); have n1_ := Aside0.mk (below_step (by repeat with_reducible first | exact bl HB.out | refine below_set ?_ GE149.out | refine bq ?_) hb); clear BK149; clear HB; have BK149 := n0_; have HB := n1_; clear n0_ n1_; (try clear hb); (try clear hb2); (try clear hk); (try clear hi)))
    repeat (go_quiet (first | (go_at_call 10; (with_reducible refine (spec_PlanOk.calls k a0_0 a0_1 _ _ l0_2 true _ ?side1 ?side2 A6.out).mono ?_); (case side1 => exact rc (Kd.C_below HR0_2.out HB.out)); (case side2 => exact HC0_2.out); rintro e w10 ⟨rfl, hb⟩; have n0_ := Aside0.mk (blk_below (bk BK149.out) hb); have n1_ := Aside0.mk (below_step (by repeat with_reducible first | exact bl HB.out | refine below_set ?_ GE149.out | refine bq ?_) hb); clear BK149; clear HB; have BK149 := n0_; have HB := n1_; clear n0_ n1_; (try clear hb); (try clear hb2); (try clear hk); (try clear hi))); try go_wp2_with (first | (go_at_call 10; (with_reducible refine (spec_PlanOk.calls k a0_0 a0_1 _ _ l0_2 true _ ?side1 ?side2 A6.out).mono ?_); (case side1 => exact rc (Kd.C_below HR0_2.out HB.out)); (case side2 => exact HC0_2.out); rintro e w10 ⟨rfl, hb⟩; have n0_ := Aside0.mk (blk_below (bk BK149.out) hb); have n1_ := Aside0.mk (below_step (by repeat with_reducible first | exact bl HB.out | refine below_set ?_ GE149.out | refine bq ?_) hb); clear BK149; clear HB; have BK149 := n0_; have HB := n1_; clear n0_ n1_; (try clear hb); (try clear hb2); (try clear hk); (try clear hi))))
    go_meet
    case rel => exact ⟨_, (true), (by first | rfl | (simp; done) | (simp [*]; done)), H', ⟨by first | omega | exact Nat.le_refl _⟩, ⟨bk BK149.out⟩, ⟨by repeat with_reducible first | exact bl HB.out | refine below_set ?_ GE149.out | refine bq ?_⟩⟩
   ·
    rw [if_neg c8] at H
    have c8b0 : decide (20 < (l1.length : Int)) = false := decide_eq_false c8
    have c8b1 : decide (20 < l1.length) = false := decide_eq_false (by omega)
    clear c8
    (first | rw [c8b0] | (simp only [i64_w, i32_w]; rw [c8b0]) | rw [c8b1] | skip)
    replace H := Option.bind_eq_some_iff.mp H
    obtain ⟨t151, A110, H⟩ := H
    replace H : (spec_RunJobs.j0 k l1 a2 (!t151) a0_0 a0_1 l0_2) = some (r1, r2, r3) := H
    have A11 := Aside0.mk A110
    clear A110
    have H' := Aside0.mk H
    clear H
    have hcz12_0 := ck (v := .int .i64 a0_0) BK149.out 0 rfl
    have hcz12_1 := ck (v := .int .i64 a0_1) BK149.out 1 rfl
    have hcz12_2 := ck (v := .slice A0_2 l0_2.length c0_2) BK149.out 2 rfl
    have hfz12_0 := blk_frozen BK149.out 0
    have hfz12_1 := blk_frozen BK149.out 1
    have hfz12_2 := blk_frozen BK149.out 2
    go_wp2_with (first | (go_at_call 10; (with_reducible refine (spec_PlanOk.calls k a0_0 a0_1 _ _ l0_2 true _ ?side1 ?side2 A6.out).mono ?_); (case side1 => exact rc (Kd.C_below HR0_2.out HB.out)); (case side2 => exact HC0_2.out); rintro e w13 ⟨rfl, hb⟩; have n0_ := Aside0.mk (blk_below (bk BK149.out) hb); have n1_ := Aside0.mk (below_step (by repeat with_reducible first | exact bl HB.out | refine below_set ?_ GE149.out | refine bq ?_) hb); clear BK149; clear HB; have BK149 := n0_; have HB := n1_; clear n0_ n1_; (try clear hb); (try clear hb2); (try clear hk); (try clear hi)) | (go_at_call 36; (with_reducible refine (spec_l1In.calls a2 0 5000 t151 _ A11.out).mono ?_); rintro e w' ⟨rfl, ⟨nd, rfl⟩⟩; (try first | exact ⟨rfl, _, World.drewN_drewN _ _ _⟩ | exact ⟨rfl, _, Eq.trans (World.drewN_drewN _ _ _) (congrArg (World.drewN _) (Nat.add_assoc _ _ _))⟩)))
    repeat (go_quiet (first | (go_at_call 10; (with_reducible refine (spec_PlanOk.calls k a0_0 a0_1 _ _ l0_2 true _ ?side1 ?side2 A6.out).mono ?_); (case side1 => exact rc (Kd.C_below HR0_2.out HB.out)); (case side2 => exact HC0_2.out); rintro e w13 ⟨rfl, hb⟩; have n0_ := Aside0.mk (blk_below (bk BK149.out) hb); have n1_ := Aside0.mk (below_step (by repeat with_reducible first | exact bl HB.out | refine below_set ?_ GE149.out | refine bq ?_) hb); clear BK149; clear HB; have BK149 := n0_; have HB := n1_; clear n0_ n1_; (try clear hb); (try clear hb2); (try clear hk); (try clear hi)) | (go_at_call 36; (with_reducible refine (spec_l1In.calls a2 0 5000 t151 _ A11.out).mono ?_); rintro e w' ⟨rfl, ⟨nd, rfl⟩⟩; (try first | exact ⟨rfl, _, World.drewN_drewN _ _ _⟩ | exact ⟨rfl, _, Eq.trans (World.drewN_drewN _ _ _) (congrArg (World.drewN _) (Nat.add_assoc _ _ _))⟩))); try go_wp2_with (first | (go_at_call 10; (with_reducible refine (spec_PlanOk.calls k a0_0 a0_1 _ _ l0_2 true _ ?side1 ?side2 A6.out).mono ?_); (case side1 => exact rc (Kd.C_below HR0_2.out HB.out)); (case side2 => exact HC0_2.out); rintro e w13 ⟨rfl, hb⟩; have n0_ := Aside0.mk (blk_below (bk BK149.out) hb); have n1_ := Aside0.mk (below_step (by repeat with_reducible first | exact bl HB.out | refine below_set ?_ GE149.out | refine bq ?_) hb); clear BK149; clear HB; have BK149 := n0_; have HB := n1_; clear n0_ n1_; (try clear hb); (try clear hb2); (try clear hk); (try clear hi)) | (go_at_call 36; (with_reducible refine (spec_l1In.calls a2 0 5000 t151 _ A11.out).mono ?_); rintro e w' ⟨rfl, ⟨nd, rfl⟩⟩; (try first | exact ⟨rfl, _, World.drewN_drewN _ _ _⟩ | exact ⟨rfl, _, Eq.trans (World.drewN_drewN _ _ _) (congrArg (World.drewN _) (Nat.add_assoc _ _ _))⟩))))
    go_meet
    case rel => exact ⟨_, (!t151), (by first | rfl | (simp; done) | (simp [*]; done)), H', ⟨by first | omega | exact Nat.le_refl _⟩, ⟨bk BK149.out⟩, ⟨by repeat with_reducible first | exact bl HB.out | refine below_set ?_ GE149.out | refine bq ?_⟩⟩
  ·
   replace c7 := Bool.eq_false_iff.mpr c7
   subst c7
   have H1 : (spec_RunJobs.j0 k l1 a2 true a0_0 a0_1 l0_2) = some (r1, r2, r3) := by rw [if_neg (show ¬ (false = true) by decide)] at H; exact H
   clear H
   have H := H1
   clear H1
   have H' := Aside0.mk H
   clear H
   have hcz14_0 := ck (v := .int .i64 a0_0) BK149.out 0 rfl
   have hcz14_1 := ck (v := .int .i64 a0_1) BK149.out 1 rfl
   have hcz14_2 := ck (v := .slice A0_2 l0_2.length c0_2) BK149.out 2 rfl
   have hfz14_0 := blk_frozen BK149.out 0
   have hfz14_1 := blk_frozen BK149.out 1
   have hfz14_2 := blk_frozen BK149.out 2
   go_wp2_with (first | (go_at_call 10; (with_reducible refine (spec_PlanOk.calls k a0_0 a0_1 _ _ l0_2 false _ ?side1 ?side2 A6.out).mono ?_); (case side1 => exact rc (Kd.C_below HR0_2.out HB.out)); (case side2 => exact HC0_2.out); rintro e w15 ⟨rfl, hb⟩; have n0_ := Aside0.mk (blk_below (bk BK149.out) hb); have n1_ := Aside0.mk (below_step (by repeat with_reducible first | exact bl HB.out | refine below_set ?_ GE149.out | refine bq ?_) hb); clear BK149; clear HB; have BK149 := n0_; have HB := n1_; clear n0_ n1_; (try clear hb); (try clear hb2); (try clear hk); (try clear hi)))
   repeat (go_quiet (first | (go_at_call 10; (with_reducible refine (spec_PlanOk.calls k a0_0 a0_1 _ _ l0_2 false _ ?side1 ?side2 A6.out).mono ?_); (case side1 => exact rc (Kd.C_below HR0_2.out HB.out)); (case side2 => exact HC0_2.out); rintro e w15 ⟨rfl, hb⟩; have n0_ := Aside0.mk (blk_below (bk BK149.out) hb); have n1_ := Aside0.mk (below_step (by repeat with_reducible first | exact bl HB.out | refine below_set ?_ GE149.out | refine bq ?_) hb); clear BK149; clear HB; have BK149 := n0_; have HB := n1_; clear n0_ n1_; (try clear hb); (try clear hb2); (try clear hk); (try clear hi))); try go_wp2_with (first | (go_at_call 10; (with_reducible refine (spec_PlanOk.calls k a0_0 a0_1 _ _ l0_2 false _ ?side1 ?side2 A6.out).mono ?_); (case side1 => exact rc (Kd.C_below HR0_2.out HB.out)); (case side2 => exact HC0_2.out); rintro e w15 ⟨rfl, hb⟩; have n0_ := Aside0.mk (blk_below (bk BK149.out) hb); have n1_ := Aside0.mk (below_step (by repeat with_reducible first | exact bl HB.out | refine below_set ?_ GE149.out | refine bq ?_) hb); clear BK149; clear HB; have BK149 := n0_; have HB := n1_; clear n0_ n1_; (try clear hb); (try clear hb2); (try clear hk); (try clear hi))))
   go_meet
   case rel => exact ⟨_, (true), (by first | rfl | (simp; done) | (simp [*]; done)), H', ⟨by first | omega | exact Nat.le_refl _⟩, ⟨bk BK149.out⟩, ⟨by repeat with_reducible first | exact bl HB.out | refine below_set ?_ GE149.out | refine bq ?_⟩⟩
 case rest =>
  clear HC4
  try clear c1
  try clear c2
  try clear p2
  try clear c7
  try clear c8
  try clear c8b0
  try clear c8b1
  try clear hcz12_0
  try clear hcz12_1
  try clear hcz12_2
  try clear hcz14_0
  try clear hcz14_1
  try clear hcz14_2
  try clear hcz9_0
  try clear hcz9_1
  try clear hcz9_2
  try clear hfz12_0
  try clear hfz12_1
  try clear hfz12_2
  try clear hfz14_0
  try clear hfz14_1
  try clear hfz14_2
  try clear hfz9_0
  try clear hfz9_1
  try clear hfz9_2
  obtain ⟨kq, x32_3, rfl, HA, HJ3, BK149, HB⟩ := hcut
  cases kq with
  | zero => exact absurd HA.out (by simp [spec_RunJobs.j0])
  | succ kj3 =>
   have H := HA.out
   clear HA
   simp only [spec_RunJobs.j0] at H
   by_cases c16 : x32_3 = true
   ·
    subst c16
    have H1 : (some ((([] : List Int)), 0, false)) = some (r1, r2, r3) := by rw [if_pos rfl] at H; exact H
    clear H
    have H := H1
    clear H1
    obtain ⟨y152, hy152⟩ : ∃ y_ : List Int, y_ = (([] : List Int)) := ⟨_, rfl⟩
    replace H : (some (y152, 0, false)) = some (r1, r2, r3) := by first | (rw [hy152]; with_reducible exact H) | (have H2_ := (Option.bind_some _ _).symm.trans H; rw [hy152]; with_reducible exact H2_) | (have H2_ := (Option.bind_some _ _).symm.trans H; with_reducible exact H2_) | with_reducible exact H | (rw [hy152]; exact H) | exact H
    have Ny152 := Aside0.mk hy152
    clear hy152
    simp only [Option.some.injEq, Prod.mk.injEq] at H
    obtain ⟨rfl, rfl, rfl⟩ := H
    go_wp2_with (first | ((with_reducible refine gate_dst (N := 33) rfl ?_); (try (refine gate_guard (by rfl) ?_; dsimp only)); refine Kd.R_lit (Kd.int .i64) _ 3 ?hg (N := 33) ?hd (xs := ([] : List Int)) (inner := []) (ok := fun _ => True) (okp := fun _ => True) ?hr ?hp (fun _ hk => hk) trivial (Below.refl _ _) (Nat.le_refl _) (by simp) ?_; (case hd => rfl); (case hg => rfl); (case hr => first | (go_simp; done) | (go_simp; rfl)); (case hp => exact (Reps.none _ _)); intro v153 w17 ho18 hb hg_ hnew_; clear hg_ hnew_; (first | rw [← Ny152.out] at ho18 | (simp only [Int.reduceToNat] at ho18; rw [← Ny152.out] at ho18)); have n0_ := Aside0.mk (Kd.R_lower ho18 (below_size (by repeat with_reducible first | exact bl HB.out | refine below_set ?_ GE149.out | refine bq ?_))); have n1_ := Aside0.mk (blk_below (bk BK149.out) hb); have n2_ := Aside0.mk (below_step (by repeat with_reducible first | exact bl HB.out | refine below_set ?_ GE149.out | refine bq ?_) hb); clear BK149; clear HB; have HO154 := n0_; have BK149 := n1_; have HB := n2_; clear n0_ n1_ n2_; clear hb ho18))
    repeat (go_quiet (first | ((with_reducible refine gate_dst (N := 33) rfl ?_); (try (refine gate_guard (by rfl) ?_; dsimp only)); refine Kd.R_lit (Kd.int .i64) _ 3 ?hg (N := 33) ?hd (xs := ([] : List Int)) (inner := []) (ok := fun _ => True) (okp := fun _ => True) ?hr ?hp (fun _ hk => hk) trivial (Below.refl _ _) (Nat.le_refl _) (by simp) ?_; (case hd => rfl); (case hg => rfl); (case hr => first | (go_simp; done) | (go_simp; rfl)); (case hp => exact (Reps.none _ _)); intro v153 w17 ho18 hb hg_ hnew_; clear hg_ hnew_; (first | rw [← Ny152.out] at ho18 | (simp only [Int.reduceToNat] at ho18; rw [← Ny152.out] at ho18)); have n0_ := Aside0.mk (Kd.R_lower ho18 (below_size (by repeat with_reducible first | exact bl HB.out | refine below_set ?_ GE149.out | refine bq ?_))); have n1_ := Aside0.mk (blk_below (bk BK149.out) hb); have n2_ := Aside0.mk (below_step (by repeat with_reducible first | exact bl HB.out | refine below_set ?_ GE149.out | refine bq ?_) hb); clear BK149; clear HB; have HO154 := n0_; have BK149 := n1_; have HB := n2_; clear n0_ n1_ n2_; clear hb ho18)); try go_wp2_with (first | ((with_reducible refine gate_dst (N := 33) rfl ?_); (try (refine gate_guard (by rfl) ?_; dsimp only)); refine Kd.R_lit (Kd.int .i64) _ 3 ?hg (N := 33) ?hd (xs := ([] : List Int)) (inner := []) (ok := fun _ => True) (okp := fun _ => True) ?hr ?hp (fun _ hk => hk) trivial (Below.refl _ _) (Nat.le_refl _) (by simp) ?_; (case hd => rfl); (case hg => rfl); (case hr => first | (go_simp; done) | (go_simp; rfl)); (case hp => exact (Reps.none _ _)); intro v153 w17 ho18 hb hg_ hnew_; clear hg_ hnew_; (first | rw [← Ny152.out] at ho18 | (simp only [Int.reduceToNat] at ho18; rw [← Ny152.out] at ho18)); have n0_ := Aside0.mk (Kd.R_lower ho18 (below_size (by repeat with_reducible first | exact bl HB.out | refine below_set ?_ GE149.out | refine bq ?_))); have n1_ := Aside0.mk (blk_below (bk BK149.out) hb); have n2_ := Aside0.mk (below_step (by repeat with_reducible first | exact bl HB.out | refine below_set ?_ GE149.out | refine bq ?_) hb); clear BK149; clear HB; have HO154 := n0_; have BK149 := n1_; have HB := n2_; clear n0_ n1_ n2_; clear hb ho18)))
    go_ret3
    exact ⟨_, by first | rfl | (simp [errW_none, errW_some] <;> rfl) | (simp [*, errW_none, errW_some] <;> rfl), by (repeat apply rl1); exact HO154.out, by repeat with_reducible first | exact bl HB.out | refine below_set ?_ GE149.out | refine bq ?_⟩
   ·
    replace c16 := Bool.eq_false_iff.mpr c16
    subst c16
    have H1 : (spec_RunJobs.l0 kj3 l1 a2 0 a0_0 a0_1 l0_2) = some (r1, r2, r3) := by rw [if_neg (show ¬ (false = true) by decide)] at H; exact H
    clear H
    have H := H1
    clear H1
    have H' := Aside0.mk H
    clear H
    go_wp2
    repeat (go_quiet (fail); try go_wp2)
    go_loopg [9] kj3 (fun kq v9 w' => ∃ (x9_2 : Int), v9 = .int .i64 x9_2 ∧ Aside0 (spec_RunJobs.l0 kq l1 a2 x9_2 a0_0 a0_1 l0_2 = some (r1, r2, r3)) ∧ Aside0 (kq ≤ kj3) ∧ Aside0 (w'.heap[gb149]? = some (.cells #[.int .i64 a0_0, .int .i64 a0_1, (.slice A0_2 l0_2.length c0_2)] 29 (0, 0))) ∧ Aside0 (Below w.heap.size w w'))
    case atStart => exact ⟨(0), (by first | rfl | (simp; done) | (simp [*]; done)), H', ⟨Nat.le_refl _⟩, ⟨bk BK149.out⟩, ⟨by repeat with_reducible first | exact bl HB.out | refine below_set ?_ GE149.out | refine bq ?_⟩⟩
    case round =>
     clear H'
     try clear c1
     try clear c2
     try clear p2
     try clear c7
     try clear c8
     try clear c8b0
     try clear c8b1
     try clear c16
     try clear hcz12_0
     try clear hcz12_1
     try clear hcz12_2
     try clear hcz14_0
     try clear hcz14_1
     try clear hcz14_2
     try clear hcz9_0
     try clear hcz9_1
     try clear hcz9_2
     try clear hfz12_0
     try clear hfz12_1
     try clear hfz12_2
     try clear hfz14_0
     try clear hfz14_1
     try clear hfz14_2
     try clear hfz9_0
     try clear hfz9_1
     try clear hfz9_2
     try clear p2
     obtain ⟨x9_2, rfl, HA, HK2, BK149, HB⟩ := hrel
     cases gk with
     | zero => exact absurd HA.out (by simp [spec_RunJobs.l0])
     | succ k2 =>
      have H := HA.out
      clear HA
      simp only [spec_RunJobs.l0] at H
      by_cases c19 : x9_2 < (l1.length : Int)
      ·
       rw [if_pos c19] at H
       have c19b0 : decide (x9_2 < (l1.length : Int)) = true := decide_eq_true c19
       clear c19
       by_cases c20 : 0 ≤ x9_2
       ·
        rw [if_pos c20] at H
        have c20b0 : decide (0 ≤ x9_2) = true := decide_eq_true c20
        clear c20
        replace H := Option.bind_eq_some_iff.mp H
        obtain ⟨t156, A210, H⟩ := H
        replace H : (if t156 = true then ((spec_l1In.f ((rd_T74 l1 x9_2).f1) 1 100000).bind fun t158 => (if t158 = true then ((spec_l1In.f ((rd_T74 l1 x9_2).f2) 1 100000).bind fun t160 => (if t160 = true then (spec_RunJobs.l0 k2 l1 a2 (wrap64 (x9_2 + 1)) a0_0 a0_1 l0_2) else (some ((([] : List Int)), 0, false)))) else (some ((([] : List Int)), 0, false)))) else (some ((([] : List Int)), 0, false))) = some (r1, r2, r3) := H
        have A21 := Aside0.mk A210
        clear A210
        by_cases c22 : t156 = true
        ·
         subst c22
         have H1 : ((spec_l1In.f ((rd_T74 l1 x9_2).f1) 1 100000).bind fun t158 => (if t158 = true then ((spec_l1In.f ((rd_T74 l1 x9_2).f2) 1 100000).bind fun t160 => (if t160 = true then (spec_RunJobs.l0 k2 l1 a2 (wrap64 (x9_2 + 1)) a0_0 a0_1 l0_2) else (some ((([] : List Int)), 0, false)))) else (some ((([] : List Int)), 0, false)))) = some (r1, r2, r3) := by rw [if_pos rfl] at H; exact H
         clear H
         have H := H1
         clear H1
         replace H := Option.bind_eq_some_iff.mp H
         obtain ⟨t158, A230, H⟩ := H
         replace H : (if t158 = true then ((spec_l1In.f ((rd_T74 l1 x9_2).f2) 1 100000).bind fun t160 => (if t160 = true then (spec_RunJobs.l0 k2 l1 a2 (wrap64 (x9_2 + 1)) a0_0 a0_1 l0_2) else (some ((([] : List Int)), 0, false)))) else (some ((([] : List Int)), 0, false))) = some (r1, r2, r3) := H
         have A23 := Aside0.mk A230
         clear A230
         by_cases c24 : t158 = true
         ·
          subst c24
          have H1 : ((spec_l1In.f ((rd_T74 l1 x9_2).f2) 1 100000).bind fun t160 => (if t160 = true then (spec_RunJobs.l0 k2 l1 a2 (wrap64 (x9_2 + 1)) a0_0 a0_1 l0_2) else (some ((([] : List Int)), 0, false)))) = some (r1, r2, r3) := by rw [if_pos rfl] at H; exact H
          clear H
          have H := H1
          clear H1
          replace H := Option.bind_eq_some_iff.mp H
          obtain ⟨t160, A250, H⟩ := H
          replace H : (if t160 = true then (spec_RunJobs.l0 k2 l1 a2 (wrap64 (x9_2 + 1)) a0_0 a0_1 l0_2) else (some ((([] : List Int)), 0, false))) = some (r1, r2, r3) := H
          have A25 := Aside0.mk A250
          clear A250
          by_cases c26 : t160 = true
          ·
           subst c26
           have H1 : (spec_RunJobs.l0 k2 l1 a2 (wrap64 (x9_2 + 1)) a0_0 a0_1 l0_2) = some (r1, r2, r3) := by rw [if_pos rfl] at H; exact H
           clear H
           have H := H1
           clear H1
           have H' := Aside0.mk H
           clear H
           have p155 : 0 ≤ (x9_2 : Int) := of_decide_eq_true (by first | (with_reducible assumption) | assumption)
           have q155 : x9_2 < (l1.length : Int) := of_decide_eq_true (by first | (with_reducible assumption) | assumption)
           obtain ⟨ad155, e155, hx155_0, hx155_1, hx155_2⟩ := at_T74 HR1.out x9_2 p155 q155
           cases e155
           replace hx155_0 := (HB.out.cell (World.block_lt_of_cell? w _ hx155_0)).trans hx155_0
           replace hx155_1 := (HB.out.cell (World.block_lt_of_cell? w _ hx155_1)).trans hx155_1
           replace hx155_2 := (HB.out.cell (World.block_lt_of_cell? w _ hx155_2)).trans hx155_2
           replace p155 := eq_true p155
           replace q155 := eq_true q155
           have hcz27_0 := ck (v := .int .i64 a0_0) BK149.out 0 rfl
           have hcz27_1 := ck (v := .int .i64 a0_1) BK149.out 1 rfl
           have hcz27_2 := ck (v := .slice A0_2 l0_2.length c0_2) BK149.out 2 rfl
           have hfz27_0 := blk_frozen BK149.out 0
           have hfz27_1 := blk_frozen BK149.out 1
           have hfz27_2 := blk_frozen BK149.out 2
           go_wp2_with (first | (go_at_call 36; (with_reducible refine (spec_l1In.calls ((rd_T74 l1 x9_2).f0) 0 (wrap64 (a0_1 - 1)) true _ A21.out).mono ?_); rintro e w' ⟨rfl, ⟨nd, rfl⟩⟩; (try first | exact ⟨rfl, _, World.drewN_drewN _ _ _⟩ | exact ⟨rfl, _, Eq.trans (World.drewN_drewN _ _ _) (congrArg (World.drewN _) (Nat.add_assoc _ _ _))⟩); have p157 : 0 ≤ (x9_2 : Int) := of_decide_eq_true (by first | (with_reducible assumption) | assumption); have q157 : x9_2 < (l1.length : Int) := of_decide_eq_true (by first | (with_reducible assumption) | assumption); obtain ⟨ad157, e157, hx157_0, hx157_1, hx157_2⟩ := at_T74 HR1.out x9_2 p157 q157; obtain rfl : ad155 = ad157 := (by injection e157); replace hx157_0 := (HB.out.cell (World.block_lt_of_cell? w _ hx157_0)).trans hx157_0; replace hx157_1 := (HB.out.cell (World.block_lt_of_cell? w _ hx157_1)).trans hx157_1; replace hx157_2 := (HB.out.cell (World.block_lt_of_cell? w _ hx157_2)).trans hx157_2; replace p157 := eq_true p157; replace q157 := eq_true q157) | (go_at_call 36; (with_reducible refine (spec_l1In.calls ((rd_T74 l1 x9_2).f1) 1 100000 true _ A23.out).mono ?_); rintro e w' ⟨rfl, ⟨nd, rfl⟩⟩; (try first | exact ⟨rfl, _, World.drewN_drewN _ _ _⟩ | exact ⟨rfl, _, Eq.trans (World.drewN_drewN _ _ _) (congrArg (World.drewN _) (Nat.add_assoc _ _ _))⟩); have p159 : 0 ≤ (x9_2 : Int) := of_decide_eq_true (by first | (with_reducible assumption) | assumption); have q159 : x9_2 < (l1.length : Int) := of_decide_eq_true (by first | (with_reducible assumption) | assumption); obtain ⟨ad159, e159, hx159_0, hx159_1, hx159_2⟩ := at_T74 HR1.out x9_2 p159 q159; obtain rfl : ad155 = ad159 := (by injection e159); replace hx159_0 := (HB.out.cell (World.block_lt_of_cell? w _ hx159_0)).trans hx159_0; replace hx159_1 := (HB.out.cell (World.block_lt_of_cell? w _ hx159_1)).trans hx159_1; replace hx159_2 := (HB.out.cell (World.block_lt_of_cell? w _ hx159_2)).trans hx159_2; replace p159 := eq_true p159; replace q159 := eq_true q159) | (go_at_call 36; (with_reducible refine (spec_l1In.calls ((rd_T74 l1 x9_2).f2) 1 100000 true _ A25.out).mono ?_); rintro e w' ⟨rfl, ⟨nd, rfl⟩⟩; (try first | exact ⟨rfl, _, World.drewN_drewN _ _ _⟩ | exact ⟨rfl, _, Eq.trans (World.drewN_drewN _ _ _) (congrArg (World.drewN _) (Nat.add_assoc _ _ _))⟩)))
           repeat (go_quiet (first | (go_at_call 36; (with_reducible refine (spec_l1In.calls ((rd_T74 l1 x9_2).f0) 0 (wrap64 (a0_1 - 1)) true _ A21.out).mono ?_); rintro e w' ⟨rfl, ⟨nd, rfl⟩⟩; (try first | exact ⟨rfl, _, World.drewN_drewN _ _ _⟩ | exact ⟨rfl, _, Eq.trans (World.drewN_drewN _ _ _) (congrArg (World.drewN _) (Nat.add_assoc _ _ _))⟩)) | (go_at_call 36; (with_reducible refine (spec_l1In.calls ((rd_T74 l1 x9_2).f1) 1 100000 true _ A23.out).mono ?_); rintro e w' ⟨rfl, ⟨nd, rfl⟩⟩; (try first | exact ⟨rfl, _, World.drewN_drewN _ _ _⟩ | exact ⟨rfl, _, Eq.trans (World.drewN_drewN _ _ _) (congrArg (World.drewN _) (Nat.add_assoc _ _ _))⟩)) | (go_at_call 36; (with_reducible refine (spec_l1In.calls ((rd_T74 l1 x9_2).f2) 1 100000 true _ A25.out).mono ?_); rintro e w' ⟨rfl, ⟨nd, rfl⟩⟩; (try first | exact ⟨rfl, _, World.drewN_drewN _ _ _⟩ | exact ⟨rfl, _, Eq.trans (World.drewN_drewN _ _ _) (congrArg (World.drewN _) (Nat.add_assoc _ _ _))⟩))); try go_wp2_with (first | (go_at_call 36; (with_reducible refine (spec_l1In.calls ((rd_T74 l1 x9_2).f0) 0 (wrap64 (a0_1 - 1)) true _ A21.out).mono ?_); rintro e w' ⟨rfl, ⟨nd, rfl⟩⟩; (try first | exact ⟨rfl, _, World.drewN_drewN _ _ _⟩ | exact ⟨rfl, _, Eq.trans (World.drewN_drewN _ _ _) (congrArg (World.drewN _) (Nat.add_assoc _ _ _))⟩); have p157 : 0 ≤ (x9_2 : Int) := of_decide_eq_true (by first | (with_reducible assumption) | assumption); have q157 : x9_2 < (l1.length : Int) := of_decide_eq_true (by first | (with_reducible assumption) | assumption); obtain ⟨ad157, e157, hx157_0, hx157_1, hx157_2⟩ := at_T74 HR1.out x9_2 p157 q157; obtain rfl : ad155 = ad157 := (by injection e157); replace hx157_0 := (HB.out.cell (World.block_lt_of_cell? w _ hx157_0)).trans hx157_0; replace hx157_1 := (HB.out.cell (World.block_lt_of_cell? w _ hx157_1)).trans hx157_1; replace hx157_2 := (HB.out.cell (World.block_lt_of_cell? w _ hx157_2)).trans hx157_2; replace p157 := eq_true p157; replace q157 := eq_true q157) | (go_at_call 36; (with_reducible refine (spec_l1In.calls ((rd_T74 l1 x9_2).f1) 1 100000 true _ A23.out).mono ?_); rintro e w' ⟨rfl, ⟨nd, rfl⟩⟩; (try first | exact ⟨rfl, _, World.drewN_drewN _ _ _⟩ | exact ⟨rfl, _, Eq.trans (World.drewN_drewN _ _ _) (congrArg (World.drewN _) (Nat.add_assoc _ _ _))⟩); have p159 : 0 ≤ (x9_2 : Int) := of_decide_eq_true (by first | (with_reducible assumption) | assumption); have q159 : x9_2 < (l1.length : Int) := of_decide_eq_true (by first | (with_reducible assumption) | assumption); obtain ⟨ad159, e159, hx159_0, hx159_1, hx159_2⟩ := at_T74 HR1.out x9_2 p159 q159; obtain rfl : ad155 = ad159 := (by injection e159); replace hx159_0 := (HB.out.cell (World.block_lt_of_cell? w _ hx159_0)).trans hx159_0; replace hx159_1 := (HB.out.cell (World.block_lt_of_cell? w _ hx159_1)).trans hx159_1; replace hx159_2 := (HB.out.cell (World.block_lt_of_cell? w _ hx159_2)).trans hx159_2; replace p159 := eq_true p159; replace q159 := eq_true q159) | (go_at_call 36; (with_reducible refine (spec_l1In.calls ((rd_T74 l1 x9_2).f2) 1 100000 true _ A25.out).mono ?_); rintro e w' ⟨rfl, ⟨nd, rfl⟩⟩; (try first | exact ⟨rfl, _, World.drewN_drewN _ _ _⟩ | exact ⟨rfl, _, Eq.trans (World.drewN_drewN _ _ _) (congrArg (World.drewN _) (Nat.add_assoc _ _ _))⟩))))
           go_roundg k2
           case measure => have := HJ3.out; have := HK2.out; omega
           case rel => exact ⟨(wrap64 (x9_2 + 1)), (by first | rfl | (simp; done) | (simp [*]; done)), H', ⟨by have := HJ3.out; have := HK2.out; omega⟩, ⟨bk BK149.out⟩, ⟨by repeat with_reducible first | exact bl HB.out | refine below_set ?_ GE149.out | refine bq ?_⟩⟩
          ·
           replace c26 := Bool.eq_false_iff.mpr c26
           subst c26
           have H1 : (some ((([] : List Int)), 0, false)) = some (r1, r2, r3) := by rw [if_neg (show ¬ (false = true) by decide)] at H; exact H
           clear H
           have H := H1
           clear H1
           obtain ⟨y161, hy161⟩ : ∃ y_ : List Int, y_ = (([] : List Int)) := ⟨_, rfl⟩
           replace H : (some (y161, 0, false)) = some (r1, r2, r3) := by first | (rw [hy161]; with_reducible exact H) | (have H2_ := (Option.bind_some _ _).symm.trans H; rw [hy161]; with_reducible exact H2_) | (have H2_ := (Option.bind_some _ _).symm.trans H; with_reducible exact H2_) | with_reducible exact H | (rw [hy161]; exact H) | exact H
           have Ny161 := Aside0.mk hy161
           clear hy161
           simp only [Option.some.injEq, Prod.mk.injEq] at H
           obtain ⟨rfl, rfl, rfl⟩ := H
           have p155 : 0 ≤ (x9_2 : Int) := of_decide_eq_true (by first | (with_reducible assumption) | assumption)
           have q155 : x9_2 < (l1.length : Int) := of_decide_eq_true (by first | (with_reducible assumption) | assumption)
           obtain ⟨ad155, e155, hx155_0, hx155_1, hx155_2⟩ := at_T74 HR1.out x9_2 p155 q155
           cases e155
           replace hx155_0 := (HB.out.cell (World.block_lt_of_cell? w _ hx155_0)).trans hx155_0
           replace hx155_1 := (HB.out.cell (World.block_lt_of_cell? w _ hx155_1)).trans hx155_1
           replace hx155_2 := (HB.out.cell (World.block_lt_of_cell? w _ hx155_2)).trans hx155_2
           replace p155 := eq_true p155
           replace q155 := eq_true q155
           have hcz28_0 := ck (v := .int .i64 a0_0) BK149.out 0 rfl
           have hcz28_1 := ck (v := .int .i64 a0_1) BK149.out 1 rfl
           have hcz28_2 := ck (v := .slice A0_2 l0_2.length c0_2) BK149.out 2 rfl
           have hfz28_0 := blk_frozen BK149.out 0
           have hfz28_1 := blk_frozen BK149.out 1
           have hfz28_2 := blk_frozen BK149.out 2
           go_wp2_with (first | (go_at_call 36; (with_reducible refine (spec_l1In.calls ((rd_T74 l1 x9_2).f0) 0 (wrap64 (a0_1 - 1)) true _ A21.out).mono ?_); rintro e w' ⟨rfl, ⟨nd, rfl⟩⟩; (try first | exact ⟨rfl, _, World.drewN_drewN _ _ _⟩ | exact ⟨rfl, _, Eq.trans (World.drewN_drewN _ _ _) (congrArg (World.drewN _) (Nat.add_assoc _ _ _))⟩); have p157 : 0 ≤ (x9_2 : Int) := of_decide_eq_true (by first | (with_reducible assumption) | assumption); have q157 : x9_2 < (l1.length : Int) := of_decide_eq_true (by first | (with_reducible assumption) | assumption); obtain ⟨ad157, e157, hx157_0, hx157_1, hx157_2⟩ := at_T74 HR1.out x9_2 p157 q157; obtain rfl : ad155 = ad157 := (by injection e157); replace hx157_0 := (HB.out.cell (World.block_lt_of_cell? w _ hx157_0)).trans hx157_0; replace hx157_1 := (HB.out.cell (World.block_lt_of_cell? w _ hx157_1)).trans hx157_1; replace hx157_2 := (HB.out.cell (World.block_lt_of_cell? w _ hx157_2)).trans hx157_2; replace p157 := eq_true p157; replace q157 := eq_true q157) | (go_at_call 36; (with_reducible refine (spec_l1In.calls ((rd_T74 l1 x9_2).f1) 1 100000 true _ A23.out).mono ?_); rintro e w' ⟨rfl, ⟨nd, rfl⟩⟩; (try first | exact ⟨rfl, _, World.drewN_drewN _ _ _⟩ | exact ⟨rfl, _, Eq.trans (World.drewN_drewN _ _ _) (congrArg (World.drewN _) (Nat.add_assoc _ _ _))⟩); have p159 : 0 ≤ (x9_2 : Int) := of_decide_eq_true (by first | (with_reducible assumption) | assumption); have q159 : x9_2 < (l1.length : Int) := of_decide_eq_true (by first | (with_reducible assumption) | assumption); obtain ⟨ad159, e159, hx159_0, hx159_1, hx159_2⟩ := at_T74 HR1.out x9_2 p159 q159; obtain rfl : ad155 = ad159 := (by injection e159); replace hx159_0 := (HB.out.cell (World.block_lt_of_cell? w _ hx159_0)).trans hx159_0; replace hx159_1 := (HB.out.cell (World.block_lt_of_cell? w _ hx159_1)).trans hx159_1; replace hx159_2 := (HB.out.cell (World.block_lt_of_cell? w _ hx159_2)).trans hx159_2; replace p159 := eq_true p159; replace q159 := eq_true q159) | (go_at_call 36; (with_reducible refine (spec_l1In.calls ((rd_T74 l1 x9_2).f2) 1 100000 false _ A25.out).mono ?_); rintro e w' ⟨rfl, ⟨nd, rfl⟩⟩; (try first | exact ⟨rfl, _, World.drewN_drewN _ _ _⟩ | exact ⟨rfl, _, Eq.trans (World.drewN_drewN _ _ _) (congrArg (World.drewN _) (Nat.add_assoc _ _ _))⟩)) | ((with_reducible refine gate_dst (N := 68) rfl ?_); (try (refine gate_guard (by rfl) ?_; dsimp only)); refine Kd.R_lit (Kd.int .i64) _ 3 ?hg (N := 68) ?hd (xs := ([] : List Int)) (inner := []) (ok := fun _ => True) (okp := fun _ => True) ?hr ?hp (fun _ hk => hk) trivial (Below.refl _ _) (Nat.le_refl _) (by simp) ?_; (case hd => rfl); (case hg => rfl); (case hr => first | (go_simp; done) | (go_simp; rfl)); (case hp => exact (Reps.none _ _)); intro v162 w29 ho30 hb hg_ hnew_; clear hg_ hnew_; (first | rw [← Ny161.out] at ho30 | (simp only [Int.reduceToNat] at ho30; rw [← Ny161.out] at ho30)); have n0_ := Aside0.mk (Kd.R_lower ho30 (below_size (by repeat with_reducible first | exact bl HB.out | refine below_set ?_ GE149.out | refine bq ?_))); have n1_ := Aside0.mk (blk_below (bk BK149.out) hb); have n2_ := Aside0.mk (below_step (by repeat with_reducible first | exact bl HB.out | refine below_set ?_ GE149.out | refine bq ?_) hb); clear BK149; clear HB; have HO163 := n0_; have BK149 := n1_; have HB := n2_; clear n0_ n1_ n2_; clear hb ho30))
           repeat (go_quiet (first | (go_at_call 36; (with_reducible refine (spec_l1In.calls ((rd_T74 l1 x9_2).f0) 0 (wrap64 (a0_1 - 1)) true _ A21.out).mono ?_); rintro e w' ⟨rfl, ⟨nd, rfl⟩⟩; (try first | exact ⟨rfl, _, World.drewN_drewN _ _ _⟩ | exact ⟨rfl, _, Eq.trans (World.drewN_drewN _ _ _) (congrArg (World.drewN _) (Nat.add_assoc _ _ _))⟩)) | (go_at_call 36; (with_reducible refine (spec_l1In.calls ((rd_T74 l1 x9_2).f1) 1 100000 true _ A23.out).mono ?_); rintro e w' ⟨rfl, ⟨nd, rfl⟩⟩; (try first | exact ⟨rfl, _, World.drewN_drewN _ _ _⟩ | exact ⟨rfl, _, Eq.trans (World.drewN_drewN _ _ _) (congrArg (World.drewN _) (Nat.add_assoc _ _ _))⟩)) | (go_at_call 36; (with_reducible refine (spec_l1In.calls ((rd_T74 l1 x9_2).f2) 1 100000 false _ A25.out).mono ?_); rintro e w' ⟨rfl, ⟨nd, rfl⟩⟩; (try first | exact ⟨rfl, _, World.drewN_drewN _ _ _⟩ | exact ⟨rfl, _, Eq.trans (World.drewN_drewN _ _ _) (congrArg (World.drewN _) (Nat.add_assoc _ _ _))⟩)) | ((with_reducible refine gate_dst (N := 68) rfl ?_); (try (refine gate_guard (by rfl) ?_; dsimp only)); refine Kd.R_lit (Kd.int .i64) _ 3 ?hg (N := 68) ?hd (xs := ([] : List Int)) (inner := []) (ok := fun _ => True) (okp := fun _ => True) ?hr ?hp (fun _ hk => hk) trivial (Below.refl _ _) (Nat.le_refl _) (by simp) ?_; (case hd => rfl); (case hg => rfl); (case hr => first | (go_simp; done) | (go_simp; rfl)); (case hp => exact (Reps.none _ _)); intro v162 w29 ho30 hb hg_ hnew_; clear hg_ hnew_; (first | rw [← Ny161.out] at ho30 | (simp only [Int.reduceToNat] at ho30; rw [← Ny161.out] at ho30)); have n0_ := Aside0.mk (Kd.R_lower ho30 (below_size (by repeat with_reducible first | exact bl HB.out | refine below_set ?_ GE149.out | refine bq ?_))); have n1_ := Aside0.mk (blk_below (bk BK149.out) hb); have n2_ := Aside0.mk (below_step (by repeat with_reducible first | exact bl HB.out | refine below_set ?_ GE149.out | refine bq ?_) hb); clear BK149; clear HB; have HO163 := n0_; have BK149 := n1_; have HB := n2_; clear n0_ n1_ n2_; clear hb ho30)); try go_wp2_with (first | (go_at_call 36; (with_reducible refine (spec_l1In.calls ((rd_T74 l1 x9_2).f0) 0 (wrap64 (a0_1 - 1)) true _ A21.out).mono ?_); rintro e w' ⟨rfl, ⟨nd, rfl⟩⟩; (try first | exact ⟨rfl, _, World.drewN_drewN _ _ _⟩ | exact ⟨rfl, _, Eq.trans (World.drewN_drewN _ _ _) (congrArg (World.drewN _) (Nat.add_assoc _ _ _))⟩); have p157 : 0 ≤ (x9_2 : Int) := of_decide_eq_true (by first | (with_reducible assumption) | assumption); have q157 : x9_2 < (l1.length : Int) := of_decide_eq_true (by first | (with_reducible assumption) | assumption); obtain ⟨ad157, e157, hx157_0, hx157_1, hx157_2⟩ := at_T74 HR1.out x9_2 p157 q157; obtain rfl : ad155 = ad157 := (by injection e157); replace hx157_0 := (HB.out.cell (World.block_lt_of_cell? w _ hx157_0)).trans hx157_0; replace hx157_1 := (HB.out.cell (World.block_lt_of_cell? w _ hx157_1)).trans hx157_1; replace hx157_2 := (HB.out.cell (World.block_lt_of_cell? w _ hx157_2)).trans hx157_2; replace p157 := eq_true p157; replace q157 := eq_true q157) | (go_at_call 36; (with_reducible refine (spec_l1In.calls ((rd_T74 l1 x9_2).f1) 1 100000 true _ A23.out).mono ?_); rintro e w' ⟨rfl, ⟨nd, rfl⟩⟩; (try first | exact ⟨rfl, _, World.drewN_drewN _ _ _⟩ | exact ⟨rfl, _, Eq.trans (World.drewN_drewN _ _ _) (congrArg (World.drewN _) (Nat.add_assoc _ _ _))⟩); have p159 : 0 ≤ (x9_2 : Int) := of_decide_eq_true (by first | (with_reducible assumption) | assumption); have q159 : x9_2 < (l1.length : Int) := of_decide_eq_true (by first | (with_reducible assumption) | assumption); obtain ⟨ad159, e159, hx159_0, hx159_1, hx159_2⟩ := at_T74 HR1.out x9_2 p159 q159; obtain rfl : ad155 = ad159 := (by injection e159); replace hx159_0 := (HB.out.cell (World.block_lt_of_cell? w _ hx159_0)).trans hx159_0; replace hx159_1 := (HB.out.cell (World.block_lt_of_cell? w _ hx159_1)).trans hx159_1; replace hx159_2 := (HB.out.cell (World.block_lt_of_cell? w _ hx159_2)).trans hx159_2; replace p159 := eq_true p159; replace q159 := eq_true q159) | (go_at_call 36; (with_reducible refine (spec_l1In.calls ((rd_T74 l1 x9_2).f2) 1 100000 false _ A25.out).mono ?_); rintro e w' ⟨rfl, ⟨nd, rfl⟩⟩; (try first | exact ⟨rfl, _, World.drewN_drewN _ _ _⟩ | exact ⟨rfl, _, Eq.trans (World.drewN_drewN _ _ _) (congrArg (World.drewN _) (Nat.add_assoc _ _ _))⟩)) | ((with_reducible refine gate_dst (N := 68) rfl ?_); (try (refine gate_guard (by rfl) ?_; dsimp only)); refine Kd.R_lit (Kd.int .i64) _ 3 ?hg (N := 68) ?hd (xs := ([] : List Int)) (inner := []) (ok := fun _ => True) (okp := fun _ => True) ?hr ?hp (fun _ hk => hk) trivial (Below.refl _ _) (Nat.le_refl _) (by simp) ?_; (case hd => rfl); (case hg => rfl); (case hr => first | (go_simp; done) | (go_simp; rfl)); (case hp => exact (Reps.none _ _)); intro v162 w29 ho30 hb hg_ hnew_; clear hg_ hnew_; (first | rw [← Ny161.out] at ho30 | (simp only [Int.reduceToNat] at ho30; rw [← Ny161.out] at ho30)); have n0_ := Aside0.mk (Kd.R_lower ho30 (below_size (by repeat with_reducible first | exact bl HB.out | refine below_set ?_ GE149.out | refine bq ?_))); have n1_ := Aside0.mk (blk_below (bk BK149.out) hb); have n2_ := Aside0.mk (below_step (by repeat with_reducible first | exact bl HB.out | refine below_set ?_ GE149.out | refine bq ?_) hb); clear BK149; clear HB; have HO163 := n0_; have BK149 := n1_; have HB := n2_; clear n0_ n1_ n2_; clear hb ho30)))
           go_ret3
           exact ⟨_, by first | rfl | (simp [errW_none, errW_some] <;> rfl) | (simp [*, errW_none, errW_some] <;> rfl), by (repeat apply rl1); exact HO163.out, by repeat with_reducible first | exact bl HB.out | refine below_set ?_ GE149.out | refine bq ?_⟩
         ·
          replace c24 := Bool.eq_false_iff.mpr c24
          subst c24
          have H1 : (some ((([] : List Int)), 0, false)) = some (r1, r2, r3) := by rw [if_neg (show ¬ (false = true) by decide)] at H; exact H
          clear H
          have H := H1
          clear H1
          obtain ⟨y164, hy164⟩ : ∃ y_ : List Int, y_ = (([] : List Int)) := ⟨_, rfl⟩
          replace H : (some (y164, 0, false)) = some (r1, r2, r3) := by first | (rw [hy164]; with_reducible exact H) | (have H2_ := (Option.bind_some _ _).symm.trans H; rw [hy164]; with_reducible exact H2_) | (have H2_ := (Option.bind_some _ _).symm.trans H; with_reducible exact H2_) | with_reducible exact H | (rw [hy164]; exact H) | exact H
          have Ny164 := Aside0.mk hy164
          clear hy164
          simp only [Option.some.injEq, Prod.mk.injEq] at H
          obtain ⟨rfl, rfl, rfl⟩ := H
          have p155 : 0 ≤ (x9_2 : Int) := of_decide_eq_true (by first | (with_reducible assumption) | assumption)
          have q155 : x9_2 < (l1.length : Int) := of_decide_eq_true (by first | (with_reducible assumption) | assumption)
          obtain ⟨ad155, e155, hx155_0, hx155_1, hx155_2⟩ := at_T74 HR1.out x9_2 p155 q155
          cases e155
          replace hx155_0 := (HB.out.cell (World.block_lt_of_cell? w _ hx155_0)).trans hx155_0
          replace hx155_1 := (HB.out.cell (World.block_lt_of_cell? w _ hx155_1)).trans hx155_1
          replace hx155_2 := (HB.out.cell (World.block_lt_of_cell? w _ hx155_2)).trans hx155_2
          replace p155 := eq_true p155
          replace q155 := eq_true q155
          have hcz31_0 := ck (v := .int .i64 a0_0) BK149.out 0 rfl
          have hcz31_1 := ck (v := .int .i64 a0_1) BK149.out 1 rfl
          have hcz31_2 := ck (v := .slice A0_2 l0_2.length c0_2) BK149.out 2 rfl
          have hfz31_0 := blk_frozen BK149.out 0
          have hfz31_1 := blk_frozen BK149.out 1
          have hfz31_2 := blk_frozen BK149.out 2
          go_wp2_with (first | (go_at_call 36; (with_reducible refine (spec_l1In.calls ((rd_T74 l1 x9_2).f0) 0 (wrap64 (a0_1 - 1)) true _ A21.out).mono ?_); rintro e w' ⟨rfl, ⟨nd, rfl⟩⟩; (try first | exact ⟨rfl, _, World.drewN_drewN _ _ _⟩ | exact ⟨rfl, _, Eq.trans (World.drewN_drewN _ _ _) (congrArg (World.drewN _) (Nat.add_assoc _ _ _))⟩); have p157 : 0 ≤ (x9_2 : Int) := of_decide_eq_true (by first | (with_reducible assumption) | assumption); have q157 : x9_2 < (l1.length : Int) := of_decide_eq_true (by first | (with_reducible assumption) | assumption); obtain ⟨ad157, e157, hx157_0, hx157_1, hx157_2⟩ := at_T74 HR1.out x9_2 p157 q157; obtain rfl : ad155 = ad157 := (by injection e157); replace hx157_0 := (HB.out.cell (World.block_lt_of_cell? w _ hx157_0)).trans hx157_0; replace hx157_1 := (HB.out.cell (World.block_lt_of_cell? w _ hx157_1)).trans hx157_1; replace hx157_2 := (HB.out.cell (World.block_lt_of_cell? w _ hx157_2)).trans hx157_2; replace p157 := eq_true p157; replace q157 := eq_true q157) | (go_at_call 36; (with_reducible refine (spec_l1In.calls ((rd_T74 l1 x9_2).f1) 1 100000 false _ A23.out).mono ?_); rintro e w' ⟨rfl, ⟨nd, rfl⟩⟩; (try first | exact ⟨rfl, _, World.drewN_drewN _ _ _⟩ | exact ⟨rfl, _, Eq.trans (World.drewN_drewN _ _ _) (congrArg (World.drewN _) (Nat.add_assoc _ _ _))⟩)) | ((with_reducible refine gate_dst (N := 68) rfl ?_); (try (refine gate_guard (by rfl) ?_; dsimp only)); refine Kd.R_lit (Kd.int .i64) _ 3 ?hg (N := 68) ?hd (xs := ([] : List Int)) (inner := []) (ok := fun _ => True) (okp := fun _ => True) ?hr ?hp (fun _ hk => hk) trivial (Below.refl _ _) (Nat.le_refl _) (by simp) ?_; (case hd => rfl); (case hg => rfl); (case hr => first | (go_simp; done) | (go_simp; rfl)); (case hp => exact (Reps.none _ _)); intro v165 w32 ho33 hb hg_ hnew_; clear hg_ hnew_; (first | rw [← Ny164.out] at ho33 | (simp only [Int.reduceToNat] at ho33; rw [← Ny164.out] at ho33)); have n0_ := Aside0.mk (Kd.R_lower ho33 (below_size (by repeat with_reducible first | exact bl HB.out | refine below_set ?_ GE149.out | refine bq ?_))); have n1_ := Aside0.mk (blk_below (bk BK149.out) hb); have n2_ := Aside0.mk (below_step (by repeat with_reducible first | exact bl HB.out | refine below_set ?_ GE149.out | refine bq ?_) hb); clear BK149; clear HB; have HO166 := n0_; have BK149 := n1_; have HB := n2_; clear n0_ n1_ n2_; clear hb ho33))
          repeat (go_quiet (first | (go_at_call 36; (with_reducible refine (spec_l1In.calls ((rd_T74 l1 x9_2).f0) 0 (wrap64 (a0_1 - 1)) true _ A21.out).mono ?_); rintro e w' ⟨rfl, ⟨nd, rfl⟩⟩; (try first | exact ⟨rfl, _, World.drewN_drewN _ _ _⟩ | exact ⟨rfl, _, Eq.trans (World.drewN_drewN _ _ _) (congrArg (World.drewN _) (Nat.add_assoc _ _ _))⟩)) | (go_at_call 36; (with_reducible refine (spec_l1In.calls ((rd_T74 l1 x9_2).f1) 1 100000 false _ A23.out).mono ?_); rintro e w' ⟨rfl, ⟨nd, rfl⟩⟩; (try first | exact ⟨rfl, _, World.drewN_drewN _ _ _⟩ | exact ⟨rfl, _, Eq.trans (World.drewN_drewN _ _ _) (congrArg (World.drewN _) (Nat.add_assoc _ _ _))⟩)) | ((with_reducible refine gate_dst (N := 68) rfl ?_); (try (refine gate_guard (by rfl) ?_; dsimp only)); refine Kd.R_lit (Kd.int .i64) _ 3 ?hg (N := 68) ?hd (xs := ([] : List Int)) (inner := []) (ok := fun _ => True) (okp := fun _ => True) ?hr ?hp (fun _ hk => hk) trivial (Below.refl _ _) (Nat.le_refl _) (by simp) ?_; (case hd => rfl); (case hg => rfl); (case hr => first | (go_simp; done) | (go_simp; rfl)); (case hp => exact (Reps.none _ _)); intro v165 w32 ho33 hb hg_ hnew_; clear hg_ hnew_; (first | rw [← Ny164.out] at ho33 | (simp only [Int.reduceToNat] at ho33; rw [← Ny164.out] at ho33)); have n0_ := Aside0.mk (Kd.R_lower ho33 (below_size (by repeat with_reducible first | exact bl HB.out | refine below_set ?_ GE149.out | refine bq ?_))); have n1_ := Aside0.mk (blk_below (bk BK149.out) hb); have n2_ := Aside0.mk (below_step (by repeat with_reducible first | exact bl HB.out | refine below_set ?_ GE149.out | refine bq ?_) hb); clear BK149; clear HB; have HO166 := n0_; have BK149 := n1_; have HB := n2_; clear n0_ n1_ n2_; clear hb ho33)); try go_wp2_with (first | (go_at_call 36; (with_reducible refine (spec_l1In.calls ((rd_T74 l1 x9_2).f0) 0 (wrap64 (a0_1 - 1)) true _ A21.out).mono ?_); rintro e w' ⟨rfl, ⟨nd, rfl⟩⟩; (try first | exact ⟨rfl, _, World.drewN_drewN _ _ _⟩ | exact ⟨rfl, _, Eq.trans (World.drewN_drewN _ _ _) (congrArg (World.drewN _) (Nat.add_assoc _ _ _))⟩); have p157 : 0 ≤ (x9_2 : Int) := of_decide_eq_true (by first | (with_reducible assumption) | assumption); have q157 : x9_2 < (l1.length : Int) := of_decide_eq_true (by first | (with_reducible assumption) | assumption); obtain ⟨ad157, e157, hx157_0, hx157_1, hx157_2⟩ := at_T74 HR1.out x9_2 p157 q157; obtain rfl : ad155 = ad157 := (by injection e157); replace hx157_0 := (HB.out.cell (World.block_lt_of_cell? w _ hx157_0)).trans hx157_0; replace hx157_1 := (HB.out.cell (World.block_lt_of_cell? w _ hx157_1)).trans hx157_1; replace hx157_2 := (HB.out.cell (World.block_lt_of_cell? w _ hx157_2)).trans hx157_2; replace p157 := eq_true p157; replace q157 := eq_true q157) | (go_at_call 36; (with_reducible refine (spec_l1In.calls ((rd_T74 l1 x9_2).f1) 1 100000 false _ A23.out).mono ?_); rintro e w' ⟨rfl, ⟨nd, rfl⟩⟩; (try first | exact ⟨rfl, _, World.drewN_drewN _ _ _⟩ | exact ⟨rfl, _, Eq.trans (World.drewN_drewN _ _ _) (congrArg (World.drewN _) (Nat.add_assoc _ _ _))⟩)) | ((with_reducible refine gate_dst (N := 68) rfl ?_); (try (refine gate_guard (by rfl) ?_; dsimp only)); refine Kd.R_lit (Kd.int .i64) _ 3 ?hg (N := 68) ?hd (xs := ([] : List Int)) (inner := []) (ok := fun _ => True) (okp := fun _ => True) ?hr ?hp (fun _ hk => hk) trivial (Below.refl _ _) (Nat.le_refl _) (by simp) ?_; (case hd => rfl); (case hg => rfl); (case hr => first | (go_simp; done) | (go_simp; rfl)); (case hp => exact (Reps.none _ _)); intro v165 w32 ho33 hb hg_ hnew_; clear hg_ hnew_; (first | rw [← Ny164.out] at ho33 | (simp only [Int.reduceToNat] at ho33; rw [← Ny164.out] at ho33)); have n0_ := Aside0.mk (Kd.R_lower ho33 (below_size (by repeat with_reducible first | exact bl HB.out | refine below_set ?_ GE149.out | refine bq ?_))); have n1_ := Aside0.mk (blk_below (bk BK149.out) hb); have n2_ := Aside0.mk (below_step (by repeat with_reducible first | exact bl HB.out | refine below_set ?_ GE149.out | refine bq ?_) hb); clear BK149; clear HB; have HO166 := n0_; have BK149 := n1_; have HB := n2_; clear n0_ n1_ n2_; clear hb ho33)))
          go_ret3
          exact ⟨_, by first | rfl | (simp [errW_none, errW_some] <;> rfl) | (simp [*, errW_none, errW_some] <;> rfl), by (repeat apply rl1); exact HO166.out, by repeat with_reducible first | exact bl HB.out | refine below_set ?_ GE149.out | refine bq ?_⟩
        ·
         replace c22 := Bool.eq_false_iff.mpr c22
         subst c22
         have H1 : (some ((([] : List Int)), 0, false)) = some (r1, r2, r3) := by rw [if_neg (show ¬ (false = true) by decide)] at H; exact H
         clear H
         have H := H1
         clear H1
         obtain ⟨y167, hy167⟩ : ∃ y_ : List Int, y_ = (([] : List Int)) := ⟨_, rfl⟩
         replace H : (some (y167, 0, false)) = some (r1, r2, r3) := by first | (rw [hy167]; with_reducible exact H) | (have H2_ := (Option.bind_some _ _).symm.trans H; rw [hy167]; with_reducible exact H2_) | (have H2_ := (Option.bind_some _ _).symm.trans H; with_reducible exact H2_) | with_reducible exact H | (rw [hy167]; exact H) | exact H
         have Ny167 := Aside0.mk hy167
         clear hy167
         simp only [Option.some.injEq, Prod.mk.injEq] at H
         obtain ⟨rfl, rfl, rfl⟩ := H
         have p155 : 0 ≤ (x9_2 : Int) := of_decide_eq_true (by first | (with_reducible assumption) | assumption)
         have q155 : x9_2 < (l1.length : Int) := of_decide_eq_true (by first | (with_reducible assumption) | assumption)
         obtain ⟨ad155, e155, hx155_0, hx155_1, hx155_2⟩ := at_T74 HR1.out x9_2 p155 q155
         cases e155
         replace hx155_0 := (HB.out.cell (World.block_lt_of_cell? w _ hx155_0)).trans hx155_0
         replace hx155_1 := (HB.out.cell (World.block_lt_of_cell? w _ hx155_1)).trans hx155_1
         replace hx155_2 := (HB.out.cell (World.block_lt_of_cell? w _ hx155_2)).trans hx155_2
         replace p155 := eq_true p155
         replace q155 := eq_true q155
         have hcz34_0 := ck (v := .int .i64 a0_0) BK149.out 0 rfl
         have hcz34_1 := ck (v := .int .i64 a0_1) BK149.out 1 rfl
         have hcz34_2 := ck (v := .slice A0_2 l0_2.length c0_2) BK149.out 2 rfl
         have hfz34_0 := blk_frozen BK149.out 0
         have hfz34_1 := blk_frozen BK149.out 1
         have hfz34_2 := blk_frozen BK149.out 2
         go_wp2_with (first | (go_at_call 36; (with_reducible refine (spec_l1In.calls ((rd_T74 l1 x9_2).f0) 0 (wrap64 (a0_1 - 1)) false _ A21.out).mono ?_); rintro e w' ⟨rfl, ⟨nd, rfl⟩⟩; (try first | exact ⟨rfl, _, World.drewN_drewN _ _ _⟩ | exact ⟨rfl, _, Eq.trans (World.drewN_drewN _ _ _) (congrArg (World.drewN _) (Nat.add_assoc _ _ _))⟩)) | ((with_reducible refine gate_dst (N := 68) rfl ?_); (try (refine gate_guard (by rfl) ?_; dsimp only)); refine Kd.R_lit (Kd.int .i64) _ 3 ?hg (N := 68) ?hd (xs := ([] : List Int)) (inner := []) (ok := fun _ => True) (okp := fun _ => True) ?hr ?hp (fun _ hk => hk) trivial (Below.refl _ _) (Nat.le_refl _) (by simp) ?_; (case hd => rfl); (case hg => rfl); (case hr => first | (go_simp; done) | (go_simp; rfl)); (case hp => exact (Reps.none _ _)); intro v168 w35 ho36 hb hg_ hnew_; clear hg_ hnew_; (first | rw [← Ny167.out] at ho36 | (simp only [Int.reduceToNat] at ho36; rw [← Ny167.out] at ho36)); have n0_ := Aside0.mk (Kd.R_lower ho36 (below_size (by repeat with_reducible first | exact bl HB.out | refine below_set ?_ GE149.out | refine bq ?_))); have n1_ := Aside0.mk (blk_below (bk BK149.out) hb); have n2_ := Aside0.mk (below_step (by repeat with_reducible first | exact bl HB.out | refine below_set ?_ GE149.out | refine bq ?_) hb); clear BK149; clear HB; have HO169 := n0_; have BK149 := n1_; have HB := n2_; clear n0_ n1_ n2_; clear hb ho36))
         repeat (go_quiet (first | (go_at_call 36; (with_reducible refine (spec_l1In.calls ((rd_T74 l1 x9_2).f0) 0 (wrap64 (a0_1 - 1)) false _ A21.out).mono ?_); rintro e w' ⟨rfl, ⟨nd, rfl⟩⟩; (try first | exact ⟨rfl, _, World.drewN_drewN _ _ _⟩ | exact ⟨rfl, _, Eq.trans (World.drewN_drewN _ _ _) (congrArg (World.drewN _) (Nat.add_assoc _ _ _))⟩)) | ((with_reducible refine gate_dst (N := 68) rfl ?_); (try (refine gate_guard (by rfl) ?_; dsimp only)); refine Kd.R_lit (Kd.int .i64) _ 3 ?hg (N := 68) ?hd (xs := ([] : List Int)) (inner := []) (ok := fun _ => True) (okp := fun _ => True) ?hr ?hp (fun _ hk => hk) trivial (Below.refl _ _) (Nat.le_refl _) (by simp) ?_; (case hd => rfl); (case hg => rfl); (case hr => first | (go_simp; done) | (go_simp; rfl)); (case hp => exact (Reps.none _ _)); intro v168 w35 ho36 hb hg_ hnew_; clear hg_ hnew_; (first | rw [← Ny167.out] at ho36 | (simp only [Int.reduceToNat] at ho36; rw [← Ny167.out] at ho36)); have n0_ := Aside0.mk (Kd.R_lower ho36 (below_size (by repeat with_reducible first | exact bl HB.out | refine below_set ?_ GE149.out | refine bq ?_))); have n1_ := Aside0.mk (blk_below (bk BK149.out) hb); have n2_ := Aside0.mk (below_step (by repeat with_reducible first | exact bl HB.out | refine below_set ?_ GE149.out | refine bq ?_) hb); clear BK149; clear HB; have HO169 := n0_; have BK149 := n1_; have HB := n2_; clear n0_ n1_ n2_; clear hb ho36)); try go_wp2_with (first | (go_at_call 36; (with_reducible refine (spec_l1In.calls ((rd_T74 l1 x9_2).f0) 0 (wrap64 (a0_1 - 1)) false _ A21.out).mono ?_); rintro e w' ⟨rfl, ⟨nd, rfl⟩⟩; (try first | exact ⟨rfl, _, World.drewN_drewN _ _ _⟩ | exact ⟨rfl, _, Eq.trans (World.drewN_drewN _ _ _) (congrArg (World.drewN _) (Nat.add_assoc _ _ _))⟩)) | ((with_reducible refine gate_dst (N := 68) rfl ?_); (try (refine gate_guard (by rfl) ?_; dsimp only)); refine Kd.R_lit (Kd.int .i64) _ 3 ?hg (N := 68) ?hd (xs := ([] : List Int)) (inner := []) (ok := fun _ => True) (okp := fun _ => True) ?hr ?hp (fun _ hk => hk) trivial (Below.refl _ _) (Nat.le_refl _) (by simp) ?_; (case hd => rfl); (case hg => rfl); (case hr => first | (go_simp; done) | (go_simp; rfl)); (case hp => exact (Reps.none _ _)); intro v168 w35 ho36 hb hg_ hnew_; clear hg_ hnew_; (first | rw [← Ny167.out] at ho36 | (simp only [Int.reduceToNat] at ho36; rw [← Ny167.out] at ho36)); have n0_ := Aside0.mk (Kd.R_lower ho36 (below_size (by repeat with_reducible first | exact bl HB.out | refine below_set ?_ GE149.out | refine bq ?_))); have n1_ := Aside0.mk (blk_below (bk BK149.out) hb); have n2_ := Aside0.mk (below_step (by repeat with_reducible first | exact bl HB.out | refine below_set ?_ GE149.out | refine bq ?_) hb); clear BK149; clear HB; have HO169 := n0_; have BK149 := n1_; have HB := n2_; clear n0_ n1_ n2_; clear hb ho36)))
         go_ret3
         exact ⟨_, by first | rfl | (simp [errW_none, errW_some] <;> rfl) | (simp [*, errW_none, errW_some] <;> rfl), by (repeat apply rl1); exact HO169.out, by repeat with_reducible first | exact bl HB.out | refine below_set ?_ GE149.out | refine bq ?_⟩
       ·
        rw [if_neg c20] at H
        exact absurd H (by simp)
      ·
       rw [if_neg c19] at H
       have c19b0 : decide (x9_2 < (l1.length : Int)) = false := decide_eq_false c19
       clear c19
       by_cases c37 : 0 ≤ (l1.length : Int)
       ·
        rw [if_pos c37] at H
        have c37b0 := eq_true c37
        have c37b1 : decide (0 ≤ (l1.length : Int)) = true := decide_eq_true c37
        clear c37
        by_cases c38 : ((l1.length : Int) : Int).toNat ≤ 35184372088832
        ·
         rw [if_pos c38] at H
         have c38b0 := eq_true c38
         have c38b1 : decide (((l1.length : Int) : Int).toNat ≤ 35184372088832) = true := decide_eq_true c38
         clear c38
         obtain ⟨y170, hy170⟩ : ∃ y_ : List Int, y_ = (List.replicate ((l1.length : Int) : Int).toNat 0) := ⟨_, rfl⟩
         replace H : (spec_RunJobs.l1 k2 l1 a2 y170 (List.replicate ((l1.length : Int) : Int).toNat 0) (List.replicate ((l1.length : Int) : Int).toNat 0) 0 0 a0_0 a0_1 l0_2) = some (r1, r2, r3) := by first | (rw [hy170]; with_reducible exact H) | (have H2_ := (Option.bind_some _ _).symm.trans H; rw [hy170]; with_reducible exact H2_) | (have H2_ := (Option.bind_some _ _).symm.trans H; with_reducible exact H2_) | with_reducible exact H | (rw [hy170]; exact H) | exact H
         have Ny170 := Aside0.mk hy170
         clear hy170
         obtain ⟨y173, hy173⟩ : ∃ y_ : List Int, y_ = (List.replicate ((l1.length : Int) : Int).toNat 0) := ⟨_, rfl⟩
         replace H : (spec_RunJobs.l1 k2 l1 a2 y170 y173 (List.replicate ((l1.length : Int) : Int).toNat 0) 0 0 a0_0 a0_1 l0_2) = some (r1, r2, r3) := by first | (rw [hy173]; with_reducible exact H) | (have H2_ := (Option.bind_some _ _).symm.trans H; rw [hy173]; with_reducible exact H2_) | (have H2_ := (Option.bind_some _ _).symm.trans H; with_reducible exact H2_) | with_reducible exact H | (rw [hy173]; exact H) | exact H
         have Ny173 := Aside0.mk hy173
         clear hy173
         obtain ⟨y176, hy176⟩ : ∃ y_ : List Int, y_ = (List.replicate ((l1.length : Int) : Int).toNat 0) := ⟨_, rfl⟩
         replace H : (spec_RunJobs.l1 k2 l1 a2 y170 y173 y176 0 0 a0_0 a0_1 l0_2) = some (r1, r2, r3) := by first | (rw [hy176]; with_reducible exact H) | (have H2_ := (Option.bind_some _ _).symm.trans H; rw [hy176]; with_reducible exact H2_) | (have H2_ := (Option.bind_some _ _).symm.trans H; with_reducible exact H2_) | with_reducible exact H | (rw [hy176]; exact H) | exact H
         have Ny176 := Aside0.mk hy176
         clear hy176
         have H' := Aside0.mk H
         clear H
         go_wp2_with (first | ((with_reducible refine gate_dst (N := 71) rfl ?_); (try (refine gate_guard (by rfl) ?_; dsimp only)); refine Kd.R_make (Kd.int .i64) _ 3 rfl (N := 71) rfl 44 _ _ rfl (l1.length : Int) rfl rfl Try.underlying44 (.int .i64 0) 8 info3 rfl (by decide) (by omega) 0 (ok := fun _ => True) (okp := fun _ => True) rfl (fun _ hk => hk) trivial (of_decide_eq_true (by first | (with_reducible assumption) | assumption)) (Nat.le_trans (Nat.mul_le_mul_right _ (of_decide_eq_true (by first | (with_reducible assumption) | assumption) : (l1.length : Int).toNat ≤ 35184372088832)) (by omega)) (Below.refl _ _) (Nat.le_refl _) ?_; intro v171 w39 ho40 hb hg_ hnew_; clear hg_ hnew_; (first | rw [← Ny170.out] at ho40 | (simp only [Int.reduceToNat] at ho40; rw [← Ny170.out] at ho40)); have n0_ := Aside0.mk (Kd.R_lower ho40 (below_size (by repeat with_reducible first | exact bl HB.out | refine below_set ?_ GE149.out | refine bq ?_))); have n1_ := Aside0.mk (blk_below (bk BK149.out) hb); have n2_ := Aside0.mk (below_step (by repeat with_reducible first | exact bl HB.out | refine below_set ?_ GE149.out | refine bq ?_) hb); clear BK149; clear HB; have HO172 := n0_; have BK149 := n1_; have HB := n2_; clear n0_ n1_ n2_; clear hb ho40) | ((with_reducible refine gate_dst (N := 74) rfl ?_); (try (refine gate_guard (by rfl) ?_; dsimp only)); refine Kd.R_make (Kd.int .i64) _ 3 rfl (N := 74) rfl 44 _ _ rfl (l1.length : Int) rfl rfl Try.underlying44 (.int .i64 0) 8 info3 rfl (by decide) (by omega) 0 (ok := fun _ => True) (okp := fun _ => True) rfl (fun _ hk => hk) trivial (of_decide_eq_true (by first | (with_reducible assumption) | assumption)) (Nat.le_trans (Nat.mul_le_mul_right _ (of_decide_eq_true (by first | (with_reducible assumption) | assumption) : (l1.length : Int).toNat ≤ 35184372088832)) (by omega)) (Below.refl _ _) (Nat.le_refl _) ?_; intro v174 w41 ho42 hb hg_ hnew_; clear hg_ hnew_; (first | rw [← Ny173.out] at ho42 | (simp only [Int.reduceToNat] at ho42; rw [← Ny173.out] at ho42)); have n0_ := Aside0.mk (Kd.R_elder' (rl HO172.out) (Kd.R_base ho42) hb); have n1_ := Aside0.mk (Kd.R_lower (Kd.R_new' ho42 (Kd.R_lt (by (repeat apply rl1); exact HO172.out))) (below_size (by repeat with_reducible first | exact bl HB.out | refine below_set ?_ GE149.out | refine bq ?_))); have n2_ := Aside0.mk (blk_below (bk BK149.out) hb); have n3_ := Aside0.mk (below_step (by repeat with_reducible first | exact bl HB.out | refine below_set ?_ GE149.out | refine bq ?_) hb); clear HO172; clear BK149; clear HB; have HO172 := n0_; have HO175 := n1_; have BK149 := n2_; have HB := n3_; clear n0_ n1_ n2_ n3_; clear hb ho42) | ((with_reducible refine gate_dst (N := 77) rfl ?_); (try (refine gate_guard (by rfl) ?_; dsimp only)); refine Kd.R_make (Kd.int .i64) _ 3 rfl (N := 77) rfl 44 _ _ rfl (l1.length : Int) rfl rfl Try.underlying44 (.int .i64 0) 8 info3 rfl (by decide) (by omega) 0 (ok := fun _ => True) (okp := fun _ => True) rfl (fun _ hk => hk) trivial (of_decide_eq_true (by first | (with_reducible assumption) | assumption)) (Nat.le_trans (Nat.mul_le_mul_right _ (of_decide_eq_true (by first | (with_reducible assumption) | assumption) : (l1.length : Int).toNat ≤ 35184372088832)) (by omega)) (Below.refl _ _) (Nat.le_refl _) ?_; intro v177 w43 ho44 hb hg_ hnew_; clear hg_ hnew_; (first | rw [← Ny176.out] at ho44 | (simp only [Int.reduceToNat] at ho44; rw [← Ny176.out] at ho44)); have n0_ := Aside0.mk (Kd.R_elder' (rl HO172.out) (Kd.R_base ho44) hb); have n1_ := Aside0.mk (Kd.R_elder' (rl HO175.out) (Kd.R_base ho44) hb); have n2_ := Aside0.mk (Kd.R_lower (Kd.R_new' (Kd.R_new' ho44 (Kd.R_lt (by (repeat apply rl1); exact HO172.out))) (Kd.R_lt (by (repeat apply rl1); exact HO175.out))) (below_size (by repeat with_reducible first | exact bl HB.out | refine below_set ?_ GE149.out | refine bq ?_))); have n3_ := Aside0.mk (blk_below (bk BK149.out) hb); have n4_ := Aside0.mk (below_step (by repeat with_reducible first | exact bl HB.out | refine below_set ?_ GE149.out | refine bq ?_) hb); clear HO172; clear HO175; clear BK149; clear HB; have HO172 := n0_; have HO175 := n1_; have HO178 := n2_; have BK149 := n3_; have HB := n4_; clear n0_ n1_ n2_ n3_ n4_; clear hb ho44))
         repeat (go_quiet (first | ((with_reducible refine gate_dst (N := 71) rfl ?_); (try (refine gate_guard (by rfl) ?_; dsimp only)); refine Kd.R_make (Kd.int .i64) _ 3 rfl (N := 71) rfl 44 _ _ rfl (l1.length : Int) rfl rfl Try.underlying44 (.int .i64 0) 8 info3 rfl (by decide) (by omega) 0 (ok := fun _ => True) (okp := fun _ => True) rfl (fun _ hk => hk) trivial (of_decide_eq_true (by first | (with_reducible assumption) | assumption)) (Nat.le_trans (Nat.mul_le_mul_right _ (of_decide_eq_true (by first | (with_reducible assumption) | assumption) : (l1.length : Int).toNat ≤ 35184372088832)) (by omega)) (Below.refl _ _) (Nat.le_refl _) ?_; intro v171 w39 ho40 hb hg_ hnew_; clear hg_ hnew_; (first | rw [← Ny170.out] at ho40 | (simp only [Int.reduceToNat] at ho40; rw [← Ny170.out] at ho40)); have n0_ := Aside0.mk (Kd.R_lower ho40 (below_size (by repeat with_reducible first | exact bl HB.out | refine below_set ?_ GE149.out | refine bq ?_))); have n1_ := Aside0.mk (blk_below (bk BK149.out) hb); have n2_ := Aside0.mk (below_step (by repeat with_reducible first | exact bl HB.out | refine below_set ?_ GE149.out | refine bq ?_) hb); clear BK149; clear HB; have HO172 := n0_; have BK149 := n1_; have HB := n2_; clear n0_ n1_ n2_; clear hb ho40) | ((with_reducible refine gate_dst (N := 74) rfl ?_); (try (refine gate_guard (by rfl) ?_; dsimp only)); refine Kd.R_make (Kd.int .i64) _ 3 rfl (N := 74) rfl 44 _ _ rfl (l1.length : Int) rfl rfl Try.underlying44 (.int .i64 0) 8 info3 rfl (by decide) (by omega) 0 (ok := fun _ => True) (okp := fun _ => True) rfl (fun _ hk => hk) trivial (of_decide_eq_true (by first | (with_reducible assumption) | assumption)) (Nat.le_trans (Nat.mul_le_mul_right _ (of_decide_eq_true (by first | (with_reducible assumption) | assumption) : (l1.length : Int).toNat ≤ 35184372088832)) (by omega)) (Below.refl _ _) (Nat.le_refl _) ?_; intro v174 w41 ho42 hb hg_ hnew_; clear hg_ hnew_; (first | rw [← Ny173.out] at ho42 | (simp only [Int.reduceToNat] at ho42; rw [← Ny173.out] at ho42)); have n0_ := Aside0.mk (Kd.R_elder' (rl HO172.out) (Kd.R_base ho42) hb); have n1_ := Aside0.mk (Kd.R_lower (Kd.R_new' ho42 (Kd.R_lt (by (repeat apply rl1); exact HO172.out))) (below_size (by repeat with_reducible first | exact bl HB.out | refine below_set ?_ GE149.out | refine bq ?_))); have n2_ := Aside0.mk (blk_below (bk BK149.out) hb); have n3_ := Aside0.mk (below_step (by repeat with_reducible first | exact bl HB.out | refine below_set ?_ GE149.out | refine bq ?_) hb); clear HO172; clear BK149; clear HB; have HO172 := n0_; have HO175 := n1_; have BK149 := n2_; have HB := n3_; clear n0_ n1_ n2_ n3_; clear hb ho42) | ((with_reducible refine gate_dst (N := 77) rfl ?_); (try (refine gate_guard (by rfl) ?_; dsimp only)); refine Kd.R_make (Kd.int .i64) _ 3 rfl (N := 77) rfl 44 _ _ rfl (l1.length : Int) rfl rfl Try.underlying44 (.int .i64 0) 8 info3 rfl (by decide) (by omega) 0 (ok := fun _ => True) (okp := fun _ => True) rfl (fun _ hk => hk) trivial (of_decide_eq_true (by first | (with_reducible assumption) | assumption)) (Nat.le_trans (Nat.mul_le_mul_right _ (of_decide_eq_true (by first | (with_reducible assumption) | assumption) : (l1.length : Int).toNat ≤ 35184372088832)) (by omega)) (Below.refl _ _) (Nat.le_refl _) ?_; intro v177 w43 ho44 hb hg_ hnew_; clear hg_ hnew_; (first | rw [← Ny176.out] at ho44 | (simp only [Int.reduceToNat] at ho44; rw [← Ny176.out] at ho44)); have n0_ := Aside0.mk (Kd.R_elder' (rl HO172.out) (Kd.R_base ho44) hb); have n1_ := Aside0.mk (Kd.R_elder' (rl HO175.out) (Kd.R_base ho44) hb); have n2_ := Aside0.mk (Kd.R_lower (Kd.R_new' (Kd.R_new' ho44 (Kd.R_lt (by (repeat apply rl1); exact HO172.out))) (Kd.R_lt (by (repeat apply rl1); exact HO175.out))) (below_size (by repeat with_reducible first | exact bl HB.out | refine below_set ?_ GE149.out | refine bq ?_))); have n3_ := Aside0.mk (blk_below (bk BK149.out) hb); have n4_ := Aside0.mk (below_step (by repeat with_reducible first | exact bl HB.out | refine below_set ?_ GE149.out | refine bq ?_) hb); clear HO172; clear HO175; clear BK149; clear HB; have HO172 := n0_; have HO175 := n1_; have HO178 := n2_; have BK149 := n3_; have HB := n4_; clear n0_ n1_ n2_ n3_ n4_; clear hb ho44)); try go_wp2_with (first | ((with_reducible refine gate_dst (N := 71) rfl ?_); (try (refine gate_guard (by rfl) ?_; dsimp only)); refine Kd.R_make (Kd.int .i64) _ 3 rfl (N := 71) rfl 44 _ _ rfl (l1.length : Int) rfl rfl Try.underlying44 (.int .i64 0) 8 info3 rfl (by decide) (by omega) 0 (ok := fun _ => True) (okp := fun _ => True) rfl (fun _ hk => hk) trivial (of_decide_eq_true (by first | (with_reducible assumption) | assumption)) (Nat.le_trans (Nat.mul_le_mul_right _ (of_decide_eq_true (by first | (with_reducible assumption) | assumption) : (l1.length : Int).toNat ≤ 35184372088832)) (by omega)) (Below.refl _ _) (Nat.le_refl _) ?_; intro v171 w39 ho40 hb hg_ hnew_; clear hg_ hnew_; (first | rw [← Ny170.out] at ho40 | (simp only [Int.reduceToNat] at ho40; rw [← Ny170.out] at ho40)); have n0_ := Aside0.mk (Kd.R_lower ho40 (below_size (by repeat with_reducible first | exact bl HB.out | refine below_set ?_ GE149.out | refine bq ?_))); have n1_ := Aside0.mk (blk_below (bk BK149.out) hb); have n2_ := Aside0.mk (below_step (by repeat with_reducible first | exact bl HB.out | refine below_set ?_ GE149.out | refine bq ?_) hb); clear BK149; clear HB; have HO172 := n0_; have BK149 := n1_; have HB := n2_; clear n0_ n1_ n2_; clear hb ho40) | ((with_reducible refine gate_dst (N := 74) rfl ?_); (try (refine gate_guard (by rfl) ?_; dsimp only)); refine Kd.R_make (Kd.int .i64) _ 3 rfl (N := 74) rfl 44 _ _ rfl (l1.length : Int) rfl rfl Try.underlying44 (.int .i64 0) 8 info3 rfl (by decide) (by omega) 0 (ok := fun _ => True) (okp := fun _ => True) rfl (fun _ hk => hk) trivial (of_decide_eq_true (by first | (with_reducible assumption) | assumption)) (Nat.le_trans (Nat.mul_le_mul_right _ (of_decide_eq_true (by first | (with_reducible assumption) | assumption) : (l1.length : Int).toNat ≤ 35184372088832)) (by omega)) (Below.refl _ _) (Nat.le_refl _) ?_; intro v174 w41 ho42 hb hg_ hnew_; clear hg_ hnew_; (first | rw [← Ny173.out] at ho42 | (simp only [Int.reduceToNat] at ho42; rw [← Ny173.out] at ho42)); have n0_ := Aside0.mk (Kd.R_elder' (rl HO172.out) (Kd.R_base ho42) hb); have n1_ := Aside0.mk (Kd.R_lower (Kd.R_new' ho42 (Kd.R_lt (by (repeat apply rl1); exact HO172.out))) (below_size (by repeat with_reducible first | exact bl HB.out | refine below_set ?_ GE149.out | refine bq ?_))); have n2_ := Aside0.mk (blk_below (bk BK149.out) hb); have n3_ := Aside0.mk (below_step (by repeat with_reducible first | exact bl HB.out | refine below_set ?_ GE149.out | refine bq ?_) hb); clear HO172; clear BK149; clear HB; have HO172 := n0_; have HO175 := n1_; have BK149 := n2_; have HB := n3_; clear n0_ n1_ n2_ n3_; clear hb ho42) | ((with_reducible refine gate_dst (N := 77) rfl ?_); (try (refine gate_guard (by rfl) ?_; dsimp only)); refine Kd.R_make (Kd.int .i64) _ 3 rfl (N := 77) rfl 44 _ _ rfl (l1.length : Int) rfl rfl Try.underlying44 (.int .i64 0) 8 info3 rfl (by decide) (by omega) 0 (ok := fun _ => True) (okp := fun _ => True) rfl (fun _ hk => hk) trivial (of_decide_eq_true (by first | (with_reducible assumption) | assumption)) (Nat.le_trans (Nat.mul_le_mul_right _ (of_decide_eq_true (by first | (with_reducible assumption) | assumption) : (l1.length : Int).toNat ≤ 35184372088832)) (by omega)) (Below.refl _ _) (Nat.le_refl _) ?_; intro v177 w43 ho44 hb hg_ hnew_; clear hg_ hnew_; (first | rw [← Ny176.out] at ho44 | (simp only [Int.reduceToNat] at ho44; rw [← Ny176.out] at ho44)); have n0_ := Aside0.mk (Kd.R_elder' (rl HO172.out) (Kd.R_base ho44) hb); have n1_ := Aside0.mk (Kd.R_elder' (rl HO175.out) (Kd.R_base ho44) hb); have n2_ := Aside0.mk (Kd.R_lower (Kd.R_new' (Kd.R_new' ho44 (Kd.R_lt (by (repeat apply rl1); exact HO172.out))) (Kd.R_lt (by (repeat apply rl1); exact HO175.out))) (below_size (by repeat with_reducible first | exact bl HB.out | refine below_set ?_ GE149.out | refine bq ?_))); have n3_ := Aside0.mk (blk_below (bk BK149.out) hb); have n4_ := Aside0.mk (below_step (by repeat with_reducible first | exact bl HB.out | refine below_set ?_ GE149.out | refine bq ?_) hb); clear HO172; clear HO175; clear BK149; clear HB; have HO172 := n0_; have HO175 := n1_; have HO178 := n2_; have BK149 := n3_; have HB := n4_; clear n0_ n1_ n2_ n3_ n4_; clear hb ho44)))
         go_loopg [13, 14] k2 (fun kq v13 v14 w' => ∃ (x10_3 : List Int) (x11_3 : List Int) (x12_3 : List Int) (x13_3 : Int) (x14_3 : Int), v13 = .int .i64 x13_3 ∧ v14 = .int .i64 x14_3 ∧ Aside0 (spec_RunJobs.l1 kq l1 a2 x10_3 x11_3 x12_3 x13_3 x14_3 a0_0 a0_1 l0_2 = some (r1, r2, r3)) ∧ Aside0 (kq ≤ k2) ∧ Aside0 (Kd.R (Kd.int .i64) 3 w' w.heap.size (fun k_ => some k_ ≠ (v174 : Value).ownBlock ∧ some k_ ≠ (v177 : Value).ownBlock) v171 x10_3) ∧ Aside0 (Kd.R (Kd.int .i64) 3 w' w.heap.size (fun k_ => some k_ ≠ (v171 : Value).ownBlock ∧ some k_ ≠ (v177 : Value).ownBlock) v174 x11_3) ∧ Aside0 (Kd.R (Kd.int .i64) 3 w' w.heap.size (fun k_ => some k_ ≠ (v171 : Value).ownBlock ∧ some k_ ≠ (v174 : Value).ownBlock) v177 x12_3) ∧ Aside0 (w'.heap[gb149]? = some (.cells #[.int .i64 a0_0, .int .i64 a0_1, (.slice A0_2 l0_2.length c0_2)] 29 (0, 0))) ∧ Aside0 (Below w.heap.size w w'))
         case atStart => exact ⟨(y170), (y173), (y176), (0), (0), (by first | rfl | (simp; done) | (simp [*]; done)), (by first | rfl | (simp; done) | (simp [*]; done)), H', ⟨Nat.le_refl _⟩, ⟨by (repeat apply rl1); exact Kd.R_mono HO172.out (fun _ hk => ⟨hk.1.2, hk.2⟩)⟩, ⟨by (repeat apply rl1); exact Kd.R_mono HO175.out (fun _ hk => ⟨hk.1.2, hk.2⟩)⟩, ⟨by (repeat apply rl1); exact Kd.R_mono HO178.out (fun _ hk => ⟨hk.1.2, hk.2⟩)⟩, ⟨bk BK149.out⟩, ⟨by repeat with_reducible first | exact bl HB.out | refine below_set ?_ GE149.out | refine bq ?_⟩⟩
         case round =>
          clear H'
          try clear c1
          try clear p1
          try clear q1
          try clear hx1
          try clear c2
          try clear p2
          try clear c3
          try clear p6
          try clear c7
          try clear c8
          try clear c8b0
          try clear c8b1
          try clear p15
          try clear q15
          try clear hx15
          try clear c16
          try clear c19
          try clear c19b0
          try clear c20
          try clear c20b0
          try clear c22
          try clear c23
          try clear c24
          try clear c26
          try clear c37
          try clear c37b0
          try clear c37b1
          try clear c38
          try clear c38b0
          try clear c38b1
          try clear hcz12_0
          try clear hcz12_1
          try clear hcz12_2
          try clear hcz14_0
          try clear hcz14_1
          try clear hcz14_2
          try clear hcz27_0
          try clear hcz27_1
          try clear hcz27_2
          try clear hcz28_0
          try clear hcz28_1
          try clear hcz28_2
          try clear hcz31_0
          try clear hcz31_1
          try clear hcz31_2
          try clear hcz34_0
          try clear hcz34_1
          try clear hcz34_2
          try clear hcz9_0
          try clear hcz9_1
          try clear hcz9_2
          try clear hfz12_0
          try clear hfz12_1
          try clear hfz12_2
          try clear hfz14_0
          try clear hfz14_1
          try clear hfz14_2
          try clear hfz27_0
          try clear hfz27_1
          try clear hfz27_2
          try clear hfz28_0
          try clear hfz28_1
          try clear hfz28_2
          try clear hfz31_0
          try clear hfz31_1
          try clear hfz31_2
          try clear hfz34_0
          try clear hfz34_1
          try clear hfz34_2
          try clear hfz9_0
          try clear hfz9_1
          try clear hfz9_2
          try clear hx155_0
          try clear hx155_1
          try clear hx155_2
          try clear hx157_0
          try clear hx157_1
          try clear hx157_2
          try clear hx159_0
          try clear hx159_1
          try clear hx159_2
          try clear p155
          try clear p157
          try clear p159
          try clear p2
          try clear q155
          try clear q157
          try clear q159
          obtain ⟨x10_3, x11_3, x12_3, x13_3, x14_3, rfl, rfl, HA, HK3, HO_10, HO_11, HO_12, BK149, HB⟩ := hrel
          cases gk with
          | zero => exact absurd HA.out (by simp [spec_RunJobs.l1])
          | succ k3 =>
           have H := HA.out
           clear HA
           simp only [spec_RunJobs.l1] at H
           by_cases c45 : x14_3 < a2
           ·
            rw [if_pos c45] at H
            have c45b0 : decide (x14_3 < a2) = true := decide_eq_true c45
            clear c45
            have H' := Aside0.mk H
            clear H
            go_wp2
            repeat (go_quiet (fail); try go_wp2)
            go_loopg [15] k3 (fun kq v15 w' => ∃ (x10_4 : List Int) (x11_4 : List Int) (x12_4 : List Int) (x15_4 : Int), v15 = .int .i64 x15_4 ∧ Aside0 (spec_RunJobs.l2 kq l1 a2 x10_4 x11_4 x12_4 x13_3 x14_3 x15_4 a0_0 a0_1 l0_2 = some (r1, r2, r3)) ∧ Aside0 (kq ≤ k3) ∧ Aside0 (Kd.R (Kd.int .i64) 3 w' w.heap.size (fun k_ => some k_ ≠ (v174 : Value).ownBlock ∧ some k_ ≠ (v177 : Value).ownBlock) v171 x10_4) ∧ Aside0 (Kd.R (Kd.int .i64) 3 w' w.heap.size (fun k_ => some k_ ≠ (v171 : Value).ownBlock ∧ some k_ ≠ (v177 : Value).ownBlock) v174 x11_4) ∧ Aside0 (Kd.R (Kd.int .i64) 3 w' w.heap.size (fun k_ => some k_ ≠ (v171 : Value).ownBlock ∧ some k_ ≠ (v174 : Value).ownBlock) v177 x12_4) ∧ Aside0 (w'.heap[gb149]? = some (.cells #[.int .i64 a0_0, .int .i64 a0_1, (.slice A0_2 l0_2.length c0_2)] 29 (0, 0))) ∧ Aside0 (Below w.heap.size w w'))
            case atStart => exact ⟨(x10_3), (x11_3), (x12_3), (0), (by first | rfl | (simp; done) | (simp [*]; done)), H', ⟨Nat.le_refl _⟩, ⟨rl HO_10.out⟩, ⟨rl HO_11.out⟩, ⟨rl HO_12.out⟩, ⟨bk BK149.out⟩, ⟨by repeat with_reducible first | exact bl HB.out | refine below_set ?_ GE149.out | refine bq ?_⟩⟩
            case round =>
             clear H'
             try clear c1
             try clear p1
             try clear q1
             try clear hx1
             try clear c2
             try clear p2
             try clear c3
             try clear c4
             try clear p6
             try clear c7
             try clear c8
             try clear c8b0
             try clear c8b1
             try clear p15
             try clear q15
             try clear hx15
             try clear c16
             try clear c19
             try clear c19b0
             try clear c20
             try clear c20b0
             try clear c22
             try clear c23
             try clear c24
             try clear c26
             try clear c37
             try clear c37b0
             try clear c37b1
             try clear c38
             try clear c38b0
             try clear c38b1
             try clear c45
             try clear c45b0
             try clear hcz12_0
             try clear hcz12_1
             try clear hcz12_2
             try clear hcz14_0
             try clear hcz14_1
             try clear hcz14_2
             try clear hcz27_0
             try clear hcz27_1
             try clear hcz27_2
             try clear hcz28_0
             try clear hcz28_1
             try clear hcz28_2
             try clear hcz31_0
             try clear hcz31_1
             try clear hcz31_2
             try clear hcz34_0
             try clear hcz34_1
             try clear hcz34_2
             try clear hcz9_0
             try clear hcz9_1
             try clear hcz9_2
             try clear hfz12_0
             try clear hfz12_1
             try clear hfz12_2
             try clear hfz14_0
             try clear hfz14_1
             try clear hfz14_2
             try clear hfz27_0
             try clear hfz27_1
             try clear hfz27_2
             try clear hfz28_0
             try clear hfz28_1
             try clear hfz28_2
             try clear hfz31_0
             try clear hfz31_1
             try clear hfz31_2
             try clear hfz34_0
             try clear hfz34_1
             try clear hfz34_2
             try clear hfz9_0
             try clear hfz9_1
             try clear hfz9_2
             try clear hx155_0
             try clear hx155_1
             try clear hx155_2
             try clear hx157_0
             try clear hx157_1
             try clear hx157_2
             try clear hx159_0
             try clear hx159_1
             try clear hx159_2
             try clear p1
             try clear p15
             try clear p155
             try clear p157
             try clear p159
             try clear p2
             try clear p6
             try clear q1
             try clear q15
             try clear q155
             try clear q157
             try clear q159
             obtain ⟨x10_4, x11_4, x12_4, x15_4, rfl, HA, HK4, HO_10, HO_11, HO_12, BK149, HB⟩ := hrel
             cases gk with
             | zero => exact absurd HA.out (by simp [spec_RunJobs.l2])
             | succ k4 =>
              have H := HA.out
              clear HA
              simp only [spec_RunJobs.l2] at H
              by_cases c46 : x15_4 < (l1.length : Int)
              ·
               rw [if_pos c46] at H
               have c46b0 : decide (x15_4 < (l1.length : Int)) = true := decide_eq_true c46
               clear c46
               by_cases c47 : 0 ≤ x15_4
               ·
                rw [if_pos c47] at H
                have c47b0 : decide (0 ≤ x15_4) = true := decide_eq_true c47
                clear c47
                by_cases c48 : ((rd_T74 l1 x15_4).f1) = 0
                ·
                 rw [if_pos c48] at H
                 exact absurd H (by simp)
                ·
                 rw [if_neg c48] at H
                 have c48b0 : (((rd_T74 l1 x15_4).f1) == 0) = false := beq_eq_false_iff_ne.mpr c48
                 have c48b1 : (((rd_T74 l1 x15_4).f1) != 0) = true := bne_iff_ne.mpr c48
                 by_cases c49 : (Int.tmod x14_3 ((rd_T74 l1 x15_4).f1)) = 0
                 ·
                  rw [if_pos c49] at H
                  have c49b0 : ((Int.tmod x14_3 ((rd_T74 l1 x15_4).f1)) == 0) = true := beq_iff_eq.mpr c49
                  have c49b1 : ((Int.tmod x14_3 ((rd_T74 l1 x15_4).f1)) != 0) = false := bne_eq_false_iff_eq.mpr c49
                  clear c49
                  by_cases c50 : x15_4 < (x11_4.length : Int)
                  ·
                   rw [if_pos c50] at H
                   have c50b0 : decide (x15_4 < (x11_4.length : Int)) = true := decide_eq_true c50
                   clear c50
                   by_cases c51 : (rd x11_4 x15_4) > 0
                   ·
                    rw [if_pos c51] at H
                    have c51b0 : decide (0 < (rd x11_4 x15_4)) = true := decide_eq_true c51
                    clear c51
                    by_cases c52 : x15_4 < (x10_4.length : Int)
                    ·
                     rw [if_pos c52] at H
                     have c52b0 : decide (x15_4 < (x10_4.length : Int)) = true := decide_eq_true c52
                     clear c52
                     obtain ⟨y182, hy182⟩ : ∃ y_ : List Int, y_ = (x10_4.set (x15_4 : Int).toNat (wrap64 ((rd x10_4 x15_4) + 1))) := ⟨_, rfl⟩
                     replace H : (if x15_4 < (x12_4.length : Int) then (spec_RunJobs.l2 k4 l1 a2 y182 (x11_4.set (x15_4 : Int).toNat ((rd_T74 l1 x15_4).f2)) (x12_4.set (x15_4 : Int).toNat x14_3) x13_3 x14_3 (wrap64 (x15_4 + 1)) a0_0 a0_1 l0_2) else (none)) = some (r1, r2, r3) := by first | (rw [hy182]; with_reducible exact H) | (have H2_ := (Option.bind_some _ _).symm.trans H; rw [hy182]; with_reducible exact H2_) | (have H2_ := (Option.bind_some _ _).symm.trans H; with_reducible exact H2_) | with_reducible exact H | (rw [hy182]; exact H) | exact H
                     have Ny182 := Aside0.mk hy182
                     clear hy182
                     obtain ⟨y184, hy184⟩ : ∃ y_ : List Int, y_ = (x11_4.set (x15_4 : Int).toNat ((rd_T74 l1 x15_4).f2)) := ⟨_, rfl⟩
                     replace H : (if x15_4 < (x12_4.length : Int) then (spec_RunJobs.l2 k4 l1 a2 y182 y184 (x12_4.set (x15_4 : Int).toNat x14_3) x13_3 x14_3 (wrap64 (x15_4 + 1)) a0_0 a0_1 l0_2) else (none)) = some (r1, r2, r3) := by first | (rw [hy184]; with_reducible exact H) | (have H2_ := (Option.bind_some _ _).symm.trans H; rw [hy184]; with_reducible exact H2_) | (have H2_ := (Option.bind_some _ _).symm.trans H; with_reducible exact H2_) | with_reducible exact H | (rw [hy184]; exact H) | exact H
                     have Ny184 := Aside0.mk hy184
                     clear hy184
                     by_cases c55 : x15_4 < (x12_4.length : Int)
                     ·
                      rw [if_pos c55] at H
                      have c55b0 : decide (x15_4 < (x12_4.length : Int)) = true := decide_eq_true c55
                      clear c55
                      obtain ⟨y185, hy185⟩ : ∃ y_ : List Int, y_ = (x12_4.set (x15_4 : Int).toNat x14_3) := ⟨_, rfl⟩
                      replace H : (spec_RunJobs.l2 k4 l1 a2 y182 y184 y185 x13_3 x14_3 (wrap64 (x15_4 + 1)) a0_0 a0_1 l0_2) = some (r1, r2, r3) := by first | (rw [hy185]; with_reducible exact H) | (have H2_ := (Option.bind_some _ _).symm.trans H; rw [hy185]; with_reducible exact H2_) | (have H2_ := (Option.bind_some _ _).symm.trans H; with_reducible exact H2_) | with_reducible exact H | (rw [hy185]; exact H) | exact H
                      have Ny185 := Aside0.mk hy185
                      clear hy185
                      have H' := Aside0.mk H
                      clear H
                      have p179 : 0 ≤ (x15_4 : Int) := of_decide_eq_true (by first | (with_reducible assumption) | assumption)
                      have q179 : x15_4 < (l1.length : Int) := of_decide_eq_true (by first | (with_reducible assumption) | assumption)
                      obtain ⟨ad179, e179, hx179_0, hx179_1, hx179_2⟩ := at_T74 HR1.out x15_4 p179 q179
                      cases e179
                      replace hx179_0 := (HB.out.cell (World.block_lt_of_cell? w _ hx179_0)).trans hx179_0
                      replace hx179_1 := (HB.out.cell (World.block_lt_of_cell? w _ hx179_1)).trans hx179_1
                      replace hx179_2 := (HB.out.cell (World.block_lt_of_cell? w _ hx179_2)).trans hx179_2
                      replace p179 := eq_true p179
                      replace q179 := eq_true q179
                      obtain ⟨Ao57, co57, eo57⟩ := Kd.R_slice HO_11.out
                      subst eo57
                      have p180 : 0 ≤ (x15_4 : Int) := of_decide_eq_true (by first | (with_reducible assumption) | assumption)
                      have q180 : x15_4 < (x11_4.length : Int) := of_decide_eq_true (by first | (with_reducible assumption) | assumption)
                      obtain ⟨ad180, e180, hx180_0⟩ := Kd.at_int (Kd.R_reads' HO_11.out).2.2 x15_4 p180 q180
                      cases e180
                      replace p180 := eq_true p180
                      replace q180 := eq_true q180
                      obtain ⟨Ao58, co58, eo58⟩ := Kd.R_slice HO_10.out
                      subst eo58
                      have p181 : 0 ≤ (x15_4 : Int) := of_decide_eq_true (by first | (with_reducible assumption) | assumption)
                      have q181 : x15_4 < (x10_4.length : Int) := of_decide_eq_true (by first | (with_reducible assumption) | assumption)
                      obtain ⟨ad181, e181, hx181_0⟩ := Kd.at_int (Kd.R_reads' HO_10.out).2.2 x15_4 p181 q181
                      cases e181
                      replace p181 := eq_true p181
                      replace q181 := eq_true q181
                      have p53 : 0 ≤ (x15_4 : Int) := of_decide_eq_true (by first | (with_reducible assumption) | assumption)
                      have q53 : (x15_4 : Int) < ((x10_4.length : Int) : Int) := of_decide_eq_true (by first | (with_reducible assumption) | assumption)
                      obtain ⟨go53, co53, eo53, gb53, gl53, cl53, HG53⟩ := Kd.R_form HO_10.out (by omega)
                      (first | cases eo53 | (injection eo53 with ea_ en_ ec_; (first | subst ea_ | (injection ea_ with ea_; subst ea_)); subst ec_; clear en_))
                      have GB53 := Aside0.mk gb53
                      have GG53 := Aside0.mk HG53
                      clear gb53 gl53 HG53
                      (first | simp only [add_plain] at hx181_0 | skip)
                      obtain ⟨hx53_0, hf53_0⟩ := Kd.R_celln 0 HO_10.out (x15_4 : Int) p53 q53
                      replace p53 := eq_true p53
                      replace q53 := eq_true q53
                      have HP59 := Kd.R_putg HO_10.out (x15_4 : Int) (wrap64 ((rd x10_4 x15_4) + 1))
                      go_wp2_with (first | ((with_reducible refine gate_store (t := 3) (p := 107) rfl ?_); (try (rw [drewN_self wr]; generalize hq_ : World.drewN wr _ = wr; have n0_ := Aside0.mk (Kd.R_at hq_ HO_10.out); have n1_ := Aside0.mk (Kd.R_at hq_ HO_11.out); have n2_ := Aside0.mk (Kd.R_at hq_ HO_12.out); have n3_ := Aside0.mk (blk_at hq_ BK149.out); have n4_ := Aside0.mk (below_at hq_ HB.out); clear hq_ HO_10 HO_11 HO_12 BK149 HB; have HO_10 := n0_; have HO_11 := n1_; have HO_12 := n2_; have BK149 := n3_; have HB := n4_; clear n0_ n1_ n2_ n3_ n4_; (try (have HP59 := Kd.R_putg HO_10.out (x15_4 : Int) (wrap64 ((rd x10_4 x15_4) + 1)))))); refine store_event (t := 3) (p := 107) (v := ?vo_w60) (w1 := (wr.setCell ⟨go53, (x15_4 : Int).toNat, none⟩ (.int .i64 (wrap64 ((rd x10_4 x15_4) + 1))))) ?hg ?ho ?hn ?hr ?_; (case ho => rfl); (case hg => rfl); (case hn => rfl); (case hr => first | (go_simp; done) | (go_simp; rfl)); intro w60 hw; have hg : wr.grownBy w60 (some go53) := (by rw [hw]; exact HP59.2); have hp_ : Kd.R (Kd.int .i64) 3 w60 w.heap.size (fun k_ => some k_ ≠ (.slice (some ad180) x11_4.length co57 : Value).ownBlock ∧ some k_ ≠ (v177 : Value).ownBlock) (.slice (some ⟨go53, 0, none⟩) x10_4.length co58) y182 := (by rw [hw, Ny182.out]; exact HP59.1); clear HP59; have n0_ := Aside0.mk (hp_); have n1_ := Aside0.mk (Kd.R_after (v := (.slice (some ⟨go53, 0, none⟩) x10_4.length co58)) (v1 := (.slice (some ⟨go53, 0, none⟩) x10_4.length co58)) (ok := (fun k_ => some k_ ≠ (v177 : Value).ownBlock)) (by (repeat apply rl1); exact Kd.R_mono HO_11.out (fun _ hk => ⟨hk.2, hk.1⟩)) hg (.inl rfl)); have n2_ := Aside0.mk (Kd.R_after (v := (.slice (some ⟨go53, 0, none⟩) x10_4.length co58)) (v1 := (.slice (some ⟨go53, 0, none⟩) x10_4.length co58)) (ok := (fun k_ => some k_ ≠ (.slice (some ad180) x11_4.length co57 : Value).ownBlock)) (by (repeat apply rl1); exact Kd.R_mono HO_12.out (fun _ hk => ⟨hk.2, hk.1⟩)) hg (.inl rfl)); have n3_ := Aside0.mk (blk_grown (g := gb149) (o := .cells #[.int .i64 a0_0, .int .i64 a0_1, .slice A0_2 l0_2.length c0_2] 29 (0, 0)) (bk BK149.out) hg (Kd.R_ne HO_10.out BK149.out (by decide))); have n4_ := Aside0.mk ((by rw [hw]; exact below_set (HB.out) GB53.out : Below w.heap.size w w60)); clear HO_10; clear HO_11; clear HO_12; clear BK149; clear HB; have HO_10 := n0_; have HO_11 := n1_; have HO_12 := n2_; have BK149 := n3_; have HB := n4_; clear n0_ n1_ n2_ n3_ n4_; clear hg hw hp_; have p183 : 0 ≤ (x15_4 : Int) := of_decide_eq_true (by first | (with_reducible assumption) | assumption); have q183 : x15_4 < (l1.length : Int) := of_decide_eq_true (by first | (with_reducible assumption) | assumption); obtain ⟨ad183, e183, hx183_0, hx183_1, hx183_2⟩ := at_T74 HR1.out x15_4 p183 q183; obtain rfl : ad179 = ad183 := (by injection e183); replace hx183_0 := (HB.out.cell (World.block_lt_of_cell? w _ hx183_0)).trans hx183_0; replace hx183_1 := (HB.out.cell (World.block_lt_of_cell? w _ hx183_1)).trans hx183_1; replace hx183_2 := (HB.out.cell (World.block_lt_of_cell? w _ hx183_2)).trans hx183_2; replace p183 := eq_true p183; replace q183 := eq_true q183; have p54 : 0 ≤ (x15_4 : Int) := of_decide_eq_true (by first | (with_reducible assumption) | assumption); have q54 : (x15_4 : Int) < ((x11_4.length : Int) : Int) := of_decide_eq_true (by first | (with_reducible assumption) | assumption); obtain ⟨go54, co54, eo54, gb54, gl54, cl54, HG54⟩ := Kd.R_form HO_11.out (by omega); (first | cases eo54 | (injection eo54 with ea_ en_ ec_; (first | subst ea_ | (injection ea_ with ea_; subst ea_)); subst ec_; clear en_)); have GB54 := Aside0.mk gb54; have GG54 := Aside0.mk HG54; clear gb54 gl54 HG54; (first | simp only [add_plain] at hx180_0 | skip); obtain ⟨hx54_0, hf54_0⟩ := Kd.R_celln 0 HO_11.out (x15_4 : Int) p54 q54; replace p54 := eq_true p54; replace q54 := eq_true q54; obtain ⟨hy61_, hz61_⟩ := Kd.R_celln 0 HO_11.out (x15_4 : Int) (of_decide_eq_true (by first | (with_reducible assumption) | assumption)) (of_decide_eq_true (by first | (with_reducible assumption) | assumption)); have HP61 := Kd.R_putg HO_11.out (x15_4 : Int) ((rd_T74 l1 x15_4).f2)) | ((with_reducible refine gate_store (t := 3) (p := 115) rfl ?_); (try (rw [drewN_self w60]; generalize hq_ : World.drewN w60 _ = w60; have n0_ := Aside0.mk (Kd.R_at hq_ HO_10.out); have n1_ := Aside0.mk (Kd.R_at hq_ HO_11.out); have n2_ := Aside0.mk (Kd.R_at hq_ HO_12.out); have n3_ := Aside0.mk (blk_at hq_ BK149.out); have n4_ := Aside0.mk (below_at hq_ HB.out); clear hq_ HO_10 HO_11 HO_12 BK149 HB; have HO_10 := n0_; have HO_11 := n1_; have HO_12 := n2_; have BK149 := n3_; have HB := n4_; clear n0_ n1_ n2_ n3_ n4_; (try (obtain ⟨hy61_, hz61_⟩ := Kd.R_celln 0 HO_11.out (x15_4 : Int) (of_decide_eq_true (by first | (with_reducible assumption) | assumption)) (of_decide_eq_true (by first | (with_reducible assumption) | assumption)))); (try (have HP61 := Kd.R_putg HO_11.out (x15_4 : Int) ((rd_T74 l1 x15_4).f2))))); refine store_event (t := 3) (p := 115) (v := ?vo_w62) (w1 := (w60.setCell ⟨go54, (x15_4 : Int).toNat, none⟩ (.int .i64 ((rd_T74 l1 x15_4).f2)))) ?hg ?ho ?hn ?hr ?_; (case ho => rfl); (case hg => rfl); (case hn => rfl); (case hr => first | (go_simp; done) | (go_simp; rfl)); intro w62 hw; have hg : w60.grownBy w62 (some go54) := (by rw [hw]; exact HP61.2); have hp_ : Kd.R (Kd.int .i64) 3 w62 w.heap.size (fun k_ => some k_ ≠ (v177 : Value).ownBlock ∧ some k_ ≠ (.slice (some ⟨go53, 0, none⟩) x10_4.length co58 : Value).ownBlock) (.slice (some ⟨go54, 0, none⟩) x11_4.length co57) y184 := (by rw [hw, Ny184.out]; exact HP61.1); clear HP61; have n0_ := Aside0.mk (Kd.R_after (v := (.slice (some ⟨go54, 0, none⟩) x11_4.length co57)) (v1 := (.slice (some ⟨go54, 0, none⟩) x11_4.length co57)) (ok := (fun k_ => some k_ ≠ (v177 : Value).ownBlock)) (by (repeat apply rl1); exact Kd.R_mono HO_10.out (fun _ hk => ⟨hk.2, hk.1⟩)) hg (.inl rfl)); have n1_ := Aside0.mk (hp_); have n2_ := Aside0.mk (Kd.R_after (v := (.slice (some ⟨go54, 0, none⟩) x11_4.length co57)) (v1 := (.slice (some ⟨go54, 0, none⟩) x11_4.length co57)) (ok := (fun k_ => some k_ ≠ (.slice (some ⟨go53, 0, none⟩) x10_4.length co58 : Value).ownBlock)) (by (repeat apply rl1); exact Kd.R_mono HO_12.out (fun _ hk => ⟨hk.2, hk.1⟩)) hg (.inl rfl)); have n3_ := Aside0.mk (blk_grown (g := gb149) (o := .cells #[.int .i64 a0_0, .int .i64 a0_1, .slice A0_2 l0_2.length c0_2] 29 (0, 0)) (bk BK149.out) hg (Kd.R_ne HO_11.out BK149.out (by decide))); have n4_ := Aside0.mk ((by rw [hw]; exact below_set (HB.out) GB54.out : Below w.heap.size w w62)); clear HO_10; clear HO_11; clear HO_12; clear BK149; clear HB; have HO_10 := n0_; have HO_11 := n1_; have HO_12 := n2_; have BK149 := n3_; have HB := n4_; clear n0_ n1_ n2_ n3_ n4_; clear hg hw hp_; have p56 : 0 ≤ (x15_4 : Int) := of_decide_eq_true (by first | (with_reducible assumption) | assumption); have q56 : (x15_4 : Int) < ((x12_4.length : Int) : Int) := of_decide_eq_true (by first | (with_reducible assumption) | assumption); obtain ⟨go56, co56, eo56, gb56, gl56, cl56, HG56⟩ := Kd.R_form HO_12.out (by omega); (first | cases eo56 | (injection eo56 with ea_ en_ ec_; (first | subst ea_ | (injection ea_ with ea_; subst ea_)); subst ec_; clear en_)); have GB56 := Aside0.mk gb56; have GG56 := Aside0.mk HG56; clear gb56 gl56 HG56; obtain ⟨hx56_0, hf56_0⟩ := Kd.R_celln 0 HO_12.out (x15_4 : Int) p56 q56; replace p56 := eq_true p56; replace q56 := eq_true q56; obtain ⟨hy63_, hz63_⟩ := Kd.R_celln 0 HO_12.out (x15_4 : Int) (of_decide_eq_true (by first | (with_reducible assumption) | assumption)) (of_decide_eq_true (by first | (with_reducible assumption) | assumption)); have HP63 := Kd.R_putg HO_12.out (x15_4 : Int) x14_3) | ((with_reducible refine gate_store (t := 3) (p := 119) rfl ?_); (try (rw [drewN_self w62]; generalize hq_ : World.drewN w62 _ = w62; have n0_ := Aside0.mk (Kd.R_at hq_ HO_10.out); have n1_ := Aside0.mk (Kd.R_at hq_ HO_11.out); have n2_ := Aside0.mk (Kd.R_at hq_ HO_12.out); have n3_ := Aside0.mk (blk_at hq_ BK149.out); have n4_ := Aside0.mk (below_at hq_ HB.out); clear hq_ HO_10 HO_11 HO_12 BK149 HB; have HO_10 := n0_; have HO_11 := n1_; have HO_12 := n2_; have BK149 := n3_; have HB := n4_; clear n0_ n1_ n2_ n3_ n4_; (try (obtain ⟨hy63_, hz63_⟩ := Kd.R_celln 0 HO_12.out (x15_4 : Int) (of_decide_eq_true (by first | (with_reducible assumption) | assumption)) (of_decide_eq_true (by first | (with_reducible assumption) | assumption)))); (try (have HP63 := Kd.R_putg HO_12.out (x15_4 : Int) x14_3)))); refine store_event (t := 3) (p := 119) (v := ?vo_w64) (w1 := (w62.setCell ⟨go56, (x15_4 : Int).toNat, none⟩ (.int .i64 x14_3))) ?hg ?ho ?hn ?hr ?_; (case ho => rfl); (case hg => rfl); (case hn => rfl); (case hr => first | (go_simp; done) | (go_simp; rfl)); intro w64 hw; have hg : w62.grownBy w64 (some go56) := (by rw [hw]; exact HP63.2); have hp_ : Kd.R (Kd.int .i64) 3 w64 w.heap.size (fun k_ => some k_ ≠ (.slice (some ⟨go53, 0, none⟩) x10_4.length co58 : Value).ownBlock ∧ some k_ ≠ (.slice (some ⟨go54, 0, none⟩) x11_4.length co57 : Value).ownBlock) (.slice (some ⟨go56, 0, none⟩) x12_4.length co56) y185 := (by rw [hw, Ny185.out]; exact HP63.1); clear HP63; have n0_ := Aside0.mk (Kd.R_after (v := (.slice (some ⟨go56, 0, none⟩) x12_4.length co56)) (v1 := (.slice (some ⟨go56, 0, none⟩) x12_4.length co56)) (ok := (fun k_ => some k_ ≠ (.slice (some ⟨go54, 0, none⟩) x11_4.length co57 : Value).ownBlock)) (by (repeat apply rl1); exact Kd.R_mono HO_10.out (fun _ hk => ⟨hk.2, hk.1⟩)) hg (.inl rfl)); have n1_ := Aside0.mk (Kd.R_after (v := (.slice (some ⟨go56, 0, none⟩) x12_4.length co56)) (v1 := (.slice (some ⟨go56, 0, none⟩) x12_4.length co56)) (ok := (fun k_ => some k_ ≠ (.slice (some ⟨go53, 0, none⟩) x10_4.length co58 : Value).ownBlock)) (by (repeat apply rl1); exact Kd.R_mono HO_11.out (fun _ hk => ⟨hk.2, hk.1⟩)) hg (.inl rfl)); have n2_ := Aside0.mk (hp_); have n3_ := Aside0.mk (blk_grown (g := gb149) (o := .cells #[.int .i64 a0_0, .int .i64 a0_1, .slice A0_2 l0_2.length c0_2] 29 (0, 0)) (bk BK149.out) hg (Kd.R_ne HO_12.out BK149.out (by decide))); have n4_ := Aside0.mk ((by rw [hw]; exact below_set (HB.out) GB56.out : Below w.heap.size w w64)); clear HO_10; clear HO_11; clear HO_12; clear BK149; clear HB; have HO_10 := n0_; have HO_11 := n1_; have HO_12 := n2_; have BK149 := n3_; have HB := n4_; clear n0_ n1_ n2_ n3_ n4_; clear hg hw hp_))
                      repeat (go_quiet (first | ((with_reducible refine gate_store (t := 3) (p := 107) rfl ?_); (try (rw [drewN_self wr]; generalize hq_ : World.drewN wr _ = wr; have n0_ := Aside0.mk (Kd.R_at hq_ HO_10.out); have n1_ := Aside0.mk (Kd.R_at hq_ HO_11.out); have n2_ := Aside0.mk (Kd.R_at hq_ HO_12.out); have n3_ := Aside0.mk (blk_at hq_ BK149.out); have n4_ := Aside0.mk (below_at hq_ HB.out); clear hq_ HO_10 HO_11 HO_12 BK149 HB; have HO_10 := n0_; have HO_11 := n1_; have HO_12 := n2_; have BK149 := n3_; have HB := n4_; clear n0_ n1_ n2_ n3_ n4_; (try (have HP59 := Kd.R_putg HO_10.out (x15_4 : Int) (wrap64 ((rd x10_4 x15_4) + 1)))))); refine store_event (t := 3) (p := 107) (v := ?vo_w60) (w1 := (wr.setCell ⟨go53, (x15_4 : Int).toNat, none⟩ (.int .i64 (wrap64 ((rd x10_4 x15_4) + 1))))) ?hg ?ho ?hn ?hr ?_; (case ho => rfl); (case hg => rfl); (case hn => rfl); (case hr => first | (go_simp; done) | (go_simp; rfl)); intro w60 hw; have hg : wr.grownBy w60 (some go53) := (by rw [hw]; exact HP59.2); have hp_ : Kd.R (Kd.int .i64) 3 w60 w.heap.size (fun k_ => some k_ ≠ (.slice (some ad180) x11_4.length co57 : Value).ownBlock ∧ some k_ ≠ (v177 : Value).ownBlock) (.slice (some ⟨go53, 0, none⟩) x10_4.length co58) y182 := (by rw [hw, Ny182.out]; exact HP59.1); clear HP59; have n0_ := Aside0.mk (hp_); have n1_ := Aside0.mk (Kd.R_after (v := (.slice (some ⟨go53, 0, none⟩) x10_4.length co58)) (v1 := (.slice (some ⟨go53, 0, none⟩) x10_4.length co58)) (ok := (fun k_ => some k_ ≠ (v177 : Value).ownBlock)) (by (repeat apply rl1); exact Kd.R_mono HO_11.out (fun _ hk => ⟨hk.2, hk.1⟩)) hg (.inl rfl)); have n2_ := Aside0.mk (Kd.R_after (v := (.slice (some ⟨go53, 0, none⟩) x10_4.length co58)) (v1 := (.slice (some ⟨go53, 0, none⟩) x10_4.length co58)) (ok := (fun k_ => some k_ ≠ (.slice (some ad180) x11_4.length co57 : Value).ownBlock)) (by (repeat apply rl1); exact Kd.R_mono HO_12.out (fun _ hk => ⟨hk.2, hk.1⟩)) hg (.inl rfl)); have n3_ := Aside0.mk (blk_grown (g := gb149) (o := .cells #[.int .i64 a0_0, .int .i64 a0_1, .slice A0_2 l0_2.length c0_2] 29 (0, 0)) (bk BK149.out) hg (Kd.R_ne HO_10.out BK149.out (by decide))); have n4_ := Aside0.mk ((by rw [hw]; exact below_set (HB.out) GB53.out : Below w.heap.size w w60)); clear HO_10; clear HO_11; clear HO_12; clear BK149; clear HB; have HO_10 := n0_; have HO_11 := n1_; have HO_12 := n2_; have BK149 := n3_; have HB := n4_; clear n0_ n1_ n2_ n3_ n4_; clear hg hw hp_; have p183 : 0 ≤ (x15_4 : Int) := of_decide_eq_true (by first | (with_reducible assumption) | assumption); have q183 : x15_4 < (l1.length : Int) := of_decide_eq_true (by first | (with_reducible assumption) | assumption); obtain ⟨ad183, e183, hx183_0, hx183_1, hx183_2⟩ := at_T74 HR1.out x15_4 p183 q183; obtain rfl : ad179 = ad183 := (by injection e183); replace hx183_0 := (HB.out.cell (World.block_lt_of_cell? w _ hx183_0)).trans hx183_0; replace hx183_1 := (HB.out.cell (World.block_lt_of_cell? w _ hx183_1)).trans hx183_1; replace hx183_2 := (HB.out.cell (World.block_lt_of_cell? w _ hx183_2)).trans hx183_2; replace p183 := eq_true p183; replace q183 := eq_true q183; have p54 : 0 ≤ (x15_4 : Int) := of_decide_eq_true (by first | (with_reducible assumption) | assumption); have q54 : (x15_4 : Int) < ((x11_4.length : Int) : Int) := of_decide_eq_true (by first | (with_reducible assumption) | assumption); obtain ⟨go54, co54, eo54, gb54, gl54, cl54, HG54⟩ := Kd.R_form HO_11.out (by omega); (first | cases eo54 | (injection eo54 with ea_ en_ ec_; (first | subst ea_ | (injection ea_ with ea_; subst ea_)); subst ec_; clear en_)); have GB54 := Aside0.mk gb54; have GG54 := Aside0.mk HG54; clear gb54 gl54 HG54; (first | simp only [add_plain] at hx180_0 | skip); obtain ⟨hx54_0, hf54_0⟩ := Kd.R_celln 0 HO_11.out (x15_4 : Int) p54 q54; replace p54 := eq_true p54; replace q54 := eq_true q54; obtain ⟨hy61_, hz61_⟩ := Kd.R_celln 0 HO_11.out (x15_4 : Int) (of_decide_eq_true (by first | (with_reducible assumption) | assumption)) (of_decide_eq_true (by first | (with_reducible assumption) | assumption)); have HP61 := Kd.R_putg HO_11.out (x15_4 : Int) ((rd_T74 l1 x15_4).f2)) | ((with_reducible refine gate_store (t := 3) (p := 115) rfl ?_); (try (rw [drewN_self w60]; generalize hq_ : World.drewN w60 _ = w60; have n0_ := Aside0.mk (Kd.R_at hq_ HO_10.out); have n1_ := Aside0.mk (Kd.R_at hq_ HO_11.out); have n2_ := Aside0.mk (Kd.R_at hq_ HO_12.out); have n3_ := Aside0.mk (blk_at hq_ BK149.out); have n4_ := Aside0.mk (below_at hq_ HB.out); clear hq_ HO_10 HO_11 HO_12 BK149 HB; have HO_10 := n0_; have HO_11 := n1_; have HO_12 := n2_; have BK149 := n3_; have HB := n4_; clear n0_ n1_ n2_ n3_ n4_; (try (obtain ⟨hy61_, hz61_⟩ := Kd.R_celln 0 HO_11.out (x15_4 : Int) (of_decide_eq_true (by first | (with_reducible assumption) | assumption)) (of_decide_eq_true (by first | (with_reducible assumption) | assumption)))); (try (have HP61 := Kd.R_putg HO_11.out (x15_4 : Int) ((rd_T74 l1 x15_4).f2))))); refine store_event (t := 3) (p := 115) (v := ?vo_w62) (w1 := (w60.setCell ⟨go54, (x15_4 : Int).toNat, none⟩ (.int .i64 ((rd_T74 l1 x15_4).f2)))) ?hg ?ho ?hn ?hr ?_; (case ho => rfl); (case hg => rfl); (case hn => rfl); (case hr => first | (go_simp; done) | (go_simp; rfl)); intro w62 hw; have hg : w60.grownBy w62 (some go54) := (by rw [hw]; exact HP61.2); have hp_ : Kd.R (Kd.int .i64) 3 w62 w.heap.size (fun k_ => some k_ ≠ (v177 : Value).ownBlock ∧ some k_ ≠ (.slice (some ⟨go53, 0, none⟩) x10_4.length co58 : Value).ownBlock) (.slice (some ⟨go54, 0, none⟩) x11_4.length co57) y184 := (by rw [hw, Ny184.out]; exact HP61.1); clear HP61; have n0_ := Aside0.mk (Kd.R_after (v := (.slice (some ⟨go54, 0, none⟩) x11_4.length co57)) (v1 := (.slice (some ⟨go54, 0, none⟩) x11_4.length co57)) (ok := (fun k_ => some k_ ≠ (v177 : Value).ownBlock)) (by (repeat apply rl1); exact Kd.R_mono HO_10.out (fun _ hk => ⟨hk.2, hk.1⟩)) hg (.inl rfl)); have n1_ := Aside0.mk (hp_); have n2_ := Aside0.mk (Kd.R_after (v := (.slice (some ⟨go54, 0, none⟩) x11_4.length co57)) (v1 := (.slice (some ⟨go54, 0, none⟩) x11_4.length co57)) (ok := (fun k_ => some k_ ≠ (.slice (some ⟨go53, 0, none⟩) x10_4.length co58 : Value).ownBlock)) (by (repeat apply rl1); exact Kd.R_mono HO_12.out (fun _ hk => ⟨hk.2, hk.1⟩)) hg (.inl rfl)); have n3_ := Aside0.mk (blk_grown (g := gb149) (o := .cells #[.int .i64 a0_0, .int .i64 a0_1, .slice A0_2 l0_2.length c0_2] 29 (0, 0)) (bk BK149.out) hg (Kd.R_ne HO_11.out BK149.out (by decide))); have n4_ := Aside0.mk ((by rw [hw]; exact below_set (HB.out) GB54.out : Below w.heap.size w w62)); clear HO_10; clear HO_11; clear HO_12; clear BK149; clear HB; have HO_10 := n0_; have HO_11 := n1_; have HO_12 := n2_; have BK149 := n3_; have HB := n4_; clear n0_ n1_ n2_ n3_ n4_; clear hg hw hp_; have p56 : 0 ≤ (x15_4 : Int) := of_decide_eq_true (by first | (with_reducible assumption) | assumption); have q56 : (x15_4 : Int) < ((x12_4.length : Int) : Int) := of_decide_eq_true (by first | (with_reducible assumption) | assumption); obtain ⟨go56, co56, eo56, gb56, gl56, cl56, HG56⟩ := Kd.R_form HO_12.out (by omega); (first | cases eo56 | (injection eo56 with ea_ en_ ec_; (first | subst ea_ | (injection ea_ with ea_; subst ea_)); subst ec_; clear en_)); have GB56 := Aside0.mk gb56; have GG56 := Aside0.mk HG56; clear gb56 gl56 HG56; obtain ⟨hx56_0, hf56_0⟩ := Kd.R_celln 0 HO_12.out (x15_4 : Int) p56 q56; replace p56 := eq_true p56; replace q56 := eq_true q56; obtain ⟨hy63_, hz63_⟩ := Kd.R_celln 0 HO_12.out (x15_4 : Int) (of_decide_eq_true (by first | (with_reducible assumption) | assumption)) (of_decide_eq_true (by first | (with_reducible assumption) | assumption)); have HP63 := Kd.R_putg HO_12.out (x15_4 : Int) x14_3) | ((with_reducible refine gate_store (t := 3) (p := 119) rfl ?_); (try (rw [drewN_self w62]; generalize hq_ : World.drewN w62 _ = w62; have n0_ := Aside0.mk (Kd.R_at hq_ HO_10.out); have n1_ := Aside0.mk (Kd.R_at hq_ HO_11.out); have n2_ := Aside0.mk (Kd.R_at hq_ HO_12.out); have n3_ := Aside0.mk (blk_at hq_ BK149.out); have n4_ := Aside0.mk (below_at hq_ HB.out); clear hq_ HO_10 HO_11 HO_12 BK149 HB; have HO_10 := n0_; have HO_11 := n1_; have HO_12 := n2_; have BK149 := n3_; have HB := n4_; clear n0_ n1_ n2_ n3_ n4_; (try (obtain ⟨hy63_, hz63_⟩ := Kd.R_celln 0 HO_12.out (x15_4 : Int) (of_decide_eq_true (by first | (with_reducible assumption) | assumption)) (of_decide_eq_true (by first | (with_reducible assumption) | assumption)))); (try (have HP63 := Kd.R_putg HO_12.out (x15_4 : Int) x14_3)))); refine store_event (t := 3) (p := 119) (v := ?vo_w64) (w1 := (w62.setCell ⟨go56, (x15_4 : Int).toNat, none⟩ (.int .i64 x14_3))) ?hg ?ho ?hn ?hr ?_; (case ho => rfl); (case hg => rfl); (case hn => rfl); (case hr => first | (go_simp; done) | (go_simp; rfl)); intro w64 hw; have hg : w62.grownBy w64 (some go56) := (by rw [hw]; exact HP63.2); have hp_ : Kd.R (Kd.int .i64) 3 w64 w.heap.size (fun k_ => some k_ ≠ (.slice (some ⟨go53, 0, none⟩) x10_4.length co58 : Value).ownBlock ∧ some k_ ≠ (.slice (some ⟨go54, 0, none⟩) x11_4.length co57 : Value).ownBlock) (.slice (some ⟨go56, 0, none⟩) x12_4.length co56) y185 := (by rw [hw, Ny185.out]; exact HP63.1); clear HP63; have n0_ := Aside0.mk (Kd.R_after (v := (.slice (some ⟨go56, 0, none⟩) x12_4.length co56)) (v1 := (.slice (some ⟨go56, 0, none⟩) x12_4.length co56)) (ok := (fun k_ => some k_ ≠ (.slice (some ⟨go54, 0, none⟩) x11_4.length co57 : Value).ownBlock)) (by (repeat apply rl1); exact Kd.R_mono HO_10.out (fun _ hk => ⟨hk.2, hk.1⟩)) hg (.inl rfl)); have n1_ := Aside0.mk (Kd.R_after (v := (.slice (some ⟨go56, 0, none⟩) x12_4.length co56)) (v1 := (.slice (some ⟨go56, 0, none⟩) x12_4.length co56)) (ok := (fun k_ => some k_ ≠ (.slice (some ⟨go53, 0, none⟩) x10_4.length co58 : Value).ownBlock)) (by (repeat apply rl1); exact Kd.R_mono HO_11.out (fun _ hk => ⟨hk.2, hk.1⟩)) hg (.inl rfl)); have n2_ := Aside0.mk (hp_); have n3_ := Aside0.mk (blk_grown (g := gb149) (o := .cells #[.int .i64 a0_0, .int .i64 a0_1, .slice A0_2 l0_2.length c0_2] 29 (0, 0)) (bk BK149.out) hg (Kd.R_ne HO_12.out BK149.out (by decide))); have n4_ := Aside0.mk ((by rw [hw]; exact below_set (HB.out) GB56.out : Below w.heap.size w w64)); clear HO_10; clear HO_11; clear HO_12; clear BK149; clear HB; have HO_10 := n0_; have HO_11 := n1_; have HO_12 := n2_; have BK149 := n3_; have HB := n4_; clear n0_ n1_ n2_ n3_ n4_; clear hg hw hp_)); try go_wp2_with (first | ((with_reducible refine gate_store (t := 3) (p := 107) rfl ?_); (try (rw [drewN_self wr]; generalize hq_ : World.drewN wr _ = wr; have n0_ := Aside0.mk (Kd.R_at hq_ HO_10.out); have n1_ := Aside0.mk (Kd.R_at hq_ HO_11.out); have n2_ := Aside0.mk (Kd.R_at hq_ HO_12.out); have n3_ := Aside0.mk (blk_at hq_ BK149.out); have n4_ := Aside0.mk (below_at hq_ HB.out); clear hq_ HO_10 HO_11 HO_12 BK149 HB; have HO_10 := n0_; have HO_11 := n1_; have HO_12 := n2_; have BK149 := n3_; have HB := n4_; clear n0_ n1_ n2_ n3_ n4_; (try (have HP59 := Kd.R_putg HO_10.out (x15_4 : Int) (wrap64 ((rd x10_4 x15_4) + 1)))))); refine store_event (t := 3) (p := 107) (v := ?vo_w60) (w1 := (wr.setCell ⟨go53, (x15_4 : Int).toNat, none⟩ (.int .i64 (wrap64 ((rd x10_4 x15_4) + 1))))) ?hg ?ho ?hn ?hr ?_; (case ho => rfl); (case hg => rfl); (case hn => rfl); (case hr => first | (go_simp; done) | (go_simp; rfl)); intro w60 hw; have hg : wr.grownBy w60 (some go53) := (by rw [hw]; exact HP59.2); have hp_ : Kd.R (Kd.int .i64) 3 w60 w.heap.size (fun k_ => some k_ ≠ (.slice (some ad180) x11_4.length co57 : Value).ownBlock ∧ some k_ ≠ (v177 : Value).ownBlock) (.slice (some ⟨go53, 0, none⟩) x10_4.length co58) y182 := (by rw [hw, Ny182.out]; exact HP59.1); clear HP59; have n0_ := Aside0.mk (hp_); have n1_ := Aside0.mk (Kd.R_after (v := (.slice (some ⟨go53, 0, none⟩) x10_4.length co58)) (v1 := (.slice (some ⟨go53, 0, none⟩) x10_4.length co58)) (ok := (fun k_ => some k_ ≠ (v177 : Value).ownBlock)) (by (repeat apply rl1); exact Kd.R_mono HO_11.out (fun _ hk => ⟨hk.2, hk.1⟩)) hg (.inl rfl)); have n2_ := Aside0.mk (Kd.R_after (v := (.slice (some ⟨go53, 0, none⟩) x10_4.length co58)) (v1 := (.slice (some ⟨go53, 0, none⟩) x10_4.length co58)) (ok := (fun k_ => some k_ ≠ (.slice (some ad180) x11_4.length co57 : Value).ownBlock)) (by (repeat apply rl1); exact Kd.R_mono HO_12.out (fun _ hk => ⟨hk.2, hk.1⟩)) hg (.inl rfl)); have n3_ := Aside0.mk (blk_grown (g := gb149) (o := .cells #[.int .i64 a0_0, .int .i64 a0_1, .slice A0_2 l0_2.length c0_2] 29 (0, 0)) (bk BK149.out) hg (Kd.R_ne HO_10.out BK149.out (by decide))); have n4_ := Aside0.mk ((by rw [hw]; exact below_set (HB.out) GB53.out : Below w.heap.size w w60)); clear HO_10; clear HO_11; clear HO_12; clear BK149; clear HB; have HO_10 := n0_; have HO_11 := n1_; have HO_12 := n2_; have BK149 := n3_; have HB := n4_; clear n0_ n1_ n2_ n3_ n4_; clear hg hw hp_; have p183 : 0 ≤ (x15_4 : Int) := of_decide_eq_true (by first | (with_reducible assumption) | assumption); have q183 : x15_4 < (l1.length : Int) := of_decide_eq_true (by first | (with_reducible assumption) | assumption); obtain ⟨ad183, e183, hx183_0, hx183_1, hx183_2⟩ := at_T74 HR1.out x15_4 p183 q183; obtain rfl : ad179 = ad183 := (by injection e183); replace hx183_0 := (HB.out.cell (World.block_lt_of_cell? w _ hx183_0)).trans hx183_0; replace hx183_1 := (HB.out.cell (World.block_lt_of_cell? w _ hx183_1)).trans hx183_1; replace hx183_2 := (HB.out.cell (World.block_lt_of_cell? w _ hx183_2)).trans hx183_2; replace p183 := eq_true p183; replace q183 := eq_true q183; have p54 : 0 ≤ (x15_4 : Int) := of_decide_eq_true (by first | (with_reducible assumption) | assumption); have q54 : (x15_4 : Int) < ((x11_4.length : Int) : Int) := of_decide_eq_true (by first | (with_reducible assumption) | assumption); obtain ⟨go54, co54, eo54, gb54, gl54, cl54, HG54⟩ := Kd.R_form HO_11.out (by omega); (first | cases eo54 | (injection eo54 with ea_ en_ ec_; (first | subst ea_ | (injection ea_ with ea_; subst ea_)); subst ec_; clear en_)); have GB54 := Aside0.mk gb54; have GG54 := Aside0.mk HG54; clear gb54 gl54 HG54; (first | simp only [add_plain] at hx180_0 | skip); obtain ⟨hx54_0, hf54_0⟩ := Kd.R_celln 0 HO_11.out (x15_4 : Int) p54 q54; replace p54 := eq_true p54; replace q54 := eq_true q54; obtain ⟨hy61_, hz61_⟩ := Kd.R_celln 0 HO_11.out (x15_4 : Int) (of_decide_eq_true (by first | (with_reducible assumption) | assumption)) (of_decide_eq_true (by first | (with_reducible assumption) | assumption)); have HP61 := Kd.R_putg HO_11.out (x15_4 : Int) ((rd_T74 l1 x15_4).f2)) | ((with_reducible refine gate_store (t := 3) (p := 115) rfl ?_); (try (rw [drewN_self w60]; generalize hq_ : World.drewN w60 _ = w60; have n0_ := Aside0.mk (Kd.R_at hq_ HO_10.out); have n1_ := Aside0.mk (Kd.R_at hq_ HO_11.out); have n2_ := Aside0.mk (Kd.R_at hq_ HO_12.out); have n3_ := Aside0.mk (blk_at hq_ BK149.out); have n4_ := Aside0.mk (below_at hq_ HB.out); clear hq_ HO_10 HO_11 HO_12 BK149 HB; have HO_10 := n0_; have HO_11 := n1_; have HO_12 := n2_; have BK149 := n3_; have HB := n4_; clear n0_ n1_ n2_ n3_ n4_; (try (obtain ⟨hy61_, hz61_⟩ := Kd.R_celln 0 HO_11.out (x15_4 : Int) (of_decide_eq_true (by first | (with_reducible assumption) | assumption)) (of_decide_eq_true (by first | (with_reducible assumption) | assumption)))); (try (have HP61 := Kd.R_putg HO_11.out (x15_4 : Int) ((rd_T74 l1 x15_4).f2))))); refine store_event (t := 3) (p := 115) (v := ?vo_w62) (w1 := (w60.setCell ⟨go54, (x15_4 : Int).toNat, none⟩ (.int .i64 ((rd_T74 l1 x15_4).f2)))) ?hg ?ho ?hn ?hr ?_; (case ho => rfl); (case hg => rfl); (case hn => rfl); (case hr => first | (go_simp; done) | (go_simp; rfl)); intro w62 hw; have hg : w60.grownBy w62 (some go54) := (by rw [hw]; exact HP61.2); have hp_ : Kd.R (Kd.int .i64) 3 w62 w.heap.size (fun k_ => some k_ ≠ (v177 : Value).ownBlock ∧ some k_ ≠ (.slice (some ⟨go53, 0, none⟩) x10_4.length co58 : Value).ownBlock) (.slice (some ⟨go54, 0, none⟩) x11_4.length co57) y184 := (by rw [hw, Ny184.out]; exact HP61.1); clear HP61; have n0_ := Aside0.mk (Kd.R_after (v := (.slice (some ⟨go54, 0, none⟩) x11_4.length co57)) (v1 := (.slice (some ⟨go54, 0, none⟩) x11_4.length co57)) (ok := (fun k_ => some k_ ≠ (v177 : Value).ownBlock)) (by (repeat apply rl1); exact Kd.R_mono HO_10.out (fun _ hk => ⟨hk.2, hk.1⟩)) hg (.inl rfl)); have n1_ := Aside0.mk (hp_); have n2_ := Aside0.mk (Kd.R_after (v := (.slice (some ⟨go54, 0, none⟩) x11_4.length co57)) (v1 := (.slice (some ⟨go54, 0, none⟩) x11_4.length co57)) (ok := (fun k_ => some k_ ≠ (.slice (some ⟨go53, 0, none⟩) x10_4.length co58 : Value).ownBlock)) (by (repeat apply rl1); exact Kd.R_mono HO_12.out (fun _ hk => ⟨hk.2, hk.1⟩)) hg (.inl rfl)); have n3_ := Aside0.mk (blk_grown (g := gb149) (o := .cells #[.int .i64 a0_0, .int .i64 a0_1, .slice A0_2 l0_2.length c0_2] 29 (0, 0)) (bk BK149.out) hg (Kd.R_ne HO_11.out BK149.out (by decide))); have n4_ := Aside0.mk ((by rw [hw]; exact below_set (HB.out) GB54.out : Below w.heap.size w w62)); clear HO_10; clear HO_11; clear HO_12; clear BK149; clear HB; have HO_10 := n0_; have HO_11 := n1_; have HO_12 := n2_; have BK149 := n3_; have HB := n4_; clear n0_ n1_ n2_ n3_ n4_; clear hg hw hp_; have p56 : 0 ≤ (x15_4 : Int) := of_decide_eq_true (by first | (with_reducible assumption) | assumption); have q56 : (x15_4 : Int) < ((x12_4.length : Int) : Int) := of_decide_eq_true (by first | (with_reducible assumption) | assumption); obtain ⟨go56, co56, eo56, gb56, gl56, cl56, HG56⟩ := Kd.R_form HO_12.out (by omega); (first | cases eo56 | (injection eo56 with ea_ en_ ec_; (first | subst ea_ | (injection ea_ with ea_; subst ea_)); subst ec_; clear en_)); have GB56 := Aside0.mk gb56; have GG56 := Aside0.mk HG56; clear gb56 gl56 HG56; obtain ⟨hx56_0, hf56_0⟩ := Kd.R_celln 0 HO_12.out (x15_4 : Int) p56 q56; replace p56 := eq_true p56; replace q56 := eq_true q56; obtain ⟨hy63_, hz63_⟩ := Kd.R_celln 0 HO_12.out (x15_4 : Int) (of_decide_eq_true (by first | (with_reducible assumption) | assumption)) (of_decide_eq_true (by first | (with_reducible assumption) | assumption)); have HP63 := Kd.R_putg HO_12.out (x15_4 : Int) x14_3) | ((with_reducible refine gate_store (t := 3) (p := 119) rfl ?_); (try (rw [drewN_self w62]; generalize hq_ : World.drewN w62 _ = w62; have n0_ := Aside0.mk (Kd.R_at hq_ HO_10.out); have n1_ := Aside0.mk (Kd.R_at hq_ HO_11.out); have n2_ := Aside0.mk (Kd.R_at hq_ HO_12.out); have n3_ := Aside0.mk (blk_at hq_ BK149.out); have n4_ := Aside0.mk (below_at hq_ HB.out); clear hq_ HO_10 HO_11 HO_12 BK149 HB; have HO_10 := n0_; have HO_11 := n1_; have HO_12 := n2_; have BK149 := n3_; have HB := n4_; clear n0_ n1_ n2_ n3_ n4_; (try (obtain ⟨hy63_, hz63_⟩ := Kd.R_celln 0 HO_12.out (x15_4 : Int) (of_decide_eq_true (by first | (with_reducible assumption) | assumption)) (of_decide_eq_true (by first | (with_reducible assumption) | assumption)))); (try (have HP63 := Kd.R_putg HO_12.out (x15_4 : Int) x14_3)))); refine store_event (t := 3) (p := 119) (v := ?vo_w64) (w1 := (w62.setCell ⟨go56, (x15_4 : Int).toNat, none⟩ (.int .i64 x14_3))) ?hg ?ho ?hn ?hr ?_; (case ho => rfl); (case hg => rfl); (case hn => rfl); (case hr => first | (go_simp; done) | (go_simp; rfl)); intro w64 hw; have hg : w62.grownBy w64 (some go56) := (by rw [hw]; exact HP63.2); have hp_ : Kd.R (Kd.int .i64) 3 w64 w.heap.size (fun k_ => some k_ ≠ (.slice (some ⟨go53, 0, none⟩) x10_4.length co58 : Value).ownBlock ∧ some k_ ≠ (.slice (some ⟨go54, 0, none⟩) x11_4.length co57 : Value).ownBlock) (.slice (some ⟨go56, 0, none⟩) x12_4.length co56) y185 := (by rw [hw, Ny185.out]; exact HP63.1); clear HP63; have n0_ := Aside0.mk (Kd.R_after (v := (.slice (some ⟨go56, 0, none⟩) x12_4.length co56)) (v1 := (.slice (some ⟨go56, 0, none⟩) x12_4.length co56)) (ok := (fun k_ => some k_ ≠ (.slice (some ⟨go54, 0, none⟩) x11_4.length co57 : Value).ownBlock)) (by (repeat apply rl1); exact Kd.R_mono HO_10.out (fun _ hk => ⟨hk.2, hk.1⟩)) hg (.inl rfl)); have n1_ := Aside0.mk (Kd.R_after (v := (.slice (some ⟨go56, 0, none⟩) x12_4.length co56)) (v1 := (.slice (some ⟨go56, 0, none⟩) x12_4.length co56)) (ok := (fun k_ => some k_ ≠ (.slice (some ⟨go53, 0, none⟩) x10_4.length co58 : Value).ownBlock)) (by (repeat apply rl1); exact Kd.R_mono HO_11.out (fun _ hk => ⟨hk.2, hk.1⟩)) hg (.inl rfl)); have n2_ := Aside0.mk (hp_); have n3_ := Aside0.mk (blk_grown (g := gb149) (o := .cells #[.int .i64 a0_0, .int .i64 a0_1, .slice A0_2 l0_2.length c0_2] 29 (0, 0)) (bk BK149.out) hg (Kd.R_ne HO_12.out BK149.out (by decide))); have n4_ := Aside0.mk ((by rw [hw]; exact below_set (HB.out) GB56.out : Below w.heap.size w w64)); clear HO_10; clear HO_11; clear HO_12; clear BK149; clear HB; have HO_10 := n0_; have HO_11 := n1_; have HO_12 := n2_; have BK149 := n3_; have HB := n4_; clear n0_ n1_ n2_ n3_ n4_; clear hg hw hp_)))
                      go_roundg k4
                      case measure => have := HJ3.out; have := HK2.out; have := HK3.out; have := HK4.out; omega
                      case rel => exact ⟨(y182), (y184), (y185), (wrap64 (x15_4 + 1)), (by first | rfl | (simp; done) | (simp [*]; done)), H', ⟨by have := HJ3.out; have := HK2.out; have := HK3.out; have := HK4.out; omega⟩, ⟨rl HO_10.out⟩, ⟨rl HO_11.out⟩, ⟨rl HO_12.out⟩, ⟨bk BK149.out⟩, ⟨by repeat with_reducible first | exact bl HB.out | refine below_set ?_ GE149.out | refine bq ?_⟩⟩
                     ·
                      rw [if_neg c55] at H
                      exact absurd H (by simp)
                    ·
                     rw [if_neg c52] at H
                     exact absurd H (by simp)
                   ·
                    rw [if_neg c51] at H
                    have c51b0 : decide (0 < (rd x11_4 x15_4)) = false := decide_eq_false c51
                    clear c51
                    obtain ⟨y187, hy187⟩ : ∃ y_ : List Int, y_ = (x11_4.set (x15_4 : Int).toNat ((rd_T74 l1 x15_4).f2)) := ⟨_, rfl⟩
                    replace H : (if x15_4 < (x12_4.length : Int) then (spec_RunJobs.l2 k4 l1 a2 x10_4 y187 (x12_4.set (x15_4 : Int).toNat x14_3) x13_3 x14_3 (wrap64 (x15_4 + 1)) a0_0 a0_1 l0_2) else (none)) = some (r1, r2, r3) := by first | (rw [hy187]; with_reducible exact H) | (have H2_ := (Option.bind_some _ _).symm.trans H; rw [hy187]; with_reducible exact H2_) | (have H2_ := (Option.bind_some _ _).symm.trans H; with_reducible exact H2_) | with_reducible exact H | (rw [hy187]; exact H) | exact H
                    have Ny187 := Aside0.mk hy187
                    clear hy187
                    by_cases c66 : x15_4 < (x12_4.length : Int)
                    ·
                     rw [if_pos c66] at H
                     have c66b0 : decide (x15_4 < (x12_4.length : Int)) = true := decide_eq_true c66
                     clear c66
                     obtain ⟨y188, hy188⟩ : ∃ y_ : List Int, y_ = (x12_4.set (x15_4 : Int).toNat x14_3) := ⟨_, rfl⟩
                     replace H : (spec_RunJobs.l2 k4 l1 a2 x10_4 y187 y188 x13_3 x14_3 (wrap64 (x15_4 + 1)) a0_0 a0_1 l0_2) = some (r1, r2, r3) := by first | (rw [hy188]; with_reducible exact H) | (have H2_ := (Option.bind_some _ _).symm.trans H; rw [hy188]; with_reducible exact H2_) | (have H2_ := (Option.bind_some _ _).symm.trans H; with_reducible exact H2_) | with_reducible exact H | (rw [hy188]; exact H) | exact H
                     have Ny188 := Aside0.mk hy188
                     clear hy188
                     have H' := Aside0.mk H
                     clear H
                     have p179 : 0 ≤ (x15_4 : Int) := of_decide_eq_true (by first | (with_reducible assumption) | assumption)
                     have q179 : x15_4 < (l1.length : Int) := of_decide_eq_true (by first | (with_reducible assumption) | assumption)
                     obtain ⟨ad179, e179, hx179_0, hx179_1, hx179_2⟩ := at_T74 HR1.out x15_4 p179 q179
                     cases e179
                     replace hx179_0 := (HB.out.cell (World.block_lt_of_cell? w _ hx179_0)).trans hx179_0
                     replace hx179_1 := (HB.out.cell (World.block_lt_of_cell? w _ hx179_1)).trans hx179_1
                     replace hx179_2 := (HB.out.cell (World.block_lt_of_cell? w _ hx179_2)).trans hx179_2
                     replace p179 := eq_true p179
                     replace q179 := eq_true q179
                     obtain ⟨Ao68, co68, eo68⟩ := Kd.R_slice HO_11.out
                     subst eo68
                     have p180 : 0 ≤ (x15_4 : Int) := of_decide_eq_true (by first | (with_reducible assumption) | assumption)
                     have q180 : x15_4 < (x11_4.length : Int) := of_decide_eq_true (by first | (with_reducible assumption) | assumption)
                     obtain ⟨ad180, e180, hx180_0⟩ := Kd.at_int (Kd.R_reads' HO_11.out).2.2 x15_4 p180 q180
                     cases e180
                     replace p180 := eq_true p180
                     replace q180 := eq_true q180
                     have p186 : 0 ≤ (x15_4 : Int) := of_decide_eq_true (by first | (with_reducible assumption) | assumption)
                     have q186 : x15_4 < (l1.length : Int) := of_decide_eq_true (by first | (with_reducible assumption) | assumption)
                     obtain ⟨ad186, e186, hx186_0, hx186_1, hx186_2⟩ := at_T74 HR1.out x15_4 p186 q186
                     obtain rfl : ad179 = ad186 := (by injection e186)
                     replace hx186_0 := (HB.out.cell (World.block_lt_of_cell? w _ hx186_0)).trans hx186_0
                     replace hx186_1 := (HB.out.cell (World.block_lt_of_cell? w _ hx186_1)).trans hx186_1
                     replace hx186_2 := (HB.out.cell (World.block_lt_of_cell? w _ hx186_2)).trans hx186_2
                     replace p186 := eq_true p186
                     replace q186 := eq_true q186
                     have p65 : 0 ≤ (x15_4 : Int) := of_decide_eq_true (by first | (with_reducible assumption) | assumption)
                     have q65 : (x15_4 : Int) < ((x11_4.length : Int) : Int) := of_decide_eq_true (by first | (with_reducible assumption) | assumption)
                     obtain ⟨go65, co65, eo65, gb65, gl65, cl65, HG65⟩ := Kd.R_form HO_11.out (by omega)
                     (first | cases eo65 | (injection eo65 with ea_ en_ ec_; (first | subst ea_ | (injection ea_ with ea_; subst ea_)); subst ec_; clear en_))
                     have GB65 := Aside0.mk gb65
                     have GG65 := Aside0.mk HG65
                     clear gb65 gl65 HG65
                     (first | simp only [add_plain] at hx180_0 | skip)
                     obtain ⟨hx65_0, hf65_0⟩ := Kd.R_celln 0 HO_11.out (x15_4 : Int) p65 q65
                     replace p65 := eq_true p65
                     replace q65 := eq_true q65
                     have HP69 := Kd.R_putg HO_11.out (x15_4 : Int) ((rd_T74 l1 x15_4).f2)
                     go_wp2_with (first | ((with_reducible refine gate_store (t := 3) (p := 115) rfl ?_); (try (rw [drewN_self wr]; generalize hq_ : World.drewN wr _ = wr; have n0_ := Aside0.mk (Kd.R_at hq_ HO_10.out); have n1_ := Aside0.mk (Kd.R_at hq_ HO_11.out); have n2_ := Aside0.mk (Kd.R_at hq_ HO_12.out); have n3_ := Aside0.mk (blk_at hq_ BK149.out); have n4_ := Aside0.mk (below_at hq_ HB.out); clear hq_ HO_10 HO_11 HO_12 BK149 HB; have HO_10 := n0_; have HO_11 := n1_; have HO_12 := n2_; have BK149 := n3_; have HB := n4_; clear n0_ n1_ n2_ n3_ n4_; (try (have HP69 := Kd.R_putg HO_11.out (x15_4 : Int) ((rd_T74 l1 x15_4).f2))))); refine store_event (t := 3) (p := 115) (v := ?vo_w70) (w1 := (wr.setCell ⟨go65, (x15_4 : Int).toNat, none⟩ (.int .i64 ((rd_T74 l1 x15_4).f2)))) ?hg ?ho ?hn ?hr ?_; (case ho => rfl); (case hg => rfl); (case hn => rfl); (case hr => first | (go_simp; done) | (go_simp; rfl)); intro w70 hw; have hg : wr.grownBy w70 (some go65) := (by rw [hw]; exact HP69.2); have hp_ : Kd.R (Kd.int .i64) 3 w70 w.heap.size (fun k_ => some k_ ≠ (v171 : Value).ownBlock ∧ some k_ ≠ (v177 : Value).ownBlock) (.slice (some ⟨go65, 0, none⟩) x11_4.length co68) y187 := (by rw [hw, Ny187.out]; exact HP69.1); clear HP69; have n0_ := Aside0.mk (Kd.R_after (v := (.slice (some ⟨go65, 0, none⟩) x11_4.length co68)) (v1 := (.slice (some ⟨go65, 0, none⟩) x11_4.length co68)) (ok := (fun k_ => some k_ ≠ (v177 : Value).ownBlock)) (by (repeat apply rl1); exact Kd.R_mono HO_10.out (fun _ hk => ⟨hk.2, hk.1⟩)) hg (.inl rfl)); have n1_ := Aside0.mk (hp_); have n2_ := Aside0.mk (Kd.R_after (v := (.slice (some ⟨go65, 0, none⟩) x11_4.length co68)) (v1 := (.slice (some ⟨go65, 0, none⟩) x11_4.length co68)) (ok := (fun k_ => some k_ ≠ (v171 : Value).ownBlock)) (rl HO_12.out) hg (.inl rfl)); have n3_ := Aside0.mk (blk_grown (g := gb149) (o := .cells #[.int .i64 a0_0, .int .i64 a0_1, .slice A0_2 l0_2.length c0_2] 29 (0, 0)) (bk BK149.out) hg (Kd.R_ne HO_11.out BK149.out (by decide))); have n4_ := Aside0.mk ((by rw [hw]; exact below_set (HB.out) GB65.out : Below w.heap.size w w70)); clear HO_10; clear HO_11; clear HO_12; clear BK149; clear HB; have HO_10 := n0_; have HO_11 := n1_; have HO_12 := n2_; have BK149 := n3_; have HB := n4_; clear n0_ n1_ n2_ n3_ n4_; clear hg hw hp_; have p67 : 0 ≤ (x15_4 : Int) := of_decide_eq_true (by first | (with_reducible assumption) | assumption); have q67 : (x15_4 : Int) < ((x12_4.length : Int) : Int) := of_decide_eq_true (by first | (with_reducible assumption) | assumption); obtain ⟨go67, co67, eo67, gb67, gl67, cl67, HG67⟩ := Kd.R_form HO_12.out (by omega); (first | cases eo67 | (injection eo67 with ea_ en_ ec_; (first | subst ea_ | (injection ea_ with ea_; subst ea_)); subst ec_; clear en_)); have GB67 := Aside0.mk gb67; have GG67 := Aside0.mk HG67; clear gb67 gl67 HG67; obtain ⟨hx67_0, hf67_0⟩ := Kd.R_celln 0 HO_12.out (x15_4 : Int) p67 q67; replace p67 := eq_true p67; replace q67 := eq_true q67; obtain ⟨hy71_, hz71_⟩ := Kd.R_celln 0 HO_12.out (x15_4 : Int) (of_decide_eq_true (by first | (with_reducible assumption) | assumption)) (of_decide_eq_true (by first | (with_reducible assumption) | assumption)); have HP71 := Kd.R_putg HO_12.out (x15_4 : Int) x14_3) | ((with_reducible refine gate_store (t := 3) (p := 119) rfl ?_); (try (rw [drewN_self w70]; generalize hq_ : World.drewN w70 _ = w70; have n0_ := Aside0.mk (Kd.R_at hq_ HO_10.out); have n1_ := Aside0.mk (Kd.R_at hq_ HO_11.out); have n2_ := Aside0.mk (Kd.R_at hq_ HO_12.out); have n3_ := Aside0.mk (blk_at hq_ BK149.out); have n4_ := Aside0.mk (below_at hq_ HB.out); clear hq_ HO_10 HO_11 HO_12 BK149 HB; have HO_10 := n0_; have HO_11 := n1_; have HO_12 := n2_; have BK149 := n3_; have HB := n4_; clear n0_ n1_ n2_ n3_ n4_; (try (obtain ⟨hy71_, hz71_⟩ := Kd.R_celln 0 HO_12.out (x15_4 : Int) (of_decide_eq_true (by first | (with_reducible assumption) | assumption)) (of_decide_eq_true (by first | (with_reducible assumption) | assumption)))); (try (have HP71 := Kd.R_putg HO_12.out (x15_4 : Int) x14_3)))); refine store_event (t := 3) (p := 119) (v := ?vo_w72) (w1 := (w70.setCell ⟨go67, (x15_4 : Int).toNat, none⟩ (.int .i64 x14_3))) ?hg ?ho ?hn ?hr ?_; (case ho => rfl); (case hg => rfl); (case hn => rfl); (case hr => first | (go_simp; done) | (go_simp; rfl)); intro w72 hw; have hg : w70.grownBy w72 (some go67) := (by rw [hw]; exact HP71.2); have hp_ : Kd.R (Kd.int .i64) 3 w72 w.heap.size (fun k_ => some k_ ≠ (v171 : Value).ownBlock ∧ some k_ ≠ (.slice (some ⟨go65, 0, none⟩) x11_4.length co68 : Value).ownBlock) (.slice (some ⟨go67, 0, none⟩) x12_4.length co67) y188 := (by rw [hw, Ny188.out]; exact HP71.1); clear HP71; have n0_ := Aside0.mk (Kd.R_after (v := (.slice (some ⟨go67, 0, none⟩) x12_4.length co67)) (v1 := (.slice (some ⟨go67, 0, none⟩) x12_4.length co67)) (ok := (fun k_ => some k_ ≠ (.slice (some ⟨go65, 0, none⟩) x11_4.length co68 : Value).ownBlock)) (by (repeat apply rl1); exact Kd.R_mono HO_10.out (fun _ hk => ⟨hk.2, hk.1⟩)) hg (.inl rfl)); have n1_ := Aside0.mk (Kd.R_after (v := (.slice (some ⟨go67, 0, none⟩) x12_4.length co67)) (v1 := (.slice (some ⟨go67, 0, none⟩) x12_4.length co67)) (ok := (fun k_ => some k_ ≠ (v171 : Value).ownBlock)) (rl HO_11.out) hg (.inl rfl)); have n2_ := Aside0.mk (hp_); have n3_ := Aside0.mk (blk_grown (g := gb149) (o := .cells #[.int .i64 a0_0, .int .i64 a0_1, .slice A0_2 l0_2.length c0_2] 29 (0, 0)) (bk BK149.out) hg (Kd.R_ne HO_12.out BK149.out (by decide))); have n4_ := Aside0.mk ((by rw [hw]; exact below_set (HB.out) GB67.out : Below w.heap.size w w72)); clear HO_10; clear HO_11; clear HO_12; clear BK149; clear HB; have HO_10 := n0_; have HO_11 := n1_; have HO_12 := n2_; have BK149 := n3_; have HB := n4_; clear n0_ n1_ n2_ n3_ n4_; clear hg hw hp_))
                     repeat (go_quiet (first | ((with_reducible refine gate_store (t := 3) (p := 115) rfl ?_); (try (rw [drewN_self wr]; generalize hq_ : World.drewN wr _ = wr; have n0_ := Aside0.mk (Kd.R_at hq_ HO_10.out); have n1_ := Aside0.mk (Kd.R_at hq_ HO_11.out); have n2_ := Aside0.mk (Kd.R_at hq_ HO_12.out); have n3_ := Aside0.mk (blk_at hq_ BK149.out); have n4_ := Aside0.mk (below_at hq_ HB.out); clear hq_ HO_10 HO_11 HO_12 BK149 HB; have HO_10 := n0_; have HO_11 := n1_; have HO_12 := n2_; have BK149 := n3_; have HB := n4_; clear n0_ n1_ n2_ n3_ n4_; (try (have HP69 := Kd.R_putg HO_11.out (x15_4 : Int) ((rd_T74 l1 x15_4).f2))))); refine store_event (t := 3) (p := 115) (v := ?vo_w70) (w1 := (wr.setCell ⟨go65, (x15_4 : Int).toNat, none⟩ (.int .i64 ((rd_T74 l1 x15_4).f2)))) ?hg ?ho ?hn ?hr ?_; (case ho => rfl); (case hg => rfl); (case hn => rfl); (case hr => first | (go_simp; done) | (go_simp; rfl)); intro w70 hw; have hg : wr.grownBy w70 (some go65) := (by rw [hw]; exact HP69.2); have hp_ : Kd.R (Kd.int .i64) 3 w70 w.heap.size (fun k_ => some k_ ≠ (v171 : Value).ownBlock ∧ some k_ ≠ (v177 : Value).ownBlock) (.slice (some ⟨go65, 0, none⟩) x11_4.length co68) y187 := (by rw [hw, Ny187.out]; exact HP69.1); clear HP69; have n0_ := Aside0.mk (Kd.R_after (v := (.slice (some ⟨go65, 0, none⟩) x11_4.length co68)) (v1 := (.slice (some ⟨go65, 0, none⟩) x11_4.length co68)) (ok := (fun k_ => some k_ ≠ (v177 : Value).ownBlock)) (by (repeat apply rl1); exact Kd.R_mono HO_10.out (fun _ hk => ⟨hk.2, hk.1⟩)) hg (.inl rfl)); have n1_ := Aside0.mk (hp_); have n2_ := Aside0.mk (Kd.R_after (v := (.slice (some ⟨go65, 0, none⟩) x11_4.length co68)) (v1 := (.slice (some ⟨go65, 0, none⟩) x11_4.length co68)) (ok := (fun k_ => some k_ ≠ (v171 : Value).ownBlock)) (rl HO_12.out) hg (.inl rfl)); have n3_ := Aside0.mk (blk_grown (g := gb149) (o := .cells #[.int .i64 a0_0, .int .i64 a0_1, .slice A0_2 l0_2.length c0_2] 29 (0, 0)) (bk BK149.out) hg (Kd.R_ne HO_11.out BK149.out (by decide))); have n4_ := Aside0.mk ((by rw [hw]; exact below_set (HB.out) GB65.out : Below w.heap.size w w70)); clear HO_10; clear HO_11; clear HO_12; clear BK149; clear HB; have HO_10 := n0_; have HO_11 := n1_; have HO_12 := n2_; have BK149 := n3_; have HB := n4_; clear n0_ n1_ n2_ n3_ n4_; clear hg hw hp_; have p67 : 0 ≤ (x15_4 : Int) := of_decide_eq_true (by first | (with_reducible assumption) | assumption); have q67 : (x15_4 : Int) < ((x12_4.length : Int) : Int) := of_decide_eq_true (by first | (with_reducible assumption) | assumption); obtain ⟨go67, co67, eo67, gb67, gl67, cl67, HG67⟩ := Kd.R_form HO_12.out (by omega); (first | cases eo67 | (injection eo67 with ea_ en_ ec_; (first | subst ea_ | (injection ea_ with ea_; subst ea_)); subst ec_; clear en_)); have GB67 := Aside0.mk gb67; have GG67 := Aside0.mk HG67; clear gb67 gl67 HG67; obtain ⟨hx67_0, hf67_0⟩ := Kd.R_celln 0 HO_12.out (x15_4 : Int) p67 q67; replace p67 := eq_true p67; replace q67 := eq_true q67; obtain ⟨hy71_, hz71_⟩ := Kd.R_celln 0 HO_12.out (x15_4 : Int) (of_decide_eq_true (by first | (with_reducible assumption) | assumption)) (of_decide_eq_true (by first | (with_reducible assumption) | assumption)); have HP71 := Kd.R_putg HO_12.out (x15_4 : Int) x14_3) | ((with_reducible refine gate_store (t := 3) (p := 119) rfl ?_); (try (rw [drewN_self w70]; generalize hq_ : World.drewN w70 _ = w70; have n0_ := Aside0.mk (Kd.R_at hq_ HO_10.out); have n1_ := Aside0.mk (Kd.R_at hq_ HO_11.out); have n2_ := Aside0.mk (Kd.R_at hq_ HO_12.out); have n3_ := Aside0.mk (blk_at hq_ BK149.out); have n4_ := Aside0.mk (below_at hq_ HB.out); clear hq_ HO_10 HO_11 HO_12 BK149 HB; have HO_10 := n0_; have HO_11 := n1_; have HO_12 := n2_; have BK149 := n3_; have HB := n4_; clear n0_ n1_ n2_ n3_ n4_; (try (obtain ⟨hy71_, hz71_⟩ := Kd.R_celln 0 HO_12.out (x15_4 : Int) (of_decide_eq_true (by first | (with_reducible assumption) | assumption)) (of_decide_eq_true (by first | (with_reducible assumption) | assumption)))); (try (have HP71 := Kd.R_putg HO_12.out (x15_4 : Int) x14_3)))); refine store_event (t := 3) (p := 119) (v := ?vo_w72) (w1 := (w70.setCell ⟨go67, (x15_4 : Int).toNat, none⟩ (.int .i64 x14_3))) ?hg ?ho ?hn ?hr ?_; (case ho => rfl); (case hg => rfl); (case hn => rfl); (case hr => first | (go_simp; done) | (go_simp; rfl)); intro w72 hw; have hg : w70.grownBy w72 (some go67) := (by rw [hw]; exact HP71.2); have hp_ : Kd.R (Kd.int .i64) 3 w72 w.heap.size (fun k_ => some k_ ≠ (v171 : Value).ownBlock ∧ some k_ ≠ (.slice (some ⟨go65, 0, none⟩) x11_4.length co68 : Value).ownBlock) (.slice (some ⟨go67, 0, none⟩) x12_4.length co67) y188 := (by rw [hw, Ny188.out]; exact HP71.1); clear HP71; have n0_ := Aside0.mk (Kd.R_after (v := (.slice (some ⟨go67, 0, none⟩) x12_4.length co67)) (v1 := (.slice (some ⟨go67, 0, none⟩) x12_4.length co67)) (ok := (fun k_ => some k_ ≠ (.slice (some ⟨go65, 0, none⟩) x11_4.length co68 : Value).ownBlock)) (by (repeat apply rl1); exact Kd.R_mono HO_10.out (fun _ hk => ⟨hk.2, hk.1⟩)) hg (.inl rfl)); have n1_ := Aside0.mk (Kd.R_after (v := (.slice (some ⟨go67, 0, none⟩) x12_4.length co67)) (v1 := (.slice (some ⟨go67, 0, none⟩) x12_4.length co67)) (ok := (fun k_ => some k_ ≠ (v171 : Value).ownBlock)) (rl HO_11.out) hg (.inl rfl)); have n2_ := Aside0.mk (hp_); have n3_ := Aside0.mk (blk_grown (g := gb149) (o := .cells #[.int .i64 a0_0, .int .i64 a0_1, .slice A0_2 l0_2.length c0_2] 29 (0, 0)) (bk BK149.out) hg (Kd.R_ne HO_12.out BK149.out (by decide))); have n4_ := Aside0.mk ((by rw [hw]; exact below_set (HB.out) GB67.out : Below w.heap.size w w72)); clear HO_10; clear HO_11; clear HO_12; clear BK149; clear HB; have HO_10 := n0_; have HO_11 := n1_; have HO_12 := n2_; have BK149 := n3_; have HB := n4_; clear n0_ n1_ n2_ n3_ n4_; clear hg hw hp_)); try go_wp2_with (first | ((with_reducible refine gate_store (t := 3) (p := 115) rfl ?_); (try (rw [drewN_self wr]; generalize hq_ : World.drewN wr _ = wr; have n0_ := Aside0.mk (Kd.R_at hq_ HO_10.out); have n1_ := Aside0.mk (Kd.R_at hq_ HO_11.out); have n2_ := Aside0.mk (Kd.R_at hq_ HO_12.out); have n3_ := Aside0.mk (blk_at hq_ BK149.out); have n4_ := Aside0.mk (below_at hq_ HB.out); clear hq_ HO_10 HO_11 HO_12 BK149 HB; have HO_10 := n0_; have HO_11 := n1_; have HO_12 := n2_; have BK149 := n3_; have HB := n4_; clear n0_ n1_ n2_ n3_ n4_; (try (have HP69 := Kd.R_putg HO_11.out (x15_4 : Int) ((rd_T74 l1 x15_4).f2))))); refine store_event (t := 3) (p := 115) (v := ?vo_w70) (w1 := (wr.setCell ⟨go65, (x15_4 : Int).toNat, none⟩ (.int .i64 ((rd_T74 l1 x15_4).f2)))) ?hg ?ho ?hn ?hr ?_; (case ho => rfl); (case hg => rfl); (case hn => rfl); (case hr => first | (go_simp; done) | (go_simp; rfl)); intro w70 hw; have hg : wr.grownBy w70 (some go65) := (by rw [hw]; exact HP69.2); have hp_ : Kd.R (Kd.int .i64) 3 w70 w.heap.size (fun k_ => some k_ ≠ (v171 : Value).ownBlock ∧ some k_ ≠ (v177 : Value).ownBlock) (.slice (some ⟨go65, 0, none⟩) x11_4.length co68) y187 := (by rw [hw, Ny187.out]; exact HP69.1); clear HP69; have n0_ := Aside0.mk (Kd.R_after (v := (.slice (some ⟨go65, 0, none⟩) x11_4.length co68)) (v1 := (.slice (some ⟨go65, 0, none⟩) x11_4.length co68)) (ok := (fun k_ => some k_ ≠ (v177 : Value).ownBlock)) (by (repeat apply rl1); exact Kd.R_mono HO_10.out (fun _ hk => ⟨hk.2, hk.1⟩)) hg (.inl rfl)); have n1_ := Aside0.mk (hp_); have n2_ := Aside0.mk (Kd.R_after (v := (.slice (some ⟨go65, 0, none⟩) x11_4.length co68)) (v1 := (.slice (some ⟨go65, 0, none⟩) x11_4.length co68)) (ok := (fun k_ => some k_ ≠ (v171 : Value).ownBlock)) (rl HO_12.out) hg (.inl rfl)); have n3_ := Aside0.mk (blk_grown (g := gb149) (o := .cells #[.int .i64 a0_0, .int .i64 a0_1, .slice A0_2 l0_2.length c0_2] 29 (0, 0)) (bk BK149.out) hg (Kd.R_ne HO_11.out BK149.out (by decide))); have n4_ := Aside0.mk ((by rw [hw]; exact below_set (HB.out) GB65.out : Below w.heap.size w w70)); clear HO_10; clear HO_11; clear HO_12; clear BK149; clear HB; have HO_10 := n0_; have HO_11 := n1_; have HO_12 := n2_; have BK149 := n3_; have HB := n4_; clear n0_ n1_ n2_ n3_ n4_; clear hg hw hp_; have p67 : 0 ≤ (x15_4 : Int) := of_decide_eq_true (by first | (with_reducible assumption) | assumption); have q67 : (x15_4 : Int) < ((x12_4.length : Int) : Int) := of_decide_eq_true (by first | (with_reducible assumption) | assumption); obtain ⟨go67, co67, eo67, gb67, gl67, cl67, HG67⟩ := Kd.R_form HO_12.out (by omega); (first | cases eo67 | (injection eo67 with ea_ en_ ec_; (first | subst ea_ | (injection ea_ with ea_; subst ea_)); subst ec_; clear en_)); have GB67 := Aside0.mk gb67; have GG67 := Aside0.mk HG67; clear gb67 gl67 HG67; obtain ⟨hx67_0, hf67_0⟩ := Kd.R_celln 0 HO_12.out (x15_4 : Int) p67 q67; replace p67 := eq_true p67; replace q67 := eq_true q67; obtain ⟨hy71_, hz71_⟩ := Kd.R_celln 0 HO_12.out (x15_4 : Int) (of_decide_eq_true (by first | (with_reducible assumption) | assumption)) (of_decide_eq_true (by first | (with_reducible assumption) | assumption)); have HP71 := Kd.R_putg HO_12.out (x15_4 : Int) x14_3) | ((with_reducible refine gate_store (t := 3) (p := 119) rfl ?_); (try (rw [drewN_self w70]; generalize hq_ : World.drewN w70 _ = w70; have n0_ := Aside0.mk (Kd.R_at hq_ HO_10.out); have n1_ := Aside0.mk (Kd.R_at hq_ HO_11.out); have n2_ := Aside0.mk (Kd.R_at hq_ HO_12.out); have n3_ := Aside0.mk (blk_at hq_ BK149.out); have n4_ := Aside0.mk (below_at hq_ HB.out); clear hq_ HO_10 HO_11 HO_12 BK149 HB; have HO_10 := n0_; have HO_11 := n1_; have HO_12 := n2_; have BK149 := n3_; have HB := n4_; clear n0_ n1_ n2_ n3_ n4_; (try (obtain ⟨hy71_, hz71_⟩ := Kd.R_celln 0 HO_12.out (x15_4 : Int) (of_decide_eq_true (by first | (with_reducible assumption) | assumption)) (of_decide_eq_true (by first | (with_reducible assumption) | assumption)))); (try (have HP71 := Kd.R_putg HO_12.out (x15_4 : Int) x14_3)))); refine store_event (t := 3) (p := 119) (v := ?vo_w72) (w1 := (w70.setCell ⟨go67, (x15_4 : Int).toNat, none⟩ (.int .i64 x14_3))) ?hg ?ho ?hn ?hr ?_; (case ho => rfl); (case hg => rfl); (case hn => rfl); (case hr => first | (go_simp; done) | (go_simp; rfl)); intro w72 hw; have hg : w70.grownBy w72 (some go67) := (by rw [hw]; exact HP71.2); have hp_ : Kd.R (Kd.int .i64) 3 w72 w.heap.size (fun k_ => some k_ ≠ (v171 : Value).ownBlock ∧ some k_ ≠ (.slice (some ⟨go65, 0, none⟩) x11_4.length co68 : Value).ownBlock) (.slice (some ⟨go67, 0, none⟩) x12_4.length co67) y188 := (by rw [hw, Ny188.out]; exact HP71.1); clear HP71; have n0_ := Aside0.mk (Kd.R_after (v := (.slice (some ⟨go67, 0, none⟩) x12_4.length co67)) (v1 := (.slice (some ⟨go67, 0, none⟩) x12_4.length co67)) (ok := (fun k_ => some k_ ≠ (.slice (some ⟨go65, 0, none⟩) x11_4.length co68 : Value).ownBlock)) (by (repeat apply rl1); exact Kd.R_mono HO_10.out (fun _ hk => ⟨hk.2, hk.1⟩)) hg (.inl rfl)); have n1_ := Aside0.mk (Kd.R_after (v := (.slice (some ⟨go67, 0, none⟩) x12_4.length co67)) (v1 := (.slice (some ⟨go67, 0, none⟩) x12_4.length co67)) (ok := (fun k_ => some k_ ≠ (v171 : Value).ownBlock)) (rl HO_11.out) hg (.inl rfl)); have n2_ := Aside0.mk (hp_); have n3_ := Aside0.mk (blk_grown (g := gb149) (o := .cells #[.int .i64 a0_0, .int .i64 a0_1, .slice A0_2 l0_2.length c0_2] 29 (0, 0)) (bk BK149.out) hg (Kd.R_ne HO_12.out BK149.out (by decide))); have n4_ := Aside0.mk ((by rw [hw]; exact below_set (HB.out) GB67.out : Below w.heap.size w w72)); clear HO_10; clear HO_11; clear HO_12; clear BK149; clear HB; have HO_10 := n0_; have HO_11 := n1_; have HO_12 := n2_; have BK149 := n3_; have HB := n4_; clear n0_ n1_ n2_ n3_ n4_; clear hg hw hp_)))
                     go_roundg k4
                     case measure => have := HJ3.out; have := HK2.out; have := HK3.out; have := HK4.out; omega
                     case rel => exact ⟨(x10_4), (y187), (y188), (wrap64 (x15_4 + 1)), (by first | rfl | (simp; done) | (simp [*]; done)), H', ⟨by have := HJ3.out; have := HK2.out; have := HK3.out; have := HK4.out; omega⟩, ⟨rl HO_10.out⟩, ⟨rl HO_11.out⟩, ⟨rl HO_12.out⟩, ⟨bk BK149.out⟩, ⟨by repeat with_reducible first | exact bl HB.out | refine below_set ?_ GE149.out | refine bq ?_⟩⟩
                    ·
                     rw [if_neg c66] at H
                     exact absurd H (by simp)
                  ·
                   rw [if_neg c50] at H
                   exact absurd H (by simp)
                 ·
                  rw [if_neg c49] at H
                  have c49b0 : ((Int.tmod x14_3 ((rd_T74 l1 x15_4).f1)) == 0) = false := beq_eq_false_iff_ne.mpr c49
                  have c49b1 : ((Int.tmod x14_3 ((rd_T74 l1 x15_4).f1)) != 0) = true := bne_iff_ne.mpr c49
                  have H' := Aside0.mk H
                  clear H
                  have p179 : 0 ≤ (x15_4 : Int) := of_decide_eq_true (by first | (with_reducible assumption) | assumption)
                  have q179 : x15_4 < (l1.length : Int) := of_decide_eq_true (by first | (with_reducible assumption) | assumption)
                  obtain ⟨ad179, e179, hx179_0, hx179_1, hx179_2⟩ := at_T74 HR1.out x15_4 p179 q179
                  cases e179
                  replace hx179_0 := (HB.out.cell (World.block_lt_of_cell? w _ hx179_0)).trans hx179_0
                  replace hx179_1 := (HB.out.cell (World.block_lt_of_cell? w _ hx179_1)).trans hx179_1
                  replace hx179_2 := (HB.out.cell (World.block_lt_of_cell? w _ hx179_2)).trans hx179_2
                  replace p179 := eq_true p179
                  replace q179 := eq_true q179
                  go_wp2
                  repeat (go_quiet (fail); try go_wp2)
                  go_roundg k4
                  case measure => have := HJ3.out; have := HK2.out; have := HK3.out; have := HK4.out; omega
                  case rel => exact ⟨(x10_4), (x11_4), (x12_4), (wrap64 (x15_4 + 1)), (by first | rfl | (simp; done) | (simp [*]; done)), H', ⟨by have := HJ3.out; have := HK2.out; have := HK3.out; have := HK4.out; omega⟩, ⟨rl HO_10.out⟩, ⟨rl HO_11.out⟩, ⟨rl HO_12.out⟩, ⟨bk BK149.out⟩, ⟨by repeat with_reducible first | exact bl HB.out | refine below_set ?_ GE149.out | refine bq ?_⟩⟩
               ·
                rw [if_neg c47] at H
                exact absurd H (by simp)
              ·
               rw [if_neg c46] at H
               have c46b0 : decide (x15_4 < (l1.length : Int)) = false := decide_eq_false c46
               clear c46
               replace H := Option.bind_eq_some_iff.mp H
               obtain ⟨⟨t189, t190⟩, A730, H⟩ := H
               replace H : (spec_RunJobs.l3 k4 l1 a2 x10_4 x11_4 x12_4 x13_3 x14_3 t189 (-1) 0 a0_0 a0_1 l0_2) = some (r1, r2, r3) := H
               have A73 := Aside0.mk A730
               clear A730
               have H' := Aside0.mk H
               clear H
               have hcz74_0 := ck (v := .int .i64 a0_0) BK149.out 0 rfl
               have hcz74_1 := ck (v := .int .i64 a0_1) BK149.out 1 rfl
               have hcz74_2 := ck (v := .slice A0_2 l0_2.length c0_2) BK149.out 2 rfl
               have hfz74_0 := blk_frozen BK149.out 0
               have hfz74_1 := blk_frozen BK149.out 1
               have hfz74_2 := blk_frozen BK149.out 2
               go_wp2_with (first | (go_at_call 14; (with_reducible refine (spec_Owner.calls k4 a0_0 a0_1 _ _ l0_2 x14_3 t189 t190 _ ?side1 ?side2 A73.out).mono ?_); (case side1 => exact rc (Kd.C_below HR0_2.out HB.out)); (case side2 => exact HC0_2.out); rintro e w75 ⟨rfl, hb⟩; have n0_ := Aside0.mk (Kd.R_below (rl HO_10.out) hb); have n1_ := Aside0.mk (Kd.R_below (rl HO_11.out) hb); have n2_ := Aside0.mk (Kd.R_below (rl HO_12.out) hb); have n3_ := Aside0.mk (blk_below (bk BK149.out) hb); have n4_ := Aside0.mk (below_step (by repeat with_reducible first | exact bl HB.out | refine below_set ?_ GE149.out | refine bq ?_) hb); clear HO_10; clear HO_11; clear HO_12; clear BK149; clear HB; have HO_10 := n0_; have HO_11 := n1_; have HO_12 := n2_; have BK149 := n3_; have HB := n4_; clear n0_ n1_ n2_ n3_ n4_; (try clear hb); (try clear hb2); (try clear hk); (try clear hi)))
               repeat (go_quiet (first | (go_at_call 14; (with_reducible refine (spec_Owner.calls k4 a0_0 a0_1 _ _ l0_2 x14_3 t189 t190 _ ?side1 ?side2 A73.out).mono ?_); (case side1 => exact rc (Kd.C_below HR0_2.out HB.out)); (case side2 => exact HC0_2.out); rintro e w75 ⟨rfl, hb⟩; have n0_ := Aside0.mk (Kd.R_below (rl HO_10.out) hb); have n1_ := Aside0.mk (Kd.R_below (rl HO_11.out) hb); have n2_ := Aside0.mk (Kd.R_below (rl HO_12.out) hb); have n3_ := Aside0.mk (blk_below (bk BK149.out) hb); have n4_ := Aside0.mk (below_step (by repeat with_reducible first | exact bl HB.out | refine below_set ?_ GE149.out | refine bq ?_) hb); clear HO_10; clear HO_11; clear HO_12; clear BK149; clear HB; have HO_10 := n0_; have HO_11 := n1_; have HO_12 := n2_; have BK149 := n3_; have HB := n4_; clear n0_ n1_ n2_ n3_ n4_; (try clear hb); (try clear hb2); (try clear hk); (try clear hi))); try go_wp2_with (first | (go_at_call 14; (with_reducible refine (spec_Owner.calls k4 a0_0 a0_1 _ _ l0_2 x14_3 t189 t190 _ ?side1 ?side2 A73.out).mono ?_); (case side1 => exact rc (Kd.C_below HR0_2.out HB.out)); (case side2 => exact HC0_2.out); rintro e w75 ⟨rfl, hb⟩; have n0_ := Aside0.mk (Kd.R_below (rl HO_10.out) hb); have n1_ := Aside0.mk (Kd.R_below (rl HO_11.out) hb); have n2_ := Aside0.mk (Kd.R_below (rl HO_12.out) hb); have n3_ := Aside0.mk (blk_below (bk BK149.out) hb); have n4_ := Aside0.mk (below_step (by repeat with_reducible first | exact bl HB.out | refine below_set ?_ GE149.out | refine bq ?_) hb); clear HO_10; clear HO_11; clear HO_12; clear BK149; clear HB; have HO_10 := n0_; have HO_11 := n1_; have HO_12 := n2_; have BK149 := n3_; have HB := n4_; clear n0_ n1_ n2_ n3_ n4_; (try clear hb); (try clear hb2); (try clear hk); (try clear hi))))
               go_loopg [18, 19] k4 (fun kq v18 v19 w' => ∃ (x18_5 : Int) (x19_5 : Int), v18 = .int .i64 x18_5 ∧ v19 = .int .i64 x19_5 ∧ Aside0 (spec_RunJobs.l3 kq l1 a2 x10_4 x11_4 x12_4 x13_3 x14_3 t189 x18_5 x19_5 a0_0 a0_1 l0_2 = some (r1, r2, r3)) ∧ Aside0 (kq ≤ k4) ∧ Aside0 (Kd.R (Kd.int .i64) 3 w' w.heap.size (fun k_ => some k_ ≠ (v174 : Value).ownBlock ∧ some k_ ≠ (v177 : Value).ownBlock) v171 x10_4) ∧ Aside0 (Kd.R (Kd.int .i64) 3 w' w.heap.size (fun k_ => some k_ ≠ (v171 : Value).ownBlock ∧ some k_ ≠ (v177 : Value).ownBlock) v174 x11_4) ∧ Aside0 (Kd.R (Kd.int .i64) 3 w' w.heap.size (fun k_ => some k_ ≠ (v171 : Value).ownBlock ∧ some k_ ≠ (v174 : Value).ownBlock) v177 x12_4) ∧ Aside0 (w'.heap[gb149]? = some (.cells #[.int .i64 a0_0, .int .i64 a0_1, (.slice A0_2 l0_2.length c0_2)] 29 (0, 0))) ∧ Aside0 (Below w.heap.size w w'))
               case atStart => exact ⟨((-1)), (0), (by first | rfl | (simp; done) | (simp [*]; done)), (by first | rfl | (simp; done) | (simp [*]; done)), H', ⟨Nat.le_refl _⟩, ⟨rl HO_10.out⟩, ⟨rl HO_11.out⟩, ⟨rl HO_12.out⟩, ⟨bk BK149.out⟩, ⟨by repeat with_reducible first | exact bl HB.out | refine below_set ?_ GE149.out | refine bq ?_⟩⟩
               case round =>
                clear H'
                try clear c1
                try clear p1
                try clear q1
                try clear hx1
                try clear c2
                try clear p2
                try clear c3
                try clear c4
                try clear c5
                try clear p5
                try clear q5
                try clear hx5
                try clear hf5
                try clear c6
                try clear p6
                try clear q6
                try clear hx6
                try clear hf6
                try clear c7
                try clear c8
                try clear c8b0
                try clear c8b1
                try clear p15
                try clear q15
                try clear hx15
                try clear c16
                try clear p17
                try clear q17
                try clear hx17
                try clear p18
                try clear q18
                try clear hx18
                try clear c19
                try clear c19b0
                try clear c20
                try clear c20b0
                try clear c22
                try clear c23
                try clear c24
                try clear c26
                try clear c37
                try clear c37b0
                try clear c37b1
                try clear c38
                try clear c38b0
                try clear c38b1
                try clear c45
                try clear c45b0
                try clear c46
                try clear c46b0
                try clear c47
                try clear c47b0
                try clear c48
                try clear c48b0
                try clear c48b1
                try clear c49
                try clear c49b0
                try clear c49b1
                try clear c50
                try clear c50b0
                try clear c51
                try clear c51b0
                try clear c52
                try clear c52b0
                try clear p53
                try clear q53
                try clear hx53
                try clear hf53
                try clear p54
                try clear q54
                try clear hx54
                try clear hf54
                try clear c55
                try clear c55b0
                try clear p56
                try clear q56
                try clear hx56
                try clear hf56
                try clear p64
                try clear p65
                try clear q65
                try clear hx65
                try clear hf65
                try clear c66
                try clear c66b0
                try clear p67
                try clear q67
                try clear hx67
                try clear hf67
                try clear hcz12_0
                try clear hcz12_1
                try clear hcz12_2
                try clear hcz14_0
                try clear hcz14_1
                try clear hcz14_2
                try clear hcz27_0
                try clear hcz27_1
                try clear hcz27_2
                try clear hcz28_0
                try clear hcz28_1
                try clear hcz28_2
                try clear hcz31_0
                try clear hcz31_1
                try clear hcz31_2
                try clear hcz34_0
                try clear hcz34_1
                try clear hcz34_2
                try clear hcz74_0
                try clear hcz74_1
                try clear hcz74_2
                try clear hcz9_0
                try clear hcz9_1
                try clear hcz9_2
                try clear hfz12_0
                try clear hfz12_1
                try clear hfz12_2
                try clear hfz14_0
                try clear hfz14_1
                try clear hfz14_2
                try clear hfz27_0
                try clear hfz27_1
                try clear hfz27_2
                try clear hfz28_0
                try clear hfz28_1
                try clear hfz28_2
                try clear hfz31_0
                try clear hfz31_1
                try clear hfz31_2
                try clear hfz34_0
                try clear hfz34_1
                try clear hfz34_2
                try clear hfz74_0
                try clear hfz74_1
                try clear hfz74_2
                try clear hfz9_0
                try clear hfz9_1
                try clear hfz9_2
                try clear hx155_0
                try clear hx155_1
                try clear hx155_2
                try clear hx157_0
                try clear hx157_1
                try clear hx157_2
                try clear hx159_0
                try clear hx159_1
                try clear hx159_2
                try clear hx179_0
                try clear hx179_1
                try clear hx179_2
                try clear hx180_0
                try clear hx181_0
                try clear hx183_0
                try clear hx183_1
                try clear hx183_2
                try clear hx186_0
                try clear hx186_1
                try clear hx186_2
                try clear hx53_0
                try clear hx54_0
                try clear hx56_0
                try clear hx65_0
                try clear hx67_0
                try clear p1
                try clear p15
                try clear p155
                try clear p157
                try clear p159
                try clear p179
                try clear p180
                try clear p181
                try clear p183
                try clear p186
                try clear p2
                try clear p53
                try clear p54
                try clear p56
                try clear p6
                try clear p65
                try clear p67
                try clear q1
                try clear q15
                try clear q155
                try clear q157
                try clear q159
                try clear q179
                try clear q180
                try clear q181
                try clear q183
                try clear q186
                try clear q53
                try clear q54
                try clear q56
                try clear q65
                try clear q67
                obtain ⟨x18_5, x19_5, rfl, rfl, HA, HK5, HO_10, HO_11, HO_12, BK149, HB⟩ := hrel
                cases gk with
                | zero => exact absurd HA.out (by simp [spec_RunJobs.l3])
                | succ k5 =>
                 have H := HA.out
                 clear HA
                 simp only [spec_RunJobs.l3] at H
                 by_cases c76 : x19_5 < (l1.length : Int)
                 ·
                  rw [if_pos c76] at H
                  have c76b0 : decide (x19_5 < (l1.length : Int)) = true := decide_eq_true c76
                  clear c76
                  by_cases c77 : 0 ≤ x19_5
                  ·
                   rw [if_pos c77] at H
                   have c77b0 : decide (0 ≤ x19_5) = true := decide_eq_true c77
                   clear c77
                   by_cases c78 : ((rd_T74 l1 x19_5).f0) = t189
                   ·
                    rw [if_pos c78] at H
                    have c78b0 : (((rd_T74 l1 x19_5).f0) == t189) = true := beq_iff_eq.mpr c78
                    have c78b1 : (((rd_T74 l1 x19_5).f0) != t189) = false := bne_eq_false_iff_eq.mpr c78
                    clear c78
                    by_cases c79 : x19_5 < (x11_4.length : Int)
                    ·
                     rw [if_pos c79] at H
                     have c79b0 : decide (x19_5 < (x11_4.length : Int)) = true := decide_eq_true c79
                     clear c79
                     by_cases c80 : (rd x11_4 x19_5) > 0
                     ·
                      rw [if_pos c80] at H
                      have c80b0 : decide (0 < (rd x11_4 x19_5)) = true := decide_eq_true c80
                      clear c80
                      by_cases c81 : x18_5 < 0
                      ·
                       rw [if_pos c81] at H
                       have c81b0 : decide (x18_5 < 0) = true := decide_eq_true c81
                       clear c81
                       have H' := Aside0.mk H
                       clear H
                       have p191 : 0 ≤ (x19_5 : Int) := of_decide_eq_true (by first | (with_reducible assumption) | assumption)
                       have q191 : x19_5 < (l1.length : Int) := of_decide_eq_true (by first | (with_reducible assumption) | assumption)
                       obtain ⟨ad191, e191, hx191_0, hx191_1, hx191_2⟩ := at_T74 HR1.out x19_5 p191 q191
                       cases e191
                       replace hx191_0 := (HB.out.cell (World.block_lt_of_cell? w _ hx191_0)).trans hx191_0
                       replace hx191_1 := (HB.out.cell (World.block_lt_of_cell? w _ hx191_1)).trans hx191_1
                       replace hx191_2 := (HB.out.cell (World.block_lt_of_cell? w _ hx191_2)).trans hx191_2
                       replace p191 := eq_true p191
                       replace q191 := eq_true q191
                       obtain ⟨Ao82, co82, eo82⟩ := Kd.R_slice HO_11.out
                       subst eo82
                       have p192 : 0 ≤ (x19_5 : Int) := of_decide_eq_true (by first | (with_reducible assumption) | assumption)
                       have q192 : x19_5 < (x11_4.length : Int) := of_decide_eq_true (by first | (with_reducible assumption) | assumption)
                       obtain ⟨ad192, e192, hx192_0⟩ := Kd.at_int (Kd.R_reads' HO_11.out).2.2 x19_5 p192 q192
                       cases e192
                       replace p192 := eq_true p192
                       replace q192 := eq_true q192
                       go_wp2
                       repeat (go_quiet (fail); try go_wp2)
                       go_roundg k5
                       case measure => have := HJ3.out; have := HK2.out; have := HK3.out; have := HK4.out; have := HK5.out; omega
                       case rel => exact ⟨(x19_5), (wrap64 (x19_5 + 1)), (by first | rfl | (simp; done) | (simp [*]; done)), (by first | rfl | (simp; done) | (simp [*]; done)), H', ⟨by have := HJ3.out; have := HK2.out; have := HK3.out; have := HK4.out; have := HK5.out; omega⟩, ⟨rl HO_10.out⟩, ⟨rl HO_11.out⟩, ⟨rl HO_12.out⟩, ⟨bk BK149.out⟩, ⟨by repeat with_reducible first | exact bl HB.out | refine below_set ?_ GE149.out | refine bq ?_⟩⟩
                      ·
                       rw [if_neg c81] at H
                       have c81b0 : decide (x18_5 < 0) = false := decide_eq_false c81
                       clear c81
                       by_cases c83 : x19_5 < (x12_4.length : Int)
                       ·
                        rw [if_pos c83] at H
                        have c83b0 : decide (x19_5 < (x12_4.length : Int)) = true := decide_eq_true c83
                        clear c83
                        by_cases c84 : 0 ≤ x18_5
                        ·
                         rw [if_pos c84] at H
                         have c84b0 : decide (0 ≤ x18_5) = true := decide_eq_true c84
                         clear c84
                         by_cases c85 : x18_5 < (x12_4.length : Int)
                         ·
                          rw [if_pos c85] at H
                          have c85b0 : decide (x18_5 < (x12_4.length : Int)) = true := decide_eq_true c85
                          clear c85
                          by_cases c86 : (rd x12_4 x19_5) < (rd x12_4 x18_5)
                          ·
                           rw [if_pos c86] at H
                           have c86b0 : decide ((rd x12_4 x19_5) < (rd x12_4 x18_5)) = true := decide_eq_true c86
                           clear c86
                           have H' := Aside0.mk H
                           clear H
                           have p191 : 0 ≤ (x19_5 : Int) := of_decide_eq_true (by first | (with_reducible assumption) | assumption)
                           have q191 : x19_5 < (l1.length : Int) := of_decide_eq_true (by first | (with_reducible assumption) | assumption)
                           obtain ⟨ad191, e191, hx191_0, hx191_1, hx191_2⟩ := at_T74 HR1.out x19_5 p191 q191
                           cases e191
                           replace hx191_0 := (HB.out.cell (World.block_lt_of_cell? w _ hx191_0)).trans hx191_0
                           replace hx191_1 := (HB.out.cell (World.block_lt_of_cell? w _ hx191_1)).trans hx191_1
                           replace hx191_2 := (HB.out.cell (World.block_lt_of_cell? w _ hx191_2)).trans hx191_2
                           replace p191 := eq_true p191
                           replace q191 := eq_true q191
                           obtain ⟨Ao87, co87, eo87⟩ := Kd.R_slice HO_11.out
                           subst eo87
                           have p192 : 0 ≤ (x19_5 : Int) := of_decide_eq_true (by first | (with_reducible assumption) | assumption)
                           have q192 : x19_5 < (x11_4.length : Int) := of_decide_eq_true (by first | (with_reducible assumption) | assumption)
                           obtain ⟨ad192, e192, hx192_0⟩ := Kd.at_int (Kd.R_reads' HO_11.out).2.2 x19_5 p192 q192
                           cases e192
                           replace p192 := eq_true p192
                           replace q192 := eq_true q192
                           obtain ⟨Ao88, co88, eo88⟩ := Kd.R_slice HO_12.out
                           subst eo88
                           have p193 : 0 ≤ (x19_5 : Int) := of_decide_eq_true (by first | (with_reducible assumption) | assumption)
                           have q193 : x19_5 < (x12_4.length : Int) := of_decide_eq_true (by first | (with_reducible assumption) | assumption)
                           obtain ⟨ad193, e193, hx193_0⟩ := Kd.at_int (Kd.R_reads' HO_12.out).2.2 x19_5 p193 q193
                           cases e193
                           replace p193 := eq_true p193
                           replace q193 := eq_true q193
                           have p194 : 0 ≤ (x18_5 : Int) := of_decide_eq_true (by first | (with_reducible assumption) | assumption)
                           have q194 : x18_5 < (x12_4.length : Int) := of_decide_eq_true (by first | (with_reducible assumption) | assumption)
                           obtain ⟨ad194, e194, hx194_0⟩ := Kd.at_int (Kd.R_reads' HO_12.out).2.2 x18_5 p194 q194
                           obtain rfl : ad193 = ad194 := (by injection e194)
                           replace p194 := eq_true p194
                           replace q194 := eq_true q194
                           go_wp2
                           repeat (go_quiet (fail); try go_wp2)
                           go_roundg k5
                           case measure => have := HJ3.out; have := HK2.out; have := HK3.out; have := HK4.out; have := HK5.out; omega
                           case rel => exact ⟨(x19_5), (wrap64 (x19_5 + 1)), (by first | rfl | (simp; done) | (simp [*]; done)), (by first | rfl | (simp; done) | (simp [*]; done)), H', ⟨by have := HJ3.out; have := HK2.out; have := HK3.out; have := HK4.out; have := HK5.out; omega⟩, ⟨rl HO_10.out⟩, ⟨rl HO_11.out⟩, ⟨rl HO_12.out⟩, ⟨bk BK149.out⟩, ⟨by repeat with_reducible first | exact bl HB.out | refine below_set ?_ GE149.out | refine bq ?_⟩⟩
                          ·
                           rw [if_neg c86] at H
                           have c86b0 : decide ((rd x12_4 x19_5) < (rd x12_4 x18_5)) = false := decide_eq_false c86
                           clear c86
                           have H' := Aside0.mk H
                           clear H
                           have p191 : 0 ≤ (x19_5 : Int) := of_decide_eq_true (by first | (with_reducible assumption) | assumption)
                           have q191 : x19_5 < (l1.length : Int) := of_decide_eq_true (by first | (with_reducible assumption) | assumption)
                           obtain ⟨ad191, e191, hx191_0, hx191_1, hx191_2⟩ := at_T74 HR1.out x19_5 p191 q191
                           cases e191
                           replace hx191_0 := (HB.out.cell (World.block_lt_of_cell? w _ hx191_0)).trans hx191_0
                           replace hx191_1 := (HB.out.cell (World.block_lt_of_cell? w _ hx191_1)).trans hx191_1
                           replace hx191_2 := (HB.out.cell (World.block_lt_of_cell? w _ hx191_2)).trans hx191_2
                           replace p191 := eq_true p191
                           replace q191 := eq_true q191
                           obtain ⟨Ao89, co89, eo89⟩ := Kd.R_slice HO_11.out
                           subst eo89
                           have p192 : 0 ≤ (x19_5 : Int) := of_decide_eq_true (by first | (with_reducible assumption) | assumption)
                           have q192 : x19_5 < (x11_4.length : Int) := of_decide_eq_true (by first | (with_reducible assumption) | assumption)
                           obtain ⟨ad192, e192, hx192_0⟩ := Kd.at_int (Kd.R_reads' HO_11.out).2.2 x19_5 p192 q192
                           cases e192
                           replace p192 := eq_true p192
                           replace q192 := eq_true q192
                           obtain ⟨Ao90, co90, eo90⟩ := Kd.R_slice HO_12.out
                           subst eo90
                           have p193 : 0 ≤ (x19_5 : Int) := of_decide_eq_true (by first | (with_reducible assumption) | assumption)
                           have q193 : x19_5 < (x12_4.length : Int) := of_decide_eq_true (by first | (with_reducible assumption) | assumption)
                           obtain ⟨ad193, e193, hx193_0⟩ := Kd.at_int (Kd.R_reads' HO_12.out).2.2 x19_5 p193 q193
                           cases e193
                           replace p193 := eq_true p193
                           replace q193 := eq_true q193
                           have p194 : 0 ≤ (x18_5 : Int) := of_decide_eq_true (by first | (with_reducible assumption) | assumption)
                           have q194 : x18_5 < (x12_4.length : Int) := of_decide_eq_true (by first | (with_reducible assumption) | assumption)
                           obtain ⟨ad194, e194, hx194_0⟩ := Kd.at_int (Kd.R_reads' HO_12.out).2.2 x18_5 p194 q194
                           obtain rfl : ad193 = ad194 := (by injection e194)
                           replace p194 := eq_true p194
                           replace q194 := eq_true q194
                           go_wp2
                           repeat (go_quiet (fail); try go_wp2)
                           go_roundg k5
                           case measure => have := HJ3.out; have := HK2.out; have := HK3.out; have := HK4.out; have := HK5.out; omega
                           case rel => exact ⟨(x18_5), (wrap64 (x19_5 + 1)), (by first | rfl | (simp; done) | (simp [*]; done)), (by first | rfl | (simp; done) | (simp [*]; done)), H', ⟨by have := HJ3.out; have := HK2.out; have := HK3.out; have := HK4.out; have := HK5.out; omega⟩, ⟨rl HO_10.out⟩, ⟨rl HO_11.out⟩, ⟨rl HO_12.out⟩, ⟨bk BK149.out⟩, ⟨by repeat with_reducible first | exact bl HB.out | refine below_set ?_ GE149.out | refine bq ?_⟩⟩
                         ·
                          rw [if_neg c85] at H
                          exact absurd H (by simp)
                        ·
                         rw [if_neg c84] at H
                         exact absurd H (by simp)
                       ·
                        rw [if_neg c83] at H
                        exact absurd H (by simp)
                     ·
                      rw [if_neg c80] at H
                      have c80b0 : decide (0 < (rd x11_4 x19_5)) = false := decide_eq_false c80
                      clear c80
                      have H' := Aside0.mk H
                      clear H
                      have p191 : 0 ≤ (x19_5 : Int) := of_decide_eq_true (by first | (with_reducible assumption) | assumption)
                      have q191 : x19_5 < (l1.length : Int) := of_decide_eq_true (by first | (with_reducible assumption) | assumption)
                      obtain ⟨ad191, e191, hx191_0, hx191_1, hx191_2⟩ := at_T74 HR1.out x19_5 p191 q191
                      cases e191
                      replace hx191_0 := (HB.out.cell (World.block_lt_of_cell? w _ hx191_0)).trans hx191_0
                      replace hx191_1 := (HB.out.cell (World.block_lt_of_cell? w _ hx191_1)).trans hx191_1
                      replace hx191_2 := (HB.out.cell (World.block_lt_of_cell? w _ hx191_2)).trans hx191_2
                      replace p191 := eq_true p191
                      replace q191 := eq_true q191
                      obtain ⟨Ao91, co91, eo91⟩ := Kd.R_slice HO_11.out
                      subst eo91
                      have p192 : 0 ≤ (x19_5 : Int) := of_decide_eq_true (by first | (with_reducible assumption) | assumption)
                      have q192 : x19_5 < (x11_4.length : Int) := of_decide_eq_true (by first | (with_reducible assumption) | assumption)
                      obtain ⟨ad192, e192, hx192_0⟩ := Kd.at_int (Kd.R_reads' HO_11.out).2.2 x19_5 p192 q192
                      cases e192
                      replace p192 := eq_true p192
                      replace q192 := eq_true q192
                      go_wp2
                      repeat (go_quiet (fail); try go_wp2)
                      go_roundg k5
                      case measure => have := HJ3.out; have := HK2.out; have := HK3.out; have := HK4.out; have := HK5.out; omega
                      case rel => exact ⟨(x18_5), (wrap64 (x19_5 + 1)), (by first | rfl | (simp; done) | (simp [*]; done)), (by first | rfl | (simp; done) | (simp [*]; done)), H', ⟨by have := HJ3.out; have := HK2.out; have := HK3.out; have := HK4.out; have := HK5.out; omega⟩, ⟨rl HO_10.out⟩, ⟨rl HO_11.out⟩, ⟨rl HO_12.out⟩, ⟨bk BK149.out⟩, ⟨by repeat with_reducible first | exact bl HB.out | refine below_set ?_ GE149.out | refine bq ?_⟩⟩
                    ·
                     rw [if_neg c79] at H
                     exact absurd H (by simp)
                   ·
                    rw [if_neg c78] at H
                    have c78b0 : (((rd_T74 l1 x19_5).f0) == t189) = false := beq_eq_false_iff_ne.mpr c78
                    have c78b1 : (((rd_T74 l1 x19_5).f0) != t189) = true := bne_iff_ne.mpr c78
                    have H' := Aside0.mk H
                    clear H
                    have p191 : 0 ≤ (x19_5 : Int) := of_decide_eq_true (by first | (with_reducible assumption) | assumption)
                    have q191 : x19_5 < (l1.length : Int) := of_decide_eq_true (by first | (with_reducible assumption) | assumption)
                    obtain ⟨ad191, e191, hx191_0, hx191_1, hx191_2⟩ := at_T74 HR1.out x19_5 p191 q191
                    cases e191
                    replace hx191_0 := (HB.out.cell (World.block_lt_of_cell? w _ hx191_0)).trans hx191_0
                    replace hx191_1 := (HB.out.cell (World.block_lt_of_cell? w _ hx191_1)).trans hx191_1
                    replace hx191_2 := (HB.out.cell (World.block_lt_of_cell? w _ hx191_2)).trans hx191_2
                    replace p191 := eq_true p191
                    replace q191 := eq_true q191
                    go_wp2
                    repeat (go_quiet (fail); try go_wp2)
                    go_roundg k5
                    case measure => have := HJ3.out; have := HK2.out; have := HK3.out; have := HK4.out; have := HK5.out; omega
                    case rel => exact ⟨(x18_5), (wrap64 (x19_5 + 1)), (by first | rfl | (simp; done) | (simp [*]; done)), (by first | rfl | (simp; done) | (simp [*]; done)), H', ⟨by have := HJ3.out; have := HK2.out; have := HK3.out; have := HK4.out; have := HK5.out; omega⟩, ⟨rl HO_10.out⟩, ⟨rl HO_11.out⟩, ⟨rl HO_12.out⟩, ⟨bk BK149.out⟩, ⟨by repeat with_reducible first | exact bl HB.out | refine below_set ?_ GE149.out | refine bq ?_⟩⟩
                  ·
                   rw [if_neg c77] at H
                   exact absurd H (by simp)
                 ·
                  rw [if_neg c76] at H
                  have c76b0 : decide (x19_5 < (l1.length : Int)) = false := decide_eq_false c76
                  clear c76
                  by_cases c92 : x18_5 ≥ 0
                  ·
                   rw [if_pos c92] at H
                   have c92b0 : decide (0 ≤ x18_5) = true := decide_eq_true c92
                   clear c92
                   by_cases c93 : 0 ≤ x18_5
                   ·
                    rw [if_pos c93] at H
                    have c93b0 : decide (0 ≤ x18_5) = true := decide_eq_true c93
                    clear c93
                    by_cases c94 : x18_5 < (x11_4.length : Int)
                    ·
                     rw [if_pos c94] at H
                     have c94b0 : decide (x18_5 < (x11_4.length : Int)) = true := decide_eq_true c94
                     clear c94
                     obtain ⟨y196, hy196⟩ : ∃ y_ : List Int, y_ = (x11_4.set (x18_5 : Int).toNat (wrap64 ((rd x11_4 x18_5) - 1))) := ⟨_, rfl⟩
                     replace H : (spec_RunJobs.l1 k5 l1 a2 x10_4 y196 x12_4 x13_3 (wrap64 (x14_3 + 1)) a0_0 a0_1 l0_2) = some (r1, r2, r3) := by first | (rw [hy196]; with_reducible exact H) | (have H2_ := (Option.bind_some _ _).symm.trans H; rw [hy196]; with_reducible exact H2_) | (have H2_ := (Option.bind_some _ _).symm.trans H; with_reducible exact H2_) | with_reducible exact H | (rw [hy196]; exact H) | exact H
                     have Ny196 := Aside0.mk hy196
                     clear hy196
                     have H' := Aside0.mk H
                     clear H
                     obtain ⟨Ao96, co96, eo96⟩ := Kd.R_slice HO_11.out
                     subst eo96
                     have p195 : 0 ≤ (x18_5 : Int) := of_decide_eq_true (by first | (with_reducible assumption) | assumption)
                     have q195 : x18_5 < (x11_4.length : Int) := of_decide_eq_true (by first | (with_reducible assumption) | assumption)
                     obtain ⟨ad195, e195, hx195_0⟩ := Kd.at_int (Kd.R_reads' HO_11.out).2.2 x18_5 p195 q195
                     cases e195
                     replace p195 := eq_true p195
                     replace q195 := eq_true q195
                     have p95 : 0 ≤ (x18_5 : Int) := of_decide_eq_true (by first | (with_reducible assumption) | assumption)
                     have q95 : (x18_5 : Int) < ((x11_4.length : Int) : Int) := of_decide_eq_true (by first | (with_reducible assumption) | assumption)
                     obtain ⟨go95, co95, eo95, gb95, gl95, cl95, HG95⟩ := Kd.R_form HO_11.out (by omega)
                     (first | cases eo95 | (injection eo95 with ea_ en_ ec_; (first | subst ea_ | (injection ea_ with ea_; subst ea_)); subst ec_; clear en_))
                     have GB95 := Aside0.mk gb95
                     have GG95 := Aside0.mk HG95
                     clear gb95 gl95 HG95
                     (first | simp only [add_plain] at hx195_0 | skip)
                     obtain ⟨hx95_0, hf95_0⟩ := Kd.R_celln 0 HO_11.out (x18_5 : Int) p95 q95
                     replace p95 := eq_true p95
                     replace q95 := eq_true q95
                     have HP97 := Kd.R_putg HO_11.out (x18_5 : Int) (wrap64 ((rd x11_4 x18_5) - 1))
                     go_wp2_with (first | ((with_reducible refine gate_store (t := 3) (p := 170) rfl ?_); (try (rw [drewN_self wr]; generalize hq_ : World.drewN wr _ = wr; have n0_ := Aside0.mk (Kd.R_at hq_ HO_10.out); have n1_ := Aside0.mk (Kd.R_at hq_ HO_11.out); have n2_ := Aside0.mk (Kd.R_at hq_ HO_12.out); have n3_ := Aside0.mk (blk_at hq_ BK149.out); have n4_ := Aside0.mk (below_at hq_ HB.out); clear hq_ HO_10 HO_11 HO_12 BK149 HB; have HO_10 := n0_; have HO_11 := n1_; have HO_12 := n2_; have BK149 := n3_; have HB := n4_; clear n0_ n1_ n2_ n3_ n4_; (try (have HP97 := Kd.R_putg HO_11.out (x18_5 : Int) (wrap64 ((rd x11_4 x18_5) - 1)))))); refine store_event (t := 3) (p := 170) (v := ?vo_w98) (w1 := (wr.setCell ⟨go95, (x18_5 : Int).toNat, none⟩ (.int .i64 (wrap64 ((rd x11_4 x18_5) - 1))))) ?hg ?ho ?hn ?hr ?_; (case ho => rfl); (case hg => rfl); (case hn => rfl); (case hr => first | (go_simp; done) | (go_simp; rfl)); intro w98 hw; have hg : wr.grownBy w98 (some go95) := (by rw [hw]; exact HP97.2); have hp_ : Kd.R (Kd.int .i64) 3 w98 w.heap.size (fun k_ => some k_ ≠ (v171 : Value).ownBlock ∧ some k_ ≠ (v177 : Value).ownBlock) (.slice (some ⟨go95, 0, none⟩) x11_4.length co96) y196 := (by rw [hw, Ny196.out]; exact HP97.1); clear HP97; have n0_ := Aside0.mk (Kd.R_after (v := (.slice (some ⟨go95, 0, none⟩) x11_4.length co96)) (v1 := (.slice (some ⟨go95, 0, none⟩) x11_4.length co96)) (ok := (fun k_ => some k_ ≠ (v177 : Value).ownBlock)) (by (repeat apply rl1); exact Kd.R_mono HO_10.out (fun _ hk => ⟨hk.2, hk.1⟩)) hg (.inl rfl)); have n1_ := Aside0.mk (hp_); have n2_ := Aside0.mk (Kd.R_after (v := (.slice (some ⟨go95, 0, none⟩) x11_4.length co96)) (v1 := (.slice (some ⟨go95, 0, none⟩) x11_4.length co96)) (ok := (fun k_ => some k_ ≠ (v171 : Value).ownBlock)) (rl HO_12.out) hg (.inl rfl)); have n3_ := Aside0.mk (blk_grown (g := gb149) (o := .cells #[.int .i64 a0_0, .int .i64 a0_1, .slice A0_2 l0_2.length c0_2] 29 (0, 0)) (bk BK149.out) hg (Kd.R_ne HO_11.out BK149.out (by decide))); have n4_ := Aside0.mk ((by rw [hw]; exact below_set (HB.out) GB95.out : Below w.heap.size w w98)); clear HO_10; clear HO_11; clear HO_12; clear BK149; clear HB; have HO_10 := n0_; have HO_11 := n1_; have HO_12 := n2_; have BK149 := n3_; have HB := n4_; clear n0_ n1_ n2_ n3_ n4_; clear hg hw hp_))
                     repeat (go_quiet (first | ((with_reducible refine gate_store (t := 3) (p := 170) rfl ?_); (try (rw [drewN_self wr]; generalize hq_ : World.drewN wr _ = wr; have n0_ := Aside0.mk (Kd.R_at hq_ HO_10.out); have n1_ := Aside0.mk (Kd.R_at hq_ HO_11.out); have n2_ := Aside0.mk (Kd.R_at hq_ HO_12.out); have n3_ := Aside0.mk (blk_at hq_ BK149.out); have n4_ := Aside0.mk (below_at hq_ HB.out); clear hq_ HO_10 HO_11 HO_12 BK149 HB; have HO_10 := n0_; have HO_11 := n1_; have HO_12 := n2_; have BK149 := n3_; have HB := n4_; clear n0_ n1_ n2_ n3_ n4_; (try (have HP97 := Kd.R_putg HO_11.out (x18_5 : Int) (wrap64 ((rd x11_4 x18_5) - 1)))))); refine store_event (t := 3) (p := 170) (v := ?vo_w98) (w1 := (wr.setCell ⟨go95, (x18_5 : Int).toNat, none⟩ (.int .i64 (wrap64 ((rd x11_4 x18_5) - 1))))) ?hg ?ho ?hn ?hr ?_; (case ho => rfl); (case hg => rfl); (case hn => rfl); (case hr => first | (go_simp; done) | (go_simp; rfl)); intro w98 hw; have hg : wr.grownBy w98 (some go95) := (by rw [hw]; exact HP97.2); have hp_ : Kd.R (Kd.int .i64) 3 w98 w.heap.size (fun k_ => some k_ ≠ (v171 : Value).ownBlock ∧ some k_ ≠ (v177 : Value).ownBlock) (.slice (some ⟨go95, 0, none⟩) x11_4.length co96) y196 := (by rw [hw, Ny196.out]; exact HP97.1); clear HP97; have n0_ := Aside0.mk (Kd.R_after (v := (.slice (some ⟨go95, 0, none⟩) x11_4.length co96)) (v1 := (.slice (some ⟨go95, 0, none⟩) x11_4.length co96)) (ok := (fun k_ => some k_ ≠ (v177 : Value).ownBlock)) (by (repeat apply rl1); exact Kd.R_mono HO_10.out (fun _ hk => ⟨hk.2, hk.1⟩)) hg (.inl rfl)); have n1_ := Aside0.mk (hp_); have n2_ := Aside0.mk (Kd.R_after (v := (.slice (some ⟨go95, 0, none⟩) x11_4.length co96)) (v1 := (.slice (some ⟨go95, 0, none⟩) x11_4.length co96)) (ok := (fun k_ => some k_ ≠ (v171 : Value).ownBlock)) (rl HO_12.out) hg (.inl rfl)); have n3_ := Aside0.mk (blk_grown (g := gb149) (o := .cells #[.int .i64 a0_0, .int .i64 a0_1, .slice A0_2 l0_2.length c0_2] 29 (0, 0)) (bk BK149.out) hg (Kd.R_ne HO_11.out BK149.out (by decide))); have n4_ := Aside0.mk ((by rw [hw]; exact below_set (HB.out) GB95.out : Below w.heap.size w w98)); clear HO_10; clear HO_11; clear HO_12; clear BK149; clear HB; have HO_10 := n0_; have HO_11 := n1_; have HO_12 := n2_; have BK149 := n3_; have HB := n4_; clear n0_ n1_ n2_ n3_ n4_; clear hg hw hp_)); try go_wp2_with (first | ((with_reducible refine gate_store (t := 3) (p := 170) rfl ?_); (try (rw [drewN_self wr]; generalize hq_ : World.drewN wr _ = wr; have n0_ := Aside0.mk (Kd.R_at hq_ HO_10.out); have n1_ := Aside0.mk (Kd.R_at hq_ HO_11.out); have n2_ := Aside0.mk (Kd.R_at hq_ HO_12.out); have n3_ := Aside0.mk (blk_at hq_ BK149.out); have n4_ := Aside0.mk (below_at hq_ HB.out); clear hq_ HO_10 HO_11 HO_12 BK149 HB; have HO_10 := n0_; have HO_11 := n1_; have HO_12 := n2_; have BK149 := n3_; have HB := n4_; clear n0_ n1_ n2_ n3_ n4_; (try (have HP97 := Kd.R_putg HO_11.out (x18_5 : Int) (wrap64 ((rd x11_4 x18_5) - 1)))))); refine store_event (t := 3) (p := 170) (v := ?vo_w98) (w1 := (wr.setCell ⟨go95, (x18_5 : Int).toNat, none⟩ (.int .i64 (wrap64 ((rd x11_4 x18_5) - 1))))) ?hg ?ho ?hn ?hr ?_; (case ho => rfl); (case hg => rfl); (case hn => rfl); (case hr => first | (go_simp; done) | (go_simp; rfl)); intro w98 hw; have hg : wr.grownBy w98 (some go95) := (by rw [hw]; exact HP97.2); have hp_ : Kd.R (Kd.int .i64) 3 w98 w.heap.size (fun k_ => some k_ ≠ (v171 : Value).ownBlock ∧ some k_ ≠ (v177 : Value).ownBlock) (.slice (some ⟨go95, 0, none⟩) x11_4.length co96) y196 := (by rw [hw, Ny196.out]; exact HP97.1); clear HP97; have n0_ := Aside0.mk (Kd.R_after (v := (.slice (some ⟨go95, 0, none⟩) x11_4.length co96)) (v1 := (.slice (some ⟨go95, 0, none⟩) x11_4.length co96)) (ok := (fun k_ => some k_ ≠ (v177 : Value).ownBlock)) (by (repeat apply rl1); exact Kd.R_mono HO_10.out (fun _ hk => ⟨hk.2, hk.1⟩)) hg (.inl rfl)); have n1_ := Aside0.mk (hp_); have n2_ := Aside0.mk (Kd.R_after (v := (.slice (some ⟨go95, 0, none⟩) x11_4.length co96)) (v1 := (.slice (some ⟨go95, 0, none⟩) x11_4.length co96)) (ok := (fun k_ => some k_ ≠ (v171 : Value).ownBlock)) (rl HO_12.out) hg (.inl rfl)); have n3_ := Aside0.mk (blk_grown (g := gb149) (o := .cells #[.int .i64 a0_0, .int .i64 a0_1, .slice A0_2 l0_2.length c0_2] 29 (0, 0)) (bk BK149.out) hg (Kd.R_ne HO_11.out BK149.out (by decide))); have n4_ := Aside0.mk ((by rw [hw]; exact below_set (HB.out) GB95.out : Below w.heap.size w w98)); clear HO_10; clear HO_11; clear HO_12; clear BK149; clear HB; have HO_10 := n0_; have HO_11 := n1_; have HO_12 := n2_; have BK149 := n3_; have HB := n4_; clear n0_ n1_ n2_ n3_ n4_; clear hg hw hp_)))
                     go_roundg k5
                     case measure => have := HJ3.out; have := HK2.out; have := HK3.out; have := HK4.out; have := HK5.out; omega
                     case rel => exact ⟨(x10_4), (y196), (x12_4), (x13_3), (wrap64 (x14_3 + 1)), (by first | rfl | (simp; done) | (simp [*]; done)), (by first | rfl | (simp; done) | (simp [*]; done)), H', ⟨by have := HJ3.out; have := HK2.out; have := HK3.out; have := HK4.out; have := HK5.out; omega⟩, ⟨by (repeat apply rl1); exact Kd.R_mono HO_10.out (fun _ hk => ⟨hk.2, hk.1⟩)⟩, ⟨rl HO_11.out⟩, ⟨rl HO_12.out⟩, ⟨bk BK149.out⟩, ⟨by repeat with_reducible first | exact bl HB.out | refine below_set ?_ GE149.out | refine bq ?_⟩⟩
                    ·
                     rw [if_neg c94] at H
                     exact absurd H (by simp)
                   ·
                    rw [if_neg c93] at H
                    exact absurd H (by simp)
                  ·
                   rw [if_neg c92] at H
                   have c92b0 : decide (0 ≤ x18_5) = false := decide_eq_false c92
                   clear c92
                   by_cases c99 : t189 ≥ 0
                   ·
                    rw [if_pos c99] at H
                    have c99b0 : decide (0 ≤ t189) = true := decide_eq_true c99
                    clear c99
                    have H' := Aside0.mk H
                    clear H
                    go_wp2
                    repeat (go_quiet (fail); try go_wp2)
                    go_roundg k5
                    case measure => have := HJ3.out; have := HK2.out; have := HK3.out; have := HK4.out; have := HK5.out; omega
                    case rel => exact ⟨(x10_4), (x11_4), (x12_4), (wrap64 (x13_3 + 1)), (wrap64 (x14_3 + 1)), (by first | rfl | (simp; done) | (simp [*]; done)), (by first | rfl | (simp; done) | (simp [*]; done)), H', ⟨by have := HJ3.out; have := HK2.out; have := HK3.out; have := HK4.out; have := HK5.out; omega⟩, ⟨rl HO_10.out⟩, ⟨rl HO_11.out⟩, ⟨rl HO_12.out⟩, ⟨bk BK149.out⟩, ⟨by repeat with_reducible first | exact bl HB.out | refine below_set ?_ GE149.out | refine bq ?_⟩⟩
                   ·
                    rw [if_neg c99] at H
                    have c99b0 : decide (0 ≤ t189) = false := decide_eq_false c99
                    clear c99
                    have H' := Aside0.mk H
                    clear H
                    go_wp2
                    repeat (go_quiet (fail); try go_wp2)
                    go_roundg k5
                    case measure => have := HJ3.out; have := HK2.out; have := HK3.out; have := HK4.out; have := HK5.out; omega
                    case rel => exact ⟨(x10_4), (x11_4), (x12_4), (x13_3), (wrap64 (x14_3 + 1)), (by first | rfl | (simp; done) | (simp [*]; done)), (by first | rfl | (simp; done) | (simp [*]; done)), H', ⟨by have := HJ3.out; have := HK2.out; have := HK3.out; have := HK4.out; have := HK5.out; omega⟩, ⟨rl HO_10.out⟩, ⟨rl HO_11.out⟩, ⟨rl HO_12.out⟩, ⟨bk BK149.out⟩, ⟨by repeat with_reducible first | exact bl HB.out | refine below_set ?_ GE149.out | refine bq ?_⟩⟩
           ·
            rw [if_neg c45] at H
            have c45b0 : decide (x14_3 < a2) = false := decide_eq_false c45
            clear c45
            simp only [Option.some.injEq, Prod.mk.injEq] at H
            obtain ⟨rfl, rfl, rfl⟩ := H
            go_wp2
            repeat (go_quiet (fail); try go_wp2)
            go_ret3
            exact ⟨_, by first | rfl | (simp [errW_none, errW_some] <;> rfl) | (simp [*, errW_none, errW_some] <;> rfl), by (repeat apply rl1); exact Kd.R_mono HO_10.out (fun _ hk => trivial), by repeat with_reducible first | exact bl HB.out | refine below_set ?_ GE149.out | refine bq ?_⟩
        ·
         rw [if_neg c38] at H
         exact absurd H (by simp)
       ·
        rw [if_neg c37] at H
        exact absurd H (by simp)

end Go.Proofs.Ytlkphaahkhfgoaa.PFnExactRunJobs
