-- Written by a program of this session (wip/xprint.py) out of the translation; Lean checks it.
import Derived.Test.YtlkphaahkhfgoaaPFnWindowsx0
import Derived.Test.YtlkphaahkhfgoaaPFnWindowsx1
import Derived.Test.YtlkphaahkhfgoaaPFnWindowsx2
import Derived.Test.YtlkphaahkhfgoaaPFnWindowsx3
namespace Go.Proofs.Ytlkphaahkhfgoaa.PFnWindows
open Go.RowKit Go.Proofs.YtlkphaahkhfgoaaW.PrintWords Go.Proofs.YtlkphaahkhfgoaaW.PrintLast Go.Proofs.YtlkphaahkhfgoaaW.PrintMore Go.Proofs.Ytlkphaahkhfgoaa.Sq
attribute [local go_sem] max2_int min2_int max_two min_two max_three min_three max_four min_four   -- for this text's walks alone
set_option linter.unusedVariables false
set_option linter.unusedSimpArgs false

/-! ### impl_FitWindow: function 19 -/
mutual
def impl_FitWindow.j0 : Nat → Int → Int → Bool → Int → Int → List (S62) → Int → Int → List (S62) → Option (Int × Int × (List (S62)) × Bool)
 | 0, _, _, _, _, _, _, _, _, _ => none
 | k + 1, x1, x2, x35, x142000, x142001, x142002, x149000, x149001, x149002 => if x35 = true then (some (x149000, x149001, x149002, false)) else (impl_FitWindow.l0 k x1 x2 0 (wrap64 ((x142002.length : Int) + 1)) 0 x142000 x142001 x142002 x149000 x149001 x149002)
def impl_FitWindow.l0 : Nat → Int → Int → Int → Int → Int → Int → Int → List (S62) → Int → Int → List (S62) → Option (Int × Int × (List (S62)) × Bool)
 | 0, _, _, _, _, _, _, _, _, _, _, _ => none
 | k + 1, x1, x2, x9, x40, x41, x142000, x142001, x142002, x149000, x149001, x149002 => if x41 < x40 then (if x41 < (x142002.length : Int) then (if 0 ≤ x41 then (impl_FitWindow.j2 k x1 x2 x9 x41 ((rd_T62 x142002 x41).f1) x40 x41 x142000 x142001 x142002 x149000 x149001 x149002) else (none)) else (impl_FitWindow.j2 k x1 x2 x9 x41 x142000 x40 x41 x142000 x142001 x142002 x149000 x149001 x149002)) else (some (x149000, x149001, x149002, false))
def impl_FitWindow.j2 : Nat → Int → Int → Int → Int → Int → Int → Int → Int → Int → List (S62) → Int → Int → List (S62) → Option (Int × Int × (List (S62)) × Bool)
 | 0, _, _, _, _, _, _, _, _, _, _, _, _, _ => none
 | k + 1, x1, x2, x9, x10, x11, x40, x41, x142000, x142001, x142002, x149000, x149001, x149002 => if (wrap64 (x11 - x9)) ≥ x2 then ((impl_Window_48.f x149002 x10 (([(⟨x1, x9, x2⟩ : S62)] : List (S62)))).bind fun t156 => (some (x149000, x149001, t156, true))) else (if x10 < (x142002.length : Int) then (if 0 ≤ x10 then (impl_FitWindow.l0 k x1 x2 (wrap64 (x11 + ((rd_T62 x142002 x10).f2))) x40 (wrap64 (x41 + 1)) x142000 x142001 x142002 x149000 x149001 x149002) else (none)) else (impl_FitWindow.l0 k x1 x2 x9 x40 (wrap64 (x41 + 1)) x142000 x142001 x142002 x149000 x149001 x149002))
end
def impl_FitWindow.f (k : Nat) (a0_0 : Int) (a0_1 : Int) (l0_2 : List (S62)) (a1 : Int) (a2 : Int) : Option (Int × Int × (List (S62)) × Bool) := (impl_clonePlan.f a0_0 a0_1 l0_2).bind fun bt143 => ((impl_PlanOk.f k a0_0 a0_1 l0_2).bind fun t149 => (if t149 = true then ((impl_in.f a1 0 (wrap64 (a0_1 - 1))).bind fun t150 => (if t150 = true then ((impl_in.f a2 1 10000).bind fun t151 => (if t151 = true then (impl_FitWindow.j0 k a1 a2 (decide ((l0_2.length : Int) ≥ 40)) a0_0 a0_1 l0_2 bt143.1 bt143.2.1 bt143.2.2) else (impl_FitWindow.j0 k a1 a2 true a0_0 a0_1 l0_2 bt143.1 bt143.2.1 bt143.2.2))) else (impl_FitWindow.j0 k a1 a2 true a0_0 a0_1 l0_2 bt143.1 bt143.2.1 bt143.2.2))) else (impl_FitWindow.j0 k a1 a2 true a0_0 a0_1 l0_2 bt143.1 bt143.2.1 bt143.2.2)))
theorem impl_FitWindow.mono_l : ∀ k, (∀ y0 y1 y2 y3 y4 y5 y6 y7 y8, LeO (impl_FitWindow.j0 k y0 y1 y2 y3 y4 y5 y6 y7 y8) (impl_FitWindow.j0 (k + 1) y0 y1 y2 y3 y4 y5 y6 y7 y8)) ∧ (∀ y0 y1 y2 y3 y4 y5 y6 y7 y8 y9 y10, LeO (impl_FitWindow.l0 k y0 y1 y2 y3 y4 y5 y6 y7 y8 y9 y10) (impl_FitWindow.l0 (k + 1) y0 y1 y2 y3 y4 y5 y6 y7 y8 y9 y10)) ∧ (∀ y0 y1 y2 y3 y4 y5 y6 y7 y8 y9 y10 y11 y12, LeO (impl_FitWindow.j2 k y0 y1 y2 y3 y4 y5 y6 y7 y8 y9 y10 y11 y12) (impl_FitWindow.j2 (k + 1) y0 y1 y2 y3 y4 y5 y6 y7 y8 y9 y10 y11 y12))
 | 0 => ⟨fun _ _ _ _ _ _ _ _ _ r h => by simp [impl_FitWindow.j0] at h, fun _ _ _ _ _ _ _ _ _ _ _ r h => by simp [impl_FitWindow.l0] at h, fun _ _ _ _ _ _ _ _ _ _ _ _ _ r h => by simp [impl_FitWindow.j2] at h⟩
 | k + 1 => by
  obtain ⟨ih0, ih1, ih2⟩ := impl_FitWindow.mono_l k
  refine ⟨?_, ?_, ?_⟩
  ·
   intro y0 y1 y2 y3 y4 y5 y6 y7 y8
   unfold impl_FitWindow.j0
   repeat' first
   | (with_reducible exact ih0 _ _ _ _ _ _ _ _ _)
   | (with_reducible exact ih1 _ _ _ _ _ _ _ _ _ _ _)
   | (with_reducible exact ih2 _ _ _ _ _ _ _ _ _ _ _ _ _)
   | (with_reducible exact impl_PlanOk.mono _ _ _ _)
   | (with_reducible exact LeO.refl _)
   | (with_reducible exact LeO.none _)
   | (with_reducible refine LeO.ite ?_ ?_)
   | (with_reducible refine LeO.bind ?_ (fun _ => ?_))
   | exact ih0 _ _ _ _ _ _ _ _ _
   | exact ih1 _ _ _ _ _ _ _ _ _ _ _
   | exact ih2 _ _ _ _ _ _ _ _ _ _ _ _ _
   | exact impl_PlanOk.mono _ _ _ _
   | exact LeO.none _
   | refine LeO.ite ?_ ?_
   | refine LeO.bind ?_ (fun _ => ?_)
  ·
   intro y0 y1 y2 y3 y4 y5 y6 y7 y8 y9 y10
   unfold impl_FitWindow.l0
   repeat' first
   | (with_reducible exact ih0 _ _ _ _ _ _ _ _ _)
   | (with_reducible exact ih1 _ _ _ _ _ _ _ _ _ _ _)
   | (with_reducible exact ih2 _ _ _ _ _ _ _ _ _ _ _ _ _)
   | (with_reducible exact impl_PlanOk.mono _ _ _ _)
   | (with_reducible exact LeO.refl _)
   | (with_reducible exact LeO.none _)
   | (with_reducible refine LeO.ite ?_ ?_)
   | (with_reducible refine LeO.bind ?_ (fun _ => ?_))
   | exact ih0 _ _ _ _ _ _ _ _ _
   | exact ih1 _ _ _ _ _ _ _ _ _ _ _
   | exact ih2 _ _ _ _ _ _ _ _ _ _ _ _ _
   | exact impl_PlanOk.mono _ _ _ _
   | exact LeO.none _
   | refine LeO.ite ?_ ?_
   | refine LeO.bind ?_ (fun _ => ?_)
  ·
   intro y0 y1 y2 y3 y4 y5 y6 y7 y8 y9 y10 y11 y12
   unfold impl_FitWindow.j2
   repeat' first
   | (with_reducible exact ih0 _ _ _ _ _ _ _ _ _)
   | (with_reducible exact ih1 _ _ _ _ _ _ _ _ _ _ _)
   | (with_reducible exact ih2 _ _ _ _ _ _ _ _ _ _ _ _ _)
   | (with_reducible exact impl_PlanOk.mono _ _ _ _)
   | (with_reducible exact LeO.refl _)
   | (with_reducible exact LeO.none _)
   | (with_reducible refine LeO.ite ?_ ?_)
   | (with_reducible refine LeO.bind ?_ (fun _ => ?_))
   | exact ih0 _ _ _ _ _ _ _ _ _
   | exact ih1 _ _ _ _ _ _ _ _ _ _ _
   | exact ih2 _ _ _ _ _ _ _ _ _ _ _ _ _
   | exact impl_PlanOk.mono _ _ _ _
   | exact LeO.none _
   | refine LeO.ite ?_ ?_
   | refine LeO.bind ?_ (fun _ => ?_)
theorem impl_FitWindow.mono : ∀ a0 a1 a2 a3 a4 k, LeO (impl_FitWindow.f k a0 a1 a2 a3 a4) (impl_FitWindow.f (k + 1) a0 a1 a2 a3 a4) := by
 intro a0 a1 a2 a3 a4 k
 obtain ⟨ih0, ih1, ih2⟩ := impl_FitWindow.mono_l k
 unfold impl_FitWindow.f
 repeat' first
   | (with_reducible exact ih0 _ _ _ _ _ _ _ _ _)
   | (with_reducible exact ih1 _ _ _ _ _ _ _ _ _ _ _)
   | (with_reducible exact ih2 _ _ _ _ _ _ _ _ _ _ _ _ _)
   | (with_reducible exact impl_PlanOk.mono _ _ _ _)
   | (with_reducible exact LeO.refl _)
   | (with_reducible exact LeO.none _)
   | (with_reducible refine LeO.ite ?_ ?_)
   | (with_reducible refine LeO.bind ?_ (fun _ => ?_))
   | exact ih0 _ _ _ _ _ _ _ _ _
   | exact ih1 _ _ _ _ _ _ _ _ _ _ _
   | exact ih2 _ _ _ _ _ _ _ _ _ _ _ _ _
   | exact impl_PlanOk.mono _ _ _ _
   | exact LeO.none _
   | refine LeO.ite ?_ ?_
   | refine LeO.bind ?_ (fun _ => ?_)
set_option maxHeartbeats 8000000 in
set_option maxRecDepth 100000 in
theorem impl_FitWindow.calls (k : Nat) (a0_0 : Int) (a0_1 : Int) (A0_2 : Option Addr) (c0_2 : Nat) (l0_2 : List (S62)) (a1 : Int) (a2 : Int) (r1 : Int) (r2 : Int) (r3 : List (S62)) (r4 : Bool) (w : World) (hr0_2 : Kd.C k62 w A0_2 l0_2.length l0_2) (hc0_2 : l0_2.length ≤ c0_2) (h : impl_FitWindow.f k a0_0 a0_1 l0_2 a1 a2 = some (r1, r2, r3, r4)) :
  Calls Try.prog 19 #[.agg #[.int .i64 a0_0, .int .i64 a0_1, .slice A0_2 l0_2.length c0_2], .int .i64 a1, .int .i64 a2] w fun e w' => ∃ v2_ : Value, e = .returned (.tuple #[.agg #[.int .i64 r1, .int .i64 r2, v2_], .bool r4]) ∧ Kd.R k62 62 w' w.heap.size (fun _ => True) v2_ r3 ∧ Below w.heap.size w w' := by
 have hu29 := Try.underlying29
 have hu62 := Try.underlying62
 have HR0_2 := Aside0.mk hr0_2
 have HC0_2 := Aside0.mk hc0_2
 clear hr0_2 hc0_2
 have HB := Aside0.mk (Below.refl w.heap.size w)
 have H : ((impl_clonePlan.f a0_0 a0_1 l0_2).bind fun bt143 => ((impl_PlanOk.f k a0_0 a0_1 l0_2).bind fun t149 => (if t149 = true then ((impl_in.f a1 0 (wrap64 (a0_1 - 1))).bind fun t150 => (if t150 = true then ((impl_in.f a2 1 10000).bind fun t151 => (if t151 = true then (impl_FitWindow.j0 k a1 a2 (decide ((l0_2.length : Int) ≥ 40)) a0_0 a0_1 l0_2 bt143.1 bt143.2.1 bt143.2.2) else (impl_FitWindow.j0 k a1 a2 true a0_0 a0_1 l0_2 bt143.1 bt143.2.1 bt143.2.2))) else (impl_FitWindow.j0 k a1 a2 true a0_0 a0_1 l0_2 bt143.1 bt143.2.1 bt143.2.2))) else (impl_FitWindow.j0 k a1 a2 true a0_0 a0_1 l0_2 bt143.1 bt143.2.1 bt143.2.2)))) = some (r1, r2, r3, r4) := h
 clear h
 replace H := Option.bind_eq_some_iff.mp H
 obtain ⟨⟨t143, t144, t145⟩, A40, H⟩ := H
 replace H : ((impl_PlanOk.f k a0_0 a0_1 l0_2).bind fun t149 => (if t149 = true then ((impl_in.f a1 0 (wrap64 (a0_1 - 1))).bind fun t150 => (if t150 = true then ((impl_in.f a2 1 10000).bind fun t151 => (if t151 = true then (impl_FitWindow.j0 k a1 a2 (decide ((l0_2.length : Int) ≥ 40)) a0_0 a0_1 l0_2 t143 t144 t145) else (impl_FitWindow.j0 k a1 a2 true a0_0 a0_1 l0_2 t143 t144 t145))) else (impl_FitWindow.j0 k a1 a2 true a0_0 a0_1 l0_2 t143 t144 t145))) else (impl_FitWindow.j0 k a1 a2 true a0_0 a0_1 l0_2 t143 t144 t145))) = some (r1, r2, r3, r4) := H
 have A4 := Aside0.mk A40
 clear A40
 have HC5 := Aside0.mk H
 clear H
 go_enter Try.func19, Try.ntmps19
 go_upto_region 2 with (first | ((with_reducible refine gate_dst (N := 3) rfl ?_); (try (refine gate_guard (by rfl) ?_; dsimp only)); refine box_event ?hg (N := 3) ?hd (cs := #[.int .i64 a0_0, .int .i64 a0_1, .slice A0_2 l0_2.length c0_2]) (t := 29) ?hr ?_; (case hd => rfl); (case hg => rfl); (case hr => first | (go_simp; done) | (go_simp; rfl)); intro gb141 hg w6 hbox hb; have BK141 := Aside0.mk (hbox); have GW141 := Aside0.mk ((by rw [hg]; exact (below_size (bl HB.out)) : w.heap.size ≤ gb141)); have GE141 := GW141; replace HB := Aside0.mk (below_step (bl HB.out) hb); clear hb hbox hg) | ((with_reducible refine gate_dst (N := 6) rfl ?_); (try (refine gate_guard (by rfl) ?_; dsimp only)); refine box_event ?hg (N := 6) ?hd (cs := #[.int .i64 0, .int .i64 0, .slice none 0 0]) (t := 29) ?hr ?_; (case hd => rfl); (case hg => rfl); (case hr => first | (go_simp; done) | (go_simp; rfl)); intro gb142 hg w7 hbox hb; have BK142 := Aside0.mk (hbox); have GW142 := Aside0.mk ((by rw [hg]; exact (below_size (by repeat with_reducible first | exact bl HB.out | refine below_set ?_ GE141.out | refine bq ?_)) : w.heap.size ≤ gb142)); have GE142 := GW142; replace HB := Aside0.mk (below_step (by repeat with_reducible first | exact bl HB.out | refine below_set ?_ GE141.out | refine bq ?_) hb); have NB141_142 := nb_ hg BK141.out; have NB142_141 := Aside0.mk NB141_142.out.symm; replace BK141 := Aside0.mk (blk_below (bk BK141.out) hb); clear hb hbox hg; have hnb8 := NB141_142.out; have hnc8 := NB142_141.out; obtain ⟨hcz9_0, hcz9_1, hcz9_2⟩ := ck3 BK141.out; obtain ⟨hfz9_0, hfz9_1, hfz9_2⟩ := fz3 BK141.out) | ((with_reducible refine gate_callee (f := 47) rfl ?_); refine goesL_ (some 13) rfl rfl Try.func47 (by kernel_rfl) rfl #[.agg #[.int .i64 a0_0, .int .i64 a0_1, .slice A0_2 l0_2.length c0_2]] rfl (by (try simp only [am_]); first | done | rfl) ?_; (with_reducible refine (impl_clonePlan.calls a0_0 a0_1 _ _ l0_2 t143 t144 t145 _ ?side1 ?side2 A4.out).mono ?_); (case side1 => exact rc (Kd.C_below HR0_2.out HB.out)); (case side2 => exact HC0_2.out); rintro e w10 ⟨v146, rfl, ho0, hb⟩; refine ⟨_, rfl, ?_⟩; have HO147 := Aside0.mk (Kd.R_lower ho0 (below_size (by repeat with_reducible first | exact bl HB.out | refine below_set ?_ GE141.out | refine below_set ?_ GE142.out | refine bq ?_))); replace BK141 := Aside0.mk (blk_below (bk BK141.out) hb); replace BK142 := Aside0.mk (blk_below (bk BK142.out) hb); replace HB := Aside0.mk (below_step (by repeat with_reducible first | exact bl HB.out | refine below_set ?_ GE141.out | refine below_set ?_ GE142.out | refine bq ?_) hb); (try clear hb); (try clear hb2); (try clear hk); (try clear hi); (try clear ho0)) | ((with_reducible refine gate_dst (N := 8) rfl ?_); (try (refine gate_guard (by rfl) ?_; dsimp only)); refine box_event ?hg (N := 8) ?hd (cs := #[.int .i64 0, .int .i64 0, .slice none 0 0]) (t := 29) ?hr ?_; (case hd => rfl); (case hg => rfl); (case hr => first | (go_simp; done) | (go_simp; rfl)); intro gb148 hg w11 hbox hb; replace HO147 := Aside0.mk (Kd.R_below (rl HO147.out) hb); have BK148 := Aside0.mk (hbox); have GW148 := Aside0.mk ((by rw [hg]; exact (below_size (by repeat with_reducible first | exact bl HB.out | refine below_set ?_ GE141.out | refine below_set ?_ GE142.out | refine bq ?_)) : w.heap.size ≤ gb148)); have GE148 := GW148; replace HB := Aside0.mk (below_step (by repeat with_reducible first | exact bl HB.out | refine below_set ?_ GE141.out | refine below_set ?_ GE142.out | refine bq ?_) hb); have NB141_148 := nb_ hg BK141.out; have NB148_141 := Aside0.mk NB141_148.out.symm; replace BK141 := Aside0.mk (blk_below (bk BK141.out) hb); have NB142_148 := nb_ hg BK142.out; have NB148_142 := Aside0.mk NB142_148.out.symm; replace BK142 := Aside0.mk (blk_below (bk BK142.out) hb); clear hb hbox hg; have hnb12 := NB148_141.out; have hnc12 := NB141_148.out; have hnb13 := NB148_142.out; have hnc13 := NB142_148.out; obtain ⟨hcz14_0, hcz14_1, hcz14_2⟩ := ck3 BK148.out; obtain ⟨hfz14_0, hfz14_1, hfz14_2⟩ := fz3 BK148.out; obtain ⟨Ao15, co15, eo15⟩ := Kd.R_slice HO147.out; subst eo15))
 (try simp only [Act.put, List.setIfInBounds_toArray, List.set_cons_zero, List.set_cons_succ])
 go_cut [35] (fun v35 wc => ∃ (kq : Nat) (x35_4 : Bool), v35 = .bool x35_4 ∧ Aside0 (impl_FitWindow.j0 kq a1 a2 x35_4 a0_0 a0_1 l0_2 t143 t144 t145 = some (r1, r2, r3, r4)) ∧ Aside0 (kq ≤ k) ∧ Aside0 (Kd.R k62 62 wc w.heap.size (fun _ => True) (.slice Ao15 t145.length co15) t145) ∧ Aside0 (wc.heap[gb141]? = some (.cells #[.int .i64 a0_0, .int .i64 a0_1, (.slice A0_2 l0_2.length c0_2)] 29 (0, 0))) ∧ Aside0 (wc.heap[gb142]? = some (.cells #[.int .i64 0, .int .i64 0, (.slice none 0 0)] 29 (0, 0))) ∧ Aside0 (wc.heap[gb148]? = some (.cells #[.int .i64 t143, .int .i64 t144, (.slice Ao15 t145.length co15)] 29 (0, 0))) ∧ Aside0 (Below w.heap.size w wc))
 case first =>
  have H := HC5.out
  clear HC5
  replace H := Option.bind_eq_some_iff.mp H
  obtain ⟨t149, A160, H⟩ := H
  replace H : (if t149 = true then ((impl_in.f a1 0 (wrap64 (a0_1 - 1))).bind fun t150 => (if t150 = true then ((impl_in.f a2 1 10000).bind fun t151 => (if t151 = true then (impl_FitWindow.j0 k a1 a2 (decide ((l0_2.length : Int) ≥ 40)) a0_0 a0_1 l0_2 t143 t144 t145) else (impl_FitWindow.j0 k a1 a2 true a0_0 a0_1 l0_2 t143 t144 t145))) else (impl_FitWindow.j0 k a1 a2 true a0_0 a0_1 l0_2 t143 t144 t145))) else (impl_FitWindow.j0 k a1 a2 true a0_0 a0_1 l0_2 t143 t144 t145)) = some (r1, r2, r3, r4) := H
  have A16 := Aside0.mk A160
  clear A160
  by_cases c17 : t149 = true
  ·
   subst c17
   have H1 : ((impl_in.f a1 0 (wrap64 (a0_1 - 1))).bind fun t150 => (if t150 = true then ((impl_in.f a2 1 10000).bind fun t151 => (if t151 = true then (impl_FitWindow.j0 k a1 a2 (decide ((l0_2.length : Int) ≥ 40)) a0_0 a0_1 l0_2 t143 t144 t145) else (impl_FitWindow.j0 k a1 a2 true a0_0 a0_1 l0_2 t143 t144 t145))) else (impl_FitWindow.j0 k a1 a2 true a0_0 a0_1 l0_2 t143 t144 t145))) = some (r1, r2, r3, r4) := by rw [if_pos rfl] at H; exact H
   clear H
   have H := H1
   clear H1
   replace H := Option.bind_eq_some_iff.mp H
   obtain ⟨t150, A180, H⟩ := H
   replace H : (if t150 = true then ((impl_in.f a2 1 10000).bind fun t151 => (if t151 = true then (impl_FitWindow.j0 k a1 a2 (decide ((l0_2.length : Int) ≥ 40)) a0_0 a0_1 l0_2 t143 t144 t145) else (impl_FitWindow.j0 k a1 a2 true a0_0 a0_1 l0_2 t143 t144 t145))) else (impl_FitWindow.j0 k a1 a2 true a0_0 a0_1 l0_2 t143 t144 t145)) = some (r1, r2, r3, r4) := H
   have A18 := Aside0.mk A180
   clear A180
   by_cases c19 : t150 = true
   ·
    subst c19
    have H1 : ((impl_in.f a2 1 10000).bind fun t151 => (if t151 = true then (impl_FitWindow.j0 k a1 a2 (decide ((l0_2.length : Int) ≥ 40)) a0_0 a0_1 l0_2 t143 t144 t145) else (impl_FitWindow.j0 k a1 a2 true a0_0 a0_1 l0_2 t143 t144 t145))) = some (r1, r2, r3, r4) := by rw [if_pos rfl] at H; exact H
    clear H
    have H := H1
    clear H1
    replace H := Option.bind_eq_some_iff.mp H
    obtain ⟨t151, A200, H⟩ := H
    replace H : (if t151 = true then (impl_FitWindow.j0 k a1 a2 (decide ((l0_2.length : Int) ≥ 40)) a0_0 a0_1 l0_2 t143 t144 t145) else (impl_FitWindow.j0 k a1 a2 true a0_0 a0_1 l0_2 t143 t144 t145)) = some (r1, r2, r3, r4) := H
    have A20 := Aside0.mk A200
    clear A200
    by_cases c21 : t151 = true
    ·
     subst c21
     have H1 : (impl_FitWindow.j0 k a1 a2 (decide ((l0_2.length : Int) ≥ 40)) a0_0 a0_1 l0_2 t143 t144 t145) = some (r1, r2, r3, r4) := by rw [if_pos rfl] at H; exact H
     clear H
     have H := H1
     clear H1
     have H' := Aside0.mk H
     clear H
     have hnb22 := NB141_142.out
     have hnc22 := NB142_141.out
     have hnb23 := NB141_148.out
     have hnc23 := NB148_141.out
     obtain ⟨hcz24_0, hcz24_1, hcz24_2⟩ := ck3 BK141.out
     obtain ⟨hfz24_0, hfz24_1, hfz24_2⟩ := fz3 BK141.out
     go_wp2_with (first | ((with_reducible refine gate_callee (f := 12) rfl ?_); refine goesL_ (some 15) rfl rfl Try.func12 (by kernel_rfl) rfl #[.agg #[.int .i64 a0_0, .int .i64 a0_1, .slice A0_2 l0_2.length c0_2]] rfl (by (try simp only [am_]); first | done | rfl) ?_; (with_reducible refine (impl_PlanOk.calls k a0_0 a0_1 _ _ l0_2 true _ ?side1 ?side2 A16.out).mono ?_); (case side1 => exact Kd.C_below HR0_2.out (by repeat with_reducible first | exact bl HB.out | refine below_set ?_ GE141.out | refine below_set ?_ GE142.out | refine below_set ?_ GE148.out | refine bq ?_)); (case side2 => exact HC0_2.out); rintro e w25 ⟨rfl, hb⟩; refine ⟨_, rfl, ?_⟩; replace HO147 := Aside0.mk (Kd.R_below (by (repeat apply rl1); exact (Kd.R_mono (Kd.R_far (p := ⟨gb148, 2, none⟩) (Kd.R_far (p := ⟨gb148, 1, none⟩) (Kd.R_far (p := ⟨gb148, 0, none⟩) (Kd.R_types HO147.out BK148.out (by decide)) (fun _ hk => hk.2) (.int .i64 t143)) (fun _ hk => hk.2) (.int .i64 t144)) (fun _ hk => hk.2) (.slice Ao15 t145.length co15)) (fun _ h_ => h_.1))) hb); replace BK141 := Aside0.mk (blk_below (g := gb141) (o := .cells #[.int .i64 a0_0, .int .i64 a0_1, .slice A0_2 l0_2.length c0_2] 29 (0, 0)) (by (repeat refine bk1 ?_); refine blk_far ?_ NB141_148.out _; (repeat refine bk1 ?_); refine blk_far ?_ NB141_148.out _; (repeat refine bk1 ?_); refine blk_far ?_ NB141_148.out _; (repeat refine bk1 ?_); exact BK141.out) hb); replace BK142 := Aside0.mk (blk_below (g := gb142) (o := .cells #[.int .i64 0, .int .i64 0, .slice none 0 0] 29 (0, 0)) (by (repeat refine bk1 ?_); refine blk_far ?_ NB142_148.out _; (repeat refine bk1 ?_); refine blk_far ?_ NB142_148.out _; (repeat refine bk1 ?_); refine blk_far ?_ NB142_148.out _; (repeat refine bk1 ?_); exact BK142.out) hb); replace BK148 := Aside0.mk (blk_below (g := gb148) (o := .cells #[.int .i64 t143, .int .i64 t144, .slice Ao15 t145.length co15] 29 (0, 0)) (by (repeat refine bk1 ?_); refine blk_put (cs := #[.int .i64 t143, .int .i64 t144, .slice none 0 0]) ?_ 2 _ rfl; (repeat refine bk1 ?_); refine blk_put (cs := #[.int .i64 t143, .int .i64 0, .slice none 0 0]) ?_ 1 _ rfl; (repeat refine bk1 ?_); refine blk_put (cs := #[.int .i64 0, .int .i64 0, .slice none 0 0]) ?_ 0 _ rfl; (repeat refine bk1 ?_); exact BK148.out) hb); replace HB := Aside0.mk (below_step (by repeat with_reducible first | exact bl HB.out | refine below_set ?_ GE141.out | refine below_set ?_ GE142.out | refine below_set ?_ GE148.out | refine bq ?_) hb); (try clear hb); (try clear hb2); (try clear hk); (try clear hi); obtain ⟨hcz26_0, hcz26_1, hcz26_2⟩ := ck3 BK141.out; obtain ⟨hfz26_0, hfz26_1, hfz26_2⟩ := fz3 BK141.out) | (go_at_call 38; (with_reducible refine (impl_in.calls a1 0 (wrap64 (a0_1 - 1)) true _ A18.out).mono ?_); rintro e w' ⟨rfl, ⟨nd, rfl⟩⟩) | (go_at_call 38; (with_reducible refine (impl_in.calls a2 1 10000 true _ A20.out).mono ?_); rintro e w' ⟨rfl, ⟨nd, rfl⟩⟩))
     go_meet
     case rel => exact ⟨_, (decide ((l0_2.length : Int) ≥ 40)), (by first | rfl | (simp; done) | (simp [*]; done)), H', ⟨by first | omega | exact Nat.le_refl _⟩, ⟨rl HO147.out⟩, ⟨bk BK141.out⟩, ⟨bk BK142.out⟩, ⟨bk BK148.out⟩, ⟨by repeat with_reducible first | exact bl HB.out | refine below_set ?_ GE141.out | refine below_set ?_ GE142.out | refine below_set ?_ GE148.out | refine bq ?_⟩⟩
    ·
     replace c21 := Bool.eq_false_iff.mpr c21
     subst c21
     have H1 : (impl_FitWindow.j0 k a1 a2 true a0_0 a0_1 l0_2 t143 t144 t145) = some (r1, r2, r3, r4) := by rw [if_neg (show ¬ (false = true) by decide)] at H; exact H
     clear H
     have H := H1
     clear H1
     have H' := Aside0.mk H
     clear H
     have hnb27 := NB141_142.out
     have hnc27 := NB142_141.out
     have hnb28 := NB141_148.out
     have hnc28 := NB148_141.out
     obtain ⟨hcz29_0, hcz29_1, hcz29_2⟩ := ck3 BK141.out
     obtain ⟨hfz29_0, hfz29_1, hfz29_2⟩ := fz3 BK141.out
     go_wp2_with (first | ((with_reducible refine gate_callee (f := 12) rfl ?_); refine goesL_ (some 15) rfl rfl Try.func12 (by kernel_rfl) rfl #[.agg #[.int .i64 a0_0, .int .i64 a0_1, .slice A0_2 l0_2.length c0_2]] rfl (by (try simp only [am_]); first | done | rfl) ?_; (with_reducible refine (impl_PlanOk.calls k a0_0 a0_1 _ _ l0_2 true _ ?side1 ?side2 A16.out).mono ?_); (case side1 => exact Kd.C_below HR0_2.out (by repeat with_reducible first | exact bl HB.out | refine below_set ?_ GE141.out | refine below_set ?_ GE142.out | refine below_set ?_ GE148.out | refine bq ?_)); (case side2 => exact HC0_2.out); rintro e w30 ⟨rfl, hb⟩; refine ⟨_, rfl, ?_⟩; replace HO147 := Aside0.mk (Kd.R_below (by (repeat apply rl1); exact (Kd.R_mono (Kd.R_far (p := ⟨gb148, 2, none⟩) (Kd.R_far (p := ⟨gb148, 1, none⟩) (Kd.R_far (p := ⟨gb148, 0, none⟩) (Kd.R_types HO147.out BK148.out (by decide)) (fun _ hk => hk.2) (.int .i64 t143)) (fun _ hk => hk.2) (.int .i64 t144)) (fun _ hk => hk.2) (.slice Ao15 t145.length co15)) (fun _ h_ => h_.1))) hb); replace BK141 := Aside0.mk (blk_below (g := gb141) (o := .cells #[.int .i64 a0_0, .int .i64 a0_1, .slice A0_2 l0_2.length c0_2] 29 (0, 0)) (by (repeat refine bk1 ?_); refine blk_far ?_ NB141_148.out _; (repeat refine bk1 ?_); refine blk_far ?_ NB141_148.out _; (repeat refine bk1 ?_); refine blk_far ?_ NB141_148.out _; (repeat refine bk1 ?_); exact BK141.out) hb); replace BK142 := Aside0.mk (blk_below (g := gb142) (o := .cells #[.int .i64 0, .int .i64 0, .slice none 0 0] 29 (0, 0)) (by (repeat refine bk1 ?_); refine blk_far ?_ NB142_148.out _; (repeat refine bk1 ?_); refine blk_far ?_ NB142_148.out _; (repeat refine bk1 ?_); refine blk_far ?_ NB142_148.out _; (repeat refine bk1 ?_); exact BK142.out) hb); replace BK148 := Aside0.mk (blk_below (g := gb148) (o := .cells #[.int .i64 t143, .int .i64 t144, .slice Ao15 t145.length co15] 29 (0, 0)) (by (repeat refine bk1 ?_); refine blk_put (cs := #[.int .i64 t143, .int .i64 t144, .slice none 0 0]) ?_ 2 _ rfl; (repeat refine bk1 ?_); refine blk_put (cs := #[.int .i64 t143, .int .i64 0, .slice none 0 0]) ?_ 1 _ rfl; (repeat refine bk1 ?_); refine blk_put (cs := #[.int .i64 0, .int .i64 0, .slice none 0 0]) ?_ 0 _ rfl; (repeat refine bk1 ?_); exact BK148.out) hb); replace HB := Aside0.mk (below_step (by repeat with_reducible first | exact bl HB.out | refine below_set ?_ GE141.out | refine below_set ?_ GE142.out | refine below_set ?_ GE148.out | refine bq ?_) hb); (try clear hb); (try clear hb2); (try clear hk); (try clear hi); obtain ⟨hcz31_0, hcz31_1, hcz31_2⟩ := ck3 BK141.out; obtain ⟨hfz31_0, hfz31_1, hfz31_2⟩ := fz3 BK141.out) | (go_at_call 38; (with_reducible refine (impl_in.calls a1 0 (wrap64 (a0_1 - 1)) true _ A18.out).mono ?_); rintro e w' ⟨rfl, ⟨nd, rfl⟩⟩) | (go_at_call 38; (with_reducible refine (impl_in.calls a2 1 10000 false _ A20.out).mono ?_); rintro e w' ⟨rfl, ⟨nd, rfl⟩⟩))
     go_meet
     case rel => exact ⟨_, (true), (by first | rfl | (simp; done) | (simp [*]; done)), H', ⟨by first | omega | exact Nat.le_refl _⟩, ⟨rl HO147.out⟩, ⟨bk BK141.out⟩, ⟨bk BK142.out⟩, ⟨bk BK148.out⟩, ⟨by repeat with_reducible first | exact bl HB.out | refine below_set ?_ GE141.out | refine below_set ?_ GE142.out | refine below_set ?_ GE148.out | refine bq ?_⟩⟩
   ·
    replace c19 := Bool.eq_false_iff.mpr c19
    subst c19
    have H1 : (impl_FitWindow.j0 k a1 a2 true a0_0 a0_1 l0_2 t143 t144 t145) = some (r1, r2, r3, r4) := by rw [if_neg (show ¬ (false = true) by decide)] at H; exact H
    clear H
    have H := H1
    clear H1
    have H' := Aside0.mk H
    clear H
    have hnb32 := NB141_142.out
    have hnc32 := NB142_141.out
    have hnb33 := NB141_148.out
    have hnc33 := NB148_141.out
    obtain ⟨hcz34_0, hcz34_1, hcz34_2⟩ := ck3 BK141.out
    obtain ⟨hfz34_0, hfz34_1, hfz34_2⟩ := fz3 BK141.out
    go_wp2_with (first | ((with_reducible refine gate_callee (f := 12) rfl ?_); refine goesL_ (some 15) rfl rfl Try.func12 (by kernel_rfl) rfl #[.agg #[.int .i64 a0_0, .int .i64 a0_1, .slice A0_2 l0_2.length c0_2]] rfl (by (try simp only [am_]); first | done | rfl) ?_; (with_reducible refine (impl_PlanOk.calls k a0_0 a0_1 _ _ l0_2 true _ ?side1 ?side2 A16.out).mono ?_); (case side1 => exact Kd.C_below HR0_2.out (by repeat with_reducible first | exact bl HB.out | refine below_set ?_ GE141.out | refine below_set ?_ GE142.out | refine below_set ?_ GE148.out | refine bq ?_)); (case side2 => exact HC0_2.out); rintro e w35 ⟨rfl, hb⟩; refine ⟨_, rfl, ?_⟩; replace HO147 := Aside0.mk (Kd.R_below (by (repeat apply rl1); exact (Kd.R_mono (Kd.R_far (p := ⟨gb148, 2, none⟩) (Kd.R_far (p := ⟨gb148, 1, none⟩) (Kd.R_far (p := ⟨gb148, 0, none⟩) (Kd.R_types HO147.out BK148.out (by decide)) (fun _ hk => hk.2) (.int .i64 t143)) (fun _ hk => hk.2) (.int .i64 t144)) (fun _ hk => hk.2) (.slice Ao15 t145.length co15)) (fun _ h_ => h_.1))) hb); replace BK141 := Aside0.mk (blk_below (g := gb141) (o := .cells #[.int .i64 a0_0, .int .i64 a0_1, .slice A0_2 l0_2.length c0_2] 29 (0, 0)) (by (repeat refine bk1 ?_); refine blk_far ?_ NB141_148.out _; (repeat refine bk1 ?_); refine blk_far ?_ NB141_148.out _; (repeat refine bk1 ?_); refine blk_far ?_ NB141_148.out _; (repeat refine bk1 ?_); exact BK141.out) hb); replace BK142 := Aside0.mk (blk_below (g := gb142) (o := .cells #[.int .i64 0, .int .i64 0, .slice none 0 0] 29 (0, 0)) (by (repeat refine bk1 ?_); refine blk_far ?_ NB142_148.out _; (repeat refine bk1 ?_); refine blk_far ?_ NB142_148.out _; (repeat refine bk1 ?_); refine blk_far ?_ NB142_148.out _; (repeat refine bk1 ?_); exact BK142.out) hb); replace BK148 := Aside0.mk (blk_below (g := gb148) (o := .cells #[.int .i64 t143, .int .i64 t144, .slice Ao15 t145.length co15] 29 (0, 0)) (by (repeat refine bk1 ?_); refine blk_put (cs := #[.int .i64 t143, .int .i64 t144, .slice none 0 0]) ?_ 2 _ rfl; (repeat refine bk1 ?_); refine blk_put (cs := #[.int .i64 t143, .int .i64 0, .slice none 0 0]) ?_ 1 _ rfl; (repeat refine bk1 ?_); refine blk_put (cs := #[.int .i64 0, .int .i64 0, .slice none 0 0]) ?_ 0 _ rfl; (repeat refine bk1 ?_); exact BK148.out) hb); replace HB := Aside0.mk (below_step (by repeat with_reducible first | exact bl HB.out | refine below_set ?_ GE141.out | refine below_set ?_ GE142.out | refine below_set ?_ GE148.out | refine bq ?_) hb); (try clear hb); (try clear hb2); (try clear hk); (try clear hi); obtain ⟨hcz36_0, hcz36_1, hcz36_2⟩ := ck3 BK141.out; obtain ⟨hfz36_0, hfz36_1, hfz36_2⟩ := fz3 BK141.out) | (go_at_call 38; (with_reducible refine (impl_in.calls a1 0 (wrap64 (a0_1 - 1)) false _ A18.out).mono ?_); rintro e w' ⟨rfl, ⟨nd, rfl⟩⟩))
    go_meet
    case rel => exact ⟨_, (true), (by first | rfl | (simp; done) | (simp [*]; done)), H', ⟨by first | omega | exact Nat.le_refl _⟩, ⟨rl HO147.out⟩, ⟨bk BK141.out⟩, ⟨bk BK142.out⟩, ⟨bk BK148.out⟩, ⟨by repeat with_reducible first | exact bl HB.out | refine below_set ?_ GE141.out | refine below_set ?_ GE142.out | refine below_set ?_ GE148.out | refine bq ?_⟩⟩
  ·
   replace c17 := Bool.eq_false_iff.mpr c17
   subst c17
   have H1 : (impl_FitWindow.j0 k a1 a2 true a0_0 a0_1 l0_2 t143 t144 t145) = some (r1, r2, r3, r4) := by rw [if_neg (show ¬ (false = true) by decide)] at H; exact H
   clear H
   have H := H1
   clear H1
   have H' := Aside0.mk H
   clear H
   have hnb37 := NB141_142.out
   have hnc37 := NB142_141.out
   have hnb38 := NB141_148.out
   have hnc38 := NB148_141.out
   obtain ⟨hcz39_0, hcz39_1, hcz39_2⟩ := ck3 BK141.out
   obtain ⟨hfz39_0, hfz39_1, hfz39_2⟩ := fz3 BK141.out
   go_wp2_with (first | ((with_reducible refine gate_callee (f := 12) rfl ?_); refine goesL_ (some 15) rfl rfl Try.func12 (by kernel_rfl) rfl #[.agg #[.int .i64 a0_0, .int .i64 a0_1, .slice A0_2 l0_2.length c0_2]] rfl (by (try simp only [am_]); first | done | rfl) ?_; (with_reducible refine (impl_PlanOk.calls k a0_0 a0_1 _ _ l0_2 false _ ?side1 ?side2 A16.out).mono ?_); (case side1 => exact Kd.C_below HR0_2.out (by repeat with_reducible first | exact bl HB.out | refine below_set ?_ GE141.out | refine below_set ?_ GE142.out | refine below_set ?_ GE148.out | refine bq ?_)); (case side2 => exact HC0_2.out); rintro e w40 ⟨rfl, hb⟩; refine ⟨_, rfl, ?_⟩; replace HO147 := Aside0.mk (Kd.R_below (by (repeat apply rl1); exact (Kd.R_mono (Kd.R_far (p := ⟨gb148, 2, none⟩) (Kd.R_far (p := ⟨gb148, 1, none⟩) (Kd.R_far (p := ⟨gb148, 0, none⟩) (Kd.R_types HO147.out BK148.out (by decide)) (fun _ hk => hk.2) (.int .i64 t143)) (fun _ hk => hk.2) (.int .i64 t144)) (fun _ hk => hk.2) (.slice Ao15 t145.length co15)) (fun _ h_ => h_.1))) hb); replace BK141 := Aside0.mk (blk_below (g := gb141) (o := .cells #[.int .i64 a0_0, .int .i64 a0_1, .slice A0_2 l0_2.length c0_2] 29 (0, 0)) (by (repeat refine bk1 ?_); refine blk_far ?_ NB141_148.out _; (repeat refine bk1 ?_); refine blk_far ?_ NB141_148.out _; (repeat refine bk1 ?_); refine blk_far ?_ NB141_148.out _; (repeat refine bk1 ?_); exact BK141.out) hb); replace BK142 := Aside0.mk (blk_below (g := gb142) (o := .cells #[.int .i64 0, .int .i64 0, .slice none 0 0] 29 (0, 0)) (by (repeat refine bk1 ?_); refine blk_far ?_ NB142_148.out _; (repeat refine bk1 ?_); refine blk_far ?_ NB142_148.out _; (repeat refine bk1 ?_); refine blk_far ?_ NB142_148.out _; (repeat refine bk1 ?_); exact BK142.out) hb); replace BK148 := Aside0.mk (blk_below (g := gb148) (o := .cells #[.int .i64 t143, .int .i64 t144, .slice Ao15 t145.length co15] 29 (0, 0)) (by (repeat refine bk1 ?_); refine blk_put (cs := #[.int .i64 t143, .int .i64 t144, .slice none 0 0]) ?_ 2 _ rfl; (repeat refine bk1 ?_); refine blk_put (cs := #[.int .i64 t143, .int .i64 0, .slice none 0 0]) ?_ 1 _ rfl; (repeat refine bk1 ?_); refine blk_put (cs := #[.int .i64 0, .int .i64 0, .slice none 0 0]) ?_ 0 _ rfl; (repeat refine bk1 ?_); exact BK148.out) hb); replace HB := Aside0.mk (below_step (by repeat with_reducible first | exact bl HB.out | refine below_set ?_ GE141.out | refine below_set ?_ GE142.out | refine below_set ?_ GE148.out | refine bq ?_) hb); (try clear hb); (try clear hb2); (try clear hk); (try clear hi)))
   go_meet
   case rel => exact ⟨_, (true), (by first | rfl | (simp; done) | (simp [*]; done)), H', ⟨by first | omega | exact Nat.le_refl _⟩, ⟨rl HO147.out⟩, ⟨bk BK141.out⟩, ⟨bk BK142.out⟩, ⟨bk BK148.out⟩, ⟨by repeat with_reducible first | exact bl HB.out | refine below_set ?_ GE141.out | refine below_set ?_ GE142.out | refine below_set ?_ GE148.out | refine bq ?_⟩⟩
 case rest =>
  clear HC5
  try clear c1
  try clear c2
  try clear p2
  try clear c3
  try clear c4
  try clear p6
  try clear c8
  try clear c12
  try clear c13
  try clear c17
  try clear c19
  try clear c21
  try clear c22
  try clear c23
  try clear c27
  try clear c28
  try clear c32
  try clear c33
  try clear c37
  try clear c38
  try clear hcz14_0 hcz14_1 hcz14_2 hfz14_0 hfz14_1 hfz14_2
  try clear hcz24_0 hcz24_1 hcz24_2 hfz24_0 hfz24_1 hfz24_2
  try clear hcz26_0 hcz26_1 hcz26_2 hfz26_0 hfz26_1 hfz26_2
  try clear hcz29_0 hcz29_1 hcz29_2 hfz29_0 hfz29_1 hfz29_2
  try clear hcz31_0 hcz31_1 hcz31_2 hfz31_0 hfz31_1 hfz31_2
  try clear hcz34_0 hcz34_1 hcz34_2 hfz34_0 hfz34_1 hfz34_2
  try clear hcz36_0 hcz36_1 hcz36_2 hfz36_0 hfz36_1 hfz36_2
  try clear hcz39_0 hcz39_1 hcz39_2 hfz39_0 hfz39_1 hfz39_2
  try clear hcz9_0 hcz9_1 hcz9_2 hfz9_0 hfz9_1 hfz9_2
  (try clear BK141); (try clear BK142); (try clear BK148); obtain ⟨kq, x35_4, rfl, HA, HJ4, HO_149002, BK141, BK142, BK148, HB⟩ := hcut
  cases kq with
  | zero => exact absurd HA.out (by simp [impl_FitWindow.j0])
  | succ kj4 =>
   have H := HA.out
   clear HA
   simp only [impl_FitWindow.j0] at H
   by_cases c41 : x35_4 = true
   ·
    subst c41
    have H1 : (some (t143, t144, t145, false)) = some (r1, r2, r3, r4) := by rw [if_pos rfl] at H; exact H
    clear H
    have H := H1
    clear H1
    simp only [Option.some.injEq, Prod.mk.injEq] at H
    obtain ⟨rfl, rfl, rfl, rfl⟩ := H
    have hnb42 := NB148_141.out
    have hnc42 := NB141_148.out
    have hnb43 := NB148_142.out
    have hnc43 := NB142_148.out
    obtain ⟨hcz44_0, hcz44_1, hcz44_2⟩ := ck3 BK148.out
    obtain ⟨hfz44_0, hfz44_1, hfz44_2⟩ := fz3 BK148.out
    have hnb45 := NB142_141.out
    have hnc45 := NB141_142.out
    obtain ⟨hcz46_0, hcz46_1, hcz46_2⟩ := ck3 BK142.out
    obtain ⟨hfz46_0, hfz46_1, hfz46_2⟩ := fz3 BK142.out
    go_wp2
    refine bodyPost_ret (results_ct rfl _ _ gb142 29 #[.int .i64 t143, .int .i64 t144, .slice Ao15 t145.length co15] (0, 0) _ rfl (by (repeat refine bk1 ?_); refine blk_put (cs := #[.int .i64 t143, .int .i64 t144, .slice none 0 0]) ?_ 2 _ rfl; (repeat refine bk1 ?_); refine blk_put (cs := #[.int .i64 t143, .int .i64 0, .slice none 0 0]) ?_ 1 _ rfl; (repeat refine bk1 ?_); refine blk_put (cs := #[.int .i64 0, .int .i64 0, .slice none 0 0]) ?_ 0 _ rfl; (repeat refine bk1 ?_); exact BK142.out) Try.underlying29 rfl (by kernel_rfl)) rfl ?_
    exact ⟨_, by first | rfl | (simp [errW_none, errW_some] <;> rfl) | (simp [*, errW_none, errW_some] <;> rfl), by (repeat apply rl1); exact Kd.R_mono (Kd.R_far (p := ⟨gb142, 2, none⟩) (Kd.R_far (p := ⟨gb142, 1, none⟩) (Kd.R_far (p := ⟨gb142, 0, none⟩) (Kd.R_types HO_149002.out BK142.out (by decide)) (fun _ hk => hk.2) (.int .i64 t143)) (fun _ hk => hk.2) (.int .i64 t144)) (fun _ hk => hk.2) (.slice Ao15 t145.length co15)) (fun _ hk => trivial), by repeat with_reducible first | exact bl HB.out | refine below_set ?_ GE141.out | refine below_set ?_ GE142.out | refine below_set ?_ GE148.out | refine bq ?_⟩
   ·
    replace c41 := Bool.eq_false_iff.mpr c41
    subst c41
    have H1 : (impl_FitWindow.l0 kj4 a1 a2 0 (wrap64 ((l0_2.length : Int) + 1)) 0 a0_0 a0_1 l0_2 t143 t144 t145) = some (r1, r2, r3, r4) := by rw [if_neg (show ¬ (false = true) by decide)] at H; exact H
    clear H
    have H := H1
    clear H1
    have H' := Aside0.mk H
    clear H
    have hnb47 := NB141_142.out
    have hnc47 := NB142_141.out
    have hnb48 := NB141_148.out
    have hnc48 := NB148_141.out
    obtain ⟨hcz49_0, hcz49_1, hcz49_2⟩ := ck3 BK141.out
    obtain ⟨hfz49_0, hfz49_1, hfz49_2⟩ := fz3 BK141.out
    go_wp2
    go_loopg [9, 41] kj4 (fun kq v9 v41 w' => ∃ (x9_2 : Int) (x41_2 : Int) (x143000_2 : Int) (x143001_2 : Int) (x149002_2 : List (S62)) (u149002 : Value), v9 = .int .i64 x9_2 ∧ v41 = .int .i64 x41_2 ∧ Aside0 (impl_FitWindow.l0 kq a1 a2 x9_2 (wrap64 ((l0_2.length : Int) + 1)) x41_2 a0_0 a0_1 l0_2 t143 t144 x149002_2 = some (r1, r2, r3, r4)) ∧ Aside0 (kq ≤ kj4) ∧ Aside0 (Kd.R k62 62 w' w.heap.size (fun _ => True) u149002 x149002_2) ∧ Aside0 (w'.heap[gb141]? = some (.cells #[.int .i64 a0_0, .int .i64 a0_1, (.slice A0_2 l0_2.length c0_2)] 29 (0, 0))) ∧ Aside0 (w'.heap[gb142]? = some (.cells #[.int .i64 x143000_2, .int .i64 x143001_2, (.slice none 0 0)] 29 (0, 0))) ∧ Aside0 (w'.heap[gb148]? = some (.cells #[.int .i64 t143, .int .i64 t144, u149002] 29 (0, 0))) ∧ Aside0 (Below w.heap.size w w'))
    case atStart => exact ⟨(0), (0), (0), (0), (t145), (.slice Ao15 t145.length co15), (by first | rfl | (simp; done) | (simp [*]; done)), (by first | rfl | (simp; done) | (simp [*]; done)), H', ⟨Nat.le_refl _⟩, ⟨rl HO_149002.out⟩, ⟨bk BK141.out⟩, ⟨bk BK142.out⟩, ⟨bk BK148.out⟩, ⟨by repeat with_reducible first | exact bl HB.out | refine below_set ?_ GE141.out | refine below_set ?_ GE142.out | refine below_set ?_ GE148.out | refine bq ?_⟩⟩
    case round =>
     clear H'
     try clear c1
     try clear c2
     try clear p2
     try clear c3
     try clear c4
     try clear p6
     try clear c8
     try clear c12
     try clear c13
     try clear c17
     try clear c19
     try clear c21
     try clear c22
     try clear c23
     try clear c27
     try clear c28
     try clear c32
     try clear c33
     try clear c37
     try clear c38
     try clear c41
     try clear c42
     try clear c43
     try clear c45
     try clear c47
     try clear c48
     try clear hcz14_0 hcz14_1 hcz14_2 hfz14_0 hfz14_1 hfz14_2
     try clear hcz24_0 hcz24_1 hcz24_2 hfz24_0 hfz24_1 hfz24_2
     try clear hcz26_0 hcz26_1 hcz26_2 hfz26_0 hfz26_1 hfz26_2
     try clear hcz29_0 hcz29_1 hcz29_2 hfz29_0 hfz29_1 hfz29_2
     try clear hcz31_0 hcz31_1 hcz31_2 hfz31_0 hfz31_1 hfz31_2
     try clear hcz34_0 hcz34_1 hcz34_2 hfz34_0 hfz34_1 hfz34_2
     try clear hcz36_0 hcz36_1 hcz36_2 hfz36_0 hfz36_1 hfz36_2
     try clear hcz39_0 hcz39_1 hcz39_2 hfz39_0 hfz39_1 hfz39_2
     try clear hcz44_0 hcz44_1 hcz44_2 hfz44_0 hfz44_1 hfz44_2
     try clear hcz46_0 hcz46_1 hcz46_2 hfz46_0 hfz46_1 hfz46_2
     try clear hcz49_0 hcz49_1 hcz49_2 hfz49_0 hfz49_1 hfz49_2
     try clear hcz9_0 hcz9_1 hcz9_2 hfz9_0 hfz9_1 hfz9_2
     try clear p2
     try clear p6
     (try clear BK141); (try clear BK142); (try clear BK148); obtain ⟨x9_2, x41_2, x143000_2, x143001_2, x149002_2, u149002, rfl, rfl, HA, HK2, HO_149002, BK141, BK142, BK148, HB⟩ := hrel
     cases gk with
     | zero => exact absurd HA.out (by simp [impl_FitWindow.l0])
     | succ k2 =>
      have H := HA.out
      clear HA
      simp only [impl_FitWindow.l0] at H
      by_cases c50 : x41_2 < (wrap64 ((l0_2.length : Int) + 1))
      ·
       rw [if_pos c50] at H
       have c50b0 : decide (x41_2 < (wrap64 ((l0_2.length : Int) + 1))) = true := decide_eq_true c50
       clear c50
       have HC51 := Aside0.mk H
       clear H
       have hnb52 := NB141_142.out
       have hnc52 := NB142_141.out
       have hnb53 := NB141_148.out
       have hnc53 := NB148_141.out
       obtain ⟨hcz54_0, hcz54_1, hcz54_2⟩ := ck3 BK141.out
       obtain ⟨hfz54_0, hfz54_1, hfz54_2⟩ := fz3 BK141.out
       go_upto_if 50 with (fail)
       go_cut [11] (fun v11 wc => ∃ (kq : Nat) (x11_50 : Int), v11 = .int .i64 x11_50 ∧ Aside0 (impl_FitWindow.j2 kq a1 a2 x9_2 x41_2 x11_50 (wrap64 ((l0_2.length : Int) + 1)) x41_2 a0_0 a0_1 l0_2 t143 t144 x149002_2 = some (r1, r2, r3, r4)) ∧ Aside0 (kq ≤ k2) ∧ Aside0 (Kd.R k62 62 wc w.heap.size (fun _ => True) u149002 x149002_2) ∧ Aside0 (wc.heap[gb141]? = some (.cells #[.int .i64 a0_0, .int .i64 a0_1, (.slice A0_2 l0_2.length c0_2)] 29 (0, 0))) ∧ Aside0 (wc.heap[gb142]? = some (.cells #[.int .i64 x143000_2, .int .i64 x143001_2, (.slice none 0 0)] 29 (0, 0))) ∧ Aside0 (wc.heap[gb148]? = some (.cells #[.int .i64 t143, .int .i64 t144, u149002] 29 (0, 0))) ∧ Aside0 (Below w.heap.size w wc))
       case first =>
        have H := HC51.out
        clear HC51
        by_cases c55 : x41_2 < (l0_2.length : Int)
        ·
         rw [if_pos c55] at H
         have c55b0 : decide (x41_2 < (l0_2.length : Int)) = true := decide_eq_true c55
         clear c55
         (first | rw [c55b0] | (simp only [i64_w, i32_w]; rw [c55b0]) | skip)
         by_cases c56 : 0 ≤ x41_2
         ·
          rw [if_pos c56] at H
          have c56b0 : decide (0 ≤ x41_2) = true := decide_eq_true c56
          clear c56
          have H' := Aside0.mk H
          clear H
          have hnb57 := NB141_142.out
          have hnc57 := NB142_141.out
          have hnb58 := NB141_148.out
          have hnc58 := NB148_141.out
          obtain ⟨hcz59_0, hcz59_1, hcz59_2⟩ := ck3 BK141.out
          obtain ⟨hfz59_0, hfz59_1, hfz59_2⟩ := fz3 BK141.out
          have p152 : 0 ≤ (x41_2 : Int) := of_decide_eq_true (by first | (with_reducible assumption) | assumption)
          have q152 : x41_2 < (l0_2.length : Int) := of_decide_eq_true (by first | (with_reducible assumption) | assumption)
          obtain ⟨ad152, e152, hx152_0, hx152_1, hx152_2⟩ := at_T62 HR0_2.out x41_2 p152 q152
          cases e152
          replace hx152_0 := bc HB.out hx152_0
          replace hx152_1 := bc HB.out hx152_1
          replace hx152_2 := bc HB.out hx152_2
          replace p152 := eq_true p152
          replace q152 := eq_true q152
          go_wp2
          go_meet
          case rel => exact ⟨_, ((rd_T62 l0_2 x41_2).f1), (by first | rfl | (simp; done) | (simp [*]; done)), H', ⟨by have := HJ4.out; have := HK2.out; first | omega | exact Nat.le_refl _⟩, ⟨rl HO_149002.out⟩, ⟨bk BK141.out⟩, ⟨bk BK142.out⟩, ⟨bk BK148.out⟩, ⟨by repeat with_reducible first | exact bl HB.out | refine below_set ?_ GE141.out | refine below_set ?_ GE142.out | refine below_set ?_ GE148.out | refine bq ?_⟩⟩
         ·
          rw [if_neg c56] at H
          exact absurd H (by simp)
        ·
         rw [if_neg c55] at H
         have c55b0 : decide (x41_2 < (l0_2.length : Int)) = false := decide_eq_false c55
         clear c55
         (first | rw [c55b0] | (simp only [i64_w, i32_w]; rw [c55b0]) | skip)
         have H' := Aside0.mk H
         clear H
         go_wp2
         go_meet
         case rel => exact ⟨_, (a0_0), (by first | rfl | (simp; done) | (simp [*]; done)), H', ⟨by have := HJ4.out; have := HK2.out; first | omega | exact Nat.le_refl _⟩, ⟨rl HO_149002.out⟩, ⟨bk BK141.out⟩, ⟨bk BK142.out⟩, ⟨bk BK148.out⟩, ⟨by repeat with_reducible first | exact bl HB.out | refine below_set ?_ GE141.out | refine below_set ?_ GE142.out | refine below_set ?_ GE148.out | refine bq ?_⟩⟩
       case rest =>
        clear HC51
        try clear c1
        try clear p1
        try clear q1
        try clear hx1
        try clear c2
        try clear p2
        try clear c3
        try clear c4
        try clear c5
        try clear p6
        try clear c8
        try clear c12
        try clear c13
        try clear p15
        try clear q15
        try clear hx15
        try clear c17
        try clear c19
        try clear c21
        try clear c22
        try clear c23
        try clear c27
        try clear c28
        try clear c32
        try clear c33
        try clear c37
        try clear c38
        try clear c41
        try clear c42
        try clear c43
        try clear c45
        try clear c47
        try clear c48
        try clear c50
        try clear c50b0
        try clear c52
        try clear c53
        try clear c55
        try clear c55b0
        try clear c56
        try clear c56b0
        try clear c57
        try clear c58
        try clear hcz14_0 hcz14_1 hcz14_2 hfz14_0 hfz14_1 hfz14_2
        try clear hcz24_0 hcz24_1 hcz24_2 hfz24_0 hfz24_1 hfz24_2
        try clear hcz26_0 hcz26_1 hcz26_2 hfz26_0 hfz26_1 hfz26_2
        try clear hcz29_0 hcz29_1 hcz29_2 hfz29_0 hfz29_1 hfz29_2
        try clear hcz31_0 hcz31_1 hcz31_2 hfz31_0 hfz31_1 hfz31_2
        try clear hcz34_0 hcz34_1 hcz34_2 hfz34_0 hfz34_1 hfz34_2
        try clear hcz36_0 hcz36_1 hcz36_2 hfz36_0 hfz36_1 hfz36_2
        try clear hcz39_0 hcz39_1 hcz39_2 hfz39_0 hfz39_1 hfz39_2
        try clear hcz44_0 hcz44_1 hcz44_2 hfz44_0 hfz44_1 hfz44_2
        try clear hcz46_0 hcz46_1 hcz46_2 hfz46_0 hfz46_1 hfz46_2
        try clear hcz49_0 hcz49_1 hcz49_2 hfz49_0 hfz49_1 hfz49_2
        try clear hcz54_0 hcz54_1 hcz54_2 hfz54_0 hfz54_1 hfz54_2
        try clear hcz59_0 hcz59_1 hcz59_2 hfz59_0 hfz59_1 hfz59_2
        try clear hcz9_0 hcz9_1 hcz9_2 hfz9_0 hfz9_1 hfz9_2
        try clear hx152_0
        try clear hx152_1
        try clear hx152_2
        try clear p152
        try clear p2
        try clear p6
        try clear q152
        (try clear BK141); (try clear BK142); (try clear BK148); obtain ⟨kq, x11_50, rfl, HA, HJ50, HO_149002, BK141, BK142, BK148, HB⟩ := hcut
        cases kq with
        | zero => exact absurd HA.out (by simp [impl_FitWindow.j2])
        | succ kj50 =>
         have H := HA.out
         clear HA
         simp only [impl_FitWindow.j2] at H
         by_cases c60 : (wrap64 (x11_50 - x9_2)) ≥ a2
         ·
          rw [if_pos c60] at H
          have c60b0 : decide (a2 ≤ (wrap64 (x11_50 - x9_2))) = true := decide_eq_true c60
          clear c60
          obtain ⟨y153, hy153⟩ : ∃ y_ : List (S62), y_ = (([(⟨a1, x9_2, a2⟩ : S62)] : List (S62))) := ⟨_, rfl⟩
          replace H : ((impl_Window_48.f x149002_2 x41_2 y153).bind fun t156 => (some (t143, t144, t156, true))) = some (r1, r2, r3, r4) := by first | (rw [hy153]; with_reducible exact H) | (have H2_ := (Option.bind_some _ _).symm.trans H; rw [hy153]; with_reducible exact H2_) | (have H2_ := (Option.bind_some _ _).symm.trans H; with_reducible exact H2_) | with_reducible exact H | (rw [hy153]; exact H) | exact H
          have Ny153 := Aside0.mk hy153
          clear hy153
          replace H := Option.bind_eq_some_iff.mp H
          obtain ⟨t156, A610, H⟩ := H
          replace H : (some (t143, t144, t156, true)) = some (r1, r2, r3, r4) := H
          have A61 := Aside0.mk A610
          clear A610
          simp only [Option.some.injEq, Prod.mk.injEq] at H
          obtain ⟨rfl, rfl, rfl, rfl⟩ := H
          have hnb62 := NB148_141.out
          have hnc62 := NB141_148.out
          have hnb63 := NB148_142.out
          have hnc63 := NB142_148.out
          obtain ⟨hcz64_0, hcz64_1, hcz64_2⟩ := ck3 BK148.out
          obtain ⟨hfz64_0, hfz64_1, hfz64_2⟩ := fz3 BK148.out
          go_wp2_with (first | ((with_reducible refine gate_dst (N := 69) rfl ?_); (try (refine gate_guard (by rfl) ?_; dsimp only)); refine Kd.R_lit k62 _ 62 ?hg (N := 69) ?hd (xs := ([(⟨a1, x9_2, a2⟩ : S62)] : List (S62))) (inner := [.int .i64 a1, .int .i64 x9_2, .int .i64 a2]) (ok := fun _ => True) (okp := fun _ => True) ?hr ?hp (fun _ hk => hk) trivial (Below.refl _ _) (Nat.le_refl _) (by simp) ?_; (case hd => rfl); (case hg => rfl); (case hr => first | (go_simp; done) | (go_simp; rfl)); (case hp => exact (Reps.c3 (show Kd.M k62 _ _ _ (⟨a1, x9_2, a2⟩ : S62) [.int .i64 a1, .int .i64 x9_2, .int .i64 a2] from (k62_mkM _ _ _ (⟨a1, x9_2, a2⟩ : S62) )) (Reps.none _ _))); intro v154 w65 ho66 hb hg_ hnew_; clear hg_ hnew_; (first | rw [← Ny153.out] at ho66 | (simp only [Int.reduceToNat] at ho66; rw [← Ny153.out] at ho66)); have HO155 := Aside0.mk (Kd.R_lower (Kd.R_new' ho66 (Kd.R_lt (by (repeat apply rl1); exact HO_149002.out))) (below_size (by repeat with_reducible first | exact bl HB.out | refine below_set ?_ GE141.out | refine below_set ?_ GE142.out | refine below_set ?_ GE148.out | refine bq ?_))); replace HO_149002 := Aside0.mk (Kd.R_elder' (rl HO_149002.out) (Kd.R_base ho66) hb); replace BK141 := Aside0.mk (blk_below (bk BK141.out) hb); replace BK142 := Aside0.mk (blk_below (bk BK142.out) hb); replace BK148 := Aside0.mk (blk_below (bk BK148.out) hb); replace HB := Aside0.mk (below_step (by repeat with_reducible first | exact bl HB.out | refine below_set ?_ GE141.out | refine below_set ?_ GE142.out | refine below_set ?_ GE148.out | refine bq ?_) hb); clear hb ho66; obtain ⟨Ao67, co67, eo67⟩ := Kd.R_slice HO_149002.out; subst eo67; obtain ⟨Ao68, co68, eo68⟩ := Kd.R_slice HO155.out; subst eo68) | ((with_reducible refine gate_callee (f := 48) rfl ?_); refine goesL_ (some 70) rfl rfl Try.func48 (by kernel_rfl) rfl #[.slice Ao67 x149002_2.length co67, .int .i64 x41_2, .slice Ao68 y153.length co68] rfl (by (try simp only [am_]); first | done | rfl) ?_; (with_reducible refine (impl_Window_48.calls (fun k_ => some k_ = (.slice Ao67 x149002_2.length co67 : Value).ownBlock) (.slice Ao67 x149002_2.length co67) x149002_2 x41_2 (fun k_ => some k_ = (.slice Ao68 y153.length co68 : Value).ownBlock) (.slice Ao68 y153.length co68) y153 t156 w _ ?side1 ?side2 ?side3 ?side4 ?side5 A61.out).mono ?_); (case side1 => repeat (first | (with_reducible first | exact HB.out | apply below_alloc | apply pw_below_drewN | apply below_drew1 | refine below_set ?_ GE141.out | refine below_set ?_ GE142.out | refine below_set ?_ GE148.out) | exact HB.out)); (case side2 => exact Kd.R_tight rfl HO_149002.out); (case side3 => exact fun k_ e_ => (HO_149002.out.1 k_ e_.symm).2); (case side4 => exact Kd.R_tight rfl HO155.out); (case side5 => exact fun k_ e_ => (HO155.out.1 k_ e_.symm).2); rintro e w69 ⟨v157, rfl, ho0, hb, hkp⟩; refine ⟨_, rfl, ?_⟩; replace BK141 := Aside0.mk (blk_kept (bk BK141.out) hkp (fun hs_ => Or.elim hs_ (fun e_ => (fun e_ => (Kd.R_ne HO_149002.out BK141.out (by decide)) e_) e_) (fun e_ => (fun e_ => (Kd.R_ne HO155.out BK141.out (by decide)) e_) e_))); replace BK142 := Aside0.mk (blk_kept (bk BK142.out) hkp (fun hs_ => Or.elim hs_ (fun e_ => (fun e_ => (Kd.R_ne HO_149002.out BK142.out (by decide)) e_) e_) (fun e_ => (fun e_ => (Kd.R_ne HO155.out BK142.out (by decide)) e_) e_))); replace BK148 := Aside0.mk (blk_kept (bk BK148.out) hkp (fun hs_ => Or.elim hs_ (fun e_ => (fun e_ => (Kd.R_ne HO_149002.out BK148.out (by decide)) e_) e_) (fun e_ => (fun e_ => (Kd.R_ne HO155.out BK148.out (by decide)) e_) e_))); have HO158 := Aside0.mk (Kd.R_mono (ok' := fun k_ => True) ho0 (fun k_ hk_ => trivial)); replace HB := Aside0.mk (hb); clear HO155 HO_149002; (try clear hb); (try clear hkp); (try clear ho0); obtain ⟨Ao70, co70, eo70⟩ := Kd.R_slice HO158.out; subst eo70; obtain ⟨hcz71_0, hcz71_1, hcz71_2⟩ := ck3 BK148.out; obtain ⟨hfz71_0, hfz71_1, hfz71_2⟩ := fz3 BK148.out; have hnb72 := NB142_141.out; have hnc72 := NB141_142.out; obtain ⟨hcz73_0, hcz73_1, hcz73_2⟩ := ck3 BK142.out; obtain ⟨hfz73_0, hfz73_1, hfz73_2⟩ := fz3 BK142.out))
          refine bodyPost_ret (results_ct rfl _ _ gb142 29 #[.int .i64 t143, .int .i64 t144, .slice Ao70 t156.length co70] (0, 0) _ rfl (by (repeat refine bk1 ?_); refine blk_put (cs := #[.int .i64 t143, .int .i64 t144, .slice none 0 0]) ?_ 2 _ rfl; (repeat refine bk1 ?_); refine blk_put (cs := #[.int .i64 t143, .int .i64 x143001_2, .slice none 0 0]) ?_ 1 _ rfl; (repeat refine bk1 ?_); refine blk_put (cs := #[.int .i64 x143000_2, .int .i64 x143001_2, .slice none 0 0]) ?_ 0 _ rfl; (repeat refine bk1 ?_); refine blk_far ?_ NB142_148.out _; (repeat refine bk1 ?_); exact BK142.out) Try.underlying29 rfl (by kernel_rfl)) rfl ?_
          exact ⟨_, by first | rfl | (simp [errW_none, errW_some] <;> rfl) | (simp [*, errW_none, errW_some] <;> rfl), by (repeat apply rl1); exact Kd.R_mono (Kd.R_far (p := ⟨gb142, 2, none⟩) (Kd.R_far (p := ⟨gb142, 1, none⟩) (Kd.R_far (p := ⟨gb142, 0, none⟩) (Kd.R_far (p := ⟨gb148, 2, none⟩) (Kd.R_types (Kd.R_types HO158.out BK148.out (by decide)) BK142.out (by decide)) (fun _ hk => hk.1.2) (.slice Ao70 t156.length co70)) (fun _ hk => hk.2) (.int .i64 t143)) (fun _ hk => hk.2) (.int .i64 t144)) (fun _ hk => hk.2) (.slice Ao70 t156.length co70)) (fun _ hk => trivial), by repeat with_reducible first | exact bl HB.out | refine below_set ?_ GE141.out | refine below_set ?_ GE142.out | refine below_set ?_ GE148.out | refine bq ?_⟩
         ·
          rw [if_neg c60] at H
          have c60b0 : decide (a2 ≤ (wrap64 (x11_50 - x9_2))) = false := decide_eq_false c60
          clear c60
          by_cases c74 : x41_2 < (l0_2.length : Int)
          ·
           rw [if_pos c74] at H
           have c74b0 : decide (x41_2 < (l0_2.length : Int)) = true := decide_eq_true c74
           clear c74
           by_cases c75 : 0 ≤ x41_2
           ·
            rw [if_pos c75] at H
            have c75b0 : decide (0 ≤ x41_2) = true := decide_eq_true c75
            clear c75
            have H' := Aside0.mk H
            clear H
            have hnb76 := NB141_142.out
            have hnc76 := NB142_141.out
            have hnb77 := NB141_148.out
            have hnc77 := NB148_141.out
            obtain ⟨hcz78_0, hcz78_1, hcz78_2⟩ := ck3 BK141.out
            obtain ⟨hfz78_0, hfz78_1, hfz78_2⟩ := fz3 BK141.out
            have p159 : 0 ≤ (x41_2 : Int) := of_decide_eq_true (by first | (with_reducible assumption) | assumption)
            have q159 : x41_2 < (l0_2.length : Int) := of_decide_eq_true (by first | (with_reducible assumption) | assumption)
            obtain ⟨ad159, e159, hx159_0, hx159_1, hx159_2⟩ := at_T62 HR0_2.out x41_2 p159 q159
            cases e159
            replace hx159_0 := bc HB.out hx159_0
            replace hx159_1 := bc HB.out hx159_1
            replace hx159_2 := bc HB.out hx159_2
            replace p159 := eq_true p159
            replace q159 := eq_true q159
            go_wp2
            go_roundg kj50
            case measure => have := HJ4.out; have := HK2.out; have := HJ50.out; omega
            case rel => exact ⟨(wrap64 (x11_50 + ((rd_T62 l0_2 x41_2).f2))), (wrap64 (x41_2 + 1)), (x143000_2), (x143001_2), (x149002_2), (u149002), (by first | rfl | (simp; done) | (simp [*]; done)), (by first | rfl | (simp; done) | (simp [*]; done)), H', ⟨by have := HJ4.out; have := HK2.out; have := HJ50.out; omega⟩, ⟨rl HO_149002.out⟩, ⟨bk BK141.out⟩, ⟨bk BK142.out⟩, ⟨bk BK148.out⟩, ⟨by repeat with_reducible first | exact bl HB.out | refine below_set ?_ GE141.out | refine below_set ?_ GE142.out | refine below_set ?_ GE148.out | refine bq ?_⟩⟩
           ·
            rw [if_neg c75] at H
            exact absurd H (by simp)
          ·
           rw [if_neg c74] at H
           have c74b0 : decide (x41_2 < (l0_2.length : Int)) = false := decide_eq_false c74
           clear c74
           have H' := Aside0.mk H
           clear H
           have hnb79 := NB141_142.out
           have hnc79 := NB142_141.out
           have hnb80 := NB141_148.out
           have hnc80 := NB148_141.out
           obtain ⟨hcz81_0, hcz81_1, hcz81_2⟩ := ck3 BK141.out
           obtain ⟨hfz81_0, hfz81_1, hfz81_2⟩ := fz3 BK141.out
           go_wp2
           go_roundg kj50
           case measure => have := HJ4.out; have := HK2.out; have := HJ50.out; omega
           case rel => exact ⟨(x9_2), (wrap64 (x41_2 + 1)), (x143000_2), (x143001_2), (x149002_2), (u149002), (by first | rfl | (simp; done) | (simp [*]; done)), (by first | rfl | (simp; done) | (simp [*]; done)), H', ⟨by have := HJ4.out; have := HK2.out; have := HJ50.out; omega⟩, ⟨rl HO_149002.out⟩, ⟨bk BK141.out⟩, ⟨bk BK142.out⟩, ⟨bk BK148.out⟩, ⟨by repeat with_reducible first | exact bl HB.out | refine below_set ?_ GE141.out | refine below_set ?_ GE142.out | refine below_set ?_ GE148.out | refine bq ?_⟩⟩
      ·
       rw [if_neg c50] at H
       have c50b0 : decide (x41_2 < (wrap64 ((l0_2.length : Int) + 1))) = false := decide_eq_false c50
       clear c50
       simp only [Option.some.injEq, Prod.mk.injEq] at H
       obtain ⟨rfl, rfl, rfl, rfl⟩ := H
       have hnb82 := NB148_141.out
       have hnc82 := NB141_148.out
       have hnb83 := NB148_142.out
       have hnc83 := NB142_148.out
       obtain ⟨hcz84_0, hcz84_1, hcz84_2⟩ := ck3 BK148.out
       obtain ⟨hfz84_0, hfz84_1, hfz84_2⟩ := fz3 BK148.out
       have hnb85 := NB142_141.out
       have hnc85 := NB141_142.out
       obtain ⟨hcz86_0, hcz86_1, hcz86_2⟩ := ck3 BK142.out
       obtain ⟨hfz86_0, hfz86_1, hfz86_2⟩ := fz3 BK142.out
       obtain ⟨Ao87, co87, eo87⟩ := Kd.R_slice HO_149002.out
       subst eo87
       go_wp2
       refine bodyPost_ret (results_ct rfl _ _ gb142 29 #[.int .i64 t143, .int .i64 t144, .slice Ao87 x149002_2.length co87] (0, 0) _ rfl (by (repeat refine bk1 ?_); refine blk_put (cs := #[.int .i64 t143, .int .i64 t144, .slice none 0 0]) ?_ 2 _ rfl; (repeat refine bk1 ?_); refine blk_put (cs := #[.int .i64 t143, .int .i64 x143001_2, .slice none 0 0]) ?_ 1 _ rfl; (repeat refine bk1 ?_); refine blk_put (cs := #[.int .i64 x143000_2, .int .i64 x143001_2, .slice none 0 0]) ?_ 0 _ rfl; (repeat refine bk1 ?_); exact BK142.out) Try.underlying29 rfl (by kernel_rfl)) rfl ?_
       exact ⟨_, by first | rfl | (simp [errW_none, errW_some] <;> rfl) | (simp [*, errW_none, errW_some] <;> rfl), by (repeat apply rl1); exact Kd.R_mono (Kd.R_far (p := ⟨gb142, 2, none⟩) (Kd.R_far (p := ⟨gb142, 1, none⟩) (Kd.R_far (p := ⟨gb142, 0, none⟩) (Kd.R_types HO_149002.out BK142.out (by decide)) (fun _ hk => hk.2) (.int .i64 t143)) (fun _ hk => hk.2) (.int .i64 t144)) (fun _ hk => hk.2) (.slice Ao87 x149002_2.length co87)) (fun _ hk => trivial), by repeat with_reducible first | exact bl HB.out | refine below_set ?_ GE141.out | refine below_set ?_ GE142.out | refine below_set ?_ GE148.out | refine bq ?_⟩

-- NOT PRINTED: function 63 (impl_Job_63)

/-! ### slices.ContainsFunc with impl.RunJobs's function value (by hand): functions 53, 63, 52 -/
def inI (a b c : Int) : Bool := if a ≥ b then decide (a ≤ c) else false
theorem inI_is (a b c : Int) : impl_in.f a b c = some (inI a b c) := by unfold impl_in.f inI; split <;> rfl
def badJob (parts : Int) (x : S74) : Bool := !(inI x.f0 0 (wrap64 (parts - 1))) || (!(inI x.f1 1 100000) || !(inI x.f2 1 100000))
set_option maxHeartbeats 8000000 in
theorem runjobs1 (x : S74) (p0 p1 : Int) (v : Value) (B : Nat) (w : World) (hB : w.heap[B]? = some (.cells #[.int .i64 p0, .int .i64 p1, v] 29 (0, 0))) :
  Calls Try.prog 53 #[.agg #[.int .i64 x.f0, .int .i64 x.f1, .int .i64 x.f2], .pointer (some ⟨B, 0, none⟩)] w fun e w' => e = .returned (.bool (badJob p1 x)) ∧ Below w.heap.size w w' := by
 have hu29 := Try.underlying29
 have hu74 := Try.underlying74
 have hc : w.cell? ⟨B, 1, none⟩ = some (.int .i64 p1) := (blk_cell hB 1).trans rfl
 have hlt : B < w.heap.size := blk_lt hB
 clear hB
 unfold badJob
 have A1 := Aside0.mk (inI_is x.f0 0 (wrap64 (p1 - 1)))
 have A2 := Aside0.mk (inI_is x.f1 1 100000)
 have A3 := Aside0.mk (inI_is x.f2 1 100000)
 cases h1 : inI x.f0 0 (wrap64 (p1 - 1)) with
 | false =>
  rw [h1] at A1
  clear h1
  go_enter Try.func53, Try.ntmps53
  go_wp2_with (first | (go_at_call 38; (with_reducible refine (impl_in.calls _ _ _ _ _ A1.out).mono ?_); rintro e w' ⟨rfl, ⟨nd, rfl⟩⟩))
  go_ret
  exact ⟨rfl, by repeat (first | exact Below.refl _ _ | apply below_alloc | apply pw_below_drewN)⟩
 | true =>
  rw [h1] at A1
  clear h1
  cases h2 : inI x.f1 1 100000 with
  | false =>
   rw [h2] at A2
   clear h2
   go_enter Try.func53, Try.ntmps53
   go_wp2_with (first | (go_at_call 38; (with_reducible refine (impl_in.calls _ _ _ _ _ A1.out).mono ?_); rintro e w' ⟨rfl, ⟨nd, rfl⟩⟩) | (go_at_call 38; (with_reducible refine (impl_in.calls _ _ _ _ _ A2.out).mono ?_); rintro e w' ⟨rfl, ⟨nd, rfl⟩⟩))
   go_ret
   exact ⟨rfl, by repeat (first | exact Below.refl _ _ | apply below_alloc | apply pw_below_drewN)⟩
  | true =>
   rw [h2] at A2
   clear h2
   generalize inI x.f2 1 100000 = b3 at A3
   cases b3 <;>
    (go_enter Try.func53, Try.ntmps53
     go_wp2_with (first | (go_at_call 38; (with_reducible refine (impl_in.calls _ _ _ _ _ A1.out).mono ?_); rintro e w' ⟨rfl, ⟨nd, rfl⟩⟩) | (go_at_call 38; (with_reducible refine (impl_in.calls _ _ _ _ _ A2.out).mono ?_); rintro e w' ⟨rfl, ⟨nd, rfl⟩⟩) | (go_at_call 38; (with_reducible refine (impl_in.calls _ _ _ _ _ A3.out).mono ?_); rintro e w' ⟨rfl, ⟨nd, rfl⟩⟩))
     go_ret
     exact ⟨rfl, by repeat (first | exact Below.refl _ _ | apply below_alloc | apply pw_below_drewN)⟩)
theorem rdT74_get {l : List S74} {i : Nat} (h : i < l.length) : rd_T74 l (i : Int) = l[i] := by simp [rd_T74, List.getD_eq_getElem?_getD, h]
theorem any_take74 (q : S74 → Bool) {l : List S74} {i : Nat} (h : i < l.length) (hn : (l.take i).any q = false) (hb : q (rd_T74 l (i : Int)) = false) : (l.take (i + 1)).any q = false := by
 rw [List.take_succ_eq_append_getElem h, List.any_append, hn, ← rdT74_get h]
 simp [hb]
theorem any_hit74 (q : S74 → Bool) {l : List S74} {i : Nat} (h : i < l.length) (hb : q (rd_T74 l (i : Int)) = true) : l.any q = true :=
 List.any_eq_true.2 ⟨l[i], List.getElem_mem h, by rw [← rdT74_get h]; exact hb⟩
set_option maxHeartbeats 8000000 in
theorem runjobs_index (l : List S74) (A : Option Addr) (c : Nat) (p0 p1 : Int) (v : Value) (B : Nat) (w : World) (hr : Kd.C k74 w A l.length l) (hc : l.length ≤ c) (hl : l.length ≤ 1152921504606846976) (hB : w.heap[B]? = some (.cells #[.int .i64 p0, .int .i64 p1, v] 29 (0, 0))) :
  Calls Try.prog 63 #[.slice A l.length c, .func (.func 53) #[] #[.pointer (some ⟨B, 0, none⟩)]] w fun e w' => (∃ i : Int, e = .returned (.int .i64 i) ∧ decide (i ≥ 0) = l.any (badJob p1)) ∧ Below w.heap.size w w' := by
 have hu74 := Try.underlying74
 have HR := Aside0.mk hr
 have HBB := Aside0.mk hB
 have HL := Aside0.mk hl
 clear hr hB
 go_enter Try.func63, Try.ntmps63
 go_wp2
 go_loopw [8] (fun v8 wr => ∃ i : Nat, i ≤ l.length ∧ v8 = .int .i64 i ∧ Aside0 ((l.take i).any (badJob p1) = false) ∧ Aside0 (Below w.heap.size w wr)) (fun v8 _ => l.length - (intOf v8).toNat)
 case atStart => exact ⟨0, Nat.zero_le _, rfl, ⟨by simp⟩, ⟨Below.refl _ _⟩⟩
 case round =>
  obtain ⟨i, hi, rfl, HN, HB⟩ := hrel
  by_cases hlt : i < l.length
  ·
   obtain ⟨ad, e0, hx0, hx1, hx2⟩ := at_T74 (Kd.C_below HR.out HB.out) (i : Int) (by omega) (by omega)
   cases e0
   simp only [Int.toNat_natCast] at hx0 hx1 hx2
   have hBr := Aside0.mk (blk_below HBB.out (Below.mono HB.out (Nat.le_refl _)))
   cases hb : badJob p1 (rd_T74 l (i : Int)) with
   | true =>
    have HB1 := Aside0.mk hb
    clear hb
    go_wp2_with (first | (go_at_call 53; (with_reducible refine (runjobs1 _ _ _ _ _ _ hBr.out).mono ?_); rw [HB1.out]; rintro e w' ⟨rfl, hb⟩))
    go_ret
    exact ⟨⟨(i : Int), rfl, by rw [any_hit74 _ hlt HB1.out]; simp⟩, below_step HB.out hb⟩
   | false =>
    have HB1 := Aside0.mk hb
    clear hb
    go_wp2_with (first | (go_at_call 53; (with_reducible refine (runjobs1 _ _ _ _ _ _ hBr.out).mono ?_); rw [HB1.out]; rintro e w' ⟨rfl, hb⟩))
    go_roundw
    case rel => exact ⟨i + 1, by omega, by go_num, ⟨any_take74 _ hlt HN.out HB1.out⟩, ⟨below_step HB.out hb⟩⟩
    case measure => simp [intOf]; omega
  ·
   obtain rfl : i = l.length := by omega
   go_wp2
   go_ret
   have hn := HN.out
   rw [List.take_length] at hn
   exact ⟨⟨-1, rfl, by rw [hn]; rfl⟩, HB.out⟩
def slices_ContainsFunc_RunJobs_1.f (l0 : List S74) (a1_0 : Int) (a1_1 : Int) (l1_2 : List S62) : Option Bool := if l0.length ≤ 1152921504606846976 then some (l0.any (badJob a1_1)) else none
set_option maxHeartbeats 8000000 in
theorem slices_ContainsFunc_RunJobs_1.calls (A0 : Option Addr) (c0 : Nat) (l0 : List S74) (a1_0 : Int) (a1_1 : Int) (A1_2 : Option Addr) (c1_2 : Nat) (l1_2 : List S62) (r : Bool) {B : Nat} (w : World) (hfn : w.heap[B]? = some (.cells #[.int .i64 a1_0, .int .i64 a1_1, .slice A1_2 l1_2.length c1_2] 29 (0, 0))) (hr0 : Kd.C k74 w A0 l0.length l0) (hc0 : l0.length ≤ c0) (hr1_2 : Kd.C k62 w A1_2 l1_2.length l1_2) (hc1_2 : l1_2.length ≤ c1_2) (h : slices_ContainsFunc_RunJobs_1.f l0 a1_0 a1_1 l1_2 = some r) :
  Calls Try.prog 52 #[.slice A0 l0.length c0, .func (.func 53) #[] #[.pointer (some ⟨B, 0, none⟩)]] w fun e w' => e = .returned (.bool r) ∧ Below w.heap.size w w' := by
 unfold slices_ContainsFunc_RunJobs_1.f at h
 by_cases hl : l0.length ≤ 1152921504606846976
 ·
  rw [if_pos hl] at h
  obtain rfl := Option.some.inj h
  clear h hr1_2 hc1_2
  have HI := Aside0.mk (runjobs_index l0 A0 c0 a1_0 a1_1 (.slice A1_2 l1_2.length c1_2) B w hr0 hc0 hl hfn)
  clear hr0 hfn
  go_enter Try.func52, Try.ntmps52
  go_wp2_with (first | (go_at_call 63; (with_reducible refine HI.out.mono ?_); rintro e w' ⟨⟨i, rfl, hi⟩, hb⟩; have HH := Aside0.mk hi; clear hi))
  go_ret
  exact ⟨by rw [← HH.out]; first | rfl | simp, hb⟩
 ·
  rw [if_neg hl] at h
  exact absurd h (by simp)

end Go.Proofs.Ytlkphaahkhfgoaa.PFnWindows
