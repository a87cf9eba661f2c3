-- Written by a program of this session (wip/xprint.py) out of the translation; Lean checks it.
import Derived.Test.YtbgdibbgngpggaaPFnExactReleasex0
import Derived.Test.YtbgdibbgngpggaaPFnExactReleasex1
import Derived.Test.YtbgdibbgngpggaaPFnExactReleasex2
import Derived.Test.YtbgdibbgngpggaaPFnExactReleasex3
import Derived.Test.YtbgdibbgngpggaaPFnExactReleasex4
import Derived.Test.YtbgdibbgngpggaaPFnExactReleasex5
import Derived.Test.YtbgdibbgngpggaaPFnExactReleasex6
import Derived.Test.YtbgdibbgngpggaaPFnExactReleasex7
import Derived.Test.YtbgdibbgngpggaaPFnExactReleasex8
import Derived.Test.YtbgdibbgngpggaaPFnExactReleasex9
import Derived.Test.YtbgdibbgngpggaaPFnExactReleasex10
import Derived.Test.YtbgdibbgngpggaaPFnExactReleasex11
namespace Go.Proofs.Ytbgdibbgngpggaa.PFnExactRelease
open Go.RowKit Go.Proofs.YtbgdibbgngpggaaW.PrintWords Go.Proofs.YtbgdibbgngpggaaW.PrintLast Go.Proofs.YtbgdibbgngpggaaW.PrintMore Go.Proofs.Ytbgdibbgngpggaa.Sq
attribute [local go_sem] max2_int min2_int max_two min_two max_three min_three max_four min_four   -- for this text's walks alone
set_option linter.unusedVariables false
set_option linter.unusedSimpArgs false

/-! ### laws_FnExactRelease: function 9 -/
def laws_FnExactRelease.j0 : Nat → Bool → List (S29) → List (S92) → List (S118) → Int → Int → Int → List (S33) → List (S70) → List (S72) → Int → Int → Int → Option (Bool)
 | 0, _, _, _, _, _, _, _, _, _, _, _, _, _ => none
 | k + 1, x34, x286000, x286001, x286002, x286003, x286004, x286005, x314000, x314001, x314002, x314003, x314004, x314005 => if x34 = true then (some false) else ((laws_toFleet.f k x286000 x286001 x286002 x286003 x286004 x286005).bind fun bt316 => ((laws_eqFleet.f k x314000 x314001 x314002 x314003 x314004 x314005 bt316.1 bt316.2.1 bt316.2.2.1 bt316.2.2.2.1 bt316.2.2.2.2.1 bt316.2.2.2.2.2).bind fun t328 => (if t328 = true then (some true) else (some false))))
def laws_FnExactRelease.f (k : Nat) (l0_0 : List (S29)) (l0_1 : List (S92)) (l0_2 : List (S118)) (a0_3 : Int) (a0_4 : Int) (a0_5 : Int) : Option (Bool) := (laws_szFleet.f k l0_0 l0_1 l0_2 a0_3 a0_4 a0_5 1048576).bind fun t286 => (if t286 < 0 then (some true) else ((laws_toFleet.f k l0_0 l0_1 l0_2 a0_3 a0_4 a0_5).bind fun bt287 => ((spec_Release.f bt287.1 bt287.2.1 bt287.2.2.1 bt287.2.2.2.1 bt287.2.2.2.2.1 bt287.2.2.2.2.2).bind fun bt299 => ((laws_toFleet.f k l0_0 l0_1 l0_2 a0_3 a0_4 a0_5).bind fun bt301 => ((impl_Release.f bt301.1 bt301.2.1 bt301.2.2.1 bt301.2.2.2.1 bt301.2.2.2.2.1 bt301.2.2.2.2.2).bind fun bt314 => (if bt314.1 = bt299.1 then (laws_FnExactRelease.j0 k (bt314.2.toList != bt299.2.toList) l0_0 l0_1 l0_2 a0_3 a0_4 a0_5 bt301.1 bt301.2.1 bt301.2.2.1 bt301.2.2.2.1 bt301.2.2.2.2.1 bt301.2.2.2.2.2) else (laws_FnExactRelease.j0 k true l0_0 l0_1 l0_2 a0_3 a0_4 a0_5 bt301.1 bt301.2.1 bt301.2.2.1 bt301.2.2.2.1 bt301.2.2.2.2.1 bt301.2.2.2.2.2)))))))
theorem laws_FnExactRelease.mono_l : ∀ k, (∀ y0 y1 y2 y3 y4 y5 y6 y7 y8 y9 y10 y11 y12, LeO (laws_FnExactRelease.j0 k y0 y1 y2 y3 y4 y5 y6 y7 y8 y9 y10 y11 y12) (laws_FnExactRelease.j0 (k + 1) y0 y1 y2 y3 y4 y5 y6 y7 y8 y9 y10 y11 y12))
 | 0 => fun _ _ _ _ _ _ _ _ _ _ _ _ _ r h => by simp [laws_FnExactRelease.j0] at h
 | k + 1 => by
  have ih0 := laws_FnExactRelease.mono_l k
  ·
   intro y0 y1 y2 y3 y4 y5 y6 y7 y8 y9 y10 y11 y12
   unfold laws_FnExactRelease.j0
   repeat' first
   | (with_reducible exact ih0 _ _ _ _ _ _ _ _ _ _ _ _ _)
   | (with_reducible exact laws_eqFleet.mono _ _ _ _ _ _ _ _ _ _ _ _ _)
   | (with_reducible exact laws_szFleet.mono _ _ _ _ _ _ _ _)
   | (with_reducible exact laws_toFleet.mono _ _ _ _ _ _ _)
   | (with_reducible exact LeO.refl _)
   | (with_reducible exact LeO.none _)
   | (with_reducible refine LeO.ite ?_ ?_)
   | (with_reducible refine LeO.bind ?_ (fun _ => ?_))
   | exact ih0 _ _ _ _ _ _ _ _ _ _ _ _ _
   | exact laws_eqFleet.mono _ _ _ _ _ _ _ _ _ _ _ _ _
   | exact laws_szFleet.mono _ _ _ _ _ _ _ _
   | exact laws_toFleet.mono _ _ _ _ _ _ _
   | exact LeO.none _
   | refine LeO.ite ?_ ?_
   | refine LeO.bind ?_ (fun _ => ?_)
theorem laws_FnExactRelease.mono : ∀ a0 a1 a2 a3 a4 a5 k, LeO (laws_FnExactRelease.f k a0 a1 a2 a3 a4 a5) (laws_FnExactRelease.f (k + 1) a0 a1 a2 a3 a4 a5) := by
 intro a0 a1 a2 a3 a4 a5 k
 have ih0 := laws_FnExactRelease.mono_l k
 unfold laws_FnExactRelease.f
 repeat' first
   | (with_reducible exact ih0 _ _ _ _ _ _ _ _ _ _ _ _ _)
   | (with_reducible exact laws_eqFleet.mono _ _ _ _ _ _ _ _ _ _ _ _ _)
   | (with_reducible exact laws_szFleet.mono _ _ _ _ _ _ _ _)
   | (with_reducible exact laws_toFleet.mono _ _ _ _ _ _ _)
   | (with_reducible exact LeO.refl _)
   | (with_reducible exact LeO.none _)
   | (with_reducible refine LeO.ite ?_ ?_)
   | (with_reducible refine LeO.bind ?_ (fun _ => ?_))
   | exact ih0 _ _ _ _ _ _ _ _ _ _ _ _ _
   | exact laws_eqFleet.mono _ _ _ _ _ _ _ _ _ _ _ _ _
   | exact laws_szFleet.mono _ _ _ _ _ _ _ _
   | exact laws_toFleet.mono _ _ _ _ _ _ _
   | exact LeO.none _
   | refine LeO.ite ?_ ?_
   | refine LeO.bind ?_ (fun _ => ?_)
set_option maxHeartbeats 8000000 in
set_option maxRecDepth 100000 in
theorem laws_FnExactRelease.calls (k : Nat) (A0_0 : Option Addr) (c0_0 : Nat) (l0_0 : List (S29)) (A0_1 : Option Addr) (c0_1 : Nat) (l0_1 : List (S92)) (A0_2 : Option Addr) (c0_2 : Nat) (l0_2 : List (S118)) (a0_3 : Int) (a0_4 : Int) (a0_5 : Int) (r : Bool) (hr_ : r = true) (w : World) (hr0_0 : Kd.C k29 w A0_0 l0_0.length l0_0) (hc0_0 : l0_0.length ≤ c0_0) (hr0_1 : Kd.C k92 w A0_1 l0_1.length l0_1) (hc0_1 : l0_1.length ≤ c0_1) (hr0_2 : Kd.C k118 w A0_2 l0_2.length l0_2) (hc0_2 : l0_2.length ≤ c0_2) (h : laws_FnExactRelease.f k l0_0 l0_1 l0_2 a0_3 a0_4 a0_5 = some r) :
  Calls Try.prog 9 #[.agg #[.slice A0_0 l0_0.length c0_0, .slice A0_1 l0_1.length c0_1, .slice A0_2 l0_2.length c0_2, .int .i64 a0_3, .int .i64 a0_4, .int .i64 a0_5]] w fun e w' => e = .returned (.bool r) ∧ Below w.heap.size w w' := by
 have hu50 := Try.underlying50
 have hu56 := Try.underlying56
 have HR0_0 := Aside0.mk hr0_0
 have HC0_0 := Aside0.mk hc0_0
 clear hr0_0 hc0_0
 have HR0_1 := Aside0.mk hr0_1
 have HC0_1 := Aside0.mk hc0_1
 clear hr0_1 hc0_1
 have HR0_2 := Aside0.mk hr0_2
 have HC0_2 := Aside0.mk hc0_2
 clear hr0_2 hc0_2
 have HB := Aside0.mk (Below.refl w.heap.size w)
 have H : ((laws_szFleet.f k l0_0 l0_1 l0_2 a0_3 a0_4 a0_5 1048576).bind fun t286 => (if t286 < 0 then (some true) else ((laws_toFleet.f k l0_0 l0_1 l0_2 a0_3 a0_4 a0_5).bind fun bt287 => ((spec_Release.f bt287.1 bt287.2.1 bt287.2.2.1 bt287.2.2.2.1 bt287.2.2.2.2.1 bt287.2.2.2.2.2).bind fun bt299 => ((laws_toFleet.f k l0_0 l0_1 l0_2 a0_3 a0_4 a0_5).bind fun bt301 => ((impl_Release.f bt301.1 bt301.2.1 bt301.2.2.1 bt301.2.2.2.1 bt301.2.2.2.2.1 bt301.2.2.2.2.2).bind fun bt314 => (if bt314.1 = bt299.1 then (laws_FnExactRelease.j0 k (bt314.2.toList != bt299.2.toList) l0_0 l0_1 l0_2 a0_3 a0_4 a0_5 bt301.1 bt301.2.1 bt301.2.2.1 bt301.2.2.2.1 bt301.2.2.2.2.1 bt301.2.2.2.2.2) else (laws_FnExactRelease.j0 k true l0_0 l0_1 l0_2 a0_3 a0_4 a0_5 bt301.1 bt301.2.1 bt301.2.2.1 bt301.2.2.2.1 bt301.2.2.2.2.1 bt301.2.2.2.2.2)))))))) = some r := h
 clear h
 replace H := Option.bind_eq_some_iff.mp H
 obtain ⟨t286, A20, H⟩ := H
 replace H : (if t286 < 0 then (some true) else ((laws_toFleet.f k l0_0 l0_1 l0_2 a0_3 a0_4 a0_5).bind fun bt287 => ((spec_Release.f bt287.1 bt287.2.1 bt287.2.2.1 bt287.2.2.2.1 bt287.2.2.2.2.1 bt287.2.2.2.2.2).bind fun bt299 => ((laws_toFleet.f k l0_0 l0_1 l0_2 a0_3 a0_4 a0_5).bind fun bt301 => ((impl_Release.f bt301.1 bt301.2.1 bt301.2.2.1 bt301.2.2.2.1 bt301.2.2.2.2.1 bt301.2.2.2.2.2).bind fun bt314 => (if bt314.1 = bt299.1 then (laws_FnExactRelease.j0 k (bt314.2.toList != bt299.2.toList) l0_0 l0_1 l0_2 a0_3 a0_4 a0_5 bt301.1 bt301.2.1 bt301.2.2.1 bt301.2.2.2.1 bt301.2.2.2.2.1 bt301.2.2.2.2.2) else (laws_FnExactRelease.j0 k true l0_0 l0_1 l0_2 a0_3 a0_4 a0_5 bt301.1 bt301.2.1 bt301.2.2.1 bt301.2.2.2.1 bt301.2.2.2.2.1 bt301.2.2.2.2.2))))))) = some r := H
 have A2 := Aside0.mk A20
 clear A20
 have HC3 := Aside0.mk H
 clear H
 go_enter Try.func9, Try.ntmps9
 go_upto_if 13 with (first | ((with_reducible refine gate_dst (N := 1) rfl ?_); refine box_event ?hg (N := 1) ?hd (cs := #[.slice A0_0 l0_0.length c0_0, .slice A0_1 l0_1.length c0_1, .slice A0_2 l0_2.length c0_2, .int .i64 a0_3, .int .i64 a0_4, .int .i64 a0_5]) (t := 50) ?hr ?_; (case hd => rfl); (case hg => rfl); (case hr => first | (go_simp; done) | (go_simp; rfl)); intro gb285 hg w4 hbox hb; have BK285 := Aside0.mk (hbox); have GW285 := Aside0.mk ((by rw [hg]; exact (below_size (bl HB.out)) : w.heap.size ≤ gb285)); have GE285 := GW285; replace HB := Aside0.mk (below_step (bl HB.out) hb); clear hb hbox hg; obtain ⟨hcz5_0, hcz5_1, hcz5_2, hcz5_3, hcz5_4, hcz5_5⟩ := ck6 BK285.out; obtain ⟨hfz5_0, hfz5_1, hfz5_2, hfz5_3, hfz5_4, hfz5_5⟩ := fz6 BK285.out) | ((with_reducible refine gate_callee (f := 28) rfl ?_); refine goesL_ (some 11) rfl rfl Try.func28 (by kernel_rfl) rfl #[.agg #[.slice A0_0 l0_0.length c0_0, .slice A0_1 l0_1.length c0_1, .slice A0_2 l0_2.length c0_2, .int .i64 a0_3, .int .i64 a0_4, .int .i64 a0_5], .int .i64 1048576] rfl (by (try simp only [am_]); first | done | rfl) ?_; (with_reducible refine (laws_szFleet.calls k _ _ l0_0 _ _ l0_1 _ _ l0_2 a0_3 a0_4 a0_5 1048576 t286 _ ?side1 ?side2 ?side3 ?side4 ?side5 ?side6 A2.out).mono ?_); (case side1 => exact rc (Kd.C_below HR0_0.out HB.out)); (case side2 => exact HC0_0.out); (case side3 => exact rc (Kd.C_below HR0_1.out HB.out)); (case side4 => exact HC0_1.out); (case side5 => exact rc (Kd.C_below HR0_2.out HB.out)); (case side6 => exact HC0_2.out); rintro e w6 ⟨rfl, hb⟩; refine ⟨_, rfl, ?_⟩; replace BK285 := Aside0.mk (blk_below (bk BK285.out) hb); replace HB := Aside0.mk (below_step (by repeat with_reducible first | exact bl HB.out | refine below_set ?_ GE285.out | refine bq ?_) hb); (try clear hb); (try clear hb2); (try clear hk); (try clear hi)))
 have H := HC3.out
 clear HC3
 by_cases c7 : t286 < 0
 ·
  rw [if_pos c7] at H
  have c7b0 : decide (t286 < 0) = true := decide_eq_true c7
  clear c7
  (first | rw [c7b0] | (simp only [i64_w, i32_w]; rw [c7b0]) | skip)
  obtain rfl := Option.some.inj H
  go_wp2
  go_ret
  exact ⟨by first | rfl | (simp [errW_none, errW_some] <;> rfl) | (simp [*, errW_none, errW_some] <;> rfl), by repeat with_reducible first | exact bl HB.out | refine below_set ?_ GE285.out | refine bq ?_⟩
 ·
  rw [if_neg c7] at H
  have c7b0 : decide (t286 < 0) = false := decide_eq_false c7
  clear c7
  (first | rw [c7b0] | (simp only [i64_w, i32_w]; rw [c7b0]) | skip)
  replace H := Option.bind_eq_some_iff.mp H
  obtain ⟨⟨t287, t290, t293, t296, t297, t298⟩, A80, H⟩ := H
  replace H : ((spec_Release.f t287 t290 t293 t296 t297 t298).bind fun bt299 => ((laws_toFleet.f k l0_0 l0_1 l0_2 a0_3 a0_4 a0_5).bind fun bt301 => ((impl_Release.f bt301.1 bt301.2.1 bt301.2.2.1 bt301.2.2.2.1 bt301.2.2.2.2.1 bt301.2.2.2.2.2).bind fun bt314 => (if bt314.1 = bt299.1 then (laws_FnExactRelease.j0 k (bt314.2.toList != bt299.2.toList) l0_0 l0_1 l0_2 a0_3 a0_4 a0_5 bt301.1 bt301.2.1 bt301.2.2.1 bt301.2.2.2.1 bt301.2.2.2.2.1 bt301.2.2.2.2.2) else (laws_FnExactRelease.j0 k true l0_0 l0_1 l0_2 a0_3 a0_4 a0_5 bt301.1 bt301.2.1 bt301.2.2.1 bt301.2.2.2.1 bt301.2.2.2.2.1 bt301.2.2.2.2.2))))) = some r := H
  have A8 := Aside0.mk A80
  clear A80
  replace H := Option.bind_eq_some_iff.mp H
  obtain ⟨⟨t299, t300⟩, A90, H⟩ := H
  replace H : ((laws_toFleet.f k l0_0 l0_1 l0_2 a0_3 a0_4 a0_5).bind fun bt301 => ((impl_Release.f bt301.1 bt301.2.1 bt301.2.2.1 bt301.2.2.2.1 bt301.2.2.2.2.1 bt301.2.2.2.2.2).bind fun bt314 => (if bt314.1 = t299 then (laws_FnExactRelease.j0 k (bt314.2.toList != t300.toList) l0_0 l0_1 l0_2 a0_3 a0_4 a0_5 bt301.1 bt301.2.1 bt301.2.2.1 bt301.2.2.2.1 bt301.2.2.2.2.1 bt301.2.2.2.2.2) else (laws_FnExactRelease.j0 k true l0_0 l0_1 l0_2 a0_3 a0_4 a0_5 bt301.1 bt301.2.1 bt301.2.2.1 bt301.2.2.2.1 bt301.2.2.2.2.1 bt301.2.2.2.2.2)))) = some r := H
  have A9 := Aside0.mk A90
  clear A90
  replace H := Option.bind_eq_some_iff.mp H
  obtain ⟨⟨t301, t304, t307, t310, t311, t312⟩, A100, H⟩ := H
  replace H : ((impl_Release.f t301 t304 t307 t310 t311 t312).bind fun bt314 => (if bt314.1 = t299 then (laws_FnExactRelease.j0 k (bt314.2.toList != t300.toList) l0_0 l0_1 l0_2 a0_3 a0_4 a0_5 t301 t304 t307 t310 t311 t312) else (laws_FnExactRelease.j0 k true l0_0 l0_1 l0_2 a0_3 a0_4 a0_5 t301 t304 t307 t310 t311 t312))) = some r := H
  have A10 := Aside0.mk A100
  clear A100
  replace H := Option.bind_eq_some_iff.mp H
  obtain ⟨⟨t314, t315⟩, A110, H⟩ := H
  replace H : (if t314 = t299 then (laws_FnExactRelease.j0 k (t315.toList != t300.toList) l0_0 l0_1 l0_2 a0_3 a0_4 a0_5 t301 t304 t307 t310 t311 t312) else (laws_FnExactRelease.j0 k true l0_0 l0_1 l0_2 a0_3 a0_4 a0_5 t301 t304 t307 t310 t311 t312)) = some r := H
  have A11 := Aside0.mk A110
  clear A110
  have HC12 := Aside0.mk H
  clear H
  obtain ⟨hcz13_0, hcz13_1, hcz13_2, hcz13_3, hcz13_4, hcz13_5⟩ := ck6 BK285.out
  obtain ⟨hfz13_0, hfz13_1, hfz13_2, hfz13_3, hfz13_4, hfz13_5⟩ := fz6 BK285.out
  go_upto_region 8 with (first | ((with_reducible refine gate_callee (f := 30) rfl ?_); refine goesL_ (some 16) rfl rfl Try.func30 (by kernel_rfl) rfl #[.agg #[.slice A0_0 l0_0.length c0_0, .slice A0_1 l0_1.length c0_1, .slice A0_2 l0_2.length c0_2, .int .i64 a0_3, .int .i64 a0_4, .int .i64 a0_5]] rfl (by (try simp only [am_]); first | done | rfl) ?_; (with_reducible refine (laws_toFleet.calls k _ _ l0_0 _ _ l0_1 _ _ l0_2 a0_3 a0_4 a0_5 t287 t290 t293 t296 t297 t298 _ ?side1 ?side2 ?side3 ?side4 ?side5 ?side6 A8.out).mono ?_); (case side1 => exact rc (Kd.C_below HR0_0.out HB.out)); (case side2 => exact HC0_0.out); (case side3 => exact rc (Kd.C_below HR0_1.out HB.out)); (case side4 => exact HC0_1.out); (case side5 => exact rc (Kd.C_below HR0_2.out HB.out)); (case side6 => exact HC0_2.out); rintro e w14 ⟨v288, v291, v294, rfl, ho0, ho1, ho2, hb⟩; refine ⟨_, rfl, ?_⟩; have HO289 := Aside0.mk (Kd.R_lower ho0 (below_size (by repeat with_reducible first | exact bl HB.out | refine below_set ?_ GE285.out | refine bq ?_))); have HO292 := Aside0.mk (Kd.R_lower ho1 (below_size (by repeat with_reducible first | exact bl HB.out | refine below_set ?_ GE285.out | refine bq ?_))); have HO295 := Aside0.mk (Kd.R_lower ho2 (below_size (by repeat with_reducible first | exact bl HB.out | refine below_set ?_ GE285.out | refine bq ?_))); replace BK285 := Aside0.mk (blk_below (bk BK285.out) hb); replace HB := Aside0.mk (below_step (by repeat with_reducible first | exact bl HB.out | refine below_set ?_ GE285.out | refine bq ?_) hb); (try clear hb); (try clear hb2); (try clear hk); (try clear hi); (try clear ho0); (try clear ho1); (try clear ho2); obtain ⟨Ao15, co15, eo15⟩ := Kd.R_slice HO289.out; subst eo15; obtain ⟨Ao16, co16, eo16⟩ := Kd.R_slice HO292.out; subst eo16; obtain ⟨Ao17, co17, eo17⟩ := Kd.R_slice HO295.out; subst eo17) | ((with_reducible refine gate_callee (f := 35) rfl ?_); refine goesL_ (some 17) rfl rfl Try.func35 (by kernel_rfl) rfl #[.agg #[.slice Ao15 t287.length co15, .slice Ao16 t290.length co16, .slice Ao17 t293.length co17, .int .i64 t296, .int .i64 t297, .int .i64 t298]] rfl (by (try simp only [am_]); first | done | rfl) ?_; (with_reducible refine (spec_Release.calls _ _ t287 _ _ t290 _ _ t293 t296 t297 t298 t299 t300 _ ?side1 ?side2 ?side3 ?side4 ?side5 ?side6 A9.out).mono ?_); (case side1 => exact rc (Kd.R_reads' HO289.out).2.2); (case side2 => exact (Kd.R_reads' HO289.out).2.1); (case side3 => exact rc (Kd.R_reads' HO292.out).2.2); (case side4 => exact (Kd.R_reads' HO292.out).2.1); (case side5 => exact rc (Kd.R_reads' HO295.out).2.2); (case side6 => exact (Kd.R_reads' HO295.out).2.1); rintro e w18 ⟨rfl, hb⟩; refine ⟨_, rfl, ?_⟩; replace HO289 := Aside0.mk (Kd.R_below (rl HO289.out) hb); replace HO292 := Aside0.mk (Kd.R_below (rl HO292.out) hb); replace HO295 := Aside0.mk (Kd.R_below (rl HO295.out) hb); replace BK285 := Aside0.mk (blk_below (bk BK285.out) hb); replace HB := Aside0.mk (below_step (by repeat with_reducible first | exact bl HB.out | refine below_set ?_ GE285.out | refine bq ?_) hb); (try clear hb); (try clear hb2); (try clear hk); (try clear hi); obtain ⟨hcz19_0, hcz19_1, hcz19_2, hcz19_3, hcz19_4, hcz19_5⟩ := ck6 BK285.out; obtain ⟨hfz19_0, hfz19_1, hfz19_2, hfz19_3, hfz19_4, hfz19_5⟩ := fz6 BK285.out) | ((with_reducible refine gate_callee (f := 30) rfl ?_); refine goesL_ (some 21) rfl rfl Try.func30 (by kernel_rfl) rfl #[.agg #[.slice A0_0 l0_0.length c0_0, .slice A0_1 l0_1.length c0_1, .slice A0_2 l0_2.length c0_2, .int .i64 a0_3, .int .i64 a0_4, .int .i64 a0_5]] rfl (by (try simp only [am_]); first | done | rfl) ?_; (with_reducible refine (laws_toFleet.calls k _ _ l0_0 _ _ l0_1 _ _ l0_2 a0_3 a0_4 a0_5 t301 t304 t307 t310 t311 t312 _ ?side1 ?side2 ?side3 ?side4 ?side5 ?side6 A10.out).mono ?_); (case side1 => exact rc (Kd.C_below HR0_0.out HB.out)); (case side2 => exact HC0_0.out); (case side3 => exact rc (Kd.C_below HR0_1.out HB.out)); (case side4 => exact HC0_1.out); (case side5 => exact rc (Kd.C_below HR0_2.out HB.out)); (case side6 => exact HC0_2.out); rintro e w20 ⟨v302, v305, v308, rfl, ho0, ho1, ho2, hb⟩; refine ⟨_, rfl, ?_⟩; have HO303 := Aside0.mk (Kd.R_lower (Kd.R_new' ho0 (Kd.R_lt (by (repeat apply rl1); exact HO289.out))) (below_size (by repeat with_reducible first | exact bl HB.out | refine below_set ?_ GE285.out | refine bq ?_))); replace HO289 := Aside0.mk (Kd.R_elder' (rl HO289.out) (Kd.R_base ho0) hb); have HO306 := Aside0.mk (Kd.R_lower (Kd.R_new' ho1 (Kd.R_lt (by (repeat apply rl1); exact HO292.out))) (below_size (by repeat with_reducible first | exact bl HB.out | refine below_set ?_ GE285.out | refine bq ?_))); replace HO292 := Aside0.mk (Kd.R_elder' (rl HO292.out) (Kd.R_base ho1) hb); have HO309 := Aside0.mk (Kd.R_lower (Kd.R_new' ho2 (Kd.R_lt (by (repeat apply rl1); exact HO295.out))) (below_size (by repeat with_reducible first | exact bl HB.out | refine below_set ?_ GE285.out | refine bq ?_))); replace HO295 := Aside0.mk (Kd.R_elder' (rl HO295.out) (Kd.R_base ho2) hb); replace BK285 := Aside0.mk (blk_below (bk BK285.out) hb); replace HB := Aside0.mk (below_step (by repeat with_reducible first | exact bl HB.out | refine below_set ?_ GE285.out | refine bq ?_) hb); (try clear hb); (try clear hb2); (try clear hk); (try clear hi); (try clear ho0); (try clear ho1); (try clear ho2)) | ((with_reducible refine gate_dst (N := 6) rfl ?_); refine box_event ?hg (N := 6) ?hd (cs := #[.slice none 0 0, .slice none 0 0, .slice none 0 0, .int .i64 0, .int .i64 0, .int .i64 0]) (t := 56) ?hr ?_; (case hd => rfl); (case hg => rfl); (case hr => first | (go_simp; done) | (go_simp; rfl)); intro gb313 hg w21 hbox hb; replace HO289 := Aside0.mk (Kd.R_below (rl HO289.out) hb); replace HO292 := Aside0.mk (Kd.R_below (rl HO292.out) hb); replace HO295 := Aside0.mk (Kd.R_below (rl HO295.out) hb); replace HO303 := Aside0.mk (Kd.R_below (rl HO303.out) hb); replace HO306 := Aside0.mk (Kd.R_below (rl HO306.out) hb); replace HO309 := Aside0.mk (Kd.R_below (rl HO309.out) hb); have BK313 := Aside0.mk (hbox); have GW313 := Aside0.mk ((by rw [hg]; exact (below_size (by repeat with_reducible first | exact bl HB.out | refine below_set ?_ GE285.out | refine bq ?_)) : w.heap.size ≤ gb313)); have GE313 := GW313; replace HB := Aside0.mk (below_step (by repeat with_reducible first | exact bl HB.out | refine below_set ?_ GE285.out | refine bq ?_) hb); have NB285_313 := nb_ hg BK285.out; have NB313_285 := Aside0.mk NB285_313.out.symm; replace BK285 := Aside0.mk (blk_below (bk BK285.out) hb); clear hb hbox hg; obtain ⟨Ao22, co22, eo22⟩ := Kd.R_slice HO303.out; subst eo22; have hnb23 := NB313_285.out; have hnc23 := NB285_313.out; obtain ⟨hcz24_0, hcz24_1, hcz24_2, hcz24_3, hcz24_4, hcz24_5⟩ := ck6 BK313.out; obtain ⟨hfz24_0, hfz24_1, hfz24_2, hfz24_3, hfz24_4, hfz24_5⟩ := fz6 BK313.out; obtain ⟨Ao25, co25, eo25⟩ := Kd.R_slice HO306.out; subst eo25; obtain ⟨Ao26, co26, eo26⟩ := Kd.R_slice HO309.out; subst eo26) | ((with_reducible refine gate_callee (f := 36) rfl ?_); refine goesL_ (some 24) rfl rfl Try.func36 (by kernel_rfl) rfl #[.agg #[.slice Ao22 t301.length co22, .slice Ao25 t304.length co25, .slice Ao26 t307.length co26, .int .i64 t310, .int .i64 t311, .int .i64 t312]] rfl (by (try simp only [am_]); first | done | rfl) ?_; (with_reducible refine (impl_Release.calls _ _ t301 _ _ t304 _ _ t307 t310 t311 t312 t314 t315 _ ?side1 ?side2 ?side3 ?side4 ?side5 ?side6 A11.out).mono ?_); (case side1 => refine (Kd.R_reads' (e := 33) (base := w.heap.size) (ok := fun k_ => (True ∧ some k_ ≠ (.slice Ao15 t287.length co15 : Value).ownBlock)) (n := t301.length) (c := co22) ?_).2.2; exact (by (repeat apply rl1); exact (Kd.R_mono (Kd.R_far (p := ⟨gb313, 5, none⟩) (Kd.R_far (p := ⟨gb313, 4, none⟩) (Kd.R_far (p := ⟨gb313, 3, none⟩) (Kd.R_far (p := ⟨gb313, 2, none⟩) (Kd.R_far (p := ⟨gb313, 1, none⟩) (Kd.R_far (p := ⟨gb313, 0, none⟩) (Kd.R_types HO303.out BK313.out (by decide)) (fun _ hk => hk.2) (.slice Ao22 t301.length co22)) (fun _ hk => hk.2) (.slice Ao25 t304.length co25)) (fun _ hk => hk.2) (.slice Ao26 t307.length co26)) (fun _ hk => hk.2) (.int .i64 t310)) (fun _ hk => hk.2) (.int .i64 t311)) (fun _ hk => hk.2) (.int .i64 t312)) (fun _ h_ => h_.1)))); (case side2 => exact (Kd.R_reads' HO303.out).2.1); (case side3 => refine (Kd.R_reads' (e := 70) (base := w.heap.size) (ok := fun k_ => (True ∧ some k_ ≠ (.slice Ao16 t290.length co16 : Value).ownBlock)) (n := t304.length) (c := co25) ?_).2.2; exact (by (repeat apply rl1); exact (Kd.R_mono (Kd.R_far (p := ⟨gb313, 5, none⟩) (Kd.R_far (p := ⟨gb313, 4, none⟩) (Kd.R_far (p := ⟨gb313, 3, none⟩) (Kd.R_far (p := ⟨gb313, 2, none⟩) (Kd.R_far (p := ⟨gb313, 1, none⟩) (Kd.R_far (p := ⟨gb313, 0, none⟩) (Kd.R_types HO306.out BK313.out (by decide)) (fun _ hk => hk.2) (.slice Ao22 t301.length co22)) (fun _ hk => hk.2) (.slice Ao25 t304.length co25)) (fun _ hk => hk.2) (.slice Ao26 t307.length co26)) (fun _ hk => hk.2) (.int .i64 t310)) (fun _ hk => hk.2) (.int .i64 t311)) (fun _ hk => hk.2) (.int .i64 t312)) (fun _ h_ => h_.1)))); (case side4 => exact (Kd.R_reads' HO306.out).2.1); (case side5 => refine (Kd.R_reads' (e := 72) (base := w.heap.size) (ok := fun k_ => (True ∧ some k_ ≠ (.slice Ao17 t293.length co17 : Value).ownBlock)) (n := t307.length) (c := co26) ?_).2.2; exact (by (repeat apply rl1); exact (Kd.R_mono (Kd.R_far (p := ⟨gb313, 5, none⟩) (Kd.R_far (p := ⟨gb313, 4, none⟩) (Kd.R_far (p := ⟨gb313, 3, none⟩) (Kd.R_far (p := ⟨gb313, 2, none⟩) (Kd.R_far (p := ⟨gb313, 1, none⟩) (Kd.R_far (p := ⟨gb313, 0, none⟩) (Kd.R_types HO309.out BK313.out (by decide)) (fun _ hk => hk.2) (.slice Ao22 t301.length co22)) (fun _ hk => hk.2) (.slice Ao25 t304.length co25)) (fun _ hk => hk.2) (.slice Ao26 t307.length co26)) (fun _ hk => hk.2) (.int .i64 t310)) (fun _ hk => hk.2) (.int .i64 t311)) (fun _ hk => hk.2) (.int .i64 t312)) (fun _ h_ => h_.1)))); (case side6 => exact (Kd.R_reads' HO309.out).2.1); rintro e w27 ⟨rfl, hb⟩; refine ⟨_, rfl, ?_⟩; replace HO289 := Aside0.mk (Kd.R_below (by (repeat apply rl1); exact (Kd.R_mono (Kd.R_far (p := ⟨gb313, 5, none⟩) (Kd.R_far (p := ⟨gb313, 4, none⟩) (Kd.R_far (p := ⟨gb313, 3, none⟩) (Kd.R_far (p := ⟨gb313, 2, none⟩) (Kd.R_far (p := ⟨gb313, 1, none⟩) (Kd.R_far (p := ⟨gb313, 0, none⟩) (Kd.R_types HO289.out BK313.out (by decide)) (fun _ hk => hk.2) (.slice Ao22 t301.length co22)) (fun _ hk => hk.2) (.slice Ao25 t304.length co25)) (fun _ hk => hk.2) (.slice Ao26 t307.length co26)) (fun _ hk => hk.2) (.int .i64 t310)) (fun _ hk => hk.2) (.int .i64 t311)) (fun _ hk => hk.2) (.int .i64 t312)) (fun _ h_ => h_.1))) hb); replace HO292 := Aside0.mk (Kd.R_below (by (repeat apply rl1); exact (Kd.R_mono (Kd.R_far (p := ⟨gb313, 5, none⟩) (Kd.R_far (p := ⟨gb313, 4, none⟩) (Kd.R_far (p := ⟨gb313, 3, none⟩) (Kd.R_far (p := ⟨gb313, 2, none⟩) (Kd.R_far (p := ⟨gb313, 1, none⟩) (Kd.R_far (p := ⟨gb313, 0, none⟩) (Kd.R_types HO292.out BK313.out (by decide)) (fun _ hk => hk.2) (.slice Ao22 t301.length co22)) (fun _ hk => hk.2) (.slice Ao25 t304.length co25)) (fun _ hk => hk.2) (.slice Ao26 t307.length co26)) (fun _ hk => hk.2) (.int .i64 t310)) (fun _ hk => hk.2) (.int .i64 t311)) (fun _ hk => hk.2) (.int .i64 t312)) (fun _ h_ => h_.1))) hb); replace HO295 := Aside0.mk (Kd.R_below (by (repeat apply rl1); exact (Kd.R_mono (Kd.R_far (p := ⟨gb313, 5, none⟩) (Kd.R_far (p := ⟨gb313, 4, none⟩) (Kd.R_far (p := ⟨gb313, 3, none⟩) (Kd.R_far (p := ⟨gb313, 2, none⟩) (Kd.R_far (p := ⟨gb313, 1, none⟩) (Kd.R_far (p := ⟨gb313, 0, none⟩) (Kd.R_types HO295.out BK313.out (by decide)) (fun _ hk => hk.2) (.slice Ao22 t301.length co22)) (fun _ hk => hk.2) (.slice Ao25 t304.length co25)) (fun _ hk => hk.2) (.slice Ao26 t307.length co26)) (fun _ hk => hk.2) (.int .i64 t310)) (fun _ hk => hk.2) (.int .i64 t311)) (fun _ hk => hk.2) (.int .i64 t312)) (fun _ h_ => h_.1))) hb); replace HO303 := Aside0.mk (Kd.R_below (by (repeat apply rl1); exact (Kd.R_mono (Kd.R_far (p := ⟨gb313, 5, none⟩) (Kd.R_far (p := ⟨gb313, 4, none⟩) (Kd.R_far (p := ⟨gb313, 3, none⟩) (Kd.R_far (p := ⟨gb313, 2, none⟩) (Kd.R_far (p := ⟨gb313, 1, none⟩) (Kd.R_far (p := ⟨gb313, 0, none⟩) (Kd.R_types HO303.out BK313.out (by decide)) (fun _ hk => hk.2) (.slice Ao22 t301.length co22)) (fun _ hk => hk.2) (.slice Ao25 t304.length co25)) (fun _ hk => hk.2) (.slice Ao26 t307.length co26)) (fun _ hk => hk.2) (.int .i64 t310)) (fun _ hk => hk.2) (.int .i64 t311)) (fun _ hk => hk.2) (.int .i64 t312)) (fun _ h_ => h_.1))) hb); replace HO306 := Aside0.mk (Kd.R_below (by (repeat apply rl1); exact (Kd.R_mono (Kd.R_far (p := ⟨gb313, 5, none⟩) (Kd.R_far (p := ⟨gb313, 4, none⟩) (Kd.R_far (p := ⟨gb313, 3, none⟩) (Kd.R_far (p := ⟨gb313, 2, none⟩) (Kd.R_far (p := ⟨gb313, 1, none⟩) (Kd.R_far (p := ⟨gb313, 0, none⟩) (Kd.R_types HO306.out BK313.out (by decide)) (fun _ hk => hk.2) (.slice Ao22 t301.length co22)) (fun _ hk => hk.2) (.slice Ao25 t304.length co25)) (fun _ hk => hk.2) (.slice Ao26 t307.length co26)) (fun _ hk => hk.2) (.int .i64 t310)) (fun _ hk => hk.2) (.int .i64 t311)) (fun _ hk => hk.2) (.int .i64 t312)) (fun _ h_ => h_.1))) hb); replace HO309 := Aside0.mk (Kd.R_below (by (repeat apply rl1); exact (Kd.R_mono (Kd.R_far (p := ⟨gb313, 5, none⟩) (Kd.R_far (p := ⟨gb313, 4, none⟩) (Kd.R_far (p := ⟨gb313, 3, none⟩) (Kd.R_far (p := ⟨gb313, 2, none⟩) (Kd.R_far (p := ⟨gb313, 1, none⟩) (Kd.R_far (p := ⟨gb313, 0, none⟩) (Kd.R_types HO309.out BK313.out (by decide)) (fun _ hk => hk.2) (.slice Ao22 t301.length co22)) (fun _ hk => hk.2) (.slice Ao25 t304.length co25)) (fun _ hk => hk.2) (.slice Ao26 t307.length co26)) (fun _ hk => hk.2) (.int .i64 t310)) (fun _ hk => hk.2) (.int .i64 t311)) (fun _ hk => hk.2) (.int .i64 t312)) (fun _ h_ => h_.1))) hb); replace BK285 := Aside0.mk (blk_below (g := gb285) (o := .cells #[.slice A0_0 l0_0.length c0_0, .slice A0_1 l0_1.length c0_1, .slice A0_2 l0_2.length c0_2, .int .i64 a0_3, .int .i64 a0_4, .int .i64 a0_5] 50 (0, 0)) (by (repeat refine bk1 ?_); refine blk_far ?_ NB285_313.out _; (repeat refine bk1 ?_); refine blk_far ?_ NB285_313.out _; (repeat refine bk1 ?_); refine blk_far ?_ NB285_313.out _; (repeat refine bk1 ?_); refine blk_far ?_ NB285_313.out _; (repeat refine bk1 ?_); refine blk_far ?_ NB285_313.out _; (repeat refine bk1 ?_); refine blk_far ?_ NB285_313.out _; (repeat refine bk1 ?_); exact BK285.out) hb); replace BK313 := Aside0.mk (blk_below (g := gb313) (o := .cells #[.slice Ao22 t301.length co22, .slice Ao25 t304.length co25, .slice Ao26 t307.length co26, .int .i64 t310, .int .i64 t311, .int .i64 t312] 56 (0, 0)) (by (repeat refine bk1 ?_); refine blk_put (cs := #[.slice Ao22 t301.length co22, .slice Ao25 t304.length co25, .slice Ao26 t307.length co26, .int .i64 t310, .int .i64 t311, .int .i64 0]) ?_ 5 _ rfl; (repeat refine bk1 ?_); refine blk_put (cs := #[.slice Ao22 t301.length co22, .slice Ao25 t304.length co25, .slice Ao26 t307.length co26, .int .i64 t310, .int .i64 0, .int .i64 0]) ?_ 4 _ rfl; (repeat refine bk1 ?_); refine blk_put (cs := #[.slice Ao22 t301.length co22, .slice Ao25 t304.length co25, .slice Ao26 t307.length co26, .int .i64 0, .int .i64 0, .int .i64 0]) ?_ 3 _ rfl; (repeat refine bk1 ?_); refine blk_put (cs := #[.slice Ao22 t301.length co22, .slice Ao25 t304.length co25, .slice none 0 0, .int .i64 0, .int .i64 0, .int .i64 0]) ?_ 2 _ rfl; (repeat refine bk1 ?_); refine blk_put (cs := #[.slice Ao22 t301.length co22, .slice none 0 0, .slice none 0 0, .int .i64 0, .int .i64 0, .int .i64 0]) ?_ 1 _ rfl; (repeat refine bk1 ?_); refine blk_put (cs := #[.slice none 0 0, .slice none 0 0, .slice none 0 0, .int .i64 0, .int .i64 0, .int .i64 0]) ?_ 0 _ rfl; (repeat refine bk1 ?_); exact BK313.out) hb); replace HB := Aside0.mk (below_step (by repeat with_reducible first | exact bl HB.out | refine below_set ?_ GE285.out | refine below_set ?_ GE313.out | refine bq ?_) hb); (try clear hb); (try clear hb2); (try clear hk); (try clear hi)))
  (try simp only [Act.put, List.setIfInBounds_toArray, List.set_cons_zero, List.set_cons_succ])
  go_cut [34] (fun v34 wc => ∃ (kq : Nat) (x34_11 : Bool), v34 = .bool x34_11 ∧ Aside0 (laws_FnExactRelease.j0 kq x34_11 l0_0 l0_1 l0_2 a0_3 a0_4 a0_5 t301 t304 t307 t310 t311 t312 = some r) ∧ Aside0 (kq ≤ k) ∧ Aside0 (Kd.R k33 33 wc w.heap.size (fun _ => True) (.slice Ao22 t301.length co22) t301) ∧ Aside0 (Kd.R k70 70 wc w.heap.size (fun _ => True) (.slice Ao25 t304.length co25) t304) ∧ Aside0 (Kd.R k72 72 wc w.heap.size (fun _ => True) (.slice Ao26 t307.length co26) t307) ∧ Aside0 (wc.heap[gb285]? = some (.cells #[(.slice A0_0 l0_0.length c0_0), (.slice A0_1 l0_1.length c0_1), (.slice A0_2 l0_2.length c0_2), .int .i64 a0_3, .int .i64 a0_4, .int .i64 a0_5] 50 (0, 0))) ∧ Aside0 (wc.heap[gb313]? = some (.cells #[(.slice Ao22 t301.length co22), (.slice Ao25 t304.length co25), (.slice Ao26 t307.length co26), .int .i64 t310, .int .i64 t311, .int .i64 t312] 56 (0, 0))) ∧ Aside0 (Below w.heap.size w wc))
  case first =>
   have H := HC12.out
   clear HC12
   by_cases c28 : t314 = t299
   ·
    rw [if_pos c28] at H
    have c28b0 : (t314 == t299) = true := beq_iff_eq.mpr c28
    have c28b1 : (t314 != t299) = false := bne_eq_false_iff_eq.mpr c28
    clear c28
    (first | rw [c28b0] | (simp only [i64_w, i32_w]; rw [c28b0]) | skip)
    have H' := Aside0.mk H
    clear H
    go_wp2
    go_meet
    case rel => exact ⟨_, ((t315.toList != t300.toList)), (by first | rfl | (simp; done) | (simp [*]; done)), H', ⟨by first | omega | exact Nat.le_refl _⟩, ⟨by (repeat apply rl1); exact Kd.R_mono HO303.out (fun _ hk => trivial)⟩, ⟨by (repeat apply rl1); exact Kd.R_mono HO306.out (fun _ hk => trivial)⟩, ⟨by (repeat apply rl1); exact Kd.R_mono HO309.out (fun _ hk => trivial)⟩, ⟨bk BK285.out⟩, ⟨bk BK313.out⟩, ⟨by repeat with_reducible first | exact bl HB.out | refine below_set ?_ GE285.out | refine below_set ?_ GE313.out | refine bq ?_⟩⟩
   ·
    rw [if_neg c28] at H
    have c28b0 : (t314 == t299) = false := beq_eq_false_iff_ne.mpr c28
    have c28b1 : (t314 != t299) = true := bne_iff_ne.mpr c28
    (first | rw [c28b0] | (simp only [i64_w, i32_w]; rw [c28b0]) | skip)
    have H' := Aside0.mk H
    clear H
    go_wp2
    go_meet
    case rel => exact ⟨_, (true), (by first | rfl | (simp; done) | (simp [*]; done)), H', ⟨by first | omega | exact Nat.le_refl _⟩, ⟨by (repeat apply rl1); exact Kd.R_mono HO303.out (fun _ hk => trivial)⟩, ⟨by (repeat apply rl1); exact Kd.R_mono HO306.out (fun _ hk => trivial)⟩, ⟨by (repeat apply rl1); exact Kd.R_mono HO309.out (fun _ hk => trivial)⟩, ⟨bk BK285.out⟩, ⟨bk BK313.out⟩, ⟨by repeat with_reducible first | exact bl HB.out | refine below_set ?_ GE285.out | refine below_set ?_ GE313.out | refine bq ?_⟩⟩
  case rest =>
   clear HC12
   try clear c2
   try clear p2
   try clear c3
   try clear c7
   try clear c7b0
   try clear c9
   try clear c23
   try clear c28
   try clear c28b0
   try clear c28b1
   try clear hcz13_0 hcz13_1 hcz13_2 hcz13_3 hcz13_4 hcz13_5 hfz13_0 hfz13_1 hfz13_2 hfz13_3 hfz13_4 hfz13_5
   try clear hcz19_0 hcz19_1 hcz19_2 hcz19_3 hcz19_4 hcz19_5 hfz19_0 hfz19_1 hfz19_2 hfz19_3 hfz19_4 hfz19_5
   try clear hcz24_0 hcz24_1 hcz24_2 hcz24_3 hcz24_4 hcz24_5 hfz24_0 hfz24_1 hfz24_2 hfz24_3 hfz24_4 hfz24_5
   try clear hcz5_0 hcz5_1 hcz5_2 hcz5_3 hcz5_4 hcz5_5 hfz5_0 hfz5_1 hfz5_2 hfz5_3 hfz5_4 hfz5_5
   obtain ⟨kq, x34_11, rfl, HA, HJ11, HO_314000, HO_314001, HO_314002, BK285, BK313, HB⟩ := hcut
   cases kq with
   | zero => exact absurd HA.out (by simp [laws_FnExactRelease.j0])
   | succ kj11 =>
    have H := HA.out
    clear HA
    simp only [laws_FnExactRelease.j0] at H
    by_cases c29 : x34_11 = true
    ·
     subst c29
     have H1 : (some false) = some r := by rw [if_pos rfl] at H; exact H
     clear H
     have H := H1
     clear H1
     cases H.trans (congrArg some hr_)
    ·
     replace c29 := Bool.eq_false_iff.mpr c29
     subst c29
     have H1 : ((laws_toFleet.f kj11 l0_0 l0_1 l0_2 a0_3 a0_4 a0_5).bind fun bt316 => ((laws_eqFleet.f kj11 t301 t304 t307 t310 t311 t312 bt316.1 bt316.2.1 bt316.2.2.1 bt316.2.2.2.1 bt316.2.2.2.2.1 bt316.2.2.2.2.2).bind fun t328 => (if t328 = true then (some true) else (some false)))) = some r := by rw [if_neg (show ¬ (false = true) by decide)] at H; exact H
     clear H
     have H := H1
     clear H1
     replace H := Option.bind_eq_some_iff.mp H
     obtain ⟨⟨t316, t319, t322, t325, t326, t327⟩, A300, H⟩ := H
     replace H : ((laws_eqFleet.f kj11 t301 t304 t307 t310 t311 t312 t316 t319 t322 t325 t326 t327).bind fun t328 => (if t328 = true then (some true) else (some false))) = some r := H
     have A30 := Aside0.mk A300
     clear A300
     replace H := Option.bind_eq_some_iff.mp H
     obtain ⟨t328, A310, H⟩ := H
     replace H : (if t328 = true then (some true) else (some false)) = some r := H
     have A31 := Aside0.mk A310
     clear A310
     have HC32 := Aside0.mk H
     clear H
     try go_wp2
     have n0_ := Aside0.mk (Kd.R_drew HO_314000.out)
     have n1_ := Aside0.mk (Kd.R_drew HO_314001.out)
     have n2_ := Aside0.mk (Kd.R_drew HO_314002.out)
     have n3_ := Aside0.mk (blk_drew BK285.out)
     have n4_ := Aside0.mk (blk_drew BK313.out)
     have n5_ := Aside0.mk (below_drew1 HB.out)
     clear HO_314000
     clear HO_314001
     clear HO_314002
     clear BK285
     clear BK313
     clear HB
     have HO_314000 := n0_
     have HO_314001 := n1_
     have HO_314002 := n2_
     have BK285 := n3_
     have BK313 := n4_
     have HB := n5_
     clear n0_ n1_ n2_ n3_ n4_ n5_
     refine start_ (n := 5) (S := fun w' => w'.cell? ⟨gb313, 0, none⟩ = some (.slice Ao22 t301.length co22) ∧ w'.cell? ⟨gb313, 1, none⟩ = some (.slice Ao25 t304.length co25) ∧ w'.cell? ⟨gb313, 2, none⟩ = some (.slice Ao26 t307.length co26) ∧ w'.cell? ⟨gb313, 3, none⟩ = some (.int .i64 t310) ∧ w'.cell? ⟨gb313, 4, none⟩ = some (.int .i64 t311) ∧ w'.cell? ⟨gb313, 5, none⟩ = some (.int .i64 t312) ∧ w'.cell? ⟨gb285, 0, none⟩ = some (.slice A0_0 l0_0.length c0_0) ∧ w'.cell? ⟨gb285, 1, none⟩ = some (.slice A0_1 l0_1.length c0_1) ∧ w'.cell? ⟨gb285, 2, none⟩ = some (.slice A0_2 l0_2.length c0_2) ∧ w'.cell? ⟨gb285, 3, none⟩ = some (.int .i64 a0_3) ∧ w'.cell? ⟨gb285, 4, none⟩ = some (.int .i64 a0_4) ∧ w'.cell? ⟨gb285, 5, none⟩ = some (.int .i64 a0_5)) (ds := []) m0_5 (by kernel_rfl) rfl rfl ⟨ck BK313.out 0 rfl, ck BK313.out 1 rfl, ck BK313.out 2 rfl, ck BK313.out 3 rfl, ck BK313.out 4 rfl, ck BK313.out 5 rfl, ck BK285.out 0 rfl, ck BK285.out 1 rfl, ck BK285.out 2 rfl, ck BK285.out 3 rfl, ck BK285.out 4 rfl, ck BK285.out 5 rfl⟩ (fun hHeld => ?_)
     generalize wc.drew = w33 at HO_314000 HO_314001 HO_314002 BK285 BK313 HB hHeld ⊢
     refine take_ (i := 0) (N := some 35) (v := ?_) (a' := ?_) m1_5 rfl rfl (by kernel_rfl) (fun _ _ _ h => h) (Or.inl ⟨by rfl, ?_⟩) hHeld ?_ ?_
     rotate_left
     ·
      rintro w' ⟨s0, s1, s2, s3, s4, s5, s6, s7, s8, s9, s10, s11⟩
      go_simp
      with_reducible rfl
     rotate_left
     ·
      simp only [sp_]
      rfl
     refine take_ (i := 1) (N := some 36) (v := ?_) (a' := ?_) m2_5 rfl rfl (by kernel_rfl) (fun _ _ _ h => h) (Or.inl ⟨by rfl, ?_⟩) hHeld ?_ ?_
     rotate_left
     ·
      rintro w' ⟨s0, s1, s2, s3, s4, s5, s6, s7, s8, s9, s10, s11⟩
      go_simp
      with_reducible rfl
     rotate_left
     ·
      simp only [sp_]
      rfl
     refine one_ (i := 2) (N := some 37) m3_5 rfl rfl (by kernel_rfl) (by decide) (fun K hK => ?_)
     refine goes_ Try.func30 (by kernel_rfl) rfl #[.agg #[.slice A0_0 l0_0.length c0_0, .slice A0_1 l0_1.length c0_1, .slice A0_2 l0_2.length c0_2, .int .i64 a0_3, .int .i64 a0_4, .int .i64 a0_5]] (by rfl) rfl rfl (by (try simp only [am_]); first | done | rfl) ?_
     with_reducible refine (laws_toFleet.calls kj11 _ _ l0_0 _ _ l0_1 _ _ l0_2 a0_3 a0_4 a0_5 t316 t319 t322 t325 t326 t327 _ ?side1 ?side2 ?side3 ?side4 ?side5 ?side6 A30.out).mono ?_
     (case side1 => exact rc (Kd.C_below HR0_0.out HB.out))
     (case side2 => exact HC0_0.out)
     (case side3 => exact rc (Kd.C_below HR0_1.out HB.out))
     (case side4 => exact HC0_1.out)
     (case side5 => exact rc (Kd.C_below HR0_2.out HB.out))
     (case side6 => exact HC0_2.out)
     rintro e w34 ⟨v317, v320, v323, rfl, ho0, ho1, ho2, hb⟩
     refine ⟨_, rfl, ?_⟩
     have n0_ := Aside0.mk (Kd.R_elder' (rl HO_314000.out) (Kd.R_base ho0) hb)
     have n1_ := Aside0.mk (Kd.R_elder' (rl HO_314001.out) (Kd.R_base ho1) hb)
     have n2_ := Aside0.mk (Kd.R_elder' (rl HO_314002.out) (Kd.R_base ho2) hb)
     have n3_ := Aside0.mk (Kd.R_lower (Kd.R_new' ho0 (Kd.R_lt (by (repeat apply rl1); exact HO_314000.out))) (below_size (by repeat with_reducible first | exact bl HB.out | refine below_set ?_ GE285.out | refine below_set ?_ GE313.out | refine bq ?_)))
     have n4_ := Aside0.mk (Kd.R_lower (Kd.R_new' ho1 (Kd.R_lt (by (repeat apply rl1); exact HO_314001.out))) (below_size (by repeat with_reducible first | exact bl HB.out | refine below_set ?_ GE285.out | refine below_set ?_ GE313.out | refine bq ?_)))
     have n5_ := Aside0.mk (Kd.R_lower (Kd.R_new' ho2 (Kd.R_lt (by (repeat apply rl1); exact HO_314002.out))) (below_size (by repeat with_reducible first | exact bl HB.out | refine below_set ?_ GE285.out | refine below_set ?_ GE313.out | refine bq ?_)))
     have n6_ := Aside0.mk (blk_below (bk BK285.out) hb)
     have n7_ := Aside0.mk (blk_below (bk BK313.out) hb)
     have n8_ := Aside0.mk (below_step (by repeat with_reducible first | exact bl HB.out | refine below_set ?_ GE285.out | refine below_set ?_ GE313.out | refine bq ?_) hb)
     clear HO_314000
     clear HO_314001
     clear HO_314002
     clear BK285
     clear BK313
     clear HB
     have HO_314000 := n0_
     have HO_314001 := n1_
     have HO_314002 := n2_
     have HO318 := n3_
     have HO321 := n4_
     have HO324 := n5_
     have BK285 := n6_
     have BK313 := n7_
     have HB := n8_
     clear n0_ n1_ n2_ n3_ n4_ n5_ n6_ n7_ n8_
     (try clear hb)
     (try clear hb2)
     (try clear hk)
     (try clear hi)
     (try clear ho0)
     (try clear ho1)
     (try clear ho2)
     obtain ⟨Ao35, co35, eo35⟩ := Kd.R_slice HO318.out
     (first | subst eo35 | (injection eo35 with f1_ f2_ f3_; have f4_ := f1_.symm; have f5_ := f3_.symm; clear f1_ f2_ f3_; subst f4_; subst f5_))
     obtain ⟨Ao36, co36, eo36⟩ := Kd.R_slice HO321.out
     (first | subst eo36 | (injection eo36 with f1_ f2_ f3_; have f4_ := f1_.symm; have f5_ := f3_.symm; clear f1_ f2_ f3_; subst f4_; subst f5_))
     obtain ⟨Ao37, co37, eo37⟩ := Kd.R_slice HO324.out
     (first | subst eo37 | (injection eo37 with f1_ f2_ f3_; have f4_ := f1_.symm; have f5_ := f3_.symm; clear f1_ f2_ f3_; subst f4_; subst f5_))
     refine hK.out _ _ ⟨ck BK313.out 0 rfl, ck BK313.out 1 rfl, ck BK313.out 2 rfl, ck BK313.out 3 rfl, ck BK313.out 4 rfl, ck BK313.out 5 rfl, ck BK285.out 0 rfl, ck BK285.out 1 rfl, ck BK285.out 2 rfl, ck BK285.out 3 rfl, ck BK285.out 4 rfl, ck BK285.out 5 rfl⟩ (fun hHeld => ?_)
     clear hK K
     refine norm_ (a' := ?_) ?_ ?_
     rotate_left
     ·
      show Act.put _ (some 37) _ = _
      simp only [sp_]
      rfl
     refine one_ (i := 3) (N := some 38) m4_5 rfl rfl (by kernel_rfl) (by decide) (fun K hK => ?_)
     refine goes_ Try.func32 (by kernel_rfl) rfl #[.agg #[.slice Ao22 t301.length co22, .slice Ao25 t304.length co25, .slice Ao26 t307.length co26, .int .i64 t310, .int .i64 t311, .int .i64 t312], .agg #[.slice Ao35 t316.length co35, .slice Ao36 t319.length co36, .slice Ao37 t322.length co37, .int .i64 t325, .int .i64 t326, .int .i64 t327]] (by rfl) rfl rfl (by (try simp only [am_]); first | done | rfl) ?_
     with_reducible refine (laws_eqFleet.calls kj11 _ _ t301 _ _ t304 _ _ t307 t310 t311 t312 _ _ t316 _ _ t319 _ _ t322 t325 t326 t327 t328 _ ?side1 ?side2 ?side3 ?side4 ?side5 ?side6 ?side7 ?side8 ?side9 ?side10 ?side11 ?side12 A31.out).mono ?_
     (case side1 => exact rc (Kd.R_reads' HO_314000.out).2.2)
     (case side2 => exact (Kd.R_reads' HO_314000.out).2.1)
     (case side3 => exact rc (Kd.R_reads' HO_314001.out).2.2)
     (case side4 => exact (Kd.R_reads' HO_314001.out).2.1)
     (case side5 => exact rc (Kd.R_reads' HO_314002.out).2.2)
     (case side6 => exact (Kd.R_reads' HO_314002.out).2.1)
     (case side7 => exact rc (Kd.R_reads' HO318.out).2.2)
     (case side8 => exact (Kd.R_reads' HO318.out).2.1)
     (case side9 => exact rc (Kd.R_reads' HO321.out).2.2)
     (case side10 => exact (Kd.R_reads' HO321.out).2.1)
     (case side11 => exact rc (Kd.R_reads' HO324.out).2.2)
     (case side12 => exact (Kd.R_reads' HO324.out).2.1)
     rintro e w38 ⟨rfl, hb⟩
     refine ⟨_, rfl, ?_⟩
     have n0_ := Aside0.mk (Kd.R_below (rl HO_314000.out) hb)
     have n1_ := Aside0.mk (Kd.R_below (rl HO_314001.out) hb)
     have n2_ := Aside0.mk (Kd.R_below (rl HO_314002.out) hb)
     have n3_ := Aside0.mk (Kd.R_below (rl HO318.out) hb)
     have n4_ := Aside0.mk (Kd.R_below (rl HO321.out) hb)
     have n5_ := Aside0.mk (Kd.R_below (rl HO324.out) hb)
     have n6_ := Aside0.mk (blk_below (bk BK285.out) hb)
     have n7_ := Aside0.mk (blk_below (bk BK313.out) hb)
     have n8_ := Aside0.mk (below_step (by repeat with_reducible first | exact bl HB.out | refine below_set ?_ GE285.out | refine below_set ?_ GE313.out | refine bq ?_) hb)
     clear HO_314000
     clear HO_314001
     clear HO_314002
     clear HO318
     clear HO321
     clear HO324
     clear BK285
     clear BK313
     clear HB
     have HO_314000 := n0_
     have HO_314001 := n1_
     have HO_314002 := n2_
     have HO318 := n3_
     have HO321 := n4_
     have HO324 := n5_
     have BK285 := n6_
     have BK313 := n7_
     have HB := n8_
     clear n0_ n1_ n2_ n3_ n4_ n5_ n6_ n7_ n8_
     (try clear hb)
     (try clear hb2)
     (try clear hk)
     (try clear hi)
     refine hK.out _ _ ⟨ck BK313.out 0 rfl, ck BK313.out 1 rfl, ck BK313.out 2 rfl, ck BK313.out 3 rfl, ck BK313.out 4 rfl, ck BK313.out 5 rfl, ck BK285.out 0 rfl, ck BK285.out 1 rfl, ck BK285.out 2 rfl, ck BK285.out 3 rfl, ck BK285.out 4 rfl, ck BK285.out 5 rfl⟩ (fun hHeld => ?_)
     clear hK K
     refine norm_ (a' := ?_) ?_ ?_
     rotate_left
     ·
      show Act.put _ (some 38) _ = _
      simp only [sp_]
      rfl
     refine pure_ (i := 4) (N := some 39) (v := ?_) (a' := ?_) m5_5 rfl rfl (by kernel_rfl) (fun _ _ _ h => h) (Or.inl ⟨by rfl, ?_⟩) ?_ ?_
     rotate_left
     ·
      intro w'
      go_simp
      with_reducible rfl
     rotate_left
     ·
      simp only [sp_]
      rfl
     refine done_ (by kernel_rfl) ?_
     go_upto_if 39 with (fail)
     have H := HC32.out
     clear HC32
     by_cases c39 : t328 = true
     ·
      subst c39
      have H1 : (some true) = some r := by rw [if_pos rfl] at H; exact H
      clear H
      have H := H1
      clear H1
      obtain rfl := Option.some.inj H
      go_wp2
      go_ret
      exact ⟨by first | rfl | (simp [errW_none, errW_some] <;> rfl) | (simp [*, errW_none, errW_some] <;> rfl), by repeat with_reducible first | exact bl HB.out | refine below_set ?_ GE285.out | refine below_set ?_ GE313.out | refine bq ?_⟩
     ·
      replace c39 := Bool.eq_false_iff.mpr c39
      subst c39
      have H1 : (some false) = some r := by rw [if_neg (show ¬ (false = true) by decide)] at H; exact H
      clear H
      have H := H1
      clear H1
      cases H.trans (congrArg some hr_)
end Go.Proofs.Ytbgdibbgngpggaa.PFnExactRelease
