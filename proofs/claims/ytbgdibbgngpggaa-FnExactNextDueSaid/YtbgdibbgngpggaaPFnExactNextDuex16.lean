-- Written by a program of this session (wip/xprint.py) out of the translation; Lean checks it.
import Derived.Test.YtbgdibbgngpggaaPFnExactNextDuex0
import Derived.Test.YtbgdibbgngpggaaPFnExactNextDuex1
import Derived.Test.YtbgdibbgngpggaaPFnExactNextDuex2
import Derived.Test.YtbgdibbgngpggaaPFnExactNextDuex4
import Derived.Test.YtbgdibbgngpggaaPFnExactNextDuex9
import Derived.Test.YtbgdibbgngpggaaPFnExactNextDuex15
namespace Go.Proofs.Ytbgdibbgngpggaa.PFnExactNextDue
open Go.RowKit Go.Proofs.YtbgdibbgngpggaaW.PrintWords Go.Proofs.YtbgdibbgngpggaaW.PrintLast Go.Proofs.YtbgdibbgngpggaaW.PrintMore Go.Proofs.Ytbgdibbgngpggaa.Sq
attribute [local go_sem] max2_int min2_int max_two min_two max_three min_three max_four min_four   -- for this text's walks alone
set_option linter.unusedVariables false
set_option linter.unusedSimpArgs false

/-! ### laws_FnExactNextDue: function 8 -/
def laws_FnExactNextDue.j0 : Nat → Bool → List (S29) → List (S92) → List (S118) → Int → Int → Int → List (S33) → List (S70) → List (S72) → Int → Int → Int → Option (Bool)
 | 0, _, _, _, _, _, _, _, _, _, _, _, _, _ => none
 | k + 1, x43, x353000, x353001, x353002, x353003, x353004, x353005, x382000, x382001, x382002, x382003, x382004, x382005 => if x43 = true then (some false) else ((laws_toFleet.f k x353000 x353001 x353002 x353003 x353004 x353005).bind fun bt385 => ((laws_eqFleet.f k x382000 x382001 x382002 x382003 x382004 x382005 bt385.1 bt385.2.1 bt385.2.2.1 bt385.2.2.2.1 bt385.2.2.2.2.1 bt385.2.2.2.2.2).bind fun t397 => (if t397 = true then (some true) else (some false))))
def laws_FnExactNextDue.f (k : Nat) (l0_0 : List (S29)) (l0_1 : List (S92)) (l0_2 : List (S118)) (a0_3 : Int) (a0_4 : Int) (a0_5 : Int) : Option (Bool) := (laws_szFleet.f k l0_0 l0_1 l0_2 a0_3 a0_4 a0_5 1048576).bind fun t353 => (if t353 < 0 then (some true) else ((laws_toFleet.f k l0_0 l0_1 l0_2 a0_3 a0_4 a0_5).bind fun bt354 => ((spec_NextDue.f k bt354.1 bt354.2.1 bt354.2.2.1 bt354.2.2.2.1 bt354.2.2.2.2.1 bt354.2.2.2.2.2).bind fun bt366 => ((laws_toFleet.f k l0_0 l0_1 l0_2 a0_3 a0_4 a0_5).bind fun bt369 => ((impl_NextDue.f k bt369.1 bt369.2.1 bt369.2.2.1 bt369.2.2.2.1 bt369.2.2.2.2.1 bt369.2.2.2.2.2).bind fun bt382 => (if bt382.1.toList = bt366.1.toList then (if bt382.2.1 = bt366.2.1 then (laws_FnExactNextDue.j0 k (bt382.2.2 != bt366.2.2) l0_0 l0_1 l0_2 a0_3 a0_4 a0_5 bt369.1 bt369.2.1 bt369.2.2.1 bt369.2.2.2.1 bt369.2.2.2.2.1 bt369.2.2.2.2.2) else (laws_FnExactNextDue.j0 k true l0_0 l0_1 l0_2 a0_3 a0_4 a0_5 bt369.1 bt369.2.1 bt369.2.2.1 bt369.2.2.2.1 bt369.2.2.2.2.1 bt369.2.2.2.2.2)) else (laws_FnExactNextDue.j0 k true l0_0 l0_1 l0_2 a0_3 a0_4 a0_5 bt369.1 bt369.2.1 bt369.2.2.1 bt369.2.2.2.1 bt369.2.2.2.2.1 bt369.2.2.2.2.2)))))))
theorem laws_FnExactNextDue.mono_l : ∀ k, (∀ y0 y1 y2 y3 y4 y5 y6 y7 y8 y9 y10 y11 y12, LeO (laws_FnExactNextDue.j0 k y0 y1 y2 y3 y4 y5 y6 y7 y8 y9 y10 y11 y12) (laws_FnExactNextDue.j0 (k + 1) y0 y1 y2 y3 y4 y5 y6 y7 y8 y9 y10 y11 y12))
 | 0 => fun _ _ _ _ _ _ _ _ _ _ _ _ _ r h => by simp [laws_FnExactNextDue.j0] at h
 | k + 1 => by
  have ih0 := laws_FnExactNextDue.mono_l k
  ·
   intro y0 y1 y2 y3 y4 y5 y6 y7 y8 y9 y10 y11 y12
   unfold laws_FnExactNextDue.j0
   repeat' first
   | (with_reducible exact ih0 _ _ _ _ _ _ _ _ _ _ _ _ _)
   | (with_reducible exact impl_NextDue.mono _ _ _ _ _ _ _)
   | (with_reducible exact laws_eqFleet.mono _ _ _ _ _ _ _ _ _ _ _ _ _)
   | (with_reducible exact laws_szFleet.mono _ _ _ _ _ _ _ _)
   | (with_reducible exact laws_toFleet.mono _ _ _ _ _ _ _)
   | (with_reducible exact spec_NextDue.mono _ _ _ _ _ _ _)
   | (with_reducible exact LeO.refl _)
   | (with_reducible exact LeO.none _)
   | (with_reducible refine LeO.ite ?_ ?_)
   | (with_reducible refine LeO.bind ?_ (fun _ => ?_))
   | exact ih0 _ _ _ _ _ _ _ _ _ _ _ _ _
   | exact impl_NextDue.mono _ _ _ _ _ _ _
   | exact laws_eqFleet.mono _ _ _ _ _ _ _ _ _ _ _ _ _
   | exact laws_szFleet.mono _ _ _ _ _ _ _ _
   | exact laws_toFleet.mono _ _ _ _ _ _ _
   | exact spec_NextDue.mono _ _ _ _ _ _ _
   | exact LeO.none _
   | refine LeO.ite ?_ ?_
   | refine LeO.bind ?_ (fun _ => ?_)
theorem laws_FnExactNextDue.mono : ∀ a0 a1 a2 a3 a4 a5 k, LeO (laws_FnExactNextDue.f k a0 a1 a2 a3 a4 a5) (laws_FnExactNextDue.f (k + 1) a0 a1 a2 a3 a4 a5) := by
 intro a0 a1 a2 a3 a4 a5 k
 have ih0 := laws_FnExactNextDue.mono_l k
 unfold laws_FnExactNextDue.f
 repeat' first
   | (with_reducible exact ih0 _ _ _ _ _ _ _ _ _ _ _ _ _)
   | (with_reducible exact impl_NextDue.mono _ _ _ _ _ _ _)
   | (with_reducible exact laws_eqFleet.mono _ _ _ _ _ _ _ _ _ _ _ _ _)
   | (with_reducible exact laws_szFleet.mono _ _ _ _ _ _ _ _)
   | (with_reducible exact laws_toFleet.mono _ _ _ _ _ _ _)
   | (with_reducible exact spec_NextDue.mono _ _ _ _ _ _ _)
   | (with_reducible exact LeO.refl _)
   | (with_reducible exact LeO.none _)
   | (with_reducible refine LeO.ite ?_ ?_)
   | (with_reducible refine LeO.bind ?_ (fun _ => ?_))
   | exact ih0 _ _ _ _ _ _ _ _ _ _ _ _ _
   | exact impl_NextDue.mono _ _ _ _ _ _ _
   | exact laws_eqFleet.mono _ _ _ _ _ _ _ _ _ _ _ _ _
   | exact laws_szFleet.mono _ _ _ _ _ _ _ _
   | exact laws_toFleet.mono _ _ _ _ _ _ _
   | exact spec_NextDue.mono _ _ _ _ _ _ _
   | exact LeO.none _
   | refine LeO.ite ?_ ?_
   | refine LeO.bind ?_ (fun _ => ?_)
set_option maxHeartbeats 8000000 in
set_option maxRecDepth 100000 in
theorem laws_FnExactNextDue.calls (k : Nat) (A0_0 : Option Addr) (c0_0 : Nat) (l0_0 : List (S29)) (A0_1 : Option Addr) (c0_1 : Nat) (l0_1 : List (S92)) (A0_2 : Option Addr) (c0_2 : Nat) (l0_2 : List (S118)) (a0_3 : Int) (a0_4 : Int) (a0_5 : Int) (r : Bool) (hr_ : r = true) (w : World) (hr0_0 : Kd.C k29 w A0_0 l0_0.length l0_0) (hc0_0 : l0_0.length ≤ c0_0) (hr0_1 : Kd.C k92 w A0_1 l0_1.length l0_1) (hc0_1 : l0_1.length ≤ c0_1) (hr0_2 : Kd.C k118 w A0_2 l0_2.length l0_2) (hc0_2 : l0_2.length ≤ c0_2) (h : laws_FnExactNextDue.f k l0_0 l0_1 l0_2 a0_3 a0_4 a0_5 = some r) :
  Calls Try.prog 8 #[.agg #[.slice A0_0 l0_0.length c0_0, .slice A0_1 l0_1.length c0_1, .slice A0_2 l0_2.length c0_2, .int .i64 a0_3, .int .i64 a0_4, .int .i64 a0_5]] w fun e w' => e = .returned (.bool r) ∧ Below w.heap.size w w' := by
 have hu50 := Try.underlying50
 have hu56 := Try.underlying56
 have HR0_0 := Aside0.mk hr0_0
 have HC0_0 := Aside0.mk hc0_0
 clear hr0_0 hc0_0
 have HR0_1 := Aside0.mk hr0_1
 have HC0_1 := Aside0.mk hc0_1
 clear hr0_1 hc0_1
 have HR0_2 := Aside0.mk hr0_2
 have HC0_2 := Aside0.mk hc0_2
 clear hr0_2 hc0_2
 have HB := Aside0.mk (Below.refl w.heap.size w)
 have H : ((laws_szFleet.f k l0_0 l0_1 l0_2 a0_3 a0_4 a0_5 1048576).bind fun t353 => (if t353 < 0 then (some true) else ((laws_toFleet.f k l0_0 l0_1 l0_2 a0_3 a0_4 a0_5).bind fun bt354 => ((spec_NextDue.f k bt354.1 bt354.2.1 bt354.2.2.1 bt354.2.2.2.1 bt354.2.2.2.2.1 bt354.2.2.2.2.2).bind fun bt366 => ((laws_toFleet.f k l0_0 l0_1 l0_2 a0_3 a0_4 a0_5).bind fun bt369 => ((impl_NextDue.f k bt369.1 bt369.2.1 bt369.2.2.1 bt369.2.2.2.1 bt369.2.2.2.2.1 bt369.2.2.2.2.2).bind fun bt382 => (if bt382.1.toList = bt366.1.toList then (if bt382.2.1 = bt366.2.1 then (laws_FnExactNextDue.j0 k (bt382.2.2 != bt366.2.2) l0_0 l0_1 l0_2 a0_3 a0_4 a0_5 bt369.1 bt369.2.1 bt369.2.2.1 bt369.2.2.2.1 bt369.2.2.2.2.1 bt369.2.2.2.2.2) else (laws_FnExactNextDue.j0 k true l0_0 l0_1 l0_2 a0_3 a0_4 a0_5 bt369.1 bt369.2.1 bt369.2.2.1 bt369.2.2.2.1 bt369.2.2.2.2.1 bt369.2.2.2.2.2)) else (laws_FnExactNextDue.j0 k true l0_0 l0_1 l0_2 a0_3 a0_4 a0_5 bt369.1 bt369.2.1 bt369.2.2.1 bt369.2.2.2.1 bt369.2.2.2.2.1 bt369.2.2.2.2.2)))))))) = some r := h
 clear h
 replace H := Option.bind_eq_some_iff.mp H
 obtain ⟨t353, A20, H⟩ := H
 replace H : (if t353 < 0 then (some true) else ((laws_toFleet.f k l0_0 l0_1 l0_2 a0_3 a0_4 a0_5).bind fun bt354 => ((spec_NextDue.f k bt354.1 bt354.2.1 bt354.2.2.1 bt354.2.2.2.1 bt354.2.2.2.2.1 bt354.2.2.2.2.2).bind fun bt366 => ((laws_toFleet.f k l0_0 l0_1 l0_2 a0_3 a0_4 a0_5).bind fun bt369 => ((impl_NextDue.f k bt369.1 bt369.2.1 bt369.2.2.1 bt369.2.2.2.1 bt369.2.2.2.2.1 bt369.2.2.2.2.2).bind fun bt382 => (if bt382.1.toList = bt366.1.toList then (if bt382.2.1 = bt366.2.1 then (laws_FnExactNextDue.j0 k (bt382.2.2 != bt366.2.2) l0_0 l0_1 l0_2 a0_3 a0_4 a0_5 bt369.1 bt369.2.1 bt369.2.2.1 bt369.2.2.2.1 bt369.2.2.2.2.1 bt369.2.2.2.2.2) else (laws_FnExactNextDue.j0 k true l0_0 l0_1 l0_2 a0_3 a0_4 a0_5 bt369.1 bt369.2.1 bt369.2.2.1 bt369.2.2.2.1 bt369.2.2.2.2.1 bt369.2.2.2.2.2)) else (laws_FnExactNextDue.j0 k true l0_0 l0_1 l0_2 a0_3 a0_4 a0_5 bt369.1 bt369.2.1 bt369.2.2.1 bt369.2.2.2.1 bt369.2.2.2.2.1 bt369.2.2.2.2.2))))))) = some r := H
 have A2 := Aside0.mk A20
 clear A20
 by_cases c3 : t353 < 0
 ·
  rw [if_pos c3] at H
  have c3b0 : decide (t353 < 0) = true := decide_eq_true c3
  clear c3
  obtain rfl := Option.some.inj H
  go_enter Try.func8, Try.ntmps8
  go_wp2_with (first | ((with_reducible refine gate_dst (N := 1) rfl ?_); refine box_event ?hg (N := 1) ?hd (cs := #[.slice A0_0 l0_0.length c0_0, .slice A0_1 l0_1.length c0_1, .slice A0_2 l0_2.length c0_2, .int .i64 a0_3, .int .i64 a0_4, .int .i64 a0_5]) (t := 50) ?hr ?_; (case hd => rfl); (case hg => rfl); (case hr => first | (go_simp; done) | (go_simp; rfl)); intro gb352 hg w4 hbox hb; have BK352 := Aside0.mk (hbox); have GW352 := Aside0.mk ((by rw [hg]; exact (below_size (bl HB.out)) : w.heap.size ≤ gb352)); have GE352 := GW352; replace HB := Aside0.mk (below_step (bl HB.out) hb); clear hb hbox hg; obtain ⟨hcz5_0, hcz5_1, hcz5_2, hcz5_3, hcz5_4, hcz5_5⟩ := ck6 BK352.out; obtain ⟨hfz5_0, hfz5_1, hfz5_2, hfz5_3, hfz5_4, hfz5_5⟩ := fz6 BK352.out) | ((with_reducible refine gate_callee (f := 28) rfl ?_); refine goesL_ (some 13) rfl rfl Try.func28 (by kernel_rfl) rfl #[.agg #[.slice A0_0 l0_0.length c0_0, .slice A0_1 l0_1.length c0_1, .slice A0_2 l0_2.length c0_2, .int .i64 a0_3, .int .i64 a0_4, .int .i64 a0_5], .int .i64 1048576] rfl (by (try simp only [am_]); first | done | rfl) ?_; (with_reducible refine (laws_szFleet.calls k _ _ l0_0 _ _ l0_1 _ _ l0_2 a0_3 a0_4 a0_5 1048576 t353 _ ?side1 ?side2 ?side3 ?side4 ?side5 ?side6 A2.out).mono ?_); (case side1 => exact rc (Kd.C_below HR0_0.out HB.out)); (case side2 => exact HC0_0.out); (case side3 => exact rc (Kd.C_below HR0_1.out HB.out)); (case side4 => exact HC0_1.out); (case side5 => exact rc (Kd.C_below HR0_2.out HB.out)); (case side6 => exact HC0_2.out); rintro e w6 ⟨rfl, hb⟩; refine ⟨_, rfl, ?_⟩; replace BK352 := Aside0.mk (blk_below (bk BK352.out) hb); replace HB := Aside0.mk (below_step (by repeat with_reducible first | exact bl HB.out | refine below_set ?_ GE352.out | refine bq ?_) hb); (try clear hb); (try clear hb2); (try clear hk); (try clear hi)))
  go_ret
  exact ⟨by first | rfl | (simp [errW_none, errW_some] <;> rfl) | (simp [*, errW_none, errW_some] <;> rfl), by repeat with_reducible first | exact bl HB.out | refine below_set ?_ GE352.out | refine bq ?_⟩
 ·
  rw [if_neg c3] at H
  have c3b0 : decide (t353 < 0) = false := decide_eq_false c3
  clear c3
  replace H := Option.bind_eq_some_iff.mp H
  obtain ⟨⟨t354, t357, t360, t363, t364, t365⟩, A70, H⟩ := H
  replace H : ((spec_NextDue.f k t354 t357 t360 t363 t364 t365).bind fun bt366 => ((laws_toFleet.f k l0_0 l0_1 l0_2 a0_3 a0_4 a0_5).bind fun bt369 => ((impl_NextDue.f k bt369.1 bt369.2.1 bt369.2.2.1 bt369.2.2.2.1 bt369.2.2.2.2.1 bt369.2.2.2.2.2).bind fun bt382 => (if bt382.1.toList = bt366.1.toList then (if bt382.2.1 = bt366.2.1 then (laws_FnExactNextDue.j0 k (bt382.2.2 != bt366.2.2) l0_0 l0_1 l0_2 a0_3 a0_4 a0_5 bt369.1 bt369.2.1 bt369.2.2.1 bt369.2.2.2.1 bt369.2.2.2.2.1 bt369.2.2.2.2.2) else (laws_FnExactNextDue.j0 k true l0_0 l0_1 l0_2 a0_3 a0_4 a0_5 bt369.1 bt369.2.1 bt369.2.2.1 bt369.2.2.2.1 bt369.2.2.2.2.1 bt369.2.2.2.2.2)) else (laws_FnExactNextDue.j0 k true l0_0 l0_1 l0_2 a0_3 a0_4 a0_5 bt369.1 bt369.2.1 bt369.2.2.1 bt369.2.2.2.1 bt369.2.2.2.2.1 bt369.2.2.2.2.2))))) = some r := H
  have A7 := Aside0.mk A70
  clear A70
  replace H := Option.bind_eq_some_iff.mp H
  obtain ⟨⟨t366, t367, t368⟩, A80, H⟩ := H
  replace H : ((laws_toFleet.f k l0_0 l0_1 l0_2 a0_3 a0_4 a0_5).bind fun bt369 => ((impl_NextDue.f k bt369.1 bt369.2.1 bt369.2.2.1 bt369.2.2.2.1 bt369.2.2.2.2.1 bt369.2.2.2.2.2).bind fun bt382 => (if bt382.1.toList = t366.toList then (if bt382.2.1 = t367 then (laws_FnExactNextDue.j0 k (bt382.2.2 != t368) l0_0 l0_1 l0_2 a0_3 a0_4 a0_5 bt369.1 bt369.2.1 bt369.2.2.1 bt369.2.2.2.1 bt369.2.2.2.2.1 bt369.2.2.2.2.2) else (laws_FnExactNextDue.j0 k true l0_0 l0_1 l0_2 a0_3 a0_4 a0_5 bt369.1 bt369.2.1 bt369.2.2.1 bt369.2.2.2.1 bt369.2.2.2.2.1 bt369.2.2.2.2.2)) else (laws_FnExactNextDue.j0 k true l0_0 l0_1 l0_2 a0_3 a0_4 a0_5 bt369.1 bt369.2.1 bt369.2.2.1 bt369.2.2.2.1 bt369.2.2.2.2.1 bt369.2.2.2.2.2)))) = some r := H
  have A8 := Aside0.mk A80
  clear A80
  replace H := Option.bind_eq_some_iff.mp H
  obtain ⟨⟨t369, t372, t375, t378, t379, t380⟩, A90, H⟩ := H
  replace H : ((impl_NextDue.f k t369 t372 t375 t378 t379 t380).bind fun bt382 => (if bt382.1.toList = t366.toList then (if bt382.2.1 = t367 then (laws_FnExactNextDue.j0 k (bt382.2.2 != t368) l0_0 l0_1 l0_2 a0_3 a0_4 a0_5 t369 t372 t375 t378 t379 t380) else (laws_FnExactNextDue.j0 k true l0_0 l0_1 l0_2 a0_3 a0_4 a0_5 t369 t372 t375 t378 t379 t380)) else (laws_FnExactNextDue.j0 k true l0_0 l0_1 l0_2 a0_3 a0_4 a0_5 t369 t372 t375 t378 t379 t380))) = some r := H
  have A9 := Aside0.mk A90
  clear A90
  replace H := Option.bind_eq_some_iff.mp H
  obtain ⟨⟨t382, t383, t384⟩, A100, H⟩ := H
  replace H : (if t382.toList = t366.toList then (if t383 = t367 then (laws_FnExactNextDue.j0 k (t384 != t368) l0_0 l0_1 l0_2 a0_3 a0_4 a0_5 t369 t372 t375 t378 t379 t380) else (laws_FnExactNextDue.j0 k true l0_0 l0_1 l0_2 a0_3 a0_4 a0_5 t369 t372 t375 t378 t379 t380)) else (laws_FnExactNextDue.j0 k true l0_0 l0_1 l0_2 a0_3 a0_4 a0_5 t369 t372 t375 t378 t379 t380)) = some r := H
  have A10 := Aside0.mk A100
  clear A100
  have HC11 := Aside0.mk H
  clear H
  go_enter Try.func8, Try.ntmps8
  go_upto_region 8 with (first | ((with_reducible refine gate_dst (N := 1) rfl ?_); refine box_event ?hg (N := 1) ?hd (cs := #[.slice A0_0 l0_0.length c0_0, .slice A0_1 l0_1.length c0_1, .slice A0_2 l0_2.length c0_2, .int .i64 a0_3, .int .i64 a0_4, .int .i64 a0_5]) (t := 50) ?hr ?_; (case hd => rfl); (case hg => rfl); (case hr => first | (go_simp; done) | (go_simp; rfl)); intro gb352 hg w12 hbox hb; have BK352 := Aside0.mk (hbox); have GW352 := Aside0.mk ((by rw [hg]; exact (below_size (bl HB.out)) : w.heap.size ≤ gb352)); have GE352 := GW352; replace HB := Aside0.mk (below_step (bl HB.out) hb); clear hb hbox hg; obtain ⟨hcz13_0, hcz13_1, hcz13_2, hcz13_3, hcz13_4, hcz13_5⟩ := ck6 BK352.out; obtain ⟨hfz13_0, hfz13_1, hfz13_2, hfz13_3, hfz13_4, hfz13_5⟩ := fz6 BK352.out) | ((with_reducible refine gate_callee (f := 28) rfl ?_); refine goesL_ (some 13) rfl rfl Try.func28 (by kernel_rfl) rfl #[.agg #[.slice A0_0 l0_0.length c0_0, .slice A0_1 l0_1.length c0_1, .slice A0_2 l0_2.length c0_2, .int .i64 a0_3, .int .i64 a0_4, .int .i64 a0_5], .int .i64 1048576] rfl (by (try simp only [am_]); first | done | rfl) ?_; (with_reducible refine (laws_szFleet.calls k _ _ l0_0 _ _ l0_1 _ _ l0_2 a0_3 a0_4 a0_5 1048576 t353 _ ?side1 ?side2 ?side3 ?side4 ?side5 ?side6 A2.out).mono ?_); (case side1 => exact rc (Kd.C_below HR0_0.out HB.out)); (case side2 => exact HC0_0.out); (case side3 => exact rc (Kd.C_below HR0_1.out HB.out)); (case side4 => exact HC0_1.out); (case side5 => exact rc (Kd.C_below HR0_2.out HB.out)); (case side6 => exact HC0_2.out); rintro e w14 ⟨rfl, hb⟩; refine ⟨_, rfl, ?_⟩; replace BK352 := Aside0.mk (blk_below (bk BK352.out) hb); replace HB := Aside0.mk (below_step (by repeat with_reducible first | exact bl HB.out | refine below_set ?_ GE352.out | refine bq ?_) hb); (try clear hb); (try clear hb2); (try clear hk); (try clear hi); obtain ⟨hcz15_0, hcz15_1, hcz15_2, hcz15_3, hcz15_4, hcz15_5⟩ := ck6 BK352.out; obtain ⟨hfz15_0, hfz15_1, hfz15_2, hfz15_3, hfz15_4, hfz15_5⟩ := fz6 BK352.out) | ((with_reducible refine gate_callee (f := 30) rfl ?_); refine goesL_ (some 18) rfl rfl Try.func30 (by kernel_rfl) rfl #[.agg #[.slice A0_0 l0_0.length c0_0, .slice A0_1 l0_1.length c0_1, .slice A0_2 l0_2.length c0_2, .int .i64 a0_3, .int .i64 a0_4, .int .i64 a0_5]] rfl (by (try simp only [am_]); first | done | rfl) ?_; (with_reducible refine (laws_toFleet.calls k _ _ l0_0 _ _ l0_1 _ _ l0_2 a0_3 a0_4 a0_5 t354 t357 t360 t363 t364 t365 _ ?side1 ?side2 ?side3 ?side4 ?side5 ?side6 A7.out).mono ?_); (case side1 => exact rc (Kd.C_below HR0_0.out HB.out)); (case side2 => exact HC0_0.out); (case side3 => exact rc (Kd.C_below HR0_1.out HB.out)); (case side4 => exact HC0_1.out); (case side5 => exact rc (Kd.C_below HR0_2.out HB.out)); (case side6 => exact HC0_2.out); rintro e w16 ⟨v355, v358, v361, rfl, ho0, ho1, ho2, hb⟩; refine ⟨_, rfl, ?_⟩; have HO356 := Aside0.mk (Kd.R_lower ho0 (below_size (by repeat with_reducible first | exact bl HB.out | refine below_set ?_ GE352.out | refine bq ?_))); have HO359 := Aside0.mk (Kd.R_lower ho1 (below_size (by repeat with_reducible first | exact bl HB.out | refine below_set ?_ GE352.out | refine bq ?_))); have HO362 := Aside0.mk (Kd.R_lower ho2 (below_size (by repeat with_reducible first | exact bl HB.out | refine below_set ?_ GE352.out | refine bq ?_))); replace BK352 := Aside0.mk (blk_below (bk BK352.out) hb); replace HB := Aside0.mk (below_step (by repeat with_reducible first | exact bl HB.out | refine below_set ?_ GE352.out | refine bq ?_) hb); (try clear hb); (try clear hb2); (try clear hk); (try clear hi); (try clear ho0); (try clear ho1); (try clear ho2); obtain ⟨Ao17, co17, eo17⟩ := Kd.R_slice HO356.out; subst eo17; obtain ⟨Ao18, co18, eo18⟩ := Kd.R_slice HO359.out; subst eo18; obtain ⟨Ao19, co19, eo19⟩ := Kd.R_slice HO362.out; subst eo19) | ((with_reducible refine gate_callee (f := 33) rfl ?_); refine goesL_ (some 19) rfl rfl Try.func33 (by kernel_rfl) rfl #[.agg #[.slice Ao17 t354.length co17, .slice Ao18 t357.length co18, .slice Ao19 t360.length co19, .int .i64 t363, .int .i64 t364, .int .i64 t365]] rfl (by (try simp only [am_]); first | done | rfl) ?_; (with_reducible refine (spec_NextDue.calls k _ _ t354 _ _ t357 _ _ t360 t363 t364 t365 t366 t367 t368 _ ?side1 ?side2 ?side3 ?side4 ?side5 ?side6 A8.out).mono ?_); (case side1 => exact rc (Kd.R_reads' HO356.out).2.2); (case side2 => exact (Kd.R_reads' HO356.out).2.1); (case side3 => exact rc (Kd.R_reads' HO359.out).2.2); (case side4 => exact (Kd.R_reads' HO359.out).2.1); (case side5 => exact rc (Kd.R_reads' HO362.out).2.2); (case side6 => exact (Kd.R_reads' HO362.out).2.1); rintro e w20 ⟨rfl, hb⟩; refine ⟨_, rfl, ?_⟩; replace HO356 := Aside0.mk (Kd.R_below (rl HO356.out) hb); replace HO359 := Aside0.mk (Kd.R_below (rl HO359.out) hb); replace HO362 := Aside0.mk (Kd.R_below (rl HO362.out) hb); replace BK352 := Aside0.mk (blk_below (bk BK352.out) hb); replace HB := Aside0.mk (below_step (by repeat with_reducible first | exact bl HB.out | refine below_set ?_ GE352.out | refine bq ?_) hb); (try clear hb); (try clear hb2); (try clear hk); (try clear hi); obtain ⟨hcz21_0, hcz21_1, hcz21_2, hcz21_3, hcz21_4, hcz21_5⟩ := ck6 BK352.out; obtain ⟨hfz21_0, hfz21_1, hfz21_2, hfz21_3, hfz21_4, hfz21_5⟩ := fz6 BK352.out) | ((with_reducible refine gate_callee (f := 30) rfl ?_); refine goesL_ (some 24) rfl rfl Try.func30 (by kernel_rfl) rfl #[.agg #[.slice A0_0 l0_0.length c0_0, .slice A0_1 l0_1.length c0_1, .slice A0_2 l0_2.length c0_2, .int .i64 a0_3, .int .i64 a0_4, .int .i64 a0_5]] rfl (by (try simp only [am_]); first | done | rfl) ?_; (with_reducible refine (laws_toFleet.calls k _ _ l0_0 _ _ l0_1 _ _ l0_2 a0_3 a0_4 a0_5 t369 t372 t375 t378 t379 t380 _ ?side1 ?side2 ?side3 ?side4 ?side5 ?side6 A9.out).mono ?_); (case side1 => exact rc (Kd.C_below HR0_0.out HB.out)); (case side2 => exact HC0_0.out); (case side3 => exact rc (Kd.C_below HR0_1.out HB.out)); (case side4 => exact HC0_1.out); (case side5 => exact rc (Kd.C_below HR0_2.out HB.out)); (case side6 => exact HC0_2.out); rintro e w22 ⟨v370, v373, v376, rfl, ho0, ho1, ho2, hb⟩; refine ⟨_, rfl, ?_⟩; have HO371 := Aside0.mk (Kd.R_lower (Kd.R_new' ho0 (Kd.R_lt (by (repeat apply rl1); exact HO356.out))) (below_size (by repeat with_reducible first | exact bl HB.out | refine below_set ?_ GE352.out | refine bq ?_))); replace HO356 := Aside0.mk (Kd.R_elder' (rl HO356.out) (Kd.R_base ho0) hb); have HO374 := Aside0.mk (Kd.R_lower (Kd.R_new' ho1 (Kd.R_lt (by (repeat apply rl1); exact HO359.out))) (below_size (by repeat with_reducible first | exact bl HB.out | refine below_set ?_ GE352.out | refine bq ?_))); replace HO359 := Aside0.mk (Kd.R_elder' (rl HO359.out) (Kd.R_base ho1) hb); have HO377 := Aside0.mk (Kd.R_lower (Kd.R_new' ho2 (Kd.R_lt (by (repeat apply rl1); exact HO362.out))) (below_size (by repeat with_reducible first | exact bl HB.out | refine below_set ?_ GE352.out | refine bq ?_))); replace HO362 := Aside0.mk (Kd.R_elder' (rl HO362.out) (Kd.R_base ho2) hb); replace BK352 := Aside0.mk (blk_below (bk BK352.out) hb); replace HB := Aside0.mk (below_step (by repeat with_reducible first | exact bl HB.out | refine below_set ?_ GE352.out | refine bq ?_) hb); (try clear hb); (try clear hb2); (try clear hk); (try clear hi); (try clear ho0); (try clear ho1); (try clear ho2)) | ((with_reducible refine gate_dst (N := 7) rfl ?_); refine box_event ?hg (N := 7) ?hd (cs := #[.slice none 0 0, .slice none 0 0, .slice none 0 0, .int .i64 0, .int .i64 0, .int .i64 0]) (t := 56) ?hr ?_; (case hd => rfl); (case hg => rfl); (case hr => first | (go_simp; done) | (go_simp; rfl)); intro gb381 hg w23 hbox hb; replace HO356 := Aside0.mk (Kd.R_below (rl HO356.out) hb); replace HO359 := Aside0.mk (Kd.R_below (rl HO359.out) hb); replace HO362 := Aside0.mk (Kd.R_below (rl HO362.out) hb); replace HO371 := Aside0.mk (Kd.R_below (rl HO371.out) hb); replace HO374 := Aside0.mk (Kd.R_below (rl HO374.out) hb); replace HO377 := Aside0.mk (Kd.R_below (rl HO377.out) hb); have BK381 := Aside0.mk (hbox); have GW381 := Aside0.mk ((by rw [hg]; exact (below_size (by repeat with_reducible first | exact bl HB.out | refine below_set ?_ GE352.out | refine bq ?_)) : w.heap.size ≤ gb381)); have GE381 := GW381; replace HB := Aside0.mk (below_step (by repeat with_reducible first | exact bl HB.out | refine below_set ?_ GE352.out | refine bq ?_) hb); have NB352_381 := nb_ hg BK352.out; have NB381_352 := Aside0.mk NB352_381.out.symm; replace BK352 := Aside0.mk (blk_below (bk BK352.out) hb); clear hb hbox hg; obtain ⟨Ao24, co24, eo24⟩ := Kd.R_slice HO371.out; subst eo24; have hnb25 := NB381_352.out; have hnc25 := NB352_381.out; obtain ⟨hcz26_0, hcz26_1, hcz26_2, hcz26_3, hcz26_4, hcz26_5⟩ := ck6 BK381.out; obtain ⟨hfz26_0, hfz26_1, hfz26_2, hfz26_3, hfz26_4, hfz26_5⟩ := fz6 BK381.out; obtain ⟨Ao27, co27, eo27⟩ := Kd.R_slice HO374.out; subst eo27; obtain ⟨Ao28, co28, eo28⟩ := Kd.R_slice HO377.out; subst eo28) | ((with_reducible refine gate_callee (f := 34) rfl ?_); refine goesL_ (some 27) rfl rfl Try.func34 (by kernel_rfl) rfl #[.agg #[.slice Ao24 t369.length co24, .slice Ao27 t372.length co27, .slice Ao28 t375.length co28, .int .i64 t378, .int .i64 t379, .int .i64 t380]] rfl (by (try simp only [am_]); first | done | rfl) ?_; (with_reducible refine (impl_NextDue.calls k _ _ t369 _ _ t372 _ _ t375 t378 t379 t380 t382 t383 t384 _ ?side1 ?side2 ?side3 ?side4 ?side5 ?side6 A10.out).mono ?_); (case side1 => refine (Kd.R_reads' (e := 33) (base := w.heap.size) (ok := fun k_ => (True ∧ some k_ ≠ (.slice Ao17 t354.length co17 : Value).ownBlock)) (n := t369.length) (c := co24) ?_).2.2; exact (by (repeat apply rl1); exact (Kd.R_mono (Kd.R_far (p := ⟨gb381, 5, none⟩) (Kd.R_far (p := ⟨gb381, 4, none⟩) (Kd.R_far (p := ⟨gb381, 3, none⟩) (Kd.R_far (p := ⟨gb381, 2, none⟩) (Kd.R_far (p := ⟨gb381, 1, none⟩) (Kd.R_far (p := ⟨gb381, 0, none⟩) (Kd.R_types HO371.out BK381.out (by decide)) (fun _ hk => hk.2) (.slice Ao24 t369.length co24)) (fun _ hk => hk.2) (.slice Ao27 t372.length co27)) (fun _ hk => hk.2) (.slice Ao28 t375.length co28)) (fun _ hk => hk.2) (.int .i64 t378)) (fun _ hk => hk.2) (.int .i64 t379)) (fun _ hk => hk.2) (.int .i64 t380)) (fun _ h_ => h_.1)))); (case side2 => exact (Kd.R_reads' HO371.out).2.1); (case side3 => refine (Kd.R_reads' (e := 70) (base := w.heap.size) (ok := fun k_ => (True ∧ some k_ ≠ (.slice Ao18 t357.length co18 : Value).ownBlock)) (n := t372.length) (c := co27) ?_).2.2; exact (by (repeat apply rl1); exact (Kd.R_mono (Kd.R_far (p := ⟨gb381, 5, none⟩) (Kd.R_far (p := ⟨gb381, 4, none⟩) (Kd.R_far (p := ⟨gb381, 3, none⟩) (Kd.R_far (p := ⟨gb381, 2, none⟩) (Kd.R_far (p := ⟨gb381, 1, none⟩) (Kd.R_far (p := ⟨gb381, 0, none⟩) (Kd.R_types HO374.out BK381.out (by decide)) (fun _ hk => hk.2) (.slice Ao24 t369.length co24)) (fun _ hk => hk.2) (.slice Ao27 t372.length co27)) (fun _ hk => hk.2) (.slice Ao28 t375.length co28)) (fun _ hk => hk.2) (.int .i64 t378)) (fun _ hk => hk.2) (.int .i64 t379)) (fun _ hk => hk.2) (.int .i64 t380)) (fun _ h_ => h_.1)))); (case side4 => exact (Kd.R_reads' HO374.out).2.1); (case side5 => refine (Kd.R_reads' (e := 72) (base := w.heap.size) (ok := fun k_ => (True ∧ some k_ ≠ (.slice Ao19 t360.length co19 : Value).ownBlock)) (n := t375.length) (c := co28) ?_).2.2; exact (by (repeat apply rl1); exact (Kd.R_mono (Kd.R_far (p := ⟨gb381, 5, none⟩) (Kd.R_far (p := ⟨gb381, 4, none⟩) (Kd.R_far (p := ⟨gb381, 3, none⟩) (Kd.R_far (p := ⟨gb381, 2, none⟩) (Kd.R_far (p := ⟨gb381, 1, none⟩) (Kd.R_far (p := ⟨gb381, 0, none⟩) (Kd.R_types HO377.out BK381.out (by decide)) (fun _ hk => hk.2) (.slice Ao24 t369.length co24)) (fun _ hk => hk.2) (.slice Ao27 t372.length co27)) (fun _ hk => hk.2) (.slice Ao28 t375.length co28)) (fun _ hk => hk.2) (.int .i64 t378)) (fun _ hk => hk.2) (.int .i64 t379)) (fun _ hk => hk.2) (.int .i64 t380)) (fun _ h_ => h_.1)))); (case side6 => exact (Kd.R_reads' HO377.out).2.1); rintro e w29 ⟨rfl, hb⟩; refine ⟨_, rfl, ?_⟩; replace HO356 := Aside0.mk (Kd.R_below (by (repeat apply rl1); exact (Kd.R_mono (Kd.R_far (p := ⟨gb381, 5, none⟩) (Kd.R_far (p := ⟨gb381, 4, none⟩) (Kd.R_far (p := ⟨gb381, 3, none⟩) (Kd.R_far (p := ⟨gb381, 2, none⟩) (Kd.R_far (p := ⟨gb381, 1, none⟩) (Kd.R_far (p := ⟨gb381, 0, none⟩) (Kd.R_types HO356.out BK381.out (by decide)) (fun _ hk => hk.2) (.slice Ao24 t369.length co24)) (fun _ hk => hk.2) (.slice Ao27 t372.length co27)) (fun _ hk => hk.2) (.slice Ao28 t375.length co28)) (fun _ hk => hk.2) (.int .i64 t378)) (fun _ hk => hk.2) (.int .i64 t379)) (fun _ hk => hk.2) (.int .i64 t380)) (fun _ h_ => h_.1))) hb); replace HO359 := Aside0.mk (Kd.R_below (by (repeat apply rl1); exact (Kd.R_mono (Kd.R_far (p := ⟨gb381, 5, none⟩) (Kd.R_far (p := ⟨gb381, 4, none⟩) (Kd.R_far (p := ⟨gb381, 3, none⟩) (Kd.R_far (p := ⟨gb381, 2, none⟩) (Kd.R_far (p := ⟨gb381, 1, none⟩) (Kd.R_far (p := ⟨gb381, 0, none⟩) (Kd.R_types HO359.out BK381.out (by decide)) (fun _ hk => hk.2) (.slice Ao24 t369.length co24)) (fun _ hk => hk.2) (.slice Ao27 t372.length co27)) (fun _ hk => hk.2) (.slice Ao28 t375.length co28)) (fun _ hk => hk.2) (.int .i64 t378)) (fun _ hk => hk.2) (.int .i64 t379)) (fun _ hk => hk.2) (.int .i64 t380)) (fun _ h_ => h_.1))) hb); replace HO362 := Aside0.mk (Kd.R_below (by (repeat apply rl1); exact (Kd.R_mono (Kd.R_far (p := ⟨gb381, 5, none⟩) (Kd.R_far (p := ⟨gb381, 4, none⟩) (Kd.R_far (p := ⟨gb381, 3, none⟩) (Kd.R_far (p := ⟨gb381, 2, none⟩) (Kd.R_far (p := ⟨gb381, 1, none⟩) (Kd.R_far (p := ⟨gb381, 0, none⟩) (Kd.R_types HO362.out BK381.out (by decide)) (fun _ hk => hk.2) (.slice Ao24 t369.length co24)) (fun _ hk => hk.2) (.slice Ao27 t372.length co27)) (fun _ hk => hk.2) (.slice Ao28 t375.length co28)) (fun _ hk => hk.2) (.int .i64 t378)) (fun _ hk => hk.2) (.int .i64 t379)) (fun _ hk => hk.2) (.int .i64 t380)) (fun _ h_ => h_.1))) hb); replace HO371 := Aside0.mk (Kd.R_below (by (repeat apply rl1); exact (Kd.R_mono (Kd.R_far (p := ⟨gb381, 5, none⟩) (Kd.R_far (p := ⟨gb381, 4, none⟩) (Kd.R_far (p := ⟨gb381, 3, none⟩) (Kd.R_far (p := ⟨gb381, 2, none⟩) (Kd.R_far (p := ⟨gb381, 1, none⟩) (Kd.R_far (p := ⟨gb381, 0, none⟩) (Kd.R_types HO371.out BK381.out (by decide)) (fun _ hk => hk.2) (.slice Ao24 t369.length co24)) (fun _ hk => hk.2) (.slice Ao27 t372.length co27)) (fun _ hk => hk.2) (.slice Ao28 t375.length co28)) (fun _ hk => hk.2) (.int .i64 t378)) (fun _ hk => hk.2) (.int .i64 t379)) (fun _ hk => hk.2) (.int .i64 t380)) (fun _ h_ => h_.1))) hb); replace HO374 := Aside0.mk (Kd.R_below (by (repeat apply rl1); exact (Kd.R_mono (Kd.R_far (p := ⟨gb381, 5, none⟩) (Kd.R_far (p := ⟨gb381, 4, none⟩) (Kd.R_far (p := ⟨gb381, 3, none⟩) (Kd.R_far (p := ⟨gb381, 2, none⟩) (Kd.R_far (p := ⟨gb381, 1, none⟩) (Kd.R_far (p := ⟨gb381, 0, none⟩) (Kd.R_types HO374.out BK381.out (by decide)) (fun _ hk => hk.2) (.slice Ao24 t369.length co24)) (fun _ hk => hk.2) (.slice Ao27 t372.length co27)) (fun _ hk => hk.2) (.slice Ao28 t375.length co28)) (fun _ hk => hk.2) (.int .i64 t378)) (fun _ hk => hk.2) (.int .i64 t379)) (fun _ hk => hk.2) (.int .i64 t380)) (fun _ h_ => h_.1))) hb); replace HO377 := Aside0.mk (Kd.R_below (by (repeat apply rl1); exact (Kd.R_mono (Kd.R_far (p := ⟨gb381, 5, none⟩) (Kd.R_far (p := ⟨gb381, 4, none⟩) (Kd.R_far (p := ⟨gb381, 3, none⟩) (Kd.R_far (p := ⟨gb381, 2, none⟩) (Kd.R_far (p := ⟨gb381, 1, none⟩) (Kd.R_far (p := ⟨gb381, 0, none⟩) (Kd.R_types HO377.out BK381.out (by decide)) (fun _ hk => hk.2) (.slice Ao24 t369.length co24)) (fun _ hk => hk.2) (.slice Ao27 t372.length co27)) (fun _ hk => hk.2) (.slice Ao28 t375.length co28)) (fun _ hk => hk.2) (.int .i64 t378)) (fun _ hk => hk.2) (.int .i64 t379)) (fun _ hk => hk.2) (.int .i64 t380)) (fun _ h_ => h_.1))) hb); replace BK352 := Aside0.mk (blk_below (g := gb352) (o := .cells #[.slice A0_0 l0_0.length c0_0, .slice A0_1 l0_1.length c0_1, .slice A0_2 l0_2.length c0_2, .int .i64 a0_3, .int .i64 a0_4, .int .i64 a0_5] 50 (0, 0)) (by (repeat refine bk1 ?_); refine blk_far ?_ NB352_381.out _; (repeat refine bk1 ?_); refine blk_far ?_ NB352_381.out _; (repeat refine bk1 ?_); refine blk_far ?_ NB352_381.out _; (repeat refine bk1 ?_); refine blk_far ?_ NB352_381.out _; (repeat refine bk1 ?_); refine blk_far ?_ NB352_381.out _; (repeat refine bk1 ?_); refine blk_far ?_ NB352_381.out _; (repeat refine bk1 ?_); exact BK352.out) hb); replace BK381 := Aside0.mk (blk_below (g := gb381) (o := .cells #[.slice Ao24 t369.length co24, .slice Ao27 t372.length co27, .slice Ao28 t375.length co28, .int .i64 t378, .int .i64 t379, .int .i64 t380] 56 (0, 0)) (by (repeat refine bk1 ?_); refine blk_put (cs := #[.slice Ao24 t369.length co24, .slice Ao27 t372.length co27, .slice Ao28 t375.length co28, .int .i64 t378, .int .i64 t379, .int .i64 0]) ?_ 5 _ rfl; (repeat refine bk1 ?_); refine blk_put (cs := #[.slice Ao24 t369.length co24, .slice Ao27 t372.length co27, .slice Ao28 t375.length co28, .int .i64 t378, .int .i64 0, .int .i64 0]) ?_ 4 _ rfl; (repeat refine bk1 ?_); refine blk_put (cs := #[.slice Ao24 t369.length co24, .slice Ao27 t372.length co27, .slice Ao28 t375.length co28, .int .i64 0, .int .i64 0, .int .i64 0]) ?_ 3 _ rfl; (repeat refine bk1 ?_); refine blk_put (cs := #[.slice Ao24 t369.length co24, .slice Ao27 t372.length co27, .slice none 0 0, .int .i64 0, .int .i64 0, .int .i64 0]) ?_ 2 _ rfl; (repeat refine bk1 ?_); refine blk_put (cs := #[.slice Ao24 t369.length co24, .slice none 0 0, .slice none 0 0, .int .i64 0, .int .i64 0, .int .i64 0]) ?_ 1 _ rfl; (repeat refine bk1 ?_); refine blk_put (cs := #[.slice none 0 0, .slice none 0 0, .slice none 0 0, .int .i64 0, .int .i64 0, .int .i64 0]) ?_ 0 _ rfl; (repeat refine bk1 ?_); exact BK381.out) hb); replace HB := Aside0.mk (below_step (by repeat with_reducible first | exact bl HB.out | refine below_set ?_ GE352.out | refine below_set ?_ GE381.out | refine bq ?_) hb); (try clear hb); (try clear hb2); (try clear hk); (try clear hi)))
  (try simp only [Act.put, List.setIfInBounds_toArray, List.set_cons_zero, List.set_cons_succ])
  go_cut [43] (fun v43 wc => ∃ (kq : Nat) (x43_10 : Bool), v43 = .bool x43_10 ∧ Aside0 (laws_FnExactNextDue.j0 kq x43_10 l0_0 l0_1 l0_2 a0_3 a0_4 a0_5 t369 t372 t375 t378 t379 t380 = some r) ∧ Aside0 (kq ≤ k) ∧ Aside0 (Kd.R k33 33 wc w.heap.size (fun _ => True) (.slice Ao24 t369.length co24) t369) ∧ Aside0 (Kd.R k70 70 wc w.heap.size (fun _ => True) (.slice Ao27 t372.length co27) t372) ∧ Aside0 (Kd.R k72 72 wc w.heap.size (fun _ => True) (.slice Ao28 t375.length co28) t375) ∧ Aside0 (wc.heap[gb352]? = some (.cells #[(.slice A0_0 l0_0.length c0_0), (.slice A0_1 l0_1.length c0_1), (.slice A0_2 l0_2.length c0_2), .int .i64 a0_3, .int .i64 a0_4, .int .i64 a0_5] 50 (0, 0))) ∧ Aside0 (wc.heap[gb381]? = some (.cells #[(.slice Ao24 t369.length co24), (.slice Ao27 t372.length co27), (.slice Ao28 t375.length co28), .int .i64 t378, .int .i64 t379, .int .i64 t380] 56 (0, 0))) ∧ Aside0 (Below w.heap.size w wc))
  case first =>
   have H := HC11.out
   clear HC11
   by_cases c30 : t382.toList = t366.toList
   ·
    rw [if_pos c30] at H
    have c30b0 : (t382.toList == t366.toList) = true := beq_iff_eq.mpr c30
    have c30b1 : (t382.toList != t366.toList) = false := bne_eq_false_iff_eq.mpr c30
    clear c30
    (first | rw [c30b0] | (simp only [i64_w, i32_w]; rw [c30b0]) | skip)
    by_cases c31 : t383 = t367
    ·
     rw [if_pos c31] at H
     have c31b0 : (t383 == t367) = true := beq_iff_eq.mpr c31
     have c31b1 : (t383 != t367) = false := bne_eq_false_iff_eq.mpr c31
     clear c31
     have H' := Aside0.mk H
     clear H
     go_wp2
     go_meet
     case rel => exact ⟨_, ((t384 != t368)), (by first | rfl | (simp; done) | (simp [*]; done)), H', ⟨by first | omega | exact Nat.le_refl _⟩, ⟨by (repeat apply rl1); exact Kd.R_mono HO371.out (fun _ hk => trivial)⟩, ⟨by (repeat apply rl1); exact Kd.R_mono HO374.out (fun _ hk => trivial)⟩, ⟨by (repeat apply rl1); exact Kd.R_mono HO377.out (fun _ hk => trivial)⟩, ⟨bk BK352.out⟩, ⟨bk BK381.out⟩, ⟨by repeat with_reducible first | exact bl HB.out | refine below_set ?_ GE352.out | refine below_set ?_ GE381.out | refine bq ?_⟩⟩
    ·
     rw [if_neg c31] at H
     have c31b0 : (t383 == t367) = false := beq_eq_false_iff_ne.mpr c31
     have c31b1 : (t383 != t367) = true := bne_iff_ne.mpr c31
     have H' := Aside0.mk H
     clear H
     go_wp2
     go_meet
     case rel => exact ⟨_, (true), (by first | rfl | (simp; done) | (simp [*]; done)), H', ⟨by first | omega | exact Nat.le_refl _⟩, ⟨by (repeat apply rl1); exact Kd.R_mono HO371.out (fun _ hk => trivial)⟩, ⟨by (repeat apply rl1); exact Kd.R_mono HO374.out (fun _ hk => trivial)⟩, ⟨by (repeat apply rl1); exact Kd.R_mono HO377.out (fun _ hk => trivial)⟩, ⟨bk BK352.out⟩, ⟨bk BK381.out⟩, ⟨by repeat with_reducible first | exact bl HB.out | refine below_set ?_ GE352.out | refine below_set ?_ GE381.out | refine bq ?_⟩⟩
   ·
    rw [if_neg c30] at H
    have c30b0 : (t382.toList == t366.toList) = false := beq_eq_false_iff_ne.mpr c30
    have c30b1 : (t382.toList != t366.toList) = true := bne_iff_ne.mpr c30
    (first | rw [c30b0] | (simp only [i64_w, i32_w]; rw [c30b0]) | skip)
    have H' := Aside0.mk H
    clear H
    go_wp2
    go_meet
    case rel => exact ⟨_, (true), (by first | rfl | (simp; done) | (simp [*]; done)), H', ⟨by first | omega | exact Nat.le_refl _⟩, ⟨by (repeat apply rl1); exact Kd.R_mono HO371.out (fun _ hk => trivial)⟩, ⟨by (repeat apply rl1); exact Kd.R_mono HO374.out (fun _ hk => trivial)⟩, ⟨by (repeat apply rl1); exact Kd.R_mono HO377.out (fun _ hk => trivial)⟩, ⟨bk BK352.out⟩, ⟨bk BK381.out⟩, ⟨by repeat with_reducible first | exact bl HB.out | refine below_set ?_ GE352.out | refine below_set ?_ GE381.out | refine bq ?_⟩⟩
  case rest =>
   clear HC11
   try clear c2
   try clear p2
   try clear c3
   try clear c3b0
   try clear c8
   try clear c25
   try clear c28
   try clear c30
   try clear c30b0
   try clear c30b1
   try clear c31
   try clear c31b0
   try clear c31b1
   try clear hcz13_0 hcz13_1 hcz13_2 hcz13_3 hcz13_4 hcz13_5 hfz13_0 hfz13_1 hfz13_2 hfz13_3 hfz13_4 hfz13_5
   try clear hcz15_0 hcz15_1 hcz15_2 hcz15_3 hcz15_4 hcz15_5 hfz15_0 hfz15_1 hfz15_2 hfz15_3 hfz15_4 hfz15_5
   try clear hcz21_0 hcz21_1 hcz21_2 hcz21_3 hcz21_4 hcz21_5 hfz21_0 hfz21_1 hfz21_2 hfz21_3 hfz21_4 hfz21_5
   try clear hcz26_0 hcz26_1 hcz26_2 hcz26_3 hcz26_4 hcz26_5 hfz26_0 hfz26_1 hfz26_2 hfz26_3 hfz26_4 hfz26_5
   try clear hcz5_0 hcz5_1 hcz5_2 hcz5_3 hcz5_4 hcz5_5 hfz5_0 hfz5_1 hfz5_2 hfz5_3 hfz5_4 hfz5_5
   obtain ⟨kq, x43_10, rfl, HA, HJ10, HO_382000, HO_382001, HO_382002, BK352, BK381, HB⟩ := hcut
   cases kq with
   | zero => exact absurd HA.out (by simp [laws_FnExactNextDue.j0])
   | succ kj10 =>
    have H := HA.out
    clear HA
    simp only [laws_FnExactNextDue.j0] at H
    by_cases c32 : x43_10 = true
    ·
     subst c32
     have H1 : (some false) = some r := by rw [if_pos rfl] at H; exact H
     clear H
     have H := H1
     clear H1
     cases H.trans (congrArg some hr_)
    ·
     replace c32 := Bool.eq_false_iff.mpr c32
     subst c32
     have H1 : ((laws_toFleet.f kj10 l0_0 l0_1 l0_2 a0_3 a0_4 a0_5).bind fun bt385 => ((laws_eqFleet.f kj10 t369 t372 t375 t378 t379 t380 bt385.1 bt385.2.1 bt385.2.2.1 bt385.2.2.2.1 bt385.2.2.2.2.1 bt385.2.2.2.2.2).bind fun t397 => (if t397 = true then (some true) else (some false)))) = some r := by rw [if_neg (show ¬ (false = true) by decide)] at H; exact H
     clear H
     have H := H1
     clear H1
     replace H := Option.bind_eq_some_iff.mp H
     obtain ⟨⟨t385, t388, t391, t394, t395, t396⟩, A330, H⟩ := H
     replace H : ((laws_eqFleet.f kj10 t369 t372 t375 t378 t379 t380 t385 t388 t391 t394 t395 t396).bind fun t397 => (if t397 = true then (some true) else (some false))) = some r := H
     have A33 := Aside0.mk A330
     clear A330
     replace H := Option.bind_eq_some_iff.mp H
     obtain ⟨t397, A340, H⟩ := H
     replace H : (if t397 = true then (some true) else (some false)) = some r := H
     have A34 := Aside0.mk A340
     clear A340
     by_cases c35 : t397 = true
     ·
      subst c35
      have H1 : (some true) = some r := by rw [if_pos rfl] at H; exact H
      clear H
      have H := H1
      clear H1
      obtain rfl := Option.some.inj H
      try go_wp2
      have n0_ := Aside0.mk (Kd.R_drew HO_382000.out)
      have n1_ := Aside0.mk (Kd.R_drew HO_382001.out)
      have n2_ := Aside0.mk (Kd.R_drew HO_382002.out)
      have n3_ := Aside0.mk (blk_drew BK352.out)
      have n4_ := Aside0.mk (blk_drew BK381.out)
      have n5_ := Aside0.mk (below_drew1 HB.out)
      clear HO_382000
      clear HO_382001
      clear HO_382002
      clear BK352
      clear BK381
      clear HB
      have HO_382000 := n0_
      have HO_382001 := n1_
      have HO_382002 := n2_
      have BK352 := n3_
      have BK381 := n4_
      have HB := n5_
      clear n0_ n1_ n2_ n3_ n4_ n5_
      refine start_ (n := 5) (S := fun w' => w'.cell? ⟨gb381, 0, none⟩ = some (.slice Ao24 t369.length co24) ∧ w'.cell? ⟨gb381, 1, none⟩ = some (.slice Ao27 t372.length co27) ∧ w'.cell? ⟨gb381, 2, none⟩ = some (.slice Ao28 t375.length co28) ∧ w'.cell? ⟨gb381, 3, none⟩ = some (.int .i64 t378) ∧ w'.cell? ⟨gb381, 4, none⟩ = some (.int .i64 t379) ∧ w'.cell? ⟨gb381, 5, none⟩ = some (.int .i64 t380) ∧ w'.cell? ⟨gb352, 0, none⟩ = some (.slice A0_0 l0_0.length c0_0) ∧ w'.cell? ⟨gb352, 1, none⟩ = some (.slice A0_1 l0_1.length c0_1) ∧ w'.cell? ⟨gb352, 2, none⟩ = some (.slice A0_2 l0_2.length c0_2) ∧ w'.cell? ⟨gb352, 3, none⟩ = some (.int .i64 a0_3) ∧ w'.cell? ⟨gb352, 4, none⟩ = some (.int .i64 a0_4) ∧ w'.cell? ⟨gb352, 5, none⟩ = some (.int .i64 a0_5)) (ds := []) m0_5 (by kernel_rfl) rfl rfl ⟨ck BK381.out 0 rfl, ck BK381.out 1 rfl, ck BK381.out 2 rfl, ck BK381.out 3 rfl, ck BK381.out 4 rfl, ck BK381.out 5 rfl, ck BK352.out 0 rfl, ck BK352.out 1 rfl, ck BK352.out 2 rfl, ck BK352.out 3 rfl, ck BK352.out 4 rfl, ck BK352.out 5 rfl⟩ (fun hHeld => ?_)
      generalize wc.drew = w36 at HO_382000 HO_382001 HO_382002 BK352 BK381 HB hHeld ⊢
      refine take_ (i := 0) (N := some 44) (v := ?_) (a' := ?_) m1_5 rfl rfl (by kernel_rfl) (fun _ _ _ h => h) (Or.inl ⟨by rfl, ?_⟩) hHeld ?_ ?_
      rotate_left
      ·
       rintro w' ⟨s0, s1, s2, s3, s4, s5, s6, s7, s8, s9, s10, s11⟩
       go_simp
       with_reducible rfl
      rotate_left
      ·
       simp only [sp_]
       rfl
      refine take_ (i := 1) (N := some 45) (v := ?_) (a' := ?_) m2_5 rfl rfl (by kernel_rfl) (fun _ _ _ h => h) (Or.inl ⟨by rfl, ?_⟩) hHeld ?_ ?_
      rotate_left
      ·
       rintro w' ⟨s0, s1, s2, s3, s4, s5, s6, s7, s8, s9, s10, s11⟩
       go_simp
       with_reducible rfl
      rotate_left
      ·
       simp only [sp_]
       rfl
      refine one_ (i := 2) (N := some 46) m3_5 rfl rfl (by kernel_rfl) (by decide) (fun K hK => ?_)
      refine goes_ Try.func30 (by kernel_rfl) rfl #[.agg #[.slice A0_0 l0_0.length c0_0, .slice A0_1 l0_1.length c0_1, .slice A0_2 l0_2.length c0_2, .int .i64 a0_3, .int .i64 a0_4, .int .i64 a0_5]] (by rfl) rfl rfl (by (try simp only [am_]); first | done | rfl) ?_
      with_reducible refine (laws_toFleet.calls kj10 _ _ l0_0 _ _ l0_1 _ _ l0_2 a0_3 a0_4 a0_5 t385 t388 t391 t394 t395 t396 _ ?side1 ?side2 ?side3 ?side4 ?side5 ?side6 A33.out).mono ?_
      (case side1 => exact rc (Kd.C_below HR0_0.out HB.out))
      (case side2 => exact HC0_0.out)
      (case side3 => exact rc (Kd.C_below HR0_1.out HB.out))
      (case side4 => exact HC0_1.out)
      (case side5 => exact rc (Kd.C_below HR0_2.out HB.out))
      (case side6 => exact HC0_2.out)
      rintro e w37 ⟨v386, v389, v392, rfl, ho0, ho1, ho2, hb⟩
      refine ⟨_, rfl, ?_⟩
      have n0_ := Aside0.mk (Kd.R_elder' (rl HO_382000.out) (Kd.R_base ho0) hb)
      have n1_ := Aside0.mk (Kd.R_elder' (rl HO_382001.out) (Kd.R_base ho1) hb)
      have n2_ := Aside0.mk (Kd.R_elder' (rl HO_382002.out) (Kd.R_base ho2) hb)
      have n3_ := Aside0.mk (Kd.R_lower (Kd.R_new' ho0 (Kd.R_lt (by (repeat apply rl1); exact HO_382000.out))) (below_size (by repeat with_reducible first | exact bl HB.out | refine below_set ?_ GE352.out | refine below_set ?_ GE381.out | refine bq ?_)))
      have n4_ := Aside0.mk (Kd.R_lower (Kd.R_new' ho1 (Kd.R_lt (by (repeat apply rl1); exact HO_382001.out))) (below_size (by repeat with_reducible first | exact bl HB.out | refine below_set ?_ GE352.out | refine below_set ?_ GE381.out | refine bq ?_)))
      have n5_ := Aside0.mk (Kd.R_lower (Kd.R_new' ho2 (Kd.R_lt (by (repeat apply rl1); exact HO_382002.out))) (below_size (by repeat with_reducible first | exact bl HB.out | refine below_set ?_ GE352.out | refine below_set ?_ GE381.out | refine bq ?_)))
      have n6_ := Aside0.mk (blk_below (bk BK352.out) hb)
      have n7_ := Aside0.mk (blk_below (bk BK381.out) hb)
      have n8_ := Aside0.mk (below_step (by repeat with_reducible first | exact bl HB.out | refine below_set ?_ GE352.out | refine below_set ?_ GE381.out | refine bq ?_) hb)
      clear HO_382000
      clear HO_382001
      clear HO_382002
      clear BK352
      clear BK381
      clear HB
      have HO_382000 := n0_
      have HO_382001 := n1_
      have HO_382002 := n2_
      have HO387 := n3_
      have HO390 := n4_
      have HO393 := n5_
      have BK352 := n6_
      have BK381 := n7_
      have HB := n8_
      clear n0_ n1_ n2_ n3_ n4_ n5_ n6_ n7_ n8_
      (try clear hb)
      (try clear hb2)
      (try clear hk)
      (try clear hi)
      (try clear ho0)
      (try clear ho1)
      (try clear ho2)
      obtain ⟨Ao38, co38, eo38⟩ := Kd.R_slice HO387.out
      (first | subst eo38 | (injection eo38 with f1_ f2_ f3_; have f4_ := f1_.symm; have f5_ := f3_.symm; clear f1_ f2_ f3_; subst f4_; subst f5_))
      obtain ⟨Ao39, co39, eo39⟩ := Kd.R_slice HO390.out
      (first | subst eo39 | (injection eo39 with f1_ f2_ f3_; have f4_ := f1_.symm; have f5_ := f3_.symm; clear f1_ f2_ f3_; subst f4_; subst f5_))
      obtain ⟨Ao40, co40, eo40⟩ := Kd.R_slice HO393.out
      (first | subst eo40 | (injection eo40 with f1_ f2_ f3_; have f4_ := f1_.symm; have f5_ := f3_.symm; clear f1_ f2_ f3_; subst f4_; subst f5_))
      refine hK.out _ _ ⟨ck BK381.out 0 rfl, ck BK381.out 1 rfl, ck BK381.out 2 rfl, ck BK381.out 3 rfl, ck BK381.out 4 rfl, ck BK381.out 5 rfl, ck BK352.out 0 rfl, ck BK352.out 1 rfl, ck BK352.out 2 rfl, ck BK352.out 3 rfl, ck BK352.out 4 rfl, ck BK352.out 5 rfl⟩ (fun hHeld => ?_)
      clear hK K
      refine norm_ (a' := ?_) ?_ ?_
      rotate_left
      ·
       show Act.put _ (some 46) _ = _
       simp only [sp_]
       rfl
      refine one_ (i := 3) (N := some 47) m4_5 rfl rfl (by kernel_rfl) (by decide) (fun K hK => ?_)
      refine goes_ Try.func32 (by kernel_rfl) rfl #[.agg #[.slice Ao24 t369.length co24, .slice Ao27 t372.length co27, .slice Ao28 t375.length co28, .int .i64 t378, .int .i64 t379, .int .i64 t380], .agg #[.slice Ao38 t385.length co38, .slice Ao39 t388.length co39, .slice Ao40 t391.length co40, .int .i64 t394, .int .i64 t395, .int .i64 t396]] (by rfl) rfl rfl (by (try simp only [am_]); first | done | rfl) ?_
      with_reducible refine (laws_eqFleet.calls kj10 _ _ t369 _ _ t372 _ _ t375 t378 t379 t380 _ _ t385 _ _ t388 _ _ t391 t394 t395 t396 true _ ?side1 ?side2 ?side3 ?side4 ?side5 ?side6 ?side7 ?side8 ?side9 ?side10 ?side11 ?side12 A34.out).mono ?_
      (case side1 => exact rc (Kd.R_reads' HO_382000.out).2.2)
      (case side2 => exact (Kd.R_reads' HO_382000.out).2.1)
      (case side3 => exact rc (Kd.R_reads' HO_382001.out).2.2)
      (case side4 => exact (Kd.R_reads' HO_382001.out).2.1)
      (case side5 => exact rc (Kd.R_reads' HO_382002.out).2.2)
      (case side6 => exact (Kd.R_reads' HO_382002.out).2.1)
      (case side7 => exact rc (Kd.R_reads' HO387.out).2.2)
      (case side8 => exact (Kd.R_reads' HO387.out).2.1)
      (case side9 => exact rc (Kd.R_reads' HO390.out).2.2)
      (case side10 => exact (Kd.R_reads' HO390.out).2.1)
      (case side11 => exact rc (Kd.R_reads' HO393.out).2.2)
      (case side12 => exact (Kd.R_reads' HO393.out).2.1)
      rintro e w41 ⟨rfl, hb⟩
      refine ⟨_, rfl, ?_⟩
      have n0_ := Aside0.mk (Kd.R_below (rl HO_382000.out) hb)
      have n1_ := Aside0.mk (Kd.R_below (rl HO_382001.out) hb)
      have n2_ := Aside0.mk (Kd.R_below (rl HO_382002.out) hb)
      have n3_ := Aside0.mk (Kd.R_below (rl HO387.out) hb)
      have n4_ := Aside0.mk (Kd.R_below (rl HO390.out) hb)
      have n5_ := Aside0.mk (Kd.R_below (rl HO393.out) hb)
      have n6_ := Aside0.mk (blk_below (bk BK352.out) hb)
      have n7_ := Aside0.mk (blk_below (bk BK381.out) hb)
      have n8_ := Aside0.mk (below_step (by repeat with_reducible first | exact bl HB.out | refine below_set ?_ GE352.out | refine below_set ?_ GE381.out | refine bq ?_) hb)
      clear HO_382000
      clear HO_382001
      clear HO_382002
      clear HO387
      clear HO390
      clear HO393
      clear BK352
      clear BK381
      clear HB
      have HO_382000 := n0_
      have HO_382001 := n1_
      have HO_382002 := n2_
      have HO387 := n3_
      have HO390 := n4_
      have HO393 := n5_
      have BK352 := n6_
      have BK381 := n7_
      have HB := n8_
      clear n0_ n1_ n2_ n3_ n4_ n5_ n6_ n7_ n8_
      (try clear hb)
      (try clear hb2)
      (try clear hk)
      (try clear hi)
      refine hK.out _ _ ⟨ck BK381.out 0 rfl, ck BK381.out 1 rfl, ck BK381.out 2 rfl, ck BK381.out 3 rfl, ck BK381.out 4 rfl, ck BK381.out 5 rfl, ck BK352.out 0 rfl, ck BK352.out 1 rfl, ck BK352.out 2 rfl, ck BK352.out 3 rfl, ck BK352.out 4 rfl, ck BK352.out 5 rfl⟩ (fun hHeld => ?_)
      clear hK K
      refine norm_ (a' := ?_) ?_ ?_
      rotate_left
      ·
       show Act.put _ (some 47) _ = _
       simp only [sp_]
       rfl
      refine pure_ (i := 4) (N := some 48) (v := ?_) (a' := ?_) m5_5 rfl rfl (by kernel_rfl) (fun _ _ _ h => h) (Or.inl ⟨by rfl, ?_⟩) ?_ ?_
      rotate_left
      ·
       intro w'
       go_simp
       with_reducible rfl
      rotate_left
      ·
       simp only [sp_]
       rfl
      refine done_ (by kernel_rfl) ?_
      try go_wp2
      go_ret
      exact ⟨by first | rfl | (simp [errW_none, errW_some] <;> rfl) | (simp [*, errW_none, errW_some] <;> rfl), by repeat with_reducible first | exact bl HB.out | refine below_set ?_ GE352.out | refine below_set ?_ GE381.out | refine bq ?_⟩
     ·
      replace c35 := Bool.eq_false_iff.mpr c35
      subst c35
      have H1 : (some false) = some r := by rw [if_neg (show ¬ (false = true) by decide)] at H; exact H
      clear H
      have H := H1
      clear H1
      cases H.trans (congrArg some hr_)
end Go.Proofs.Ytbgdibbgngpggaa.PFnExactNextDue
