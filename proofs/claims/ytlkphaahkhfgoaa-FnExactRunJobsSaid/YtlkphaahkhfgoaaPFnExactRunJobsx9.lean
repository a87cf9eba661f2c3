-- Written by a program of this session (wip/xprint.py) out of the translation; Lean checks it.
import Derived.Test.YtlkphaahkhfgoaaPFnExactRunJobsx0
import Derived.Test.YtlkphaahkhfgoaaPFnExactRunJobsx1
import Derived.Test.YtlkphaahkhfgoaaPFnExactRunJobsx2
import Derived.Test.YtlkphaahkhfgoaaPFnExactRunJobsx4
import Derived.Test.YtlkphaahkhfgoaaPFnExactRunJobsx5
import Derived.Test.YtlkphaahkhfgoaaPFnExactRunJobsx6
import Derived.Test.YtlkphaahkhfgoaaPFnExactRunJobsx7
import Derived.Test.YtlkphaahkhfgoaaPFnExactRunJobsx8
namespace Go.Proofs.Ytlkphaahkhfgoaa.PFnExactRunJobs
open Go.RowKit Go.Proofs.YtlkphaahkhfgoaaW.PrintWords Go.Proofs.YtlkphaahkhfgoaaW.PrintLast Go.Proofs.YtlkphaahkhfgoaaW.PrintMore Go.Proofs.Ytlkphaahkhfgoaa.Sq
attribute [local go_sem] max2_int min2_int max_two min_two max_three min_three max_four min_four   -- for this text's walks alone
set_option linter.unusedVariables false
set_option linter.unusedSimpArgs false

/-! ### laws_FnExactRunJobs: function 7 -/
mutual
def laws_FnExactRunJobs.j0 : Nat → List (S76) → Int → List Int → Int → Bool → List (S74) → List Int → Int → Bool → Bool → Int → Int → List (S85) → Int → Int → List (S62) → Option (Bool)
 | 0, _, _, _, _, _, _, _, _, _, _, _, _, _, _, _, _ => none
 | k + 1, x1, x2, x8, x9, x10, x12, x13, x14, x15, x67, x261000, x261001, x261002, x282000, x282001, x282002 => if x67 = true then (some false) else ((laws_toPlan17.f k x261000 x261001 x261002).bind fun bt291 => ((laws_eqPlan17.f k x282000 x282001 x282002 bt291.1 bt291.2.1 bt291.2.2).bind fun t296 => (if t296 = true then ((laws_toJobS.f k x1).bind fun t297 => ((laws_eqJobS.f k x12 t297).bind fun t300 => (if t300 = true then ((laws_markPlan17.f k x282000 x282001 x282002 1).bind fun bt301 => ((laws_markJobS.f k x12 bt301.1).bind fun bt303 => (if bt303.1 < 0 then (laws_FnExactRunJobs.j1 k x1 x2 x8 x9 x10 x13 true x261000 x261001 x261002) else ((laws_eqIntS.f k x13 x8).bind fun t305 => (if t305 = true then (if x14 = x9 then (laws_FnExactRunJobs.j1 k x1 x2 x8 x9 x10 x13 (x15 != x10) x261000 x261001 x261002) else (laws_FnExactRunJobs.j1 k x1 x2 x8 x9 x10 x13 true x261000 x261001 x261002)) else (laws_FnExactRunJobs.j1 k x1 x2 x8 x9 x10 x13 true x261000 x261001 x261002)))))) else (some false)))) else (some false))))
def laws_FnExactRunJobs.j1 : Nat → List (S76) → Int → List Int → Int → Bool → List Int → Bool → Int → Int → List (S85) → Option (Bool)
 | 0, _, _, _, _, _, _, _, _, _, _ => none
 | k + 1, x1, x2, x8, x9, x10, x13, x101, x261000, x261001, x261002 => if x101 = true then (some false) else ((laws_markIntS.f k x13 1).bind fun bt306 => ((laws_heldIntS.f k bt306.2 1).bind fun t308 => (if t308 < 0 then (some false) else (if t308 = bt306.1 then ((laws_toPlan17.f k x261000 x261001 x261002).bind fun bt309 => ((laws_toJobS.f k x1).bind fun t314 => ((impl_RunJobs.f k bt309.1 bt309.2.1 bt309.2.2 t314 x2).bind fun bt317 => ((laws_eqIntS.f k bt317.1 x8).bind fun t322 => (if t322 = true then (if bt317.2.1 = x9 then (laws_FnExactRunJobs.j2 k bt306.2 bt306.1 (bt317.2.2 != x10)) else (laws_FnExactRunJobs.j2 k bt306.2 bt306.1 true)) else (laws_FnExactRunJobs.j2 k bt306.2 bt306.1 true)))))) else (some false)))))
def laws_FnExactRunJobs.j2 : Nat → List Int → Int → Bool → Option (Bool)
 | 0, _, _, _ => none
 | k + 1, x13, x17, x136 => if x136 = true then (some false) else ((laws_heldIntS.f k x13 1).bind fun t323 => (if t323 < 0 then (some false) else (if t323 = x17 then (some true) else (some false))))
end
def laws_FnExactRunJobs.f (k : Nat) (a0_0 : Int) (a0_1 : Int) (l0_2 : List (S85)) (l1 : List (S76)) (a2 : Int) : Option (Bool) := (laws_szPlan17.f a0_0 a0_1 l0_2 1048576).bind fun t261 => (if t261 < 0 then (some true) else ((laws_szJobS.f l1 t261).bind fun t262 => (if t262 < 0 then (some true) else ((laws_toPlan17.f k a0_0 a0_1 l0_2).bind fun bt263 => ((laws_toJobS.f k l1).bind fun t268 => ((spec_RunJobs.f k bt263.1 bt263.2.1 bt263.2.2 t268 a2).bind fun bt271 => ((laws_toPlan17.f k a0_0 a0_1 l0_2).bind fun bt276 => ((laws_toJobS.f k l1).bind fun t282 => ((impl_RunJobs.f k bt276.1 bt276.2.1 bt276.2.2 t282 a2).bind fun bt285 => ((laws_eqIntS.f k bt285.1 bt271.1).bind fun t290 => (if t290 = true then (if bt285.2.1 = bt271.2.1 then (laws_FnExactRunJobs.j0 k l1 a2 bt271.1 bt271.2.1 bt271.2.2 t282 bt285.1 bt285.2.1 bt285.2.2 (bt285.2.2 != bt271.2.2) a0_0 a0_1 l0_2 bt276.1 bt276.2.1 bt276.2.2) else (laws_FnExactRunJobs.j0 k l1 a2 bt271.1 bt271.2.1 bt271.2.2 t282 bt285.1 bt285.2.1 bt285.2.2 true a0_0 a0_1 l0_2 bt276.1 bt276.2.1 bt276.2.2)) else (laws_FnExactRunJobs.j0 k l1 a2 bt271.1 bt271.2.1 bt271.2.2 t282 bt285.1 bt285.2.1 bt285.2.2 true a0_0 a0_1 l0_2 bt276.1 bt276.2.1 bt276.2.2))))))))))))
theorem laws_FnExactRunJobs.mono_l : ∀ k, (∀ y0 y1 y2 y3 y4 y5 y6 y7 y8 y9 y10 y11 y12 y13 y14 y15, LeO (laws_FnExactRunJobs.j0 k y0 y1 y2 y3 y4 y5 y6 y7 y8 y9 y10 y11 y12 y13 y14 y15) (laws_FnExactRunJobs.j0 (k + 1) y0 y1 y2 y3 y4 y5 y6 y7 y8 y9 y10 y11 y12 y13 y14 y15)) ∧ (∀ y0 y1 y2 y3 y4 y5 y6 y7 y8 y9, LeO (laws_FnExactRunJobs.j1 k y0 y1 y2 y3 y4 y5 y6 y7 y8 y9) (laws_FnExactRunJobs.j1 (k + 1) y0 y1 y2 y3 y4 y5 y6 y7 y8 y9)) ∧ (∀ y0 y1 y2, LeO (laws_FnExactRunJobs.j2 k y0 y1 y2) (laws_FnExactRunJobs.j2 (k + 1) y0 y1 y2))
 | 0 => ⟨fun _ _ _ _ _ _ _ _ _ _ _ _ _ _ _ _ r h => by simp [laws_FnExactRunJobs.j0] at h, fun _ _ _ _ _ _ _ _ _ _ r h => by simp [laws_FnExactRunJobs.j1] at h, fun _ _ _ r h => by simp [laws_FnExactRunJobs.j2] at h⟩
 | k + 1 => by
  obtain ⟨ih0, ih1, ih2⟩ := laws_FnExactRunJobs.mono_l k
  refine ⟨?_, ?_, ?_⟩
  ·
   intro y0 y1 y2 y3 y4 y5 y6 y7 y8 y9 y10 y11 y12 y13 y14 y15
   unfold laws_FnExactRunJobs.j0
   repeat' first
   | (with_reducible exact ih0 _ _ _ _ _ _ _ _ _ _ _ _ _ _ _ _)
   | (with_reducible exact ih1 _ _ _ _ _ _ _ _ _ _)
   | (with_reducible exact ih2 _ _ _)
   | (with_reducible exact impl_RunJobs.mono _ _ _ _ _ _)
   | (with_reducible exact laws_eqIntS.mono _ _ _)
   | (with_reducible exact laws_eqJobS.mono _ _ _)
   | (with_reducible exact laws_eqPlan17.mono _ _ _ _ _ _ _)
   | (with_reducible exact laws_heldIntS.mono _ _ _)
   | (with_reducible exact laws_markIntS.mono _ _ _)
   | (with_reducible exact laws_markJobS.mono _ _ _)
   | (with_reducible exact laws_markPlan17.mono _ _ _ _ _)
   | (with_reducible exact laws_toJobS.mono _ _)
   | (with_reducible exact laws_toPlan17.mono _ _ _ _)
   | (with_reducible exact spec_RunJobs.mono _ _ _ _ _ _)
   | (with_reducible exact LeO.refl _)
   | (with_reducible exact LeO.none _)
   | (with_reducible refine LeO.ite ?_ ?_)
   | (with_reducible refine LeO.bind ?_ (fun _ => ?_))
   | exact ih0 _ _ _ _ _ _ _ _ _ _ _ _ _ _ _ _
   | exact ih1 _ _ _ _ _ _ _ _ _ _
   | exact ih2 _ _ _
   | exact impl_RunJobs.mono _ _ _ _ _ _
   | exact laws_eqIntS.mono _ _ _
   | exact laws_eqJobS.mono _ _ _
   | exact laws_eqPlan17.mono _ _ _ _ _ _ _
   | exact laws_heldIntS.mono _ _ _
   | exact laws_markIntS.mono _ _ _
   | exact laws_markJobS.mono _ _ _
   | exact laws_markPlan17.mono _ _ _ _ _
   | exact laws_toJobS.mono _ _
   | exact laws_toPlan17.mono _ _ _ _
   | exact spec_RunJobs.mono _ _ _ _ _ _
   | exact LeO.none _
   | refine LeO.ite ?_ ?_
   | refine LeO.bind ?_ (fun _ => ?_)
  ·
   intro y0 y1 y2 y3 y4 y5 y6 y7 y8 y9
   unfold laws_FnExactRunJobs.j1
   repeat' first
   | (with_reducible exact ih0 _ _ _ _ _ _ _ _ _ _ _ _ _ _ _ _)
   | (with_reducible exact ih1 _ _ _ _ _ _ _ _ _ _)
   | (with_reducible exact ih2 _ _ _)
   | (with_reducible exact impl_RunJobs.mono _ _ _ _ _ _)
   | (with_reducible exact laws_eqIntS.mono _ _ _)
   | (with_reducible exact laws_eqJobS.mono _ _ _)
   | (with_reducible exact laws_eqPlan17.mono _ _ _ _ _ _ _)
   | (with_reducible exact laws_heldIntS.mono _ _ _)
   | (with_reducible exact laws_markIntS.mono _ _ _)
   | (with_reducible exact laws_markJobS.mono _ _ _)
   | (with_reducible exact laws_markPlan17.mono _ _ _ _ _)
   | (with_reducible exact laws_toJobS.mono _ _)
   | (with_reducible exact laws_toPlan17.mono _ _ _ _)
   | (with_reducible exact spec_RunJobs.mono _ _ _ _ _ _)
   | (with_reducible exact LeO.refl _)
   | (with_reducible exact LeO.none _)
   | (with_reducible refine LeO.ite ?_ ?_)
   | (with_reducible refine LeO.bind ?_ (fun _ => ?_))
   | exact ih0 _ _ _ _ _ _ _ _ _ _ _ _ _ _ _ _
   | exact ih1 _ _ _ _ _ _ _ _ _ _
   | exact ih2 _ _ _
   | exact impl_RunJobs.mono _ _ _ _ _ _
   | exact laws_eqIntS.mono _ _ _
   | exact laws_eqJobS.mono _ _ _
   | exact laws_eqPlan17.mono _ _ _ _ _ _ _
   | exact laws_heldIntS.mono _ _ _
   | exact laws_markIntS.mono _ _ _
   | exact laws_markJobS.mono _ _ _
   | exact laws_markPlan17.mono _ _ _ _ _
   | exact laws_toJobS.mono _ _
   | exact laws_toPlan17.mono _ _ _ _
   | exact spec_RunJobs.mono _ _ _ _ _ _
   | exact LeO.none _
   | refine LeO.ite ?_ ?_
   | refine LeO.bind ?_ (fun _ => ?_)
  ·
   intro y0 y1 y2
   unfold laws_FnExactRunJobs.j2
   repeat' first
   | (with_reducible exact ih0 _ _ _ _ _ _ _ _ _ _ _ _ _ _ _ _)
   | (with_reducible exact ih1 _ _ _ _ _ _ _ _ _ _)
   | (with_reducible exact ih2 _ _ _)
   | (with_reducible exact impl_RunJobs.mono _ _ _ _ _ _)
   | (with_reducible exact laws_eqIntS.mono _ _ _)
   | (with_reducible exact laws_eqJobS.mono _ _ _)
   | (with_reducible exact laws_eqPlan17.mono _ _ _ _ _ _ _)
   | (with_reducible exact laws_heldIntS.mono _ _ _)
   | (with_reducible exact laws_markIntS.mono _ _ _)
   | (with_reducible exact laws_markJobS.mono _ _ _)
   | (with_reducible exact laws_markPlan17.mono _ _ _ _ _)
   | (with_reducible exact laws_toJobS.mono _ _)
   | (with_reducible exact laws_toPlan17.mono _ _ _ _)
   | (with_reducible exact spec_RunJobs.mono _ _ _ _ _ _)
   | (with_reducible exact LeO.refl _)
   | (with_reducible exact LeO.none _)
   | (with_reducible refine LeO.ite ?_ ?_)
   | (with_reducible refine LeO.bind ?_ (fun _ => ?_))
   | exact ih0 _ _ _ _ _ _ _ _ _ _ _ _ _ _ _ _
   | exact ih1 _ _ _ _ _ _ _ _ _ _
   | exact ih2 _ _ _
   | exact impl_RunJobs.mono _ _ _ _ _ _
   | exact laws_eqIntS.mono _ _ _
   | exact laws_eqJobS.mono _ _ _
   | exact laws_eqPlan17.mono _ _ _ _ _ _ _
   | exact laws_heldIntS.mono _ _ _
   | exact laws_markIntS.mono _ _ _
   | exact laws_markJobS.mono _ _ _
   | exact laws_markPlan17.mono _ _ _ _ _
   | exact laws_toJobS.mono _ _
   | exact laws_toPlan17.mono _ _ _ _
   | exact spec_RunJobs.mono _ _ _ _ _ _
   | exact LeO.none _
   | refine LeO.ite ?_ ?_
   | refine LeO.bind ?_ (fun _ => ?_)
theorem laws_FnExactRunJobs.mono : ∀ a0 a1 a2 a3 a4 k, LeO (laws_FnExactRunJobs.f k a0 a1 a2 a3 a4) (laws_FnExactRunJobs.f (k + 1) a0 a1 a2 a3 a4) := by
 intro a0 a1 a2 a3 a4 k
 obtain ⟨ih0, ih1, ih2⟩ := laws_FnExactRunJobs.mono_l k
 unfold laws_FnExactRunJobs.f
 repeat' first
   | (with_reducible exact ih0 _ _ _ _ _ _ _ _ _ _ _ _ _ _ _ _)
   | (with_reducible exact ih1 _ _ _ _ _ _ _ _ _ _)
   | (with_reducible exact ih2 _ _ _)
   | (with_reducible exact impl_RunJobs.mono _ _ _ _ _ _)
   | (with_reducible exact laws_eqIntS.mono _ _ _)
   | (with_reducible exact laws_eqJobS.mono _ _ _)
   | (with_reducible exact laws_eqPlan17.mono _ _ _ _ _ _ _)
   | (with_reducible exact laws_heldIntS.mono _ _ _)
   | (with_reducible exact laws_markIntS.mono _ _ _)
   | (with_reducible exact laws_markJobS.mono _ _ _)
   | (with_reducible exact laws_markPlan17.mono _ _ _ _ _)
   | (with_reducible exact laws_toJobS.mono _ _)
   | (with_reducible exact laws_toPlan17.mono _ _ _ _)
   | (with_reducible exact spec_RunJobs.mono _ _ _ _ _ _)
   | (with_reducible exact LeO.refl _)
   | (with_reducible exact LeO.none _)
   | (with_reducible refine LeO.ite ?_ ?_)
   | (with_reducible refine LeO.bind ?_ (fun _ => ?_))
   | exact ih0 _ _ _ _ _ _ _ _ _ _ _ _ _ _ _ _
   | exact ih1 _ _ _ _ _ _ _ _ _ _
   | exact ih2 _ _ _
   | exact impl_RunJobs.mono _ _ _ _ _ _
   | exact laws_eqIntS.mono _ _ _
   | exact laws_eqJobS.mono _ _ _
   | exact laws_eqPlan17.mono _ _ _ _ _ _ _
   | exact laws_heldIntS.mono _ _ _
   | exact laws_markIntS.mono _ _ _
   | exact laws_markJobS.mono _ _ _
   | exact laws_markPlan17.mono _ _ _ _ _
   | exact laws_toJobS.mono _ _
   | exact laws_toPlan17.mono _ _ _ _
   | exact spec_RunJobs.mono _ _ _ _ _ _
   | exact LeO.none _
   | refine LeO.ite ?_ ?_
   | refine LeO.bind ?_ (fun _ => ?_)
set_option maxHeartbeats 8000000 in
set_option maxRecDepth 100000 in
theorem laws_FnExactRunJobs.calls (k : Nat) (a0_0 : Int) (a0_1 : Int) (A0_2 : Option Addr) (c0_2 : Nat) (l0_2 : List (S85)) (A1 : Option Addr) (c1 : Nat) (l1 : List (S76)) (a2 : Int) (r : Bool) (w : World) (hr0_2 : Kd.C k85 w A0_2 l0_2.length l0_2) (hc0_2 : l0_2.length ≤ c0_2) (hr1 : Kd.C k76 w A1 l1.length l1) (hc1 : l1.length ≤ c1) (h : laws_FnExactRunJobs.f k a0_0 a0_1 l0_2 l1 a2 = some r) :
  Calls Try.prog 7 #[.agg #[.int .i64 a0_0, .int .i64 a0_1, .slice A0_2 l0_2.length c0_2], .slice A1 l1.length c1, .int .i64 a2] w fun e w' => e = .returned (.bool r) ∧ Below w.heap.size w w' := by
 have hu24 := Try.underlying24
 have hu29 := Try.underlying29
 have HR0_2 := Aside0.mk hr0_2
 have HC0_2 := Aside0.mk hc0_2
 clear hr0_2 hc0_2
 have HR1 := Aside0.mk hr1
 have HC1 := Aside0.mk hc1
 clear hr1 hc1
 have HB := Aside0.mk (Below.refl w.heap.size w)
 have H : ((laws_szPlan17.f a0_0 a0_1 l0_2 1048576).bind fun t261 => (if t261 < 0 then (some true) else ((laws_szJobS.f l1 t261).bind fun t262 => (if t262 < 0 then (some true) else ((laws_toPlan17.f k a0_0 a0_1 l0_2).bind fun bt263 => ((laws_toJobS.f k l1).bind fun t268 => ((spec_RunJobs.f k bt263.1 bt263.2.1 bt263.2.2 t268 a2).bind fun bt271 => ((laws_toPlan17.f k a0_0 a0_1 l0_2).bind fun bt276 => ((laws_toJobS.f k l1).bind fun t282 => ((impl_RunJobs.f k bt276.1 bt276.2.1 bt276.2.2 t282 a2).bind fun bt285 => ((laws_eqIntS.f k bt285.1 bt271.1).bind fun t290 => (if t290 = true then (if bt285.2.1 = bt271.2.1 then (laws_FnExactRunJobs.j0 k l1 a2 bt271.1 bt271.2.1 bt271.2.2 t282 bt285.1 bt285.2.1 bt285.2.2 (bt285.2.2 != bt271.2.2) a0_0 a0_1 l0_2 bt276.1 bt276.2.1 bt276.2.2) else (laws_FnExactRunJobs.j0 k l1 a2 bt271.1 bt271.2.1 bt271.2.2 t282 bt285.1 bt285.2.1 bt285.2.2 true a0_0 a0_1 l0_2 bt276.1 bt276.2.1 bt276.2.2)) else (laws_FnExactRunJobs.j0 k l1 a2 bt271.1 bt271.2.1 bt271.2.2 t282 bt285.1 bt285.2.1 bt285.2.2 true a0_0 a0_1 l0_2 bt276.1 bt276.2.1 bt276.2.2))))))))))))) = some r := h
 clear h
 replace H := Option.bind_eq_some_iff.mp H
 obtain ⟨t261, A40, H⟩ := H
 replace H : (if t261 < 0 then (some true) else ((laws_szJobS.f l1 t261).bind fun t262 => (if t262 < 0 then (some true) else ((laws_toPlan17.f k a0_0 a0_1 l0_2).bind fun bt263 => ((laws_toJobS.f k l1).bind fun t268 => ((spec_RunJobs.f k bt263.1 bt263.2.1 bt263.2.2 t268 a2).bind fun bt271 => ((laws_toPlan17.f k a0_0 a0_1 l0_2).bind fun bt276 => ((laws_toJobS.f k l1).bind fun t282 => ((impl_RunJobs.f k bt276.1 bt276.2.1 bt276.2.2 t282 a2).bind fun bt285 => ((laws_eqIntS.f k bt285.1 bt271.1).bind fun t290 => (if t290 = true then (if bt285.2.1 = bt271.2.1 then (laws_FnExactRunJobs.j0 k l1 a2 bt271.1 bt271.2.1 bt271.2.2 t282 bt285.1 bt285.2.1 bt285.2.2 (bt285.2.2 != bt271.2.2) a0_0 a0_1 l0_2 bt276.1 bt276.2.1 bt276.2.2) else (laws_FnExactRunJobs.j0 k l1 a2 bt271.1 bt271.2.1 bt271.2.2 t282 bt285.1 bt285.2.1 bt285.2.2 true a0_0 a0_1 l0_2 bt276.1 bt276.2.1 bt276.2.2)) else (laws_FnExactRunJobs.j0 k l1 a2 bt271.1 bt271.2.1 bt271.2.2 t282 bt285.1 bt285.2.1 bt285.2.2 true a0_0 a0_1 l0_2 bt276.1 bt276.2.1 bt276.2.2)))))))))))) = some r := H
 have A4 := Aside0.mk A40
 clear A40
 by_cases c5 : t261 < 0
 ·
  rw [if_pos c5] at H
  have c5b0 : decide (t261 < 0) = true := decide_eq_true c5
  clear c5
  obtain rfl := Option.some.inj H
  go_enter Try.func7, Try.ntmps7
  go_wp2_with (first | ((with_reducible refine gate_dst (N := 3) rfl ?_); refine box_event ?hg (N := 3) ?hd (cs := #[.int .i64 a0_0, .int .i64 a0_1, .slice A0_2 l0_2.length c0_2]) (t := 24) ?hr ?_; (case hd => rfl); (case hg => rfl); (case hr => first | (go_simp; done) | (go_simp; rfl)); intro gb260 hg w6 hbox hb; have n0_ := Aside0.mk (below_step (bl HB.out) hb); have n1_ := Aside0.mk (hbox); have n2_ := Aside0.mk ((by rw [hg]; exact (below_size (bl HB.out)) : w.heap.size ≤ gb260)); have n3_ := Aside0.mk ((by rw [hg]; exact (below_size (bl HB.out)) : w.heap.size ≤ gb260)); clear HB; have HB := n0_; have BK260 := n1_; have GW260 := n2_; have GE260 := n3_; clear n0_ n1_ n2_ n3_; clear hb hbox hg; have hcz7_0 := ck (v := .int .i64 a0_0) BK260.out 0 rfl; have hcz7_1 := ck (v := .int .i64 a0_1) BK260.out 1 rfl; have hcz7_2 := ck (v := .slice A0_2 l0_2.length c0_2) BK260.out 2 rfl; have hfz7_0 := blk_frozen BK260.out 0; have hfz7_1 := blk_frozen BK260.out 1; have hfz7_2 := blk_frozen BK260.out 2) | ((with_reducible refine gate_callee (f := 9) rfl ?_); refine goesL_ (some 24) rfl rfl Try.func9 (by kernel_rfl) rfl #[.agg #[.int .i64 a0_0, .int .i64 a0_1, .slice A0_2 l0_2.length c0_2], .int .i64 1048576] rfl (by (try simp only [am_]); first | done | rfl) ?_; (with_reducible refine (laws_szPlan17.calls a0_0 a0_1 _ _ l0_2 1048576 t261 _ ?side1 ?side2 A4.out).mono ?_); (case side1 => exact rc (Kd.C_below HR0_2.out HB.out)); (case side2 => exact HC0_2.out); rintro e w8 ⟨rfl, hb⟩; refine ⟨_, rfl, ?_⟩; have n0_ := Aside0.mk (blk_below (bk BK260.out) hb); have n1_ := Aside0.mk (below_step (by repeat with_reducible first | exact bl HB.out | refine below_set ?_ GE260.out | refine bq ?_) hb); clear BK260; clear HB; have BK260 := n0_; have HB := n1_; clear n0_ n1_; (try clear hb); (try clear hb2); (try clear hk); (try clear hi)))
  go_ret
  exact ⟨by first | rfl | (simp [errW_none, errW_some] <;> rfl) | (simp [*, errW_none, errW_some] <;> rfl), by repeat with_reducible first | exact bl HB.out | refine below_set ?_ GE260.out | refine bq ?_⟩
 ·
  rw [if_neg c5] at H
  have c5b0 : decide (t261 < 0) = false := decide_eq_false c5
  clear c5
  replace H := Option.bind_eq_some_iff.mp H
  obtain ⟨t262, A90, H⟩ := H
  replace H : (if t262 < 0 then (some true) else ((laws_toPlan17.f k a0_0 a0_1 l0_2).bind fun bt263 => ((laws_toJobS.f k l1).bind fun t268 => ((spec_RunJobs.f k bt263.1 bt263.2.1 bt263.2.2 t268 a2).bind fun bt271 => ((laws_toPlan17.f k a0_0 a0_1 l0_2).bind fun bt276 => ((laws_toJobS.f k l1).bind fun t282 => ((impl_RunJobs.f k bt276.1 bt276.2.1 bt276.2.2 t282 a2).bind fun bt285 => ((laws_eqIntS.f k bt285.1 bt271.1).bind fun t290 => (if t290 = true then (if bt285.2.1 = bt271.2.1 then (laws_FnExactRunJobs.j0 k l1 a2 bt271.1 bt271.2.1 bt271.2.2 t282 bt285.1 bt285.2.1 bt285.2.2 (bt285.2.2 != bt271.2.2) a0_0 a0_1 l0_2 bt276.1 bt276.2.1 bt276.2.2) else (laws_FnExactRunJobs.j0 k l1 a2 bt271.1 bt271.2.1 bt271.2.2 t282 bt285.1 bt285.2.1 bt285.2.2 true a0_0 a0_1 l0_2 bt276.1 bt276.2.1 bt276.2.2)) else (laws_FnExactRunJobs.j0 k l1 a2 bt271.1 bt271.2.1 bt271.2.2 t282 bt285.1 bt285.2.1 bt285.2.2 true a0_0 a0_1 l0_2 bt276.1 bt276.2.1 bt276.2.2)))))))))) = some r := H
  have A9 := Aside0.mk A90
  clear A90
  by_cases c10 : t262 < 0
  ·
   rw [if_pos c10] at H
   have c10b0 : decide (t262 < 0) = true := decide_eq_true c10
   clear c10
   obtain rfl := Option.some.inj H
   go_enter Try.func7, Try.ntmps7
   go_wp2_with (first | ((with_reducible refine gate_dst (N := 3) rfl ?_); refine box_event ?hg (N := 3) ?hd (cs := #[.int .i64 a0_0, .int .i64 a0_1, .slice A0_2 l0_2.length c0_2]) (t := 24) ?hr ?_; (case hd => rfl); (case hg => rfl); (case hr => first | (go_simp; done) | (go_simp; rfl)); intro gb260 hg w11 hbox hb; have n0_ := Aside0.mk (below_step (bl HB.out) hb); have n1_ := Aside0.mk (hbox); have n2_ := Aside0.mk ((by rw [hg]; exact (below_size (bl HB.out)) : w.heap.size ≤ gb260)); have n3_ := Aside0.mk ((by rw [hg]; exact (below_size (bl HB.out)) : w.heap.size ≤ gb260)); clear HB; have HB := n0_; have BK260 := n1_; have GW260 := n2_; have GE260 := n3_; clear n0_ n1_ n2_ n3_; clear hb hbox hg; have hcz12_0 := ck (v := .int .i64 a0_0) BK260.out 0 rfl; have hcz12_1 := ck (v := .int .i64 a0_1) BK260.out 1 rfl; have hcz12_2 := ck (v := .slice A0_2 l0_2.length c0_2) BK260.out 2 rfl; have hfz12_0 := blk_frozen BK260.out 0; have hfz12_1 := blk_frozen BK260.out 1; have hfz12_2 := blk_frozen BK260.out 2) | ((with_reducible refine gate_callee (f := 9) rfl ?_); refine goesL_ (some 24) rfl rfl Try.func9 (by kernel_rfl) rfl #[.agg #[.int .i64 a0_0, .int .i64 a0_1, .slice A0_2 l0_2.length c0_2], .int .i64 1048576] rfl (by (try simp only [am_]); first | done | rfl) ?_; (with_reducible refine (laws_szPlan17.calls a0_0 a0_1 _ _ l0_2 1048576 t261 _ ?side1 ?side2 A4.out).mono ?_); (case side1 => exact rc (Kd.C_below HR0_2.out HB.out)); (case side2 => exact HC0_2.out); rintro e w13 ⟨rfl, hb⟩; refine ⟨_, rfl, ?_⟩; have n0_ := Aside0.mk (blk_below (bk BK260.out) hb); have n1_ := Aside0.mk (below_step (by repeat with_reducible first | exact bl HB.out | refine below_set ?_ GE260.out | refine bq ?_) hb); clear BK260; clear HB; have BK260 := n0_; have HB := n1_; clear n0_ n1_; (try clear hb); (try clear hb2); (try clear hk); (try clear hi)) | ((with_reducible refine gate_callee (f := 22) rfl ?_); refine goesL_ (some 29) rfl rfl Try.func22 (by kernel_rfl) rfl #[.slice A1 l1.length c1, .int .i64 t261] rfl (by (try simp only [am_]); first | done | rfl) ?_; (with_reducible refine (laws_szJobS.calls _ _ l1 t261 t262 _ ?side1 ?side2 A9.out).mono ?_); (case side1 => exact rc (Kd.C_below HR1.out HB.out)); (case side2 => exact HC1.out); rintro e w' ⟨rfl, ⟨nd, rfl⟩⟩; refine ⟨_, rfl, ?_⟩))
   go_ret
   exact ⟨by first | rfl | (simp [errW_none, errW_some] <;> rfl) | (simp [*, errW_none, errW_some] <;> rfl), by repeat with_reducible first | exact bl HB.out | refine below_set ?_ GE260.out | refine bq ?_⟩
  ·
   rw [if_neg c10] at H
   have c10b0 : decide (t262 < 0) = false := decide_eq_false c10
   clear c10
   replace H := Option.bind_eq_some_iff.mp H
   obtain ⟨⟨t263, t264, t265⟩, A140, H⟩ := H
   replace H : ((laws_toJobS.f k l1).bind fun t268 => ((spec_RunJobs.f k t263 t264 t265 t268 a2).bind fun bt271 => ((laws_toPlan17.f k a0_0 a0_1 l0_2).bind fun bt276 => ((laws_toJobS.f k l1).bind fun t282 => ((impl_RunJobs.f k bt276.1 bt276.2.1 bt276.2.2 t282 a2).bind fun bt285 => ((laws_eqIntS.f k bt285.1 bt271.1).bind fun t290 => (if t290 = true then (if bt285.2.1 = bt271.2.1 then (laws_FnExactRunJobs.j0 k l1 a2 bt271.1 bt271.2.1 bt271.2.2 t282 bt285.1 bt285.2.1 bt285.2.2 (bt285.2.2 != bt271.2.2) a0_0 a0_1 l0_2 bt276.1 bt276.2.1 bt276.2.2) else (laws_FnExactRunJobs.j0 k l1 a2 bt271.1 bt271.2.1 bt271.2.2 t282 bt285.1 bt285.2.1 bt285.2.2 true a0_0 a0_1 l0_2 bt276.1 bt276.2.1 bt276.2.2)) else (laws_FnExactRunJobs.j0 k l1 a2 bt271.1 bt271.2.1 bt271.2.2 t282 bt285.1 bt285.2.1 bt285.2.2 true a0_0 a0_1 l0_2 bt276.1 bt276.2.1 bt276.2.2)))))))) = some r := H
   have A14 := Aside0.mk A140
   clear A140
   replace H := Option.bind_eq_some_iff.mp H
   obtain ⟨t268, A150, H⟩ := H
   replace H : ((spec_RunJobs.f k t263 t264 t265 t268 a2).bind fun bt271 => ((laws_toPlan17.f k a0_0 a0_1 l0_2).bind fun bt276 => ((laws_toJobS.f k l1).bind fun t282 => ((impl_RunJobs.f k bt276.1 bt276.2.1 bt276.2.2 t282 a2).bind fun bt285 => ((laws_eqIntS.f k bt285.1 bt271.1).bind fun t290 => (if t290 = true then (if bt285.2.1 = bt271.2.1 then (laws_FnExactRunJobs.j0 k l1 a2 bt271.1 bt271.2.1 bt271.2.2 t282 bt285.1 bt285.2.1 bt285.2.2 (bt285.2.2 != bt271.2.2) a0_0 a0_1 l0_2 bt276.1 bt276.2.1 bt276.2.2) else (laws_FnExactRunJobs.j0 k l1 a2 bt271.1 bt271.2.1 bt271.2.2 t282 bt285.1 bt285.2.1 bt285.2.2 true a0_0 a0_1 l0_2 bt276.1 bt276.2.1 bt276.2.2)) else (laws_FnExactRunJobs.j0 k l1 a2 bt271.1 bt271.2.1 bt271.2.2 t282 bt285.1 bt285.2.1 bt285.2.2 true a0_0 a0_1 l0_2 bt276.1 bt276.2.1 bt276.2.2))))))) = some r := H
   have A15 := Aside0.mk A150
   clear A150
   replace H := Option.bind_eq_some_iff.mp H
   obtain ⟨⟨t271, t274, t275⟩, A160, H⟩ := H
   replace H : ((laws_toPlan17.f k a0_0 a0_1 l0_2).bind fun bt276 => ((laws_toJobS.f k l1).bind fun t282 => ((impl_RunJobs.f k bt276.1 bt276.2.1 bt276.2.2 t282 a2).bind fun bt285 => ((laws_eqIntS.f k bt285.1 t271).bind fun t290 => (if t290 = true then (if bt285.2.1 = t274 then (laws_FnExactRunJobs.j0 k l1 a2 t271 t274 t275 t282 bt285.1 bt285.2.1 bt285.2.2 (bt285.2.2 != t275) a0_0 a0_1 l0_2 bt276.1 bt276.2.1 bt276.2.2) else (laws_FnExactRunJobs.j0 k l1 a2 t271 t274 t275 t282 bt285.1 bt285.2.1 bt285.2.2 true a0_0 a0_1 l0_2 bt276.1 bt276.2.1 bt276.2.2)) else (laws_FnExactRunJobs.j0 k l1 a2 t271 t274 t275 t282 bt285.1 bt285.2.1 bt285.2.2 true a0_0 a0_1 l0_2 bt276.1 bt276.2.1 bt276.2.2)))))) = some r := H
   have A16 := Aside0.mk A160
   clear A160
   replace H := Option.bind_eq_some_iff.mp H
   obtain ⟨⟨t276, t277, t278⟩, A170, H⟩ := H
   replace H : ((laws_toJobS.f k l1).bind fun t282 => ((impl_RunJobs.f k t276 t277 t278 t282 a2).bind fun bt285 => ((laws_eqIntS.f k bt285.1 t271).bind fun t290 => (if t290 = true then (if bt285.2.1 = t274 then (laws_FnExactRunJobs.j0 k l1 a2 t271 t274 t275 t282 bt285.1 bt285.2.1 bt285.2.2 (bt285.2.2 != t275) a0_0 a0_1 l0_2 t276 t277 t278) else (laws_FnExactRunJobs.j0 k l1 a2 t271 t274 t275 t282 bt285.1 bt285.2.1 bt285.2.2 true a0_0 a0_1 l0_2 t276 t277 t278)) else (laws_FnExactRunJobs.j0 k l1 a2 t271 t274 t275 t282 bt285.1 bt285.2.1 bt285.2.2 true a0_0 a0_1 l0_2 t276 t277 t278))))) = some r := H
   have A17 := Aside0.mk A170
   clear A170
   replace H := Option.bind_eq_some_iff.mp H
   obtain ⟨t282, A180, H⟩ := H
   replace H : ((impl_RunJobs.f k t276 t277 t278 t282 a2).bind fun bt285 => ((laws_eqIntS.f k bt285.1 t271).bind fun t290 => (if t290 = true then (if bt285.2.1 = t274 then (laws_FnExactRunJobs.j0 k l1 a2 t271 t274 t275 t282 bt285.1 bt285.2.1 bt285.2.2 (bt285.2.2 != t275) a0_0 a0_1 l0_2 t276 t277 t278) else (laws_FnExactRunJobs.j0 k l1 a2 t271 t274 t275 t282 bt285.1 bt285.2.1 bt285.2.2 true a0_0 a0_1 l0_2 t276 t277 t278)) else (laws_FnExactRunJobs.j0 k l1 a2 t271 t274 t275 t282 bt285.1 bt285.2.1 bt285.2.2 true a0_0 a0_1 l0_2 t276 t277 t278)))) = some r := H
   have A18 := Aside0.mk A180
   clear A180
   replace H := Option.bind_eq_some_iff.mp H
   obtain ⟨⟨t285, t288, t289⟩, A190, H⟩ := H
   replace H : ((laws_eqIntS.f k t285 t271).bind fun t290 => (if t290 = true then (if t288 = t274 then (laws_FnExactRunJobs.j0 k l1 a2 t271 t274 t275 t282 t285 t288 t289 (t289 != t275) a0_0 a0_1 l0_2 t276 t277 t278) else (laws_FnExactRunJobs.j0 k l1 a2 t271 t274 t275 t282 t285 t288 t289 true a0_0 a0_1 l0_2 t276 t277 t278)) else (laws_FnExactRunJobs.j0 k l1 a2 t271 t274 t275 t282 t285 t288 t289 true a0_0 a0_1 l0_2 t276 t277 t278))) = some r := H
   have A19 := Aside0.mk A190
   clear A190
   have HC20 := Aside0.mk H
   clear H
   go_enter Try.func7, Try.ntmps7
   go_upto_region 12 with (first | ((with_reducible refine gate_dst (N := 3) rfl ?_); refine box_event ?hg (N := 3) ?hd (cs := #[.int .i64 a0_0, .int .i64 a0_1, .slice A0_2 l0_2.length c0_2]) (t := 24) ?hr ?_; (case hd => rfl); (case hg => rfl); (case hr => first | (go_simp; done) | (go_simp; rfl)); intro gb260 hg w21 hbox hb; have n0_ := Aside0.mk (below_step (bl HB.out) hb); have n1_ := Aside0.mk (hbox); have n2_ := Aside0.mk ((by rw [hg]; exact (below_size (bl HB.out)) : w.heap.size ≤ gb260)); have n3_ := Aside0.mk ((by rw [hg]; exact (below_size (bl HB.out)) : w.heap.size ≤ gb260)); clear HB; have HB := n0_; have BK260 := n1_; have GW260 := n2_; have GE260 := n3_; clear n0_ n1_ n2_ n3_; clear hb hbox hg; have hcz22_0 := ck (v := .int .i64 a0_0) BK260.out 0 rfl; have hcz22_1 := ck (v := .int .i64 a0_1) BK260.out 1 rfl; have hcz22_2 := ck (v := .slice A0_2 l0_2.length c0_2) BK260.out 2 rfl; have hfz22_0 := blk_frozen BK260.out 0; have hfz22_1 := blk_frozen BK260.out 1; have hfz22_2 := blk_frozen BK260.out 2) | ((with_reducible refine gate_callee (f := 9) rfl ?_); refine goesL_ (some 24) rfl rfl Try.func9 (by kernel_rfl) rfl #[.agg #[.int .i64 a0_0, .int .i64 a0_1, .slice A0_2 l0_2.length c0_2], .int .i64 1048576] rfl (by (try simp only [am_]); first | done | rfl) ?_; (with_reducible refine (laws_szPlan17.calls a0_0 a0_1 _ _ l0_2 1048576 t261 _ ?side1 ?side2 A4.out).mono ?_); (case side1 => exact rc (Kd.C_below HR0_2.out HB.out)); (case side2 => exact HC0_2.out); rintro e w23 ⟨rfl, hb⟩; refine ⟨_, rfl, ?_⟩; have n0_ := Aside0.mk (blk_below (bk BK260.out) hb); have n1_ := Aside0.mk (below_step (by repeat with_reducible first | exact bl HB.out | refine below_set ?_ GE260.out | refine bq ?_) hb); clear BK260; clear HB; have BK260 := n0_; have HB := n1_; clear n0_ n1_; (try clear hb); (try clear hb2); (try clear hk); (try clear hi)) | ((with_reducible refine gate_callee (f := 22) rfl ?_); refine goesL_ (some 29) rfl rfl Try.func22 (by kernel_rfl) rfl #[.slice A1 l1.length c1, .int .i64 t261] rfl (by (try simp only [am_]); first | done | rfl) ?_; (with_reducible refine (laws_szJobS.calls _ _ l1 t261 t262 _ ?side1 ?side2 A9.out).mono ?_); (case side1 => exact rc (Kd.C_below HR1.out HB.out)); (case side2 => exact HC1.out); rintro e w' ⟨rfl, ⟨nd, rfl⟩⟩; refine ⟨_, rfl, ?_⟩; (try (rw [drewN_self w23]; generalize hq_ : World.drewN w23 _ = w23; have n0_ : Aside0 (w23.heap[gb260]? = some (.cells #[.int .i64 a0_0, .int .i64 a0_1, .slice A0_2 l0_2.length c0_2] 24 (0, 0))) := ⟨by rw [← hq_]; exact (bk BK260.out)⟩; have n1_ : Aside0 (Below w.heap.size w w23) := ⟨by rw [← hq_]; exact (by repeat with_reducible first | exact bl HB.out | refine below_set ?_ GE260.out | refine bq ?_)⟩; clear BK260 HB hq_; have BK260 := n0_; have HB := n1_; clear n0_ n1_)); have hcz24_0 := ck (v := .int .i64 a0_0) BK260.out 0 rfl; have hcz24_1 := ck (v := .int .i64 a0_1) BK260.out 1 rfl; have hcz24_2 := ck (v := .slice A0_2 l0_2.length c0_2) BK260.out 2 rfl; have hfz24_0 := blk_frozen BK260.out 0; have hfz24_1 := blk_frozen BK260.out 1; have hfz24_2 := blk_frozen BK260.out 2) | ((with_reducible refine gate_callee (f := 11) rfl ?_); refine goesL_ (some 34) rfl rfl Try.func11 (by kernel_rfl) rfl #[.agg #[.int .i64 a0_0, .int .i64 a0_1, .slice A0_2 l0_2.length c0_2]] rfl (by (try simp only [am_]); first | done | rfl) ?_; (with_reducible refine (laws_toPlan17.calls k a0_0 a0_1 _ _ l0_2 t263 t264 t265 _ ?side1 ?side2 A14.out).mono ?_); (case side1 => exact rc (Kd.C_below HR0_2.out HB.out)); (case side2 => exact HC0_2.out); rintro e w25 ⟨v266, rfl, ho0, hb⟩; refine ⟨_, rfl, ?_⟩; have n0_ := Aside0.mk (Kd.R_lower ho0 (below_size (by repeat with_reducible first | exact bl HB.out | refine below_set ?_ GE260.out | refine bq ?_))); have n1_ := Aside0.mk (blk_below (bk BK260.out) hb); have n2_ := Aside0.mk (below_step (by repeat with_reducible first | exact bl HB.out | refine below_set ?_ GE260.out | refine bq ?_) hb); clear BK260; clear HB; have HO267 := n0_; have BK260 := n1_; have HB := n2_; clear n0_ n1_ n2_; (try clear hb); (try clear hb2); (try clear hk); (try clear hi); (try clear ho0)) | ((with_reducible refine gate_callee (f := 24) rfl ?_); refine goesL_ (some 36) rfl rfl Try.func24 (by kernel_rfl) rfl #[.slice A1 l1.length c1] rfl (by (try simp only [am_]); first | done | rfl) ?_; (with_reducible refine (laws_toJobS.calls k _ _ l1 t268 _ ?side1 ?side2 A15.out).mono ?_); (case side1 => exact rc (Kd.C_below HR1.out HB.out)); (case side2 => exact HC1.out); rintro e w26 ⟨v269, rfl, ho0, hb⟩; refine ⟨_, rfl, ?_⟩; have n0_ := Aside0.mk (Kd.R_below (rl HO267.out) hb); have n1_ := Aside0.mk (Kd.R_lower ho0 (below_size (by repeat with_reducible first | exact bl HB.out | refine below_set ?_ GE260.out | refine bq ?_))); have n2_ := Aside0.mk (blk_below (bk BK260.out) hb); have n3_ := Aside0.mk (below_step (by repeat with_reducible first | exact bl HB.out | refine below_set ?_ GE260.out | refine bq ?_) hb); clear HO267; clear BK260; clear HB; have HO267 := n0_; have HO270 := n1_; have BK260 := n2_; have HB := n3_; clear n0_ n1_ n2_ n3_; (try clear hb); (try clear hb2); (try clear hk); (try clear hi); (try clear ho0); obtain ⟨Ao27, co27, eo27⟩ := Kd.R_slice HO267.out; subst eo27; obtain ⟨Ao28, co28, eo28⟩ := Kd.R_slice HO270.out; subst eo28) | ((with_reducible refine gate_callee (f := 23) rfl ?_); refine goesL_ (some 38) rfl rfl Try.func23 (by kernel_rfl) rfl #[.agg #[.int .i64 t263, .int .i64 t264, .slice Ao27 t265.length co27], .slice Ao28 t268.length co28, .int .i64 a2] rfl (by (try simp only [am_]); first | done | rfl) ?_; (with_reducible refine (spec_RunJobs.calls k t263 t264 _ _ t265 _ _ t268 a2 t271 t274 t275 _ ?side1 ?side2 ?side3 ?side4 A16.out).mono ?_); (case side1 => exact rc (Kd.R_reads' HO267.out).2.2); (case side2 => exact (Kd.R_reads' HO267.out).2.1); (case side3 => exact rc (Kd.R_reads' HO270.out).2.2); (case side4 => exact (Kd.R_reads' HO270.out).2.1); rintro e w29 ⟨v272, rfl, ho0, hb⟩; refine ⟨_, rfl, ?_⟩; have n0_ := Aside0.mk (Kd.R_below (rl HO267.out) hb); have n1_ := Aside0.mk (Kd.R_below (rl HO270.out) hb); have n2_ := Aside0.mk (Kd.R_lower ho0 (below_size (by repeat with_reducible first | exact bl HB.out | refine below_set ?_ GE260.out | refine bq ?_))); have n3_ := Aside0.mk (blk_below (bk BK260.out) hb); have n4_ := Aside0.mk (below_step (by repeat with_reducible first | exact bl HB.out | refine below_set ?_ GE260.out | refine bq ?_) hb); clear HO267; clear HO270; clear BK260; clear HB; have HO267 := n0_; have HO270 := n1_; have HO273 := n2_; have BK260 := n3_; have HB := n4_; clear n0_ n1_ n2_ n3_ n4_; (try clear hb); (try clear hb2); (try clear hk); (try clear hi); (try clear ho0); have hcz30_0 := ck (v := .int .i64 a0_0) BK260.out 0 rfl; have hcz30_1 := ck (v := .int .i64 a0_1) BK260.out 1 rfl; have hcz30_2 := ck (v := .slice A0_2 l0_2.length c0_2) BK260.out 2 rfl; have hfz30_0 := blk_frozen BK260.out 0; have hfz30_1 := blk_frozen BK260.out 1; have hfz30_2 := blk_frozen BK260.out 2) | ((with_reducible refine gate_callee (f := 11) rfl ?_); refine goesL_ (some 43) rfl rfl Try.func11 (by kernel_rfl) rfl #[.agg #[.int .i64 a0_0, .int .i64 a0_1, .slice A0_2 l0_2.length c0_2]] rfl (by (try simp only [am_]); first | done | rfl) ?_; (with_reducible refine (laws_toPlan17.calls k a0_0 a0_1 _ _ l0_2 t276 t277 t278 _ ?side1 ?side2 A17.out).mono ?_); (case side1 => exact rc (Kd.C_below HR0_2.out HB.out)); (case side2 => exact HC0_2.out); rintro e w31 ⟨v279, rfl, ho0, hb⟩; refine ⟨_, rfl, ?_⟩; have n0_ := Aside0.mk (Kd.R_elder' (rl HO267.out) (Kd.R_base ho0) hb); have n1_ := Aside0.mk (Kd.R_below (rl HO270.out) hb); have n2_ := Aside0.mk (Kd.R_below (rl HO273.out) hb); have n3_ := Aside0.mk (Kd.R_lower (Kd.R_new' ho0 (Kd.R_lt (by (repeat apply rl1); exact HO267.out))) (below_size (by repeat with_reducible first | exact bl HB.out | refine below_set ?_ GE260.out | refine bq ?_))); have n4_ := Aside0.mk (blk_below (bk BK260.out) hb); have n5_ := Aside0.mk (below_step (by repeat with_reducible first | exact bl HB.out | refine below_set ?_ GE260.out | refine bq ?_) hb); clear HO267; clear HO270; clear HO273; clear BK260; clear HB; have HO267 := n0_; have HO270 := n1_; have HO273 := n2_; have HO280 := n3_; have BK260 := n4_; have HB := n5_; clear n0_ n1_ n2_ n3_ n4_ n5_; (try clear hb); (try clear hb2); (try clear hk); (try clear hi); (try clear ho0)) | ((with_reducible refine gate_dst (N := 11) rfl ?_); refine box_event ?hg (N := 11) ?hd (cs := #[.int .i64 0, .int .i64 0, .slice none 0 0]) (t := 29) ?hr ?_; (case hd => rfl); (case hg => rfl); (case hr => first | (go_simp; done) | (go_simp; rfl)); intro gb281 hg w32 hbox hb; have n0_ := Aside0.mk (Kd.R_below (rl HO267.out) hb); have n1_ := Aside0.mk (Kd.R_below (rl HO270.out) hb); have n2_ := Aside0.mk (Kd.R_below (rl HO273.out) hb); have n3_ := Aside0.mk (Kd.R_below (rl HO280.out) hb); have n4_ := Aside0.mk (blk_below (bk BK260.out) hb); have n5_ := Aside0.mk (below_step (by repeat with_reducible first | exact bl HB.out | refine below_set ?_ GE260.out | refine bq ?_) hb); have n6_ := Aside0.mk (hbox); have n7_ := Aside0.mk ((by rw [hg]; exact (below_size (by repeat with_reducible first | exact bl HB.out | refine below_set ?_ GE260.out | refine bq ?_)) : w.heap.size ≤ gb281)); have n8_ := Aside0.mk ((by rw [hg]; exact (below_size (by repeat with_reducible first | exact bl HB.out | refine below_set ?_ GE260.out | refine bq ?_)) : w.heap.size ≤ gb281)); have n9_ := Aside0.mk ((by rw [hg]; exact Nat.ne_of_lt (blk_lt (g := gb260) (o := .cells #[.int .i64 a0_0, .int .i64 a0_1, .slice A0_2 l0_2.length c0_2] 24 (0, 0)) (bk BK260.out)) : gb260 ≠ gb281)); have n10_ := Aside0.mk ((by rw [hg]; exact Nat.ne_of_gt (blk_lt (g := gb260) (o := .cells #[.int .i64 a0_0, .int .i64 a0_1, .slice A0_2 l0_2.length c0_2] 24 (0, 0)) (bk BK260.out)) : gb281 ≠ gb260)); clear HO267; clear HO270; clear HO273; clear HO280; clear BK260; clear HB; have HO267 := n0_; have HO270 := n1_; have HO273 := n2_; have HO280 := n3_; have BK260 := n4_; have HB := n5_; have BK281 := n6_; have GW281 := n7_; have GE281 := n8_; have NB260_281 := n9_; have NB281_260 := n10_; clear n0_ n1_ n2_ n3_ n4_ n5_ n6_ n7_ n8_ n9_ n10_; clear hb hbox hg; have hnb33 := NB281_260.out; have hnc33 := NB260_281.out; have hcz34_0 := ck (v := .int .i64 0) BK281.out 0 rfl; have hcz34_1 := ck (v := .int .i64 0) BK281.out 1 rfl; have hcz34_2 := ck (v := .slice none 0 0) BK281.out 2 rfl; have hfz34_0 := blk_frozen BK281.out 0; have hfz34_1 := blk_frozen BK281.out 1; have hfz34_2 := blk_frozen BK281.out 2; obtain ⟨Ao35, co35, eo35⟩ := Kd.R_slice HO280.out; subst eo35) | ((with_reducible refine gate_callee (f := 24) rfl ?_); refine goesL_ (some 45) rfl rfl Try.func24 (by kernel_rfl) rfl #[.slice A1 l1.length c1] rfl (by (try simp only [am_]); first | done | rfl) ?_; (with_reducible refine (laws_toJobS.calls k _ _ l1 t282 _ ?side1 ?side2 A18.out).mono ?_); (case side1 => exact Kd.C_below HR1.out (by repeat with_reducible first | exact bl HB.out | refine below_set ?_ GE260.out | refine below_set ?_ GE281.out | refine bq ?_)); (case side2 => exact HC1.out); rintro e w36 ⟨v283, rfl, ho0, hb⟩; refine ⟨_, rfl, ?_⟩; have n0_ := Aside0.mk (Kd.R_below (by (repeat apply rl1); exact (Kd.R_mono (Kd.R_far (p := ⟨gb281, 2, none⟩) (Kd.R_far (p := ⟨gb281, 1, none⟩) (Kd.R_far (p := ⟨gb281, 0, none⟩) (Kd.R_types HO267.out BK281.out (by decide)) (fun _ hk => hk.2) (.int .i64 t276)) (fun _ hk => hk.2) (.int .i64 t277)) (fun _ hk => hk.2) (.slice Ao35 t278.length co35)) (fun _ h_ => h_.1))) hb); have n1_ := Aside0.mk (Kd.R_elder' (by (repeat apply rl1); exact (Kd.R_mono (Kd.R_far (p := ⟨gb281, 2, none⟩) (Kd.R_far (p := ⟨gb281, 1, none⟩) (Kd.R_far (p := ⟨gb281, 0, none⟩) (Kd.R_types HO270.out BK281.out (by decide)) (fun _ hk => hk.2) (.int .i64 t276)) (fun _ hk => hk.2) (.int .i64 t277)) (fun _ hk => hk.2) (.slice Ao35 t278.length co35)) (fun _ h_ => h_.1))) (Kd.R_base ho0) hb); have n2_ := Aside0.mk (Kd.R_below (by (repeat apply rl1); exact (Kd.R_mono (Kd.R_far (p := ⟨gb281, 2, none⟩) (Kd.R_far (p := ⟨gb281, 1, none⟩) (Kd.R_far (p := ⟨gb281, 0, none⟩) (Kd.R_types HO273.out BK281.out (by decide)) (fun _ hk => hk.2) (.int .i64 t276)) (fun _ hk => hk.2) (.int .i64 t277)) (fun _ hk => hk.2) (.slice Ao35 t278.length co35)) (fun _ h_ => h_.1))) hb); have n3_ := Aside0.mk (Kd.R_below (by (repeat apply rl1); exact (Kd.R_mono (Kd.R_far (p := ⟨gb281, 2, none⟩) (Kd.R_far (p := ⟨gb281, 1, none⟩) (Kd.R_far (p := ⟨gb281, 0, none⟩) (Kd.R_types HO280.out BK281.out (by decide)) (fun _ hk => hk.2) (.int .i64 t276)) (fun _ hk => hk.2) (.int .i64 t277)) (fun _ hk => hk.2) (.slice Ao35 t278.length co35)) (fun _ h_ => h_.1))) hb); have n4_ := Aside0.mk (Kd.R_lower (Kd.R_new' ho0 (Kd.R_lt (by (repeat apply rl1); exact (Kd.R_mono (Kd.R_far (p := ⟨gb281, 2, none⟩) (Kd.R_far (p := ⟨gb281, 1, none⟩) (Kd.R_far (p := ⟨gb281, 0, none⟩) (Kd.R_types HO270.out BK281.out (by decide)) (fun _ hk => hk.2) (.int .i64 t276)) (fun _ hk => hk.2) (.int .i64 t277)) (fun _ hk => hk.2) (.slice Ao35 t278.length co35)) (fun _ h_ => h_.1))))) (below_size (by repeat with_reducible first | exact bl HB.out | refine below_set ?_ GE260.out | refine below_set ?_ GE281.out | refine bq ?_))); have n5_ := Aside0.mk (blk_below (g := gb260) (o := .cells #[.int .i64 a0_0, .int .i64 a0_1, .slice A0_2 l0_2.length c0_2] 24 (0, 0)) (by (repeat refine bk1 ?_); refine blk_far ?_ NB260_281.out _; (repeat refine bk1 ?_); refine blk_far ?_ NB260_281.out _; (repeat refine bk1 ?_); refine blk_far ?_ NB260_281.out _; (repeat refine bk1 ?_); exact BK260.out) hb); have n6_ := Aside0.mk (blk_below (g := gb281) (o := .cells #[.int .i64 t276, .int .i64 t277, .slice Ao35 t278.length co35] 29 (0, 0)) (by (repeat refine bk1 ?_); refine blk_put (cs := #[.int .i64 t276, .int .i64 t277, .slice none 0 0]) ?_ 2 _ rfl; (repeat refine bk1 ?_); refine blk_put (cs := #[.int .i64 t276, .int .i64 0, .slice none 0 0]) ?_ 1 _ rfl; (repeat refine bk1 ?_); refine blk_put (cs := #[.int .i64 0, .int .i64 0, .slice none 0 0]) ?_ 0 _ rfl; (repeat refine bk1 ?_); exact BK281.out) hb); have n7_ := Aside0.mk (below_step (by repeat with_reducible first | exact bl HB.out | refine below_set ?_ GE260.out | refine below_set ?_ GE281.out | refine bq ?_) hb); clear HO267; clear HO270; clear HO273; clear HO280; clear BK260; clear BK281; clear HB; have HO267 := n0_; have HO270 := n1_; have HO273 := n2_; have HO280 := n3_; have HO284 := n4_; have BK260 := n5_; have BK281 := n6_; have HB := n7_; clear n0_ n1_ n2_ n3_ n4_ n5_ n6_ n7_; (try clear hb); (try clear hb2); (try clear hk); (try clear hi); (try clear ho0); have hcz37_0 := ck (v := .int .i64 t276) BK281.out 0 rfl; have hcz37_1 := ck (v := .int .i64 t277) BK281.out 1 rfl; have hcz37_2 := ck (v := .slice Ao35 t278.length co35) BK281.out 2 rfl; have hfz37_0 := blk_frozen BK281.out 0; have hfz37_1 := blk_frozen BK281.out 1; have hfz37_2 := blk_frozen BK281.out 2; obtain ⟨Ao38, co38, eo38⟩ := Kd.R_slice HO284.out; subst eo38) | ((with_reducible refine gate_callee (f := 25) rfl ?_); refine goesL_ (some 50) rfl rfl Try.func25 (by kernel_rfl) rfl #[.agg #[.int .i64 t276, .int .i64 t277, .slice Ao35 t278.length co35], .slice Ao38 t282.length co38, .int .i64 a2] rfl (by (try simp only [am_]); first | done | rfl) ?_; (with_reducible refine (impl_RunJobs.calls k t276 t277 _ _ t278 _ _ t282 a2 t285 t288 t289 _ ?side1 ?side2 ?side3 ?side4 A19.out).mono ?_); (case side1 => exact rc (Kd.R_reads' HO280.out).2.2); (case side2 => exact (Kd.R_reads' HO280.out).2.1); (case side3 => exact rc (Kd.R_reads' HO284.out).2.2); (case side4 => exact (Kd.R_reads' HO284.out).2.1); rintro e w39 ⟨v286, rfl, ho0, hb⟩; refine ⟨_, rfl, ?_⟩; have n0_ := Aside0.mk (Kd.R_below (rl HO267.out) hb); have n1_ := Aside0.mk (Kd.R_below (rl HO270.out) hb); have n2_ := Aside0.mk (Kd.R_elder' (rl HO273.out) (Kd.R_base ho0) hb); have n3_ := Aside0.mk (Kd.R_below (rl HO280.out) hb); have n4_ := Aside0.mk (Kd.R_below (rl HO284.out) hb); have n5_ := Aside0.mk (Kd.R_lower (Kd.R_new' ho0 (Kd.R_lt (by (repeat apply rl1); exact HO273.out))) (below_size (by repeat with_reducible first | exact bl HB.out | refine below_set ?_ GE260.out | refine below_set ?_ GE281.out | refine bq ?_))); have n6_ := Aside0.mk (blk_below (bk BK260.out) hb); have n7_ := Aside0.mk (blk_below (bk BK281.out) hb); have n8_ := Aside0.mk (below_step (by repeat with_reducible first | exact bl HB.out | refine below_set ?_ GE260.out | refine below_set ?_ GE281.out | refine bq ?_) hb); clear HO267; clear HO270; clear HO273; clear HO280; clear HO284; clear BK260; clear BK281; clear HB; have HO267 := n0_; have HO270 := n1_; have HO273 := n2_; have HO280 := n3_; have HO284 := n4_; have HO287 := n5_; have BK260 := n6_; have BK281 := n7_; have HB := n8_; clear n0_ n1_ n2_ n3_ n4_ n5_ n6_ n7_ n8_; (try clear hb); (try clear hb2); (try clear hk); (try clear hi); (try clear ho0)))
   (try simp only [Act.put, List.setIfInBounds_toArray, List.set_cons_zero, List.set_cons_succ])
   go_cut [67] (fun v67 wc => ∃ (kq : Nat) (x67_19 : Bool), v67 = .bool x67_19 ∧ Aside0 (laws_FnExactRunJobs.j0 kq l1 a2 t271 t274 t275 t282 t285 t288 t289 x67_19 a0_0 a0_1 l0_2 t276 t277 t278 = some r) ∧ Aside0 (kq ≤ k) ∧ Aside0 (Kd.R (Kd.int .i64) 3 wc w.heap.size (fun k_ => some k_ ≠ (v286 : Value).ownBlock) v272 t271) ∧ Aside0 (Kd.R k74 74 wc w.heap.size (fun _ => True) (.slice Ao38 t282.length co38) t282) ∧ Aside0 (Kd.R (Kd.int .i64) 3 wc w.heap.size (fun k_ => some k_ ≠ (v272 : Value).ownBlock) v286 t285) ∧ Aside0 (Kd.R k62 62 wc w.heap.size (fun _ => True) (.slice Ao35 t278.length co35) t278) ∧ Aside0 (wc.heap[gb260]? = some (.cells #[.int .i64 a0_0, .int .i64 a0_1, (.slice A0_2 l0_2.length c0_2)] 24 (0, 0))) ∧ Aside0 (wc.heap[gb281]? = some (.cells #[.int .i64 t276, .int .i64 t277, (.slice Ao35 t278.length co35)] 29 (0, 0))) ∧ Aside0 (Below w.heap.size w wc))
   case first =>
    have H := HC20.out
    clear HC20
    replace H := Option.bind_eq_some_iff.mp H
    obtain ⟨t290, A400, H⟩ := H
    replace H : (if t290 = true then (if t288 = t274 then (laws_FnExactRunJobs.j0 k l1 a2 t271 t274 t275 t282 t285 t288 t289 (t289 != t275) a0_0 a0_1 l0_2 t276 t277 t278) else (laws_FnExactRunJobs.j0 k l1 a2 t271 t274 t275 t282 t285 t288 t289 true a0_0 a0_1 l0_2 t276 t277 t278)) else (laws_FnExactRunJobs.j0 k l1 a2 t271 t274 t275 t282 t285 t288 t289 true a0_0 a0_1 l0_2 t276 t277 t278)) = some r := H
    have A40 := Aside0.mk A400
    clear A400
    by_cases c41 : t290 = true
    ·
     subst c41
     have H1 : (if t288 = t274 then (laws_FnExactRunJobs.j0 k l1 a2 t271 t274 t275 t282 t285 t288 t289 (t289 != t275) a0_0 a0_1 l0_2 t276 t277 t278) else (laws_FnExactRunJobs.j0 k l1 a2 t271 t274 t275 t282 t285 t288 t289 true a0_0 a0_1 l0_2 t276 t277 t278)) = some r := by rw [if_pos rfl] at H; exact H
     clear H
     have H := H1
     clear H1
     by_cases c42 : t288 = t274
     ·
      rw [if_pos c42] at H
      have c42b0 : (t288 == t274) = true := beq_iff_eq.mpr c42
      have c42b1 : (t288 != t274) = false := bne_eq_false_iff_eq.mpr c42
      clear c42
      (first | rw [c42b0] | (simp only [i64_w, i32_w]; rw [c42b0]) | skip)
      have H' := Aside0.mk H
      clear H
      obtain ⟨Ao43, co43, eo43⟩ := Kd.R_slice HO287.out
      subst eo43
      obtain ⟨Ao44, co44, eo44⟩ := Kd.R_slice HO273.out
      subst eo44
      go_wp2_with (first | ((with_reducible refine gate_callee (f := 26) rfl ?_); refine goesL_ (some 56) rfl rfl Try.func26 (by kernel_rfl) rfl #[.slice Ao43 t285.length co43, .slice Ao44 t271.length co44] rfl (by (try simp only [am_]); first | done | rfl) ?_; (with_reducible refine (laws_eqIntS.calls k _ _ t285 _ _ t271 true _ ?side1 ?side2 ?side3 ?side4 A40.out).mono ?_); (case side1 => exact rc (Kd.R_reads' HO287.out).2.2); (case side2 => exact (Kd.R_reads' HO287.out).2.1); (case side3 => exact rc (Kd.R_reads' HO273.out).2.2); (case side4 => exact (Kd.R_reads' HO273.out).2.1); rintro e w' ⟨rfl, ⟨nd, rfl⟩⟩; refine ⟨_, rfl, ?_⟩))
      go_meet
      case rel => exact ⟨_, ((t289 != t275)), (by first | rfl | (simp; done) | (simp [*]; done)), H', ⟨by first | omega | exact Nat.le_refl _⟩, ⟨by (repeat apply rl1); exact Kd.R_mono HO273.out (fun _ hk => hk.2)⟩, ⟨by (repeat apply rl1); exact Kd.R_mono HO284.out (fun _ hk => trivial)⟩, ⟨by (repeat apply rl1); exact Kd.R_mono HO287.out (fun _ hk => hk.2)⟩, ⟨by (repeat apply rl1); exact Kd.R_mono HO280.out (fun _ hk => trivial)⟩, ⟨bk BK260.out⟩, ⟨bk BK281.out⟩, ⟨by repeat with_reducible first | exact bl HB.out | refine below_set ?_ GE260.out | refine below_set ?_ GE281.out | refine bq ?_⟩⟩
     ·
      rw [if_neg c42] at H
      have c42b0 : (t288 == t274) = false := beq_eq_false_iff_ne.mpr c42
      have c42b1 : (t288 != t274) = true := bne_iff_ne.mpr c42
      (first | rw [c42b0] | (simp only [i64_w, i32_w]; rw [c42b0]) | skip)
      have H' := Aside0.mk H
      clear H
      obtain ⟨Ao45, co45, eo45⟩ := Kd.R_slice HO287.out
      subst eo45
      obtain ⟨Ao46, co46, eo46⟩ := Kd.R_slice HO273.out
      subst eo46
      go_wp2_with (first | ((with_reducible refine gate_callee (f := 26) rfl ?_); refine goesL_ (some 56) rfl rfl Try.func26 (by kernel_rfl) rfl #[.slice Ao45 t285.length co45, .slice Ao46 t271.length co46] rfl (by (try simp only [am_]); first | done | rfl) ?_; (with_reducible refine (laws_eqIntS.calls k _ _ t285 _ _ t271 true _ ?side1 ?side2 ?side3 ?side4 A40.out).mono ?_); (case side1 => exact rc (Kd.R_reads' HO287.out).2.2); (case side2 => exact (Kd.R_reads' HO287.out).2.1); (case side3 => exact rc (Kd.R_reads' HO273.out).2.2); (case side4 => exact (Kd.R_reads' HO273.out).2.1); rintro e w' ⟨rfl, ⟨nd, rfl⟩⟩; refine ⟨_, rfl, ?_⟩))
      go_meet
      case rel => exact ⟨_, (true), (by first | rfl | (simp; done) | (simp [*]; done)), H', ⟨by first | omega | exact Nat.le_refl _⟩, ⟨by (repeat apply rl1); exact Kd.R_mono HO273.out (fun _ hk => hk.2)⟩, ⟨by (repeat apply rl1); exact Kd.R_mono HO284.out (fun _ hk => trivial)⟩, ⟨by (repeat apply rl1); exact Kd.R_mono HO287.out (fun _ hk => hk.2)⟩, ⟨by (repeat apply rl1); exact Kd.R_mono HO280.out (fun _ hk => trivial)⟩, ⟨bk BK260.out⟩, ⟨bk BK281.out⟩, ⟨by repeat with_reducible first | exact bl HB.out | refine below_set ?_ GE260.out | refine below_set ?_ GE281.out | refine bq ?_⟩⟩
    ·
     replace c41 := Bool.eq_false_iff.mpr c41
     subst c41
     have H1 : (laws_FnExactRunJobs.j0 k l1 a2 t271 t274 t275 t282 t285 t288 t289 true a0_0 a0_1 l0_2 t276 t277 t278) = some r := by rw [if_neg (show ¬ (false = true) by decide)] at H; exact H
     clear H
     have H := H1
     clear H1
     have H' := Aside0.mk H
     clear H
     obtain ⟨Ao47, co47, eo47⟩ := Kd.R_slice HO287.out
     subst eo47
     obtain ⟨Ao48, co48, eo48⟩ := Kd.R_slice HO273.out
     subst eo48
     go_wp2_with (first | ((with_reducible refine gate_callee (f := 26) rfl ?_); refine goesL_ (some 56) rfl rfl Try.func26 (by kernel_rfl) rfl #[.slice Ao47 t285.length co47, .slice Ao48 t271.length co48] rfl (by (try simp only [am_]); first | done | rfl) ?_; (with_reducible refine (laws_eqIntS.calls k _ _ t285 _ _ t271 false _ ?side1 ?side2 ?side3 ?side4 A40.out).mono ?_); (case side1 => exact rc (Kd.R_reads' HO287.out).2.2); (case side2 => exact (Kd.R_reads' HO287.out).2.1); (case side3 => exact rc (Kd.R_reads' HO273.out).2.2); (case side4 => exact (Kd.R_reads' HO273.out).2.1); rintro e w' ⟨rfl, ⟨nd, rfl⟩⟩; refine ⟨_, rfl, ?_⟩))
     go_meet
     case rel => exact ⟨_, (true), (by first | rfl | (simp; done) | (simp [*]; done)), H', ⟨by first | omega | exact Nat.le_refl _⟩, ⟨by (repeat apply rl1); exact Kd.R_mono HO273.out (fun _ hk => hk.2)⟩, ⟨by (repeat apply rl1); exact Kd.R_mono HO284.out (fun _ hk => trivial)⟩, ⟨by (repeat apply rl1); exact Kd.R_mono HO287.out (fun _ hk => hk.2)⟩, ⟨by (repeat apply rl1); exact Kd.R_mono HO280.out (fun _ hk => trivial)⟩, ⟨bk BK260.out⟩, ⟨bk BK281.out⟩, ⟨by repeat with_reducible first | exact bl HB.out | refine below_set ?_ GE260.out | refine below_set ?_ GE281.out | refine bq ?_⟩⟩
   case rest =>
    clear HC20
    try clear c1
    try clear c2
    try clear p2
    try clear c3
    try clear c4
    try clear c5
    try clear c5b0
    try clear c7
    try clear c9
    try clear c10
    try clear c10b0
    try clear c11
    try clear c22
    try clear c23
    try clear c24
    try clear c25
    try clear c26
    try clear c33
    try clear c41
    try clear c42
    try clear c42b0
    try clear c42b1
    try clear hcz12_0
    try clear hcz12_1
    try clear hcz12_2
    try clear hcz22_0
    try clear hcz22_1
    try clear hcz22_2
    try clear hcz24_0
    try clear hcz24_1
    try clear hcz24_2
    try clear hcz30_0
    try clear hcz30_1
    try clear hcz30_2
    try clear hcz34_0
    try clear hcz34_1
    try clear hcz34_2
    try clear hcz37_0
    try clear hcz37_1
    try clear hcz37_2
    try clear hcz7_0
    try clear hcz7_1
    try clear hcz7_2
    try clear hfz12_0
    try clear hfz12_1
    try clear hfz12_2
    try clear hfz22_0
    try clear hfz22_1
    try clear hfz22_2
    try clear hfz24_0
    try clear hfz24_1
    try clear hfz24_2
    try clear hfz30_0
    try clear hfz30_1
    try clear hfz30_2
    try clear hfz34_0
    try clear hfz34_1
    try clear hfz34_2
    try clear hfz37_0
    try clear hfz37_1
    try clear hfz37_2
    try clear hfz7_0
    try clear hfz7_1
    try clear hfz7_2
    obtain ⟨kq, x67_19, rfl, HA, HJ19, HO_8, HO_12, HO_13, HO_282002, BK260, BK281, HB⟩ := hcut
    cases kq with
    | zero => exact absurd HA.out (by simp [laws_FnExactRunJobs.j0])
    | succ kj19 =>
     have H := HA.out
     clear HA
     simp only [laws_FnExactRunJobs.j0] at H
     by_cases c49 : x67_19 = true
     ·
      subst c49
      have H1 : (some false) = some r := by rw [if_pos rfl] at H; exact H
      clear H
      have H := H1
      clear H1
      obtain rfl := Option.some.inj H
      go_wp2
      go_ret
      exact ⟨by first | rfl | (simp [errW_none, errW_some] <;> rfl) | (simp [*, errW_none, errW_some] <;> rfl), by repeat with_reducible first | exact bl HB.out | refine below_set ?_ GE260.out | refine below_set ?_ GE281.out | refine bq ?_⟩
     ·
      replace c49 := Bool.eq_false_iff.mpr c49
      subst c49
      have H1 : ((laws_toPlan17.f kj19 a0_0 a0_1 l0_2).bind fun bt291 => ((laws_eqPlan17.f kj19 t276 t277 t278 bt291.1 bt291.2.1 bt291.2.2).bind fun t296 => (if t296 = true then ((laws_toJobS.f kj19 l1).bind fun t297 => ((laws_eqJobS.f kj19 t282 t297).bind fun t300 => (if t300 = true then ((laws_markPlan17.f kj19 t276 t277 t278 1).bind fun bt301 => ((laws_markJobS.f kj19 t282 bt301.1).bind fun bt303 => (if bt303.1 < 0 then (laws_FnExactRunJobs.j1 kj19 l1 a2 t271 t274 t275 t285 true a0_0 a0_1 l0_2) else ((laws_eqIntS.f kj19 t285 t271).bind fun t305 => (if t305 = true then (if t288 = t274 then (laws_FnExactRunJobs.j1 kj19 l1 a2 t271 t274 t275 t285 (t289 != t275) a0_0 a0_1 l0_2) else (laws_FnExactRunJobs.j1 kj19 l1 a2 t271 t274 t275 t285 true a0_0 a0_1 l0_2)) else (laws_FnExactRunJobs.j1 kj19 l1 a2 t271 t274 t275 t285 true a0_0 a0_1 l0_2)))))) else (some false)))) else (some false)))) = some r := by rw [if_neg (show ¬ (false = true) by decide)] at H; exact H
      clear H
      have H := H1
      clear H1
      replace H := Option.bind_eq_some_iff.mp H
      obtain ⟨⟨t291, t292, t293⟩, A500, H⟩ := H
      replace H : ((laws_eqPlan17.f kj19 t276 t277 t278 t291 t292 t293).bind fun t296 => (if t296 = true then ((laws_toJobS.f kj19 l1).bind fun t297 => ((laws_eqJobS.f kj19 t282 t297).bind fun t300 => (if t300 = true then ((laws_markPlan17.f kj19 t276 t277 t278 1).bind fun bt301 => ((laws_markJobS.f kj19 t282 bt301.1).bind fun bt303 => (if bt303.1 < 0 then (laws_FnExactRunJobs.j1 kj19 l1 a2 t271 t274 t275 t285 true a0_0 a0_1 l0_2) else ((laws_eqIntS.f kj19 t285 t271).bind fun t305 => (if t305 = true then (if t288 = t274 then (laws_FnExactRunJobs.j1 kj19 l1 a2 t271 t274 t275 t285 (t289 != t275) a0_0 a0_1 l0_2) else (laws_FnExactRunJobs.j1 kj19 l1 a2 t271 t274 t275 t285 true a0_0 a0_1 l0_2)) else (laws_FnExactRunJobs.j1 kj19 l1 a2 t271 t274 t275 t285 true a0_0 a0_1 l0_2)))))) else (some false)))) else (some false))) = some r := H
      have A50 := Aside0.mk A500
      clear A500
      replace H := Option.bind_eq_some_iff.mp H
      obtain ⟨t296, A510, H⟩ := H
      replace H : (if t296 = true then ((laws_toJobS.f kj19 l1).bind fun t297 => ((laws_eqJobS.f kj19 t282 t297).bind fun t300 => (if t300 = true then ((laws_markPlan17.f kj19 t276 t277 t278 1).bind fun bt301 => ((laws_markJobS.f kj19 t282 bt301.1).bind fun bt303 => (if bt303.1 < 0 then (laws_FnExactRunJobs.j1 kj19 l1 a2 t271 t274 t275 t285 true a0_0 a0_1 l0_2) else ((laws_eqIntS.f kj19 t285 t271).bind fun t305 => (if t305 = true then (if t288 = t274 then (laws_FnExactRunJobs.j1 kj19 l1 a2 t271 t274 t275 t285 (t289 != t275) a0_0 a0_1 l0_2) else (laws_FnExactRunJobs.j1 kj19 l1 a2 t271 t274 t275 t285 true a0_0 a0_1 l0_2)) else (laws_FnExactRunJobs.j1 kj19 l1 a2 t271 t274 t275 t285 true a0_0 a0_1 l0_2)))))) else (some false)))) else (some false)) = some r := H
      have A51 := Aside0.mk A510
      clear A510
      by_cases c52 : t296 = true
      ·
       subst c52
       have H1 : ((laws_toJobS.f kj19 l1).bind fun t297 => ((laws_eqJobS.f kj19 t282 t297).bind fun t300 => (if t300 = true then ((laws_markPlan17.f kj19 t276 t277 t278 1).bind fun bt301 => ((laws_markJobS.f kj19 t282 bt301.1).bind fun bt303 => (if bt303.1 < 0 then (laws_FnExactRunJobs.j1 kj19 l1 a2 t271 t274 t275 t285 true a0_0 a0_1 l0_2) else ((laws_eqIntS.f kj19 t285 t271).bind fun t305 => (if t305 = true then (if t288 = t274 then (laws_FnExactRunJobs.j1 kj19 l1 a2 t271 t274 t275 t285 (t289 != t275) a0_0 a0_1 l0_2) else (laws_FnExactRunJobs.j1 kj19 l1 a2 t271 t274 t275 t285 true a0_0 a0_1 l0_2)) else (laws_FnExactRunJobs.j1 kj19 l1 a2 t271 t274 t275 t285 true a0_0 a0_1 l0_2)))))) else (some false)))) = some r := by rw [if_pos rfl] at H; exact H
       clear H
       have H := H1
       clear H1
       replace H := Option.bind_eq_some_iff.mp H
       obtain ⟨t297, A530, H⟩ := H
       replace H : ((laws_eqJobS.f kj19 t282 t297).bind fun t300 => (if t300 = true then ((laws_markPlan17.f kj19 t276 t277 t278 1).bind fun bt301 => ((laws_markJobS.f kj19 t282 bt301.1).bind fun bt303 => (if bt303.1 < 0 then (laws_FnExactRunJobs.j1 kj19 l1 a2 t271 t274 t275 t285 true a0_0 a0_1 l0_2) else ((laws_eqIntS.f kj19 t285 t271).bind fun t305 => (if t305 = true then (if t288 = t274 then (laws_FnExactRunJobs.j1 kj19 l1 a2 t271 t274 t275 t285 (t289 != t275) a0_0 a0_1 l0_2) else (laws_FnExactRunJobs.j1 kj19 l1 a2 t271 t274 t275 t285 true a0_0 a0_1 l0_2)) else (laws_FnExactRunJobs.j1 kj19 l1 a2 t271 t274 t275 t285 true a0_0 a0_1 l0_2)))))) else (some false))) = some r := H
       have A53 := Aside0.mk A530
       clear A530
       replace H := Option.bind_eq_some_iff.mp H
       obtain ⟨t300, A540, H⟩ := H
       replace H : (if t300 = true then ((laws_markPlan17.f kj19 t276 t277 t278 1).bind fun bt301 => ((laws_markJobS.f kj19 t282 bt301.1).bind fun bt303 => (if bt303.1 < 0 then (laws_FnExactRunJobs.j1 kj19 l1 a2 t271 t274 t275 t285 true a0_0 a0_1 l0_2) else ((laws_eqIntS.f kj19 t285 t271).bind fun t305 => (if t305 = true then (if t288 = t274 then (laws_FnExactRunJobs.j1 kj19 l1 a2 t271 t274 t275 t285 (t289 != t275) a0_0 a0_1 l0_2) else (laws_FnExactRunJobs.j1 kj19 l1 a2 t271 t274 t275 t285 true a0_0 a0_1 l0_2)) else (laws_FnExactRunJobs.j1 kj19 l1 a2 t271 t274 t275 t285 true a0_0 a0_1 l0_2)))))) else (some false)) = some r := H
       have A54 := Aside0.mk A540
       clear A540
       by_cases c55 : t300 = true
       ·
        subst c55
        have H1 : ((laws_markPlan17.f kj19 t276 t277 t278 1).bind fun bt301 => ((laws_markJobS.f kj19 t282 bt301.1).bind fun bt303 => (if bt303.1 < 0 then (laws_FnExactRunJobs.j1 kj19 l1 a2 t271 t274 t275 t285 true a0_0 a0_1 l0_2) else ((laws_eqIntS.f kj19 t285 t271).bind fun t305 => (if t305 = true then (if t288 = t274 then (laws_FnExactRunJobs.j1 kj19 l1 a2 t271 t274 t275 t285 (t289 != t275) a0_0 a0_1 l0_2) else (laws_FnExactRunJobs.j1 kj19 l1 a2 t271 t274 t275 t285 true a0_0 a0_1 l0_2)) else (laws_FnExactRunJobs.j1 kj19 l1 a2 t271 t274 t275 t285 true a0_0 a0_1 l0_2)))))) = some r := by rw [if_pos rfl] at H; exact H
        clear H
        have H := H1
        clear H1
        replace H := Option.bind_eq_some_iff.mp H
        obtain ⟨⟨t301, t302⟩, A560, H⟩ := H
        replace H : ((laws_markJobS.f kj19 t282 t301).bind fun bt303 => (if bt303.1 < 0 then (laws_FnExactRunJobs.j1 kj19 l1 a2 t271 t274 t275 t285 true a0_0 a0_1 l0_2) else ((laws_eqIntS.f kj19 t285 t271).bind fun t305 => (if t305 = true then (if t288 = t274 then (laws_FnExactRunJobs.j1 kj19 l1 a2 t271 t274 t275 t285 (t289 != t275) a0_0 a0_1 l0_2) else (laws_FnExactRunJobs.j1 kj19 l1 a2 t271 t274 t275 t285 true a0_0 a0_1 l0_2)) else (laws_FnExactRunJobs.j1 kj19 l1 a2 t271 t274 t275 t285 true a0_0 a0_1 l0_2))))) = some r := H
        have A56 := Aside0.mk A560
        clear A560
        replace H := Option.bind_eq_some_iff.mp H
        obtain ⟨⟨t303, t304⟩, A570, H⟩ := H
        replace H : (if t303 < 0 then (laws_FnExactRunJobs.j1 kj19 l1 a2 t271 t274 t275 t285 true a0_0 a0_1 l0_2) else ((laws_eqIntS.f kj19 t285 t271).bind fun t305 => (if t305 = true then (if t288 = t274 then (laws_FnExactRunJobs.j1 kj19 l1 a2 t271 t274 t275 t285 (t289 != t275) a0_0 a0_1 l0_2) else (laws_FnExactRunJobs.j1 kj19 l1 a2 t271 t274 t275 t285 true a0_0 a0_1 l0_2)) else (laws_FnExactRunJobs.j1 kj19 l1 a2 t271 t274 t275 t285 true a0_0 a0_1 l0_2)))) = some r := H
        have A57 := Aside0.mk A570
        clear A570
        have HC58 := Aside0.mk H
        clear H
        try go_wp2
        have n0_ := Aside0.mk (Kd.R_drew HO_8.out)
        have n1_ := Aside0.mk (Kd.R_drew HO_12.out)
        have n2_ := Aside0.mk (Kd.R_drew HO_13.out)
        have n3_ := Aside0.mk (Kd.R_drew HO_282002.out)
        have n4_ := Aside0.mk (blk_drew BK260.out)
        have n5_ := Aside0.mk (blk_drew BK281.out)
        have n6_ := Aside0.mk (below_drew1 HB.out)
        clear HO_8
        clear HO_12
        clear HO_13
        clear HO_282002
        clear BK260
        clear BK281
        clear HB
        have HO_8 := n0_
        have HO_12 := n1_
        have HO_13 := n2_
        have HO_282002 := n3_
        have BK260 := n4_
        have BK281 := n5_
        have HB := n6_
        clear n0_ n1_ n2_ n3_ n4_ n5_ n6_
        refine start_ (n := 5) (S := fun w' => w'.cell? ⟨gb281, 0, none⟩ = some (.int .i64 t276) ∧ w'.cell? ⟨gb281, 1, none⟩ = some (.int .i64 t277) ∧ w'.cell? ⟨gb281, 2, none⟩ = some (.slice Ao35 t278.length co35) ∧ w'.cell? ⟨gb260, 0, none⟩ = some (.int .i64 a0_0) ∧ w'.cell? ⟨gb260, 1, none⟩ = some (.int .i64 a0_1) ∧ w'.cell? ⟨gb260, 2, none⟩ = some (.slice A0_2 l0_2.length c0_2)) (ds := []) m0_5 (by kernel_rfl) rfl rfl ⟨ck BK281.out 0 rfl, ck BK281.out 1 rfl, ck BK281.out 2 rfl, ck BK260.out 0 rfl, ck BK260.out 1 rfl, ck BK260.out 2 rfl⟩ (fun hHeld => ?_)
        generalize wc.drew = w59 at HO_8 HO_12 HO_13 HO_282002 BK260 BK281 HB hHeld ⊢
        refine take_ (i := 0) (N := some 68) (v := ?_) (a' := ?_) m1_5 rfl rfl (by kernel_rfl) (fun _ _ _ h => h) (Or.inl ⟨by rfl, ?_⟩) hHeld ?_ ?_
        rotate_left
        ·
         rintro w' ⟨s0, s1, s2, s3, s4, s5⟩
         go_simp
         with_reducible rfl
        rotate_left
        ·
         simp only [sp_]
         rfl
        refine take_ (i := 1) (N := some 69) (v := ?_) (a' := ?_) m2_5 rfl rfl (by kernel_rfl) (fun _ _ _ h => h) (Or.inl ⟨by rfl, ?_⟩) hHeld ?_ ?_
        rotate_left
        ·
         rintro w' ⟨s0, s1, s2, s3, s4, s5⟩
         go_simp
         with_reducible rfl
        rotate_left
        ·
         simp only [sp_]
         rfl
        refine one_ (i := 2) (N := some 70) m3_5 rfl rfl (by kernel_rfl) (by decide) (fun K hK => ?_)
        refine goes_ Try.func11 (by kernel_rfl) rfl #[.agg #[.int .i64 a0_0, .int .i64 a0_1, .slice A0_2 l0_2.length c0_2]] (by rfl) rfl rfl (by (try simp only [am_]); first | done | rfl) ?_
        with_reducible refine (laws_toPlan17.calls kj19 a0_0 a0_1 _ _ l0_2 t291 t292 t293 _ ?side1 ?side2 A50.out).mono ?_
        (case side1 => exact rc (Kd.C_below HR0_2.out HB.out))
        (case side2 => exact HC0_2.out)
        rintro e w60 ⟨v294, rfl, ho0, hb⟩
        refine ⟨_, rfl, ?_⟩
        have n0_ := Aside0.mk (Kd.R_below (rl HO_8.out) hb)
        have n1_ := Aside0.mk (Kd.R_below (rl HO_12.out) hb)
        have n2_ := Aside0.mk (Kd.R_below (rl HO_13.out) hb)
        have n3_ := Aside0.mk (Kd.R_elder' (rl HO_282002.out) (Kd.R_base ho0) hb)
        have n4_ := Aside0.mk (Kd.R_lower (Kd.R_new' ho0 (Kd.R_lt (by (repeat apply rl1); exact HO_282002.out))) (below_size (by repeat with_reducible first | exact bl HB.out | refine below_set ?_ GE260.out | refine below_set ?_ GE281.out | refine bq ?_)))
        have n5_ := Aside0.mk (blk_below (bk BK260.out) hb)
        have n6_ := Aside0.mk (blk_below (bk BK281.out) hb)
        have n7_ := Aside0.mk (below_step (by repeat with_reducible first | exact bl HB.out | refine below_set ?_ GE260.out | refine below_set ?_ GE281.out | refine bq ?_) hb)
        clear HO_8
        clear HO_12
        clear HO_13
        clear HO_282002
        clear BK260
        clear BK281
        clear HB
        have HO_8 := n0_
        have HO_12 := n1_
        have HO_13 := n2_
        have HO_282002 := n3_
        have HO295 := n4_
        have BK260 := n5_
        have BK281 := n6_
        have HB := n7_
        clear n0_ n1_ n2_ n3_ n4_ n5_ n6_ n7_
        (try clear hb)
        (try clear hb2)
        (try clear hk)
        (try clear hi)
        (try clear ho0)
        obtain ⟨Ao61, co61, eo61⟩ := Kd.R_slice HO295.out
        (first | subst eo61 | (injection eo61 with f1_ f2_ f3_; have f4_ := f1_.symm; have f5_ := f3_.symm; clear f1_ f2_ f3_; subst f4_; subst f5_))
        refine hK.out _ _ ⟨ck BK281.out 0 rfl, ck BK281.out 1 rfl, ck BK281.out 2 rfl, ck BK260.out 0 rfl, ck BK260.out 1 rfl, ck BK260.out 2 rfl⟩ (fun hHeld => ?_)
        clear hK K
        refine norm_ (a' := ?_) ?_ ?_
        rotate_left
        ·
         show Act.put _ (some 70) _ = _
         simp only [sp_]
         rfl
        refine one_ (i := 3) (N := some 71) m4_5 rfl rfl (by kernel_rfl) (by decide) (fun K hK => ?_)
        refine goes_ Try.func13 (by kernel_rfl) rfl #[.agg #[.int .i64 t276, .int .i64 t277, .slice Ao35 t278.length co35], .agg #[.int .i64 t291, .int .i64 t292, .slice Ao61 t293.length co61]] (by rfl) rfl rfl (by (try simp only [am_]); first | done | rfl) ?_
        with_reducible refine (laws_eqPlan17.calls kj19 t276 t277 _ _ t278 t291 t292 _ _ t293 true _ ?side1 ?side2 ?side3 ?side4 A51.out).mono ?_
        (case side1 => exact rc (Kd.R_reads' HO_282002.out).2.2)
        (case side2 => exact (Kd.R_reads' HO_282002.out).2.1)
        (case side3 => exact rc (Kd.R_reads' HO295.out).2.2)
        (case side4 => exact (Kd.R_reads' HO295.out).2.1)
        rintro e w62 ⟨rfl, hb⟩
        refine ⟨_, rfl, ?_⟩
        have n0_ := Aside0.mk (Kd.R_below (rl HO_8.out) hb)
        have n1_ := Aside0.mk (Kd.R_below (rl HO_12.out) hb)
        have n2_ := Aside0.mk (Kd.R_below (rl HO_13.out) hb)
        have n3_ := Aside0.mk (Kd.R_below (rl HO_282002.out) hb)
        have n4_ := Aside0.mk (Kd.R_below (rl HO295.out) hb)
        have n5_ := Aside0.mk (blk_below (bk BK260.out) hb)
        have n6_ := Aside0.mk (blk_below (bk BK281.out) hb)
        have n7_ := Aside0.mk (below_step (by repeat with_reducible first | exact bl HB.out | refine below_set ?_ GE260.out | refine below_set ?_ GE281.out | refine bq ?_) hb)
        clear HO_8
        clear HO_12
        clear HO_13
        clear HO_282002
        clear HO295
        clear BK260
        clear BK281
        clear HB
        have HO_8 := n0_
        have HO_12 := n1_
        have HO_13 := n2_
        have HO_282002 := n3_
        have HO295 := n4_
        have BK260 := n5_
        have BK281 := n6_
        have HB := n7_
        clear n0_ n1_ n2_ n3_ n4_ n5_ n6_ n7_
        (try clear hb)
        (try clear hb2)
        (try clear hk)
        (try clear hi)
        refine hK.out _ _ ⟨ck BK281.out 0 rfl, ck BK281.out 1 rfl, ck BK281.out 2 rfl, ck BK260.out 0 rfl, ck BK260.out 1 rfl, ck BK260.out 2 rfl⟩ (fun hHeld => ?_)
        clear hK K
        refine norm_ (a' := ?_) ?_ ?_
        rotate_left
        ·
         show Act.put _ (some 71) _ = _
         simp only [sp_]
         rfl
        refine pure_ (i := 4) (N := some 72) (v := ?_) (a' := ?_) m5_5 rfl rfl (by kernel_rfl) (fun _ _ _ h => h) (Or.inl ⟨by rfl, ?_⟩) ?_ ?_
        rotate_left
        ·
         intro w'
         go_simp
         with_reducible rfl
        rotate_left
        ·
         simp only [sp_]
         rfl
        refine done_ (by kernel_rfl) ?_
        go_upto_region 21 with (first | ((with_reducible refine gate_callee (f := 24) rfl ?_); refine goesL_ (some 75) rfl rfl Try.func24 (by kernel_rfl) rfl #[.slice A1 l1.length c1] rfl (by (try simp only [am_]); first | done | rfl) ?_; (with_reducible refine (laws_toJobS.calls kj19 _ _ l1 t297 _ ?side1 ?side2 A53.out).mono ?_); (case side1 => exact rc (Kd.C_below HR1.out HB.out)); (case side2 => exact HC1.out); rintro e w63 ⟨v298, rfl, ho0, hb⟩; refine ⟨_, rfl, ?_⟩; have n0_ := Aside0.mk (Kd.R_below (rl HO_8.out) hb); have n1_ := Aside0.mk (Kd.R_elder' (rl HO_12.out) (Kd.R_base ho0) hb); have n2_ := Aside0.mk (Kd.R_below (rl HO_13.out) hb); have n3_ := Aside0.mk (Kd.R_below (rl HO_282002.out) hb); have n4_ := Aside0.mk (Kd.R_below (rl HO295.out) hb); have n5_ := Aside0.mk (Kd.R_lower (Kd.R_new' ho0 (Kd.R_lt (by (repeat apply rl1); exact HO_12.out))) (below_size (by repeat with_reducible first | exact bl HB.out | refine below_set ?_ GE260.out | refine below_set ?_ GE281.out | refine bq ?_))); have n6_ := Aside0.mk (blk_below (bk BK260.out) hb); have n7_ := Aside0.mk (blk_below (bk BK281.out) hb); have n8_ := Aside0.mk (below_step (by repeat with_reducible first | exact bl HB.out | refine below_set ?_ GE260.out | refine below_set ?_ GE281.out | refine bq ?_) hb); clear HO_8; clear HO_12; clear HO_13; clear HO_282002; clear HO295; clear BK260; clear BK281; clear HB; have HO_8 := n0_; have HO_12 := n1_; have HO_13 := n2_; have HO_282002 := n3_; have HO295 := n4_; have HO299 := n5_; have BK260 := n6_; have BK281 := n7_; have HB := n8_; clear n0_ n1_ n2_ n3_ n4_ n5_ n6_ n7_ n8_; (try clear hb); (try clear hb2); (try clear hk); (try clear hi); (try clear ho0); obtain ⟨Ao64, co64, eo64⟩ := Kd.R_slice HO299.out; subst eo64) | ((with_reducible refine gate_callee (f := 27) rfl ?_); refine goesL_ (some 76) rfl rfl Try.func27 (by kernel_rfl) rfl #[.slice Ao38 t282.length co38, .slice Ao64 t297.length co64] rfl (by (try simp only [am_]); first | done | rfl) ?_; (with_reducible refine (laws_eqJobS.calls kj19 _ _ t282 _ _ t297 true _ ?side1 ?side2 ?side3 ?side4 A54.out).mono ?_); (case side1 => exact rc (Kd.R_reads' HO_12.out).2.2); (case side2 => exact (Kd.R_reads' HO_12.out).2.1); (case side3 => exact rc (Kd.R_reads' HO299.out).2.2); (case side4 => exact (Kd.R_reads' HO299.out).2.1); rintro e w65 ⟨rfl, hb⟩; refine ⟨_, rfl, ?_⟩; have n0_ := Aside0.mk (Kd.R_below (rl HO_8.out) hb); have n1_ := Aside0.mk (Kd.R_below (rl HO_12.out) hb); have n2_ := Aside0.mk (Kd.R_below (rl HO_13.out) hb); have n3_ := Aside0.mk (Kd.R_below (rl HO_282002.out) hb); have n4_ := Aside0.mk (Kd.R_below (rl HO295.out) hb); have n5_ := Aside0.mk (Kd.R_below (rl HO299.out) hb); have n6_ := Aside0.mk (blk_below (bk BK260.out) hb); have n7_ := Aside0.mk (blk_below (bk BK281.out) hb); have n8_ := Aside0.mk (below_step (by repeat with_reducible first | exact bl HB.out | refine below_set ?_ GE260.out | refine below_set ?_ GE281.out | refine bq ?_) hb); clear HO_8; clear HO_12; clear HO_13; clear HO_282002; clear HO295; clear HO299; clear BK260; clear BK281; clear HB; have HO_8 := n0_; have HO_12 := n1_; have HO_13 := n2_; have HO_282002 := n3_; have HO295 := n4_; have HO299 := n5_; have BK260 := n6_; have BK281 := n7_; have HB := n8_; clear n0_ n1_ n2_ n3_ n4_ n5_ n6_ n7_ n8_; (try clear hb); (try clear hb2); (try clear hk); (try clear hi); have hnb66 := NB281_260.out; have hnc66 := NB260_281.out; have hcz67_0 := ck (v := .int .i64 t276) BK281.out 0 rfl; have hcz67_1 := ck (v := .int .i64 t277) BK281.out 1 rfl; have hcz67_2 := ck (v := .slice Ao35 t278.length co35) BK281.out 2 rfl; have hfz67_0 := blk_frozen BK281.out 0; have hfz67_1 := blk_frozen BK281.out 1; have hfz67_2 := blk_frozen BK281.out 2) | ((with_reducible refine gate_callee (f := 20) rfl ?_); refine goesL_ (some 80) rfl rfl Try.func20 (by kernel_rfl) rfl #[.agg #[.int .i64 t276, .int .i64 t277, .slice Ao35 t278.length co35], .int .i64 1] rfl (by (try simp only [am_]); first | done | rfl) ?_; (with_reducible refine (laws_markPlan17.calls kj19 t276 t277 (fun k_ => some k_ = (.slice Ao35 t278.length co35 : Value).ownBlock) (.slice Ao35 t278.length co35) t278 1 t301 t302 w _ ?side1 ?side2 A56.out).mono ?_); (case side1 => repeat (first | (with_reducible first | exact HB.out | apply below_alloc | apply pw_below_drewN | apply below_drew1 | refine below_set ?_ GE260.out | refine below_set ?_ GE281.out) | exact HB.out)); (case side2 => exact Kd.R_tight rfl HO_282002.out); rintro e w68 ⟨rfl, hy0, hb, hkp⟩; refine ⟨_, rfl, ?_⟩; have n0_ := Aside0.mk (Kd.R_mono (ok' := fun k_ => some k_ ≠ (v286 : Value).ownBlock) (Kd.R_keptB ((Kd.R_apart' HO_8.out (Kd.R_typed HO_282002.out) (by decide))) hkp (fun k_ hk_ hs_ => (hk_.2) hs_)) (fun k_ hk_ => hk_.1.1)); have n1_ := Aside0.mk (Kd.R_mono (ok' := fun k_ => some k_ ≠ (.slice Ao64 t297.length co64 : Value).ownBlock) (Kd.R_keptB ((Kd.R_apart' HO_12.out (Kd.R_typed HO_282002.out) (by decide))) hkp (fun k_ hk_ hs_ => (hk_.2) hs_)) (fun k_ hk_ => hk_.1.1.2)); have n2_ := Aside0.mk (Kd.R_mono (ok' := fun k_ => some k_ ≠ (v272 : Value).ownBlock) (Kd.R_keptB ((Kd.R_apart' HO_13.out (Kd.R_typed HO_282002.out) (by decide))) hkp (fun k_ hk_ hs_ => (hk_.2) hs_)) (fun k_ hk_ => hk_.1.1)); have n3_ := Aside0.mk (Kd.R_reok rfl hy0 (fun k_ e_ => HO_282002.out.1 k_ e_)); have n4_ := Aside0.mk (blk_kept (bk BK260.out) hkp (fun hs_ => (fun e_ => (Kd.R_ne HO_282002.out BK260.out (by decide)) e_) hs_)); have n5_ := Aside0.mk (blk_kept (bk BK281.out) hkp (fun hs_ => (fun e_ => (Kd.R_ne HO_282002.out BK281.out (by decide)) e_) hs_)); have n6_ := Aside0.mk (Kd.R_mono (ok' := fun k_ => some k_ ≠ (.slice Ao35 t278.length co35 : Value).ownBlock) (Kd.R_keptB (HO295.out) hkp (fun k_ hk_ hs_ => (hk_.2) hs_)) (fun k_ hk_ => hk_.1.2)); have n7_ := Aside0.mk (Kd.R_mono (ok' := fun k_ => some k_ ≠ (.slice Ao38 t282.length co38 : Value).ownBlock) (Kd.R_keptB ((Kd.R_apart' HO299.out (Kd.R_typed HO_282002.out) (by decide))) hkp (fun k_ hk_ hs_ => (hk_.2) hs_)) (fun k_ hk_ => hk_.1.1.2)); have n8_ := Aside0.mk (hb); clear HO_8; clear HO_12; clear HO_13; clear HO_282002; clear BK260; clear BK281; clear HO295; clear HO299; clear HB; have HO_8 := n0_; have HO_12 := n1_; have HO_13 := n2_; have HO_282002 := n3_; have BK260 := n4_; have BK281 := n5_; have HO295 := n6_; have HO299 := n7_; have HB := n8_; clear n0_ n1_ n2_ n3_ n4_ n5_ n6_ n7_ n8_; (try clear hb); (try clear hkp); (try clear hy0)) | ((with_reducible refine gate_callee (f := 28) rfl ?_); refine goesL_ (some 83) rfl rfl Try.func28 (by kernel_rfl) rfl #[.slice Ao38 t282.length co38, .int .i64 t301] rfl (by (try simp only [am_]); first | done | rfl) ?_; (with_reducible refine (laws_markJobS.calls kj19 (fun k_ => some k_ = (.slice Ao38 t282.length co38 : Value).ownBlock) (.slice Ao38 t282.length co38) t282 t301 t303 t304 w _ ?side1 ?side2 A57.out).mono ?_); (case side1 => repeat (first | (with_reducible first | exact HB.out | apply below_alloc | apply pw_below_drewN | apply below_drew1 | refine below_set ?_ GE260.out | refine below_set ?_ GE281.out) | exact HB.out)); (case side2 => exact Kd.R_tight rfl HO_12.out); rintro e w69 ⟨rfl, hy0, hb, hkp⟩; refine ⟨_, rfl, ?_⟩; have n0_ := Aside0.mk (Kd.R_mono (ok' := fun k_ => some k_ ≠ (v286 : Value).ownBlock) (Kd.R_keptB ((Kd.R_apart' HO_8.out (Kd.R_typed HO_12.out) (by decide))) hkp (fun k_ hk_ hs_ => (hk_.2) hs_)) (fun k_ hk_ => hk_.1.1)); have n1_ := Aside0.mk (Kd.R_reok rfl hy0 (fun k_ e_ => HO_12.out.1 k_ e_)); have n2_ := Aside0.mk (Kd.R_mono (ok' := fun k_ => some k_ ≠ (v272 : Value).ownBlock) (Kd.R_keptB ((Kd.R_apart' HO_13.out (Kd.R_typed HO_12.out) (by decide))) hkp (fun k_ hk_ hs_ => (hk_.2) hs_)) (fun k_ hk_ => hk_.1.1)); have n3_ := Aside0.mk (Kd.R_mono (ok' := fun k_ => some k_ ≠ (.slice Ao61 t293.length co61 : Value).ownBlock) (Kd.R_keptB ((Kd.R_apart' HO_282002.out (Kd.R_typed HO_12.out) (by decide))) hkp (fun k_ hk_ hs_ => (hk_.2) hs_)) (fun k_ hk_ => hk_.1.1.2)); have n4_ := Aside0.mk (blk_kept (bk BK260.out) hkp (fun hs_ => (fun e_ => (Kd.R_ne HO_12.out BK260.out (by decide)) e_) hs_)); have n5_ := Aside0.mk (blk_kept (bk BK281.out) hkp (fun hs_ => (fun e_ => (Kd.R_ne HO_12.out BK281.out (by decide)) e_) hs_)); have n6_ := Aside0.mk (Kd.R_mono (ok' := fun k_ => some k_ ≠ (.slice Ao35 t278.length co35 : Value).ownBlock) (Kd.R_keptB ((Kd.R_apart' HO295.out (Kd.R_typed HO_12.out) (by decide))) hkp (fun k_ hk_ hs_ => (hk_.2) hs_)) (fun k_ hk_ => hk_.1.1)); have n7_ := Aside0.mk (Kd.R_mono (ok' := fun k_ => some k_ ≠ (.slice Ao38 t282.length co38 : Value).ownBlock) (Kd.R_keptB (HO299.out) hkp (fun k_ hk_ hs_ => (hk_) hs_)) (fun k_ hk_ => hk_.1)); have n8_ := Aside0.mk (hb); clear HO_8; clear HO_12; clear HO_13; clear HO_282002; clear BK260; clear BK281; clear HO295; clear HO299; clear HB; have HO_8 := n0_; have HO_12 := n1_; have HO_13 := n2_; have HO_282002 := n3_; have BK260 := n4_; have BK281 := n5_; have HO295 := n6_; have HO299 := n7_; have HB := n8_; clear n0_ n1_ n2_ n3_ n4_ n5_ n6_ n7_ n8_; (try clear hb); (try clear hkp); (try clear hy0)))
        (try simp only [Act.put, List.setIfInBounds_toArray, List.set_cons_zero, List.set_cons_succ])
        go_cut [101] (fun v101 wc => ∃ (kq : Nat) (x101_57 : Bool), v101 = .bool x101_57 ∧ Aside0 (laws_FnExactRunJobs.j1 kq l1 a2 t271 t274 t275 t285 x101_57 a0_0 a0_1 l0_2 = some r) ∧ Aside0 (kq ≤ kj19) ∧ Aside0 (Kd.R (Kd.int .i64) 3 wc w.heap.size (fun k_ => some k_ ≠ (v286 : Value).ownBlock) v272 t271) ∧ Aside0 (Kd.R (Kd.int .i64) 3 wc w.heap.size (fun k_ => some k_ ≠ (v272 : Value).ownBlock) v286 t285) ∧ Aside0 (Kd.R k62 62 wc w.heap.size (fun _ => True) (.slice Ao35 t278.length co35) t302) ∧ Aside0 (wc.heap[gb260]? = some (.cells #[.int .i64 a0_0, .int .i64 a0_1, (.slice A0_2 l0_2.length c0_2)] 24 (0, 0))) ∧ Aside0 (wc.heap[gb281]? = some (.cells #[.int .i64 t276, .int .i64 t277, (.slice Ao35 t278.length co35)] 29 (0, 0))) ∧ Aside0 (Below w.heap.size w wc))
        case first =>
         have H := HC58.out
         clear HC58
         by_cases c70 : t303 < 0
         ·
          rw [if_pos c70] at H
          have c70b0 : decide (t303 < 0) = true := decide_eq_true c70
          clear c70
          (first | rw [c70b0] | (simp only [i64_w, i32_w]; rw [c70b0]) | skip)
          have H' := Aside0.mk H
          clear H
          go_wp2
          go_meet
          case rel => exact ⟨_, (true), (by first | rfl | (simp; done) | (simp [*]; done)), H', ⟨by have := HJ19.out; first | omega | exact Nat.le_refl _⟩, ⟨rl HO_8.out⟩, ⟨rl HO_13.out⟩, ⟨by (repeat apply rl1); exact Kd.R_mono HO_282002.out (fun _ hk => trivial)⟩, ⟨bk BK260.out⟩, ⟨bk BK281.out⟩, ⟨by repeat with_reducible first | exact bl HB.out | refine below_set ?_ GE260.out | refine below_set ?_ GE281.out | refine bq ?_⟩⟩
         ·
          rw [if_neg c70] at H
          have c70b0 : decide (t303 < 0) = false := decide_eq_false c70
          clear c70
          (first | rw [c70b0] | (simp only [i64_w, i32_w]; rw [c70b0]) | skip)
          replace H := Option.bind_eq_some_iff.mp H
          obtain ⟨t305, A710, H⟩ := H
          replace H : (if t305 = true then (if t288 = t274 then (laws_FnExactRunJobs.j1 kj19 l1 a2 t271 t274 t275 t285 (t289 != t275) a0_0 a0_1 l0_2) else (laws_FnExactRunJobs.j1 kj19 l1 a2 t271 t274 t275 t285 true a0_0 a0_1 l0_2)) else (laws_FnExactRunJobs.j1 kj19 l1 a2 t271 t274 t275 t285 true a0_0 a0_1 l0_2)) = some r := H
          have A71 := Aside0.mk A710
          clear A710
          by_cases c72 : t305 = true
          ·
           subst c72
           have H1 : (if t288 = t274 then (laws_FnExactRunJobs.j1 kj19 l1 a2 t271 t274 t275 t285 (t289 != t275) a0_0 a0_1 l0_2) else (laws_FnExactRunJobs.j1 kj19 l1 a2 t271 t274 t275 t285 true a0_0 a0_1 l0_2)) = some r := by rw [if_pos rfl] at H; exact H
           clear H
           have H := H1
           clear H1
           by_cases c73 : t288 = t274
           ·
            rw [if_pos c73] at H
            have c73b0 : (t288 == t274) = true := beq_iff_eq.mpr c73
            have c73b1 : (t288 != t274) = false := bne_eq_false_iff_eq.mpr c73
            clear c73
            have H' := Aside0.mk H
            clear H
            obtain ⟨Ao74, co74, eo74⟩ := Kd.R_slice HO_13.out
            subst eo74
            obtain ⟨Ao75, co75, eo75⟩ := Kd.R_slice HO_8.out
            subst eo75
            go_wp2_with (first | (go_at_call 26; (with_reducible refine (laws_eqIntS.calls kj19 _ _ t285 _ _ t271 true _ ?side1 ?side2 ?side3 ?side4 A71.out).mono ?_); (case side1 => exact rc (Kd.R_reads' HO_13.out).2.2); (case side2 => exact (Kd.R_reads' HO_13.out).2.1); (case side3 => exact rc (Kd.R_reads' HO_8.out).2.2); (case side4 => exact (Kd.R_reads' HO_8.out).2.1); rintro e w' ⟨rfl, ⟨nd, rfl⟩⟩))
            go_meet
            case rel => exact ⟨_, ((t289 != t275)), (by first | rfl | (simp; done) | (simp [*]; done)), H', ⟨by have := HJ19.out; first | omega | exact Nat.le_refl _⟩, ⟨rl HO_8.out⟩, ⟨rl HO_13.out⟩, ⟨by (repeat apply rl1); exact Kd.R_mono HO_282002.out (fun _ hk => trivial)⟩, ⟨bk BK260.out⟩, ⟨bk BK281.out⟩, ⟨by repeat with_reducible first | exact bl HB.out | refine below_set ?_ GE260.out | refine below_set ?_ GE281.out | refine bq ?_⟩⟩
           ·
            rw [if_neg c73] at H
            have c73b0 : (t288 == t274) = false := beq_eq_false_iff_ne.mpr c73
            have c73b1 : (t288 != t274) = true := bne_iff_ne.mpr c73
            have H' := Aside0.mk H
            clear H
            obtain ⟨Ao76, co76, eo76⟩ := Kd.R_slice HO_13.out
            subst eo76
            obtain ⟨Ao77, co77, eo77⟩ := Kd.R_slice HO_8.out
            subst eo77
            go_wp2_with (first | (go_at_call 26; (with_reducible refine (laws_eqIntS.calls kj19 _ _ t285 _ _ t271 true _ ?side1 ?side2 ?side3 ?side4 A71.out).mono ?_); (case side1 => exact rc (Kd.R_reads' HO_13.out).2.2); (case side2 => exact (Kd.R_reads' HO_13.out).2.1); (case side3 => exact rc (Kd.R_reads' HO_8.out).2.2); (case side4 => exact (Kd.R_reads' HO_8.out).2.1); rintro e w' ⟨rfl, ⟨nd, rfl⟩⟩))
            go_meet
            case rel => exact ⟨_, (true), (by first | rfl | (simp; done) | (simp [*]; done)), H', ⟨by have := HJ19.out; first | omega | exact Nat.le_refl _⟩, ⟨rl HO_8.out⟩, ⟨rl HO_13.out⟩, ⟨by (repeat apply rl1); exact Kd.R_mono HO_282002.out (fun _ hk => trivial)⟩, ⟨bk BK260.out⟩, ⟨bk BK281.out⟩, ⟨by repeat with_reducible first | exact bl HB.out | refine below_set ?_ GE260.out | refine below_set ?_ GE281.out | refine bq ?_⟩⟩
          ·
           replace c72 := Bool.eq_false_iff.mpr c72
           subst c72
           have H1 : (laws_FnExactRunJobs.j1 kj19 l1 a2 t271 t274 t275 t285 true a0_0 a0_1 l0_2) = some r := by rw [if_neg (show ¬ (false = true) by decide)] at H; exact H
           clear H
           have H := H1
           clear H1
           have H' := Aside0.mk H
           clear H
           obtain ⟨Ao78, co78, eo78⟩ := Kd.R_slice HO_13.out
           subst eo78
           obtain ⟨Ao79, co79, eo79⟩ := Kd.R_slice HO_8.out
           subst eo79
           go_wp2_with (first | (go_at_call 26; (with_reducible refine (laws_eqIntS.calls kj19 _ _ t285 _ _ t271 false _ ?side1 ?side2 ?side3 ?side4 A71.out).mono ?_); (case side1 => exact rc (Kd.R_reads' HO_13.out).2.2); (case side2 => exact (Kd.R_reads' HO_13.out).2.1); (case side3 => exact rc (Kd.R_reads' HO_8.out).2.2); (case side4 => exact (Kd.R_reads' HO_8.out).2.1); rintro e w' ⟨rfl, ⟨nd, rfl⟩⟩))
           go_meet
           case rel => exact ⟨_, (true), (by first | rfl | (simp; done) | (simp [*]; done)), H', ⟨by have := HJ19.out; first | omega | exact Nat.le_refl _⟩, ⟨rl HO_8.out⟩, ⟨rl HO_13.out⟩, ⟨by (repeat apply rl1); exact Kd.R_mono HO_282002.out (fun _ hk => trivial)⟩, ⟨bk BK260.out⟩, ⟨bk BK281.out⟩, ⟨by repeat with_reducible first | exact bl HB.out | refine below_set ?_ GE260.out | refine below_set ?_ GE281.out | refine bq ?_⟩⟩
        case rest =>
         clear HC58
         try clear c1
         try clear c2
         try clear p2
         try clear c3
         try clear c4
         try clear c5
         try clear c5b0
         try clear c6
         try clear c7
         try clear c9
         try clear c10
         try clear c10b0
         try clear c11
         try clear c13
         try clear c20
         try clear c22
         try clear c23
         try clear c24
         try clear c25
         try clear c26
         try clear c27
         try clear c28
         try clear c33
         try clear c41
         try clear c42
         try clear c42b0
         try clear c42b1
         try clear c49
         try clear c52
         try clear c55
         try clear c66
         try clear c70
         try clear c70b0
         try clear c72
         try clear c73
         try clear c73b0
         try clear c73b1
         try clear hcz12_0
         try clear hcz12_1
         try clear hcz12_2
         try clear hcz22_0
         try clear hcz22_1
         try clear hcz22_2
         try clear hcz24_0
         try clear hcz24_1
         try clear hcz24_2
         try clear hcz30_0
         try clear hcz30_1
         try clear hcz30_2
         try clear hcz34_0
         try clear hcz34_1
         try clear hcz34_2
         try clear hcz37_0
         try clear hcz37_1
         try clear hcz37_2
         try clear hcz67_0
         try clear hcz67_1
         try clear hcz67_2
         try clear hcz7_0
         try clear hcz7_1
         try clear hcz7_2
         try clear hfz12_0
         try clear hfz12_1
         try clear hfz12_2
         try clear hfz22_0
         try clear hfz22_1
         try clear hfz22_2
         try clear hfz24_0
         try clear hfz24_1
         try clear hfz24_2
         try clear hfz30_0
         try clear hfz30_1
         try clear hfz30_2
         try clear hfz34_0
         try clear hfz34_1
         try clear hfz34_2
         try clear hfz37_0
         try clear hfz37_1
         try clear hfz37_2
         try clear hfz67_0
         try clear hfz67_1
         try clear hfz67_2
         try clear hfz7_0
         try clear hfz7_1
         try clear hfz7_2
         try clear p2
         obtain ⟨kq, x101_57, rfl, HA, HJ57, HO_8, HO_13, HO_282002, BK260, BK281, HB⟩ := hcut
         have hl282002_57 := (Kd.R_reads' HO_282002.out).1
         rw [hl282002_57] at HO_282002
         (try simp only [hl282002_57])
         (try simp only [hl282002_57] at BK260)
         (try simp only [hl282002_57] at BK281)
         (try simp only [hl282002_57] at HO_8)
         (try simp only [hl282002_57] at HO_13)
         cases kq with
         | zero => exact absurd HA.out (by simp [laws_FnExactRunJobs.j1])
         | succ kj57 =>
          have H := HA.out
          clear HA
          simp only [laws_FnExactRunJobs.j1] at H
          by_cases c80 : x101_57 = true
          ·
           subst c80
           have H1 : (some false) = some r := by rw [if_pos rfl] at H; exact H
           clear H
           have H := H1
           clear H1
           obtain rfl := Option.some.inj H
           go_wp2
           go_ret
           exact ⟨by first | rfl | (simp [errW_none, errW_some] <;> rfl) | (simp [*, errW_none, errW_some] <;> rfl), by repeat with_reducible first | exact bl HB.out | refine below_set ?_ GE260.out | refine below_set ?_ GE281.out | refine bq ?_⟩
          ·
           replace c80 := Bool.eq_false_iff.mpr c80
           subst c80
           have H1 : ((laws_markIntS.f kj57 t285 1).bind fun bt306 => ((laws_heldIntS.f kj57 bt306.2 1).bind fun t308 => (if t308 < 0 then (some false) else (if t308 = bt306.1 then ((laws_toPlan17.f kj57 a0_0 a0_1 l0_2).bind fun bt309 => ((laws_toJobS.f kj57 l1).bind fun t314 => ((impl_RunJobs.f kj57 bt309.1 bt309.2.1 bt309.2.2 t314 a2).bind fun bt317 => ((laws_eqIntS.f kj57 bt317.1 t271).bind fun t322 => (if t322 = true then (if bt317.2.1 = t274 then (laws_FnExactRunJobs.j2 kj57 bt306.2 bt306.1 (bt317.2.2 != t275)) else (laws_FnExactRunJobs.j2 kj57 bt306.2 bt306.1 true)) else (laws_FnExactRunJobs.j2 kj57 bt306.2 bt306.1 true)))))) else (some false))))) = some r := by rw [if_neg (show ¬ (false = true) by decide)] at H; exact H
           clear H
           have H := H1
           clear H1
           replace H := Option.bind_eq_some_iff.mp H
           obtain ⟨⟨t306, t307⟩, A810, H⟩ := H
           replace H : ((laws_heldIntS.f kj57 t307 1).bind fun t308 => (if t308 < 0 then (some false) else (if t308 = t306 then ((laws_toPlan17.f kj57 a0_0 a0_1 l0_2).bind fun bt309 => ((laws_toJobS.f kj57 l1).bind fun t314 => ((impl_RunJobs.f kj57 bt309.1 bt309.2.1 bt309.2.2 t314 a2).bind fun bt317 => ((laws_eqIntS.f kj57 bt317.1 t271).bind fun t322 => (if t322 = true then (if bt317.2.1 = t274 then (laws_FnExactRunJobs.j2 kj57 t307 t306 (bt317.2.2 != t275)) else (laws_FnExactRunJobs.j2 kj57 t307 t306 true)) else (laws_FnExactRunJobs.j2 kj57 t307 t306 true)))))) else (some false)))) = some r := H
           have A81 := Aside0.mk A810
           clear A810
           replace H := Option.bind_eq_some_iff.mp H
           obtain ⟨t308, A820, H⟩ := H
           replace H : (if t308 < 0 then (some false) else (if t308 = t306 then ((laws_toPlan17.f kj57 a0_0 a0_1 l0_2).bind fun bt309 => ((laws_toJobS.f kj57 l1).bind fun t314 => ((impl_RunJobs.f kj57 bt309.1 bt309.2.1 bt309.2.2 t314 a2).bind fun bt317 => ((laws_eqIntS.f kj57 bt317.1 t271).bind fun t322 => (if t322 = true then (if bt317.2.1 = t274 then (laws_FnExactRunJobs.j2 kj57 t307 t306 (bt317.2.2 != t275)) else (laws_FnExactRunJobs.j2 kj57 t307 t306 true)) else (laws_FnExactRunJobs.j2 kj57 t307 t306 true)))))) else (some false))) = some r := H
           have A82 := Aside0.mk A820
           clear A820
           by_cases c83 : t308 < 0
           ·
            rw [if_pos c83] at H
            have c83b0 : decide (t308 < 0) = true := decide_eq_true c83
            clear c83
            obtain rfl := Option.some.inj H
            obtain ⟨Ao84, co84, eo84⟩ := Kd.R_slice HO_13.out
            subst eo84
            go_wp2_with (first | ((with_reducible refine gate_callee (f := 29) rfl ?_); refine goesL_ (some 104) rfl rfl Try.func29 (by kernel_rfl) rfl #[.slice Ao84 t285.length co84, .int .i64 1] rfl (by (try simp only [am_]); first | done | rfl) ?_; (with_reducible refine (laws_markIntS.calls kj57 (fun k_ => some k_ = (.slice Ao84 t285.length co84 : Value).ownBlock) (.slice Ao84 t285.length co84) t285 1 t306 t307 w _ ?side1 ?side2 A81.out).mono ?_); (case side1 => repeat (first | (with_reducible first | exact HB.out | apply below_alloc | apply pw_below_drewN | apply below_drew1 | refine below_set ?_ GE260.out | refine below_set ?_ GE281.out) | exact HB.out)); (case side2 => exact Kd.R_tight rfl HO_13.out); rintro e w85 ⟨rfl, hy0, hb, hkp⟩; refine ⟨_, rfl, ?_⟩; have n0_ := Aside0.mk (Kd.R_mono (ok' := fun k_ => some k_ ≠ (.slice Ao84 t285.length co84 : Value).ownBlock) (Kd.R_keptB (HO_8.out) hkp (fun k_ hk_ hs_ => (hk_) hs_)) (fun k_ hk_ => hk_.1)); have n1_ := Aside0.mk (Kd.R_reok rfl hy0 (fun k_ e_ => HO_13.out.1 k_ e_)); have n2_ := Aside0.mk (Kd.R_mono (ok' := fun k_ => True) (Kd.R_keptB ((Kd.R_apart' HO_282002.out (Kd.R_typed HO_13.out) (by decide))) hkp (fun k_ hk_ hs_ => (hk_.2) hs_)) (fun k_ hk_ => trivial)); have n3_ := Aside0.mk (blk_kept (bk BK260.out) hkp (fun hs_ => (fun e_ => (Kd.R_ne HO_13.out BK260.out (by decide)) e_) hs_)); have n4_ := Aside0.mk (blk_kept (bk BK281.out) hkp (fun hs_ => (fun e_ => (Kd.R_ne HO_13.out BK281.out (by decide)) e_) hs_)); have n5_ := Aside0.mk (hb); clear HO_8; clear HO_13; clear HO_282002; clear BK260; clear BK281; clear HB; have HO_8 := n0_; have HO_13 := n1_; have HO_282002 := n2_; have BK260 := n3_; have BK281 := n4_; have HB := n5_; clear n0_ n1_ n2_ n3_ n4_ n5_; (try clear hb); (try clear hkp); (try clear hy0)) | ((with_reducible refine gate_callee (f := 30) rfl ?_); refine goesL_ (some 107) rfl rfl Try.func30 (by kernel_rfl) rfl #[.slice Ao84 t307.length co84, .int .i64 1] rfl (by (try simp only [List.map_toArray, List.map_cons, List.map_nil]); first | done | (rw [show t307.length = t285.length from (Kd.R_reads' HO_13.out).1.symm] <;> rfl) | rfl | (simp only [List.length_drop, List.length_take]; rfl)) ?_; (with_reducible refine (laws_heldIntS.calls kj57 _ _ t307 1 t308 _ ?side1 ?side2 A82.out).mono ?_); (case side1 => exact rc (Kd.R_reads' HO_13.out).2.2); (case side2 => rw [show t307.length = t285.length from (Kd.R_reads' HO_13.out).1.symm]; exact (Kd.R_reads' HO_13.out).2.1); rintro e w' ⟨rfl, ⟨nd, rfl⟩⟩; refine ⟨_, rfl, ?_⟩))
            go_ret
            exact ⟨by first | rfl | (simp [errW_none, errW_some] <;> rfl) | (simp [*, errW_none, errW_some] <;> rfl), by repeat with_reducible first | exact bl HB.out | refine below_set ?_ GE260.out | refine below_set ?_ GE281.out | refine bq ?_⟩
           ·
            rw [if_neg c83] at H
            have c83b0 : decide (t308 < 0) = false := decide_eq_false c83
            clear c83
            by_cases c86 : t308 = t306
            ·
             rw [if_pos c86] at H
             have c86b0 : (t308 == t306) = true := beq_iff_eq.mpr c86
             have c86b1 : (t308 != t306) = false := bne_eq_false_iff_eq.mpr c86
             clear c86
             replace H := Option.bind_eq_some_iff.mp H
             obtain ⟨⟨t309, t310, t311⟩, A870, H⟩ := H
             replace H : ((laws_toJobS.f kj57 l1).bind fun t314 => ((impl_RunJobs.f kj57 t309 t310 t311 t314 a2).bind fun bt317 => ((laws_eqIntS.f kj57 bt317.1 t271).bind fun t322 => (if t322 = true then (if bt317.2.1 = t274 then (laws_FnExactRunJobs.j2 kj57 t307 t306 (bt317.2.2 != t275)) else (laws_FnExactRunJobs.j2 kj57 t307 t306 true)) else (laws_FnExactRunJobs.j2 kj57 t307 t306 true))))) = some r := H
             have A87 := Aside0.mk A870
             clear A870
             replace H := Option.bind_eq_some_iff.mp H
             obtain ⟨t314, A880, H⟩ := H
             replace H : ((impl_RunJobs.f kj57 t309 t310 t311 t314 a2).bind fun bt317 => ((laws_eqIntS.f kj57 bt317.1 t271).bind fun t322 => (if t322 = true then (if bt317.2.1 = t274 then (laws_FnExactRunJobs.j2 kj57 t307 t306 (bt317.2.2 != t275)) else (laws_FnExactRunJobs.j2 kj57 t307 t306 true)) else (laws_FnExactRunJobs.j2 kj57 t307 t306 true)))) = some r := H
             have A88 := Aside0.mk A880
             clear A880
             replace H := Option.bind_eq_some_iff.mp H
             obtain ⟨⟨t317, t320, t321⟩, A890, H⟩ := H
             replace H : ((laws_eqIntS.f kj57 t317 t271).bind fun t322 => (if t322 = true then (if t320 = t274 then (laws_FnExactRunJobs.j2 kj57 t307 t306 (t321 != t275)) else (laws_FnExactRunJobs.j2 kj57 t307 t306 true)) else (laws_FnExactRunJobs.j2 kj57 t307 t306 true))) = some r := H
             have A89 := Aside0.mk A890
             clear A890
             have HC90 := Aside0.mk H
             clear H
             obtain ⟨Ao91, co91, eo91⟩ := Kd.R_slice HO_13.out
             subst eo91
             go_upto_region 32 with (first | ((with_reducible refine gate_callee (f := 29) rfl ?_); refine goesL_ (some 104) rfl rfl Try.func29 (by kernel_rfl) rfl #[.slice Ao91 t285.length co91, .int .i64 1] rfl (by (try simp only [am_]); first | done | rfl) ?_; (with_reducible refine (laws_markIntS.calls kj57 (fun k_ => some k_ = (.slice Ao91 t285.length co91 : Value).ownBlock) (.slice Ao91 t285.length co91) t285 1 t306 t307 w _ ?side1 ?side2 A81.out).mono ?_); (case side1 => repeat (first | (with_reducible first | exact HB.out | apply below_alloc | apply pw_below_drewN | apply below_drew1 | refine below_set ?_ GE260.out | refine below_set ?_ GE281.out) | exact HB.out)); (case side2 => exact Kd.R_tight rfl HO_13.out); rintro e w92 ⟨rfl, hy0, hb, hkp⟩; refine ⟨_, rfl, ?_⟩; have n0_ := Aside0.mk (Kd.R_mono (ok' := fun k_ => some k_ ≠ (.slice Ao91 t285.length co91 : Value).ownBlock) (Kd.R_keptB (HO_8.out) hkp (fun k_ hk_ hs_ => (hk_) hs_)) (fun k_ hk_ => hk_.1)); have n1_ := Aside0.mk (Kd.R_reok rfl hy0 (fun k_ e_ => HO_13.out.1 k_ e_)); have n2_ := Aside0.mk (Kd.R_mono (ok' := fun k_ => True) (Kd.R_keptB ((Kd.R_apart' HO_282002.out (Kd.R_typed HO_13.out) (by decide))) hkp (fun k_ hk_ hs_ => (hk_.2) hs_)) (fun k_ hk_ => trivial)); have n3_ := Aside0.mk (blk_kept (bk BK260.out) hkp (fun hs_ => (fun e_ => (Kd.R_ne HO_13.out BK260.out (by decide)) e_) hs_)); have n4_ := Aside0.mk (blk_kept (bk BK281.out) hkp (fun hs_ => (fun e_ => (Kd.R_ne HO_13.out BK281.out (by decide)) e_) hs_)); have n5_ := Aside0.mk (hb); clear HO_8; clear HO_13; clear HO_282002; clear BK260; clear BK281; clear HB; have HO_8 := n0_; have HO_13 := n1_; have HO_282002 := n2_; have BK260 := n3_; have BK281 := n4_; have HB := n5_; clear n0_ n1_ n2_ n3_ n4_ n5_; (try clear hb); (try clear hkp); (try clear hy0)) | ((with_reducible refine gate_callee (f := 30) rfl ?_); refine goesL_ (some 107) rfl rfl Try.func30 (by kernel_rfl) rfl #[.slice Ao91 t307.length co91, .int .i64 1] rfl (by (try simp only [List.map_toArray, List.map_cons, List.map_nil]); first | done | (rw [show t307.length = t285.length from (Kd.R_reads' HO_13.out).1.symm] <;> rfl) | rfl | (simp only [List.length_drop, List.length_take]; rfl)) ?_; (with_reducible refine (laws_heldIntS.calls kj57 _ _ t307 1 t308 _ ?side1 ?side2 A82.out).mono ?_); (case side1 => exact rc (Kd.R_reads' HO_13.out).2.2); (case side2 => rw [show t307.length = t285.length from (Kd.R_reads' HO_13.out).1.symm]; exact (Kd.R_reads' HO_13.out).2.1); rintro e w' ⟨rfl, ⟨nd, rfl⟩⟩; refine ⟨_, rfl, ?_⟩; have hnb93 := NB260_281.out; have hnc93 := NB281_260.out; have hcz94_0 := ck (v := .int .i64 a0_0) BK260.out 0 rfl; have hcz94_1 := ck (v := .int .i64 a0_1) BK260.out 1 rfl; have hcz94_2 := ck (v := .slice A0_2 l0_2.length c0_2) BK260.out 2 rfl; have hfz94_0 := blk_frozen BK260.out 0; have hfz94_1 := blk_frozen BK260.out 1; have hfz94_2 := blk_frozen BK260.out 2) | ((with_reducible refine gate_callee (f := 11) rfl ?_); refine goesL_ (some 115) rfl rfl Try.func11 (by kernel_rfl) rfl #[.agg #[.int .i64 a0_0, .int .i64 a0_1, .slice A0_2 l0_2.length c0_2]] rfl (by (try simp only [am_]); first | done | rfl) ?_; (with_reducible refine (laws_toPlan17.calls kj57 a0_0 a0_1 _ _ l0_2 t309 t310 t311 _ ?side1 ?side2 A87.out).mono ?_); (case side1 => repeat (first | exact (Kd.C_below HR0_2.out (by repeat with_reducible first | exact bl HB.out | refine below_set ?_ GE260.out | refine below_set ?_ GE281.out | refine bq ?_)) | (with_reducible refine Kd.C_alloc ?_ _) | (with_reducible refine Kd.C_drewN ?_ _) | (with_reducible refine Kd.C_drew ?_))); (case side2 => exact HC0_2.out); rintro e w95 ⟨v312, rfl, ho0, hb⟩; refine ⟨_, rfl, ?_⟩; have n0_ := Aside0.mk (Kd.R_below (rl HO_8.out) hb); have n1_ := Aside0.mk (Kd.R_below (rl HO_13.out) hb); have n2_ := Aside0.mk (Kd.R_elder' (rl HO_282002.out) (Kd.R_base ho0) hb); have n3_ := Aside0.mk (Kd.R_lower (Kd.R_new' ho0 (Kd.R_lt (by (repeat apply rl1); exact HO_282002.out))) (below_size (by repeat with_reducible first | exact bl HB.out | refine below_set ?_ GE260.out | refine below_set ?_ GE281.out | refine bq ?_))); have n4_ := Aside0.mk (blk_below (bk BK260.out) hb); have n5_ := Aside0.mk (blk_below (bk BK281.out) hb); have n6_ := Aside0.mk (below_step (by repeat with_reducible first | exact bl HB.out | refine below_set ?_ GE260.out | refine below_set ?_ GE281.out | refine bq ?_) hb); clear HO_8; clear HO_13; clear HO_282002; clear BK260; clear BK281; clear HB; have HO_8 := n0_; have HO_13 := n1_; have HO_282002 := n2_; have HO313 := n3_; have BK260 := n4_; have BK281 := n5_; have HB := n6_; clear n0_ n1_ n2_ n3_ n4_ n5_ n6_; (try clear hb); (try clear hb2); (try clear hk); (try clear hi); (try clear ho0)) | ((with_reducible refine gate_callee (f := 24) rfl ?_); refine goesL_ (some 117) rfl rfl Try.func24 (by kernel_rfl) rfl #[.slice A1 l1.length c1] rfl (by (try simp only [am_]); first | done | rfl) ?_; (with_reducible refine (laws_toJobS.calls kj57 _ _ l1 t314 _ ?side1 ?side2 A88.out).mono ?_); (case side1 => exact rc (Kd.C_below HR1.out HB.out)); (case side2 => exact HC1.out); rintro e w96 ⟨v315, rfl, ho0, hb⟩; refine ⟨_, rfl, ?_⟩; have n0_ := Aside0.mk (Kd.R_below (rl HO_8.out) hb); have n1_ := Aside0.mk (Kd.R_below (rl HO_13.out) hb); have n2_ := Aside0.mk (Kd.R_below (rl HO_282002.out) hb); have n3_ := Aside0.mk (Kd.R_below (rl HO313.out) hb); have n4_ := Aside0.mk (Kd.R_lower ho0 (below_size (by repeat with_reducible first | exact bl HB.out | refine below_set ?_ GE260.out | refine below_set ?_ GE281.out | refine bq ?_))); have n5_ := Aside0.mk (blk_below (bk BK260.out) hb); have n6_ := Aside0.mk (blk_below (bk BK281.out) hb); have n7_ := Aside0.mk (below_step (by repeat with_reducible first | exact bl HB.out | refine below_set ?_ GE260.out | refine below_set ?_ GE281.out | refine bq ?_) hb); clear HO_8; clear HO_13; clear HO_282002; clear HO313; clear BK260; clear BK281; clear HB; have HO_8 := n0_; have HO_13 := n1_; have HO_282002 := n2_; have HO313 := n3_; have HO316 := n4_; have BK260 := n5_; have BK281 := n6_; have HB := n7_; clear n0_ n1_ n2_ n3_ n4_ n5_ n6_ n7_; (try clear hb); (try clear hb2); (try clear hk); (try clear hi); (try clear ho0); obtain ⟨Ao97, co97, eo97⟩ := Kd.R_slice HO313.out; subst eo97; obtain ⟨Ao98, co98, eo98⟩ := Kd.R_slice HO316.out; subst eo98) | ((with_reducible refine gate_callee (f := 25) rfl ?_); refine goesL_ (some 119) rfl rfl Try.func25 (by kernel_rfl) rfl #[.agg #[.int .i64 t309, .int .i64 t310, .slice Ao97 t311.length co97], .slice Ao98 t314.length co98, .int .i64 a2] rfl (by (try simp only [am_]); first | done | rfl) ?_; (with_reducible refine (impl_RunJobs.calls kj57 t309 t310 _ _ t311 _ _ t314 a2 t317 t320 t321 _ ?side1 ?side2 ?side3 ?side4 A89.out).mono ?_); (case side1 => exact rc (Kd.R_reads' HO313.out).2.2); (case side2 => exact (Kd.R_reads' HO313.out).2.1); (case side3 => exact rc (Kd.R_reads' HO316.out).2.2); (case side4 => exact (Kd.R_reads' HO316.out).2.1); rintro e w99 ⟨v318, rfl, ho0, hb⟩; refine ⟨_, rfl, ?_⟩; have n0_ := Aside0.mk (Kd.R_elder' (rl HO_8.out) (Kd.R_base ho0) hb); have n1_ := Aside0.mk (Kd.R_elder' (rl HO_13.out) (Kd.R_base ho0) hb); have n2_ := Aside0.mk (Kd.R_below (rl HO_282002.out) hb); have n3_ := Aside0.mk (Kd.R_below (rl HO313.out) hb); have n4_ := Aside0.mk (Kd.R_below (rl HO316.out) hb); have n5_ := Aside0.mk (Kd.R_lower (Kd.R_new' (Kd.R_new' ho0 (Kd.R_lt (by (repeat apply rl1); exact HO_8.out))) (Kd.R_lt (by (repeat apply rl1); exact HO_13.out))) (below_size (by repeat with_reducible first | exact bl HB.out | refine below_set ?_ GE260.out | refine below_set ?_ GE281.out | refine bq ?_))); have n6_ := Aside0.mk (blk_below (bk BK260.out) hb); have n7_ := Aside0.mk (blk_below (bk BK281.out) hb); have n8_ := Aside0.mk (below_step (by repeat with_reducible first | exact bl HB.out | refine below_set ?_ GE260.out | refine below_set ?_ GE281.out | refine bq ?_) hb); clear HO_8; clear HO_13; clear HO_282002; clear HO313; clear HO316; clear BK260; clear BK281; clear HB; have HO_8 := n0_; have HO_13 := n1_; have HO_282002 := n2_; have HO313 := n3_; have HO316 := n4_; have HO319 := n5_; have BK260 := n6_; have BK281 := n7_; have HB := n8_; clear n0_ n1_ n2_ n3_ n4_ n5_ n6_ n7_ n8_; (try clear hb); (try clear hb2); (try clear hk); (try clear hi); (try clear ho0)))
             (try simp only [Act.put, List.setIfInBounds_toArray, List.set_cons_zero, List.set_cons_succ])
             go_cut [136] (fun v136 wc => ∃ (kq : Nat) (x136_89 : Bool), v136 = .bool x136_89 ∧ Aside0 (laws_FnExactRunJobs.j2 kq t307 t306 x136_89 = some r) ∧ Aside0 (kq ≤ kj57) ∧ Aside0 (Kd.R (Kd.int .i64) 3 wc w.heap.size (fun _ => True) (.slice Ao91 t285.length co91) t307) ∧ Aside0 (Kd.R k62 62 wc w.heap.size (fun _ => True) (.slice Ao35 t302.length co35) t302) ∧ Aside0 (wc.heap[gb260]? = some (.cells #[.int .i64 a0_0, .int .i64 a0_1, (.slice A0_2 l0_2.length c0_2)] 24 (0, 0))) ∧ Aside0 (wc.heap[gb281]? = some (.cells #[.int .i64 t276, .int .i64 t277, (.slice Ao35 t302.length co35)] 29 (0, 0))) ∧ Aside0 (Below w.heap.size w wc))
             case first =>
              have H := HC90.out
              clear HC90
              replace H := Option.bind_eq_some_iff.mp H
              obtain ⟨t322, A1000, H⟩ := H
              replace H : (if t322 = true then (if t320 = t274 then (laws_FnExactRunJobs.j2 kj57 t307 t306 (t321 != t275)) else (laws_FnExactRunJobs.j2 kj57 t307 t306 true)) else (laws_FnExactRunJobs.j2 kj57 t307 t306 true)) = some r := H
              have A100 := Aside0.mk A1000
              clear A1000
              by_cases c101 : t322 = true
              ·
               subst c101
               have H1 : (if t320 = t274 then (laws_FnExactRunJobs.j2 kj57 t307 t306 (t321 != t275)) else (laws_FnExactRunJobs.j2 kj57 t307 t306 true)) = some r := by rw [if_pos rfl] at H; exact H
               clear H
               have H := H1
               clear H1
               by_cases c102 : t320 = t274
               ·
                rw [if_pos c102] at H
                have c102b0 : (t320 == t274) = true := beq_iff_eq.mpr c102
                have c102b1 : (t320 != t274) = false := bne_eq_false_iff_eq.mpr c102
                clear c102
                (first | rw [c102b0] | (simp only [i64_w, i32_w]; rw [c102b0]) | skip)
                have H' := Aside0.mk H
                clear H
                obtain ⟨Ao103, co103, eo103⟩ := Kd.R_slice HO319.out
                subst eo103
                obtain ⟨Ao104, co104, eo104⟩ := Kd.R_slice HO_8.out
                subst eo104
                go_wp2_with (first | ((with_reducible refine gate_callee (f := 26) rfl ?_); refine goesL_ (some 125) rfl rfl Try.func26 (by kernel_rfl) rfl #[.slice Ao103 t317.length co103, .slice Ao104 t271.length co104] rfl (by (try simp only [am_]); first | done | rfl) ?_; (with_reducible refine (laws_eqIntS.calls kj57 _ _ t317 _ _ t271 true _ ?side1 ?side2 ?side3 ?side4 A100.out).mono ?_); (case side1 => exact rc (Kd.R_reads' HO319.out).2.2); (case side2 => exact (Kd.R_reads' HO319.out).2.1); (case side3 => exact rc (Kd.R_reads' HO_8.out).2.2); (case side4 => exact (Kd.R_reads' HO_8.out).2.1); rintro e w' ⟨rfl, ⟨nd, rfl⟩⟩; refine ⟨_, rfl, ?_⟩))
                go_meet
                case rel => exact ⟨_, ((t321 != t275)), (by first | rfl | (simp; done) | (simp [*]; done)), H', ⟨by have := HJ19.out; have := HJ57.out; first | omega | exact Nat.le_refl _⟩, ⟨by (try simp only [hl282002_57]); (repeat apply rl1); exact Kd.R_mono HO_13.out (fun _ hk => trivial)⟩, ⟨by (try simp only [hl282002_57]); (repeat apply rl1); exact Kd.R_mono HO_282002.out (fun _ hk => trivial)⟩, ⟨by (try simp only [hl282002_57]); (repeat refine bk1 ?_); exact BK260.out⟩, ⟨by (try simp only [hl282002_57]); (repeat refine bk1 ?_); exact BK281.out⟩, ⟨by repeat with_reducible first | exact bl HB.out | refine below_set ?_ GE260.out | refine below_set ?_ GE281.out | refine bq ?_⟩⟩
               ·
                rw [if_neg c102] at H
                have c102b0 : (t320 == t274) = false := beq_eq_false_iff_ne.mpr c102
                have c102b1 : (t320 != t274) = true := bne_iff_ne.mpr c102
                (first | rw [c102b0] | (simp only [i64_w, i32_w]; rw [c102b0]) | skip)
                have H' := Aside0.mk H
                clear H
                obtain ⟨Ao105, co105, eo105⟩ := Kd.R_slice HO319.out
                subst eo105
                obtain ⟨Ao106, co106, eo106⟩ := Kd.R_slice HO_8.out
                subst eo106
                go_wp2_with (first | ((with_reducible refine gate_callee (f := 26) rfl ?_); refine goesL_ (some 125) rfl rfl Try.func26 (by kernel_rfl) rfl #[.slice Ao105 t317.length co105, .slice Ao106 t271.length co106] rfl (by (try simp only [am_]); first | done | rfl) ?_; (with_reducible refine (laws_eqIntS.calls kj57 _ _ t317 _ _ t271 true _ ?side1 ?side2 ?side3 ?side4 A100.out).mono ?_); (case side1 => exact rc (Kd.R_reads' HO319.out).2.2); (case side2 => exact (Kd.R_reads' HO319.out).2.1); (case side3 => exact rc (Kd.R_reads' HO_8.out).2.2); (case side4 => exact (Kd.R_reads' HO_8.out).2.1); rintro e w' ⟨rfl, ⟨nd, rfl⟩⟩; refine ⟨_, rfl, ?_⟩))
                go_meet
                case rel => exact ⟨_, (true), (by first | rfl | (simp; done) | (simp [*]; done)), H', ⟨by have := HJ19.out; have := HJ57.out; first | omega | exact Nat.le_refl _⟩, ⟨by (try simp only [hl282002_57]); (repeat apply rl1); exact Kd.R_mono HO_13.out (fun _ hk => trivial)⟩, ⟨by (try simp only [hl282002_57]); (repeat apply rl1); exact Kd.R_mono HO_282002.out (fun _ hk => trivial)⟩, ⟨by (try simp only [hl282002_57]); (repeat refine bk1 ?_); exact BK260.out⟩, ⟨by (try simp only [hl282002_57]); (repeat refine bk1 ?_); exact BK281.out⟩, ⟨by repeat with_reducible first | exact bl HB.out | refine below_set ?_ GE260.out | refine below_set ?_ GE281.out | refine bq ?_⟩⟩
              ·
               replace c101 := Bool.eq_false_iff.mpr c101
               subst c101
               have H1 : (laws_FnExactRunJobs.j2 kj57 t307 t306 true) = some r := by rw [if_neg (show ¬ (false = true) by decide)] at H; exact H
               clear H
               have H := H1
               clear H1
               have H' := Aside0.mk H
               clear H
               obtain ⟨Ao107, co107, eo107⟩ := Kd.R_slice HO319.out
               subst eo107
               obtain ⟨Ao108, co108, eo108⟩ := Kd.R_slice HO_8.out
               subst eo108
               go_wp2_with (first | ((with_reducible refine gate_callee (f := 26) rfl ?_); refine goesL_ (some 125) rfl rfl Try.func26 (by kernel_rfl) rfl #[.slice Ao107 t317.length co107, .slice Ao108 t271.length co108] rfl (by (try simp only [am_]); first | done | rfl) ?_; (with_reducible refine (laws_eqIntS.calls kj57 _ _ t317 _ _ t271 false _ ?side1 ?side2 ?side3 ?side4 A100.out).mono ?_); (case side1 => exact rc (Kd.R_reads' HO319.out).2.2); (case side2 => exact (Kd.R_reads' HO319.out).2.1); (case side3 => exact rc (Kd.R_reads' HO_8.out).2.2); (case side4 => exact (Kd.R_reads' HO_8.out).2.1); rintro e w' ⟨rfl, ⟨nd, rfl⟩⟩; refine ⟨_, rfl, ?_⟩))
               go_meet
               case rel => exact ⟨_, (true), (by first | rfl | (simp; done) | (simp [*]; done)), H', ⟨by have := HJ19.out; have := HJ57.out; first | omega | exact Nat.le_refl _⟩, ⟨by (try simp only [hl282002_57]); (repeat apply rl1); exact Kd.R_mono HO_13.out (fun _ hk => trivial)⟩, ⟨by (try simp only [hl282002_57]); (repeat apply rl1); exact Kd.R_mono HO_282002.out (fun _ hk => trivial)⟩, ⟨by (try simp only [hl282002_57]); (repeat refine bk1 ?_); exact BK260.out⟩, ⟨by (try simp only [hl282002_57]); (repeat refine bk1 ?_); exact BK281.out⟩, ⟨by repeat with_reducible first | exact bl HB.out | refine below_set ?_ GE260.out | refine below_set ?_ GE281.out | refine bq ?_⟩⟩
             case rest =>
              clear HC90
              try clear c1
              try clear c2
              try clear p2
              try clear c3
              try clear c4
              try clear c5
              try clear c5b0
              try clear c6
              try clear c7
              try clear c8
              try clear c9
              try clear c10
              try clear c10b0
              try clear c11
              try clear c13
              try clear c20
              try clear c22
              try clear c23
              try clear c24
              try clear c25
              try clear c26
              try clear c27
              try clear c28
              try clear c29
              try clear c30
              try clear c33
              try clear c41
              try clear c42
              try clear c42b0
              try clear c42b1
              try clear c49
              try clear c52
              try clear c55
              try clear c66
              try clear c70
              try clear c70b0
              try clear c72
              try clear c73
              try clear c73b0
              try clear c73b1
              try clear c80
              try clear c83
              try clear c83b0
              try clear c86
              try clear c86b0
              try clear c86b1
              try clear c93
              try clear c101
              try clear c102
              try clear c102b0
              try clear c102b1
              try clear hcz12_0
              try clear hcz12_1
              try clear hcz12_2
              try clear hcz22_0
              try clear hcz22_1
              try clear hcz22_2
              try clear hcz24_0
              try clear hcz24_1
              try clear hcz24_2
              try clear hcz30_0
              try clear hcz30_1
              try clear hcz30_2
              try clear hcz34_0
              try clear hcz34_1
              try clear hcz34_2
              try clear hcz37_0
              try clear hcz37_1
              try clear hcz37_2
              try clear hcz67_0
              try clear hcz67_1
              try clear hcz67_2
              try clear hcz7_0
              try clear hcz7_1
              try clear hcz7_2
              try clear hcz94_0
              try clear hcz94_1
              try clear hcz94_2
              try clear hfz12_0
              try clear hfz12_1
              try clear hfz12_2
              try clear hfz22_0
              try clear hfz22_1
              try clear hfz22_2
              try clear hfz24_0
              try clear hfz24_1
              try clear hfz24_2
              try clear hfz30_0
              try clear hfz30_1
              try clear hfz30_2
              try clear hfz34_0
              try clear hfz34_1
              try clear hfz34_2
              try clear hfz37_0
              try clear hfz37_1
              try clear hfz37_2
              try clear hfz67_0
              try clear hfz67_1
              try clear hfz67_2
              try clear hfz7_0
              try clear hfz7_1
              try clear hfz7_2
              try clear hfz94_0
              try clear hfz94_1
              try clear hfz94_2
              try clear p2
              obtain ⟨kq, x136_89, rfl, HA, HJ89, HO_13, HO_282002, BK260, BK281, HB⟩ := hcut
              have hl13_89 := (Kd.R_reads' HO_13.out).1
              rw [hl13_89] at HO_13
              (try simp only [hl13_89])
              (try simp only [hl13_89] at BK260)
              (try simp only [hl13_89] at BK281)
              (try simp only [hl13_89] at HO_282002)
              cases kq with
              | zero => exact absurd HA.out (by simp [laws_FnExactRunJobs.j2])
              | succ kj89 =>
               have H := HA.out
               clear HA
               simp only [laws_FnExactRunJobs.j2] at H
               by_cases c109 : x136_89 = true
               ·
                subst c109
                have H1 : (some false) = some r := by rw [if_pos rfl] at H; exact H
                clear H
                have H := H1
                clear H1
                obtain rfl := Option.some.inj H
                go_wp2
                go_ret
                exact ⟨by first | rfl | (simp [errW_none, errW_some] <;> rfl) | (simp [*, errW_none, errW_some] <;> rfl), by repeat with_reducible first | exact bl HB.out | refine below_set ?_ GE260.out | refine below_set ?_ GE281.out | refine bq ?_⟩
               ·
                replace c109 := Bool.eq_false_iff.mpr c109
                subst c109
                have H1 : ((laws_heldIntS.f kj89 t307 1).bind fun t323 => (if t323 < 0 then (some false) else (if t323 = t306 then (some true) else (some false)))) = some r := by rw [if_neg (show ¬ (false = true) by decide)] at H; exact H
                clear H
                have H := H1
                clear H1
                replace H := Option.bind_eq_some_iff.mp H
                obtain ⟨t323, A1100, H⟩ := H
                replace H : (if t323 < 0 then (some false) else (if t323 = t306 then (some true) else (some false))) = some r := H
                have A110 := Aside0.mk A1100
                clear A1100
                by_cases c111 : t323 < 0
                ·
                 rw [if_pos c111] at H
                 have c111b0 : decide (t323 < 0) = true := decide_eq_true c111
                 clear c111
                 obtain rfl := Option.some.inj H
                 go_wp2_with (first | ((with_reducible refine gate_callee (f := 30) rfl ?_); refine goesL_ (some 139) rfl rfl Try.func30 (by kernel_rfl) rfl #[.slice Ao91 t307.length co91, .int .i64 1] rfl (by (try simp only [am_]); first | done | rfl) ?_; (with_reducible refine (laws_heldIntS.calls kj89 _ _ t307 1 t323 _ ?side1 ?side2 A110.out).mono ?_); (case side1 => exact rc (Kd.R_reads' HO_13.out).2.2); (case side2 => exact (Kd.R_reads' HO_13.out).2.1); rintro e w' ⟨rfl, ⟨nd, rfl⟩⟩; refine ⟨_, rfl, ?_⟩))
                 go_ret
                 exact ⟨by first | rfl | (simp [errW_none, errW_some] <;> rfl) | (simp [*, errW_none, errW_some] <;> rfl), by repeat with_reducible first | exact bl HB.out | refine below_set ?_ GE260.out | refine below_set ?_ GE281.out | refine bq ?_⟩
                ·
                 rw [if_neg c111] at H
                 have c111b0 : decide (t323 < 0) = false := decide_eq_false c111
                 clear c111
                 by_cases c112 : t323 = t306
                 ·
                  rw [if_pos c112] at H
                  have c112b0 : (t323 == t306) = true := beq_iff_eq.mpr c112
                  have c112b1 : (t323 != t306) = false := bne_eq_false_iff_eq.mpr c112
                  clear c112
                  obtain rfl := Option.some.inj H
                  go_wp2_with (first | ((with_reducible refine gate_callee (f := 30) rfl ?_); refine goesL_ (some 139) rfl rfl Try.func30 (by kernel_rfl) rfl #[.slice Ao91 t307.length co91, .int .i64 1] rfl (by (try simp only [am_]); first | done | rfl) ?_; (with_reducible refine (laws_heldIntS.calls kj89 _ _ t307 1 t323 _ ?side1 ?side2 A110.out).mono ?_); (case side1 => exact rc (Kd.R_reads' HO_13.out).2.2); (case side2 => exact (Kd.R_reads' HO_13.out).2.1); rintro e w' ⟨rfl, ⟨nd, rfl⟩⟩; refine ⟨_, rfl, ?_⟩))
                  go_ret
                  exact ⟨by first | rfl | (simp [errW_none, errW_some] <;> rfl) | (simp [*, errW_none, errW_some] <;> rfl), by repeat with_reducible first | exact bl HB.out | refine below_set ?_ GE260.out | refine below_set ?_ GE281.out | refine bq ?_⟩
                 ·
                  rw [if_neg c112] at H
                  have c112b0 : (t323 == t306) = false := beq_eq_false_iff_ne.mpr c112
                  have c112b1 : (t323 != t306) = true := bne_iff_ne.mpr c112
                  obtain rfl := Option.some.inj H
                  go_wp2_with (first | ((with_reducible refine gate_callee (f := 30) rfl ?_); refine goesL_ (some 139) rfl rfl Try.func30 (by kernel_rfl) rfl #[.slice Ao91 t307.length co91, .int .i64 1] rfl (by (try simp only [am_]); first | done | rfl) ?_; (with_reducible refine (laws_heldIntS.calls kj89 _ _ t307 1 t323 _ ?side1 ?side2 A110.out).mono ?_); (case side1 => exact rc (Kd.R_reads' HO_13.out).2.2); (case side2 => exact (Kd.R_reads' HO_13.out).2.1); rintro e w' ⟨rfl, ⟨nd, rfl⟩⟩; refine ⟨_, rfl, ?_⟩))
                  go_ret
                  exact ⟨by first | rfl | (simp [errW_none, errW_some] <;> rfl) | (simp [*, errW_none, errW_some] <;> rfl), by repeat with_reducible first | exact bl HB.out | refine below_set ?_ GE260.out | refine below_set ?_ GE281.out | refine bq ?_⟩
            ·
             rw [if_neg c86] at H
             have c86b0 : (t308 == t306) = false := beq_eq_false_iff_ne.mpr c86
             have c86b1 : (t308 != t306) = true := bne_iff_ne.mpr c86
             obtain rfl := Option.some.inj H
             obtain ⟨Ao113, co113, eo113⟩ := Kd.R_slice HO_13.out
             subst eo113
             go_wp2_with (first | ((with_reducible refine gate_callee (f := 29) rfl ?_); refine goesL_ (some 104) rfl rfl Try.func29 (by kernel_rfl) rfl #[.slice Ao113 t285.length co113, .int .i64 1] rfl (by (try simp only [am_]); first | done | rfl) ?_; (with_reducible refine (laws_markIntS.calls kj57 (fun k_ => some k_ = (.slice Ao113 t285.length co113 : Value).ownBlock) (.slice Ao113 t285.length co113) t285 1 t306 t307 w _ ?side1 ?side2 A81.out).mono ?_); (case side1 => repeat (first | (with_reducible first | exact HB.out | apply below_alloc | apply pw_below_drewN | apply below_drew1 | refine below_set ?_ GE260.out | refine below_set ?_ GE281.out) | exact HB.out)); (case side2 => exact Kd.R_tight rfl HO_13.out); rintro e w114 ⟨rfl, hy0, hb, hkp⟩; refine ⟨_, rfl, ?_⟩; have n0_ := Aside0.mk (Kd.R_mono (ok' := fun k_ => some k_ ≠ (.slice Ao113 t285.length co113 : Value).ownBlock) (Kd.R_keptB (HO_8.out) hkp (fun k_ hk_ hs_ => (hk_) hs_)) (fun k_ hk_ => hk_.1)); have n1_ := Aside0.mk (Kd.R_reok rfl hy0 (fun k_ e_ => HO_13.out.1 k_ e_)); have n2_ := Aside0.mk (Kd.R_mono (ok' := fun k_ => True) (Kd.R_keptB ((Kd.R_apart' HO_282002.out (Kd.R_typed HO_13.out) (by decide))) hkp (fun k_ hk_ hs_ => (hk_.2) hs_)) (fun k_ hk_ => trivial)); have n3_ := Aside0.mk (blk_kept (bk BK260.out) hkp (fun hs_ => (fun e_ => (Kd.R_ne HO_13.out BK260.out (by decide)) e_) hs_)); have n4_ := Aside0.mk (blk_kept (bk BK281.out) hkp (fun hs_ => (fun e_ => (Kd.R_ne HO_13.out BK281.out (by decide)) e_) hs_)); have n5_ := Aside0.mk (hb); clear HO_8; clear HO_13; clear HO_282002; clear BK260; clear BK281; clear HB; have HO_8 := n0_; have HO_13 := n1_; have HO_282002 := n2_; have BK260 := n3_; have BK281 := n4_; have HB := n5_; clear n0_ n1_ n2_ n3_ n4_ n5_; (try clear hb); (try clear hkp); (try clear hy0)) | ((with_reducible refine gate_callee (f := 30) rfl ?_); refine goesL_ (some 107) rfl rfl Try.func30 (by kernel_rfl) rfl #[.slice Ao113 t307.length co113, .int .i64 1] rfl (by (try simp only [List.map_toArray, List.map_cons, List.map_nil]); first | done | (rw [show t307.length = t285.length from (Kd.R_reads' HO_13.out).1.symm] <;> rfl) | rfl | (simp only [List.length_drop, List.length_take]; rfl)) ?_; (with_reducible refine (laws_heldIntS.calls kj57 _ _ t307 1 t308 _ ?side1 ?side2 A82.out).mono ?_); (case side1 => exact rc (Kd.R_reads' HO_13.out).2.2); (case side2 => rw [show t307.length = t285.length from (Kd.R_reads' HO_13.out).1.symm]; exact (Kd.R_reads' HO_13.out).2.1); rintro e w' ⟨rfl, ⟨nd, rfl⟩⟩; refine ⟨_, rfl, ?_⟩))
             go_ret
             exact ⟨by first | rfl | (simp [errW_none, errW_some] <;> rfl) | (simp [*, errW_none, errW_some] <;> rfl), by repeat with_reducible first | exact bl HB.out | refine below_set ?_ GE260.out | refine below_set ?_ GE281.out | refine bq ?_⟩
       ·
        replace c55 := Bool.eq_false_iff.mpr c55
        subst c55
        have H1 : (some false) = some r := by rw [if_neg (show ¬ (false = true) by decide)] at H; exact H
        clear H
        have H := H1
        clear H1
        obtain rfl := Option.some.inj H
        try go_wp2
        have n0_ := Aside0.mk (Kd.R_drew HO_8.out)
        have n1_ := Aside0.mk (Kd.R_drew HO_12.out)
        have n2_ := Aside0.mk (Kd.R_drew HO_13.out)
        have n3_ := Aside0.mk (Kd.R_drew HO_282002.out)
        have n4_ := Aside0.mk (blk_drew BK260.out)
        have n5_ := Aside0.mk (blk_drew BK281.out)
        have n6_ := Aside0.mk (below_drew1 HB.out)
        clear HO_8
        clear HO_12
        clear HO_13
        clear HO_282002
        clear BK260
        clear BK281
        clear HB
        have HO_8 := n0_
        have HO_12 := n1_
        have HO_13 := n2_
        have HO_282002 := n3_
        have BK260 := n4_
        have BK281 := n5_
        have HB := n6_
        clear n0_ n1_ n2_ n3_ n4_ n5_ n6_
        refine start_ (n := 5) (S := fun w' => w'.cell? ⟨gb281, 0, none⟩ = some (.int .i64 t276) ∧ w'.cell? ⟨gb281, 1, none⟩ = some (.int .i64 t277) ∧ w'.cell? ⟨gb281, 2, none⟩ = some (.slice Ao35 t278.length co35) ∧ w'.cell? ⟨gb260, 0, none⟩ = some (.int .i64 a0_0) ∧ w'.cell? ⟨gb260, 1, none⟩ = some (.int .i64 a0_1) ∧ w'.cell? ⟨gb260, 2, none⟩ = some (.slice A0_2 l0_2.length c0_2)) (ds := []) m0_5 (by kernel_rfl) rfl rfl ⟨ck BK281.out 0 rfl, ck BK281.out 1 rfl, ck BK281.out 2 rfl, ck BK260.out 0 rfl, ck BK260.out 1 rfl, ck BK260.out 2 rfl⟩ (fun hHeld => ?_)
        generalize wc.drew = w115 at HO_8 HO_12 HO_13 HO_282002 BK260 BK281 HB hHeld ⊢
        refine take_ (i := 0) (N := some 68) (v := ?_) (a' := ?_) m1_5 rfl rfl (by kernel_rfl) (fun _ _ _ h => h) (Or.inl ⟨by rfl, ?_⟩) hHeld ?_ ?_
        rotate_left
        ·
         rintro w' ⟨s0, s1, s2, s3, s4, s5⟩
         go_simp
         with_reducible rfl
        rotate_left
        ·
         simp only [sp_]
         rfl
        refine take_ (i := 1) (N := some 69) (v := ?_) (a' := ?_) m2_5 rfl rfl (by kernel_rfl) (fun _ _ _ h => h) (Or.inl ⟨by rfl, ?_⟩) hHeld ?_ ?_
        rotate_left
        ·
         rintro w' ⟨s0, s1, s2, s3, s4, s5⟩
         go_simp
         with_reducible rfl
        rotate_left
        ·
         simp only [sp_]
         rfl
        refine one_ (i := 2) (N := some 70) m3_5 rfl rfl (by kernel_rfl) (by decide) (fun K hK => ?_)
        refine goes_ Try.func11 (by kernel_rfl) rfl #[.agg #[.int .i64 a0_0, .int .i64 a0_1, .slice A0_2 l0_2.length c0_2]] (by rfl) rfl rfl (by (try simp only [am_]); first | done | rfl) ?_
        with_reducible refine (laws_toPlan17.calls kj19 a0_0 a0_1 _ _ l0_2 t291 t292 t293 _ ?side1 ?side2 A50.out).mono ?_
        (case side1 => exact rc (Kd.C_below HR0_2.out HB.out))
        (case side2 => exact HC0_2.out)
        rintro e w116 ⟨v294, rfl, ho0, hb⟩
        refine ⟨_, rfl, ?_⟩
        have n0_ := Aside0.mk (Kd.R_below (rl HO_8.out) hb)
        have n1_ := Aside0.mk (Kd.R_below (rl HO_12.out) hb)
        have n2_ := Aside0.mk (Kd.R_below (rl HO_13.out) hb)
        have n3_ := Aside0.mk (Kd.R_elder' (rl HO_282002.out) (Kd.R_base ho0) hb)
        have n4_ := Aside0.mk (Kd.R_lower (Kd.R_new' ho0 (Kd.R_lt (by (repeat apply rl1); exact HO_282002.out))) (below_size (by repeat with_reducible first | exact bl HB.out | refine below_set ?_ GE260.out | refine below_set ?_ GE281.out | refine bq ?_)))
        have n5_ := Aside0.mk (blk_below (bk BK260.out) hb)
        have n6_ := Aside0.mk (blk_below (bk BK281.out) hb)
        have n7_ := Aside0.mk (below_step (by repeat with_reducible first | exact bl HB.out | refine below_set ?_ GE260.out | refine below_set ?_ GE281.out | refine bq ?_) hb)
        clear HO_8
        clear HO_12
        clear HO_13
        clear HO_282002
        clear BK260
        clear BK281
        clear HB
        have HO_8 := n0_
        have HO_12 := n1_
        have HO_13 := n2_
        have HO_282002 := n3_
        have HO295 := n4_
        have BK260 := n5_
        have BK281 := n6_
        have HB := n7_
        clear n0_ n1_ n2_ n3_ n4_ n5_ n6_ n7_
        (try clear hb)
        (try clear hb2)
        (try clear hk)
        (try clear hi)
        (try clear ho0)
        obtain ⟨Ao117, co117, eo117⟩ := Kd.R_slice HO295.out
        (first | subst eo117 | (injection eo117 with f1_ f2_ f3_; have f4_ := f1_.symm; have f5_ := f3_.symm; clear f1_ f2_ f3_; subst f4_; subst f5_))
        refine hK.out _ _ ⟨ck BK281.out 0 rfl, ck BK281.out 1 rfl, ck BK281.out 2 rfl, ck BK260.out 0 rfl, ck BK260.out 1 rfl, ck BK260.out 2 rfl⟩ (fun hHeld => ?_)
        clear hK K
        refine norm_ (a' := ?_) ?_ ?_
        rotate_left
        ·
         show Act.put _ (some 70) _ = _
         simp only [sp_]
         rfl
        refine one_ (i := 3) (N := some 71) m4_5 rfl rfl (by kernel_rfl) (by decide) (fun K hK => ?_)
        refine goes_ Try.func13 (by kernel_rfl) rfl #[.agg #[.int .i64 t276, .int .i64 t277, .slice Ao35 t278.length co35], .agg #[.int .i64 t291, .int .i64 t292, .slice Ao117 t293.length co117]] (by rfl) rfl rfl (by (try simp only [am_]); first | done | rfl) ?_
        with_reducible refine (laws_eqPlan17.calls kj19 t276 t277 _ _ t278 t291 t292 _ _ t293 true _ ?side1 ?side2 ?side3 ?side4 A51.out).mono ?_
        (case side1 => exact rc (Kd.R_reads' HO_282002.out).2.2)
        (case side2 => exact (Kd.R_reads' HO_282002.out).2.1)
        (case side3 => exact rc (Kd.R_reads' HO295.out).2.2)
        (case side4 => exact (Kd.R_reads' HO295.out).2.1)
        rintro e w118 ⟨rfl, hb⟩
        refine ⟨_, rfl, ?_⟩
        have n0_ := Aside0.mk (Kd.R_below (rl HO_8.out) hb)
        have n1_ := Aside0.mk (Kd.R_below (rl HO_12.out) hb)
        have n2_ := Aside0.mk (Kd.R_below (rl HO_13.out) hb)
        have n3_ := Aside0.mk (Kd.R_below (rl HO_282002.out) hb)
        have n4_ := Aside0.mk (Kd.R_below (rl HO295.out) hb)
        have n5_ := Aside0.mk (blk_below (bk BK260.out) hb)
        have n6_ := Aside0.mk (blk_below (bk BK281.out) hb)
        have n7_ := Aside0.mk (below_step (by repeat with_reducible first | exact bl HB.out | refine below_set ?_ GE260.out | refine below_set ?_ GE281.out | refine bq ?_) hb)
        clear HO_8
        clear HO_12
        clear HO_13
        clear HO_282002
        clear HO295
        clear BK260
        clear BK281
        clear HB
        have HO_8 := n0_
        have HO_12 := n1_
        have HO_13 := n2_
        have HO_282002 := n3_
        have HO295 := n4_
        have BK260 := n5_
        have BK281 := n6_
        have HB := n7_
        clear n0_ n1_ n2_ n3_ n4_ n5_ n6_ n7_
        (try clear hb)
        (try clear hb2)
        (try clear hk)
        (try clear hi)
        refine hK.out _ _ ⟨ck BK281.out 0 rfl, ck BK281.out 1 rfl, ck BK281.out 2 rfl, ck BK260.out 0 rfl, ck BK260.out 1 rfl, ck BK260.out 2 rfl⟩ (fun hHeld => ?_)
        clear hK K
        refine norm_ (a' := ?_) ?_ ?_
        rotate_left
        ·
         show Act.put _ (some 71) _ = _
         simp only [sp_]
         rfl
        refine pure_ (i := 4) (N := some 72) (v := ?_) (a' := ?_) m5_5 rfl rfl (by kernel_rfl) (fun _ _ _ h => h) (Or.inl ⟨by rfl, ?_⟩) ?_ ?_
        rotate_left
        ·
         intro w'
         go_simp
         with_reducible rfl
        rotate_left
        ·
         simp only [sp_]
         rfl
        refine done_ (by kernel_rfl) ?_
        try go_wp2_with (first | ((with_reducible refine gate_callee (f := 24) rfl ?_); refine goesL_ (some 75) rfl rfl Try.func24 (by kernel_rfl) rfl #[.slice A1 l1.length c1] rfl (by (try simp only [am_]); first | done | rfl) ?_; (with_reducible refine (laws_toJobS.calls kj19 _ _ l1 t297 _ ?side1 ?side2 A53.out).mono ?_); (case side1 => exact rc (Kd.C_below HR1.out HB.out)); (case side2 => exact HC1.out); rintro e w119 ⟨v298, rfl, ho0, hb⟩; refine ⟨_, rfl, ?_⟩; have n0_ := Aside0.mk (Kd.R_below (rl HO_8.out) hb); have n1_ := Aside0.mk (Kd.R_elder' (rl HO_12.out) (Kd.R_base ho0) hb); have n2_ := Aside0.mk (Kd.R_below (rl HO_13.out) hb); have n3_ := Aside0.mk (Kd.R_below (rl HO_282002.out) hb); have n4_ := Aside0.mk (Kd.R_below (rl HO295.out) hb); have n5_ := Aside0.mk (Kd.R_lower (Kd.R_new' ho0 (Kd.R_lt (by (repeat apply rl1); exact HO_12.out))) (below_size (by repeat with_reducible first | exact bl HB.out | refine below_set ?_ GE260.out | refine below_set ?_ GE281.out | refine bq ?_))); have n6_ := Aside0.mk (blk_below (bk BK260.out) hb); have n7_ := Aside0.mk (blk_below (bk BK281.out) hb); have n8_ := Aside0.mk (below_step (by repeat with_reducible first | exact bl HB.out | refine below_set ?_ GE260.out | refine below_set ?_ GE281.out | refine bq ?_) hb); clear HO_8; clear HO_12; clear HO_13; clear HO_282002; clear HO295; clear BK260; clear BK281; clear HB; have HO_8 := n0_; have HO_12 := n1_; have HO_13 := n2_; have HO_282002 := n3_; have HO295 := n4_; have HO299 := n5_; have BK260 := n6_; have BK281 := n7_; have HB := n8_; clear n0_ n1_ n2_ n3_ n4_ n5_ n6_ n7_ n8_; (try clear hb); (try clear hb2); (try clear hk); (try clear hi); (try clear ho0); obtain ⟨Ao120, co120, eo120⟩ := Kd.R_slice HO299.out; subst eo120) | ((with_reducible refine gate_callee (f := 27) rfl ?_); refine goesL_ (some 76) rfl rfl Try.func27 (by kernel_rfl) rfl #[.slice Ao38 t282.length co38, .slice Ao120 t297.length co120] rfl (by (try simp only [am_]); first | done | rfl) ?_; (with_reducible refine (laws_eqJobS.calls kj19 _ _ t282 _ _ t297 false _ ?side1 ?side2 ?side3 ?side4 A54.out).mono ?_); (case side1 => exact rc (Kd.R_reads' HO_12.out).2.2); (case side2 => exact (Kd.R_reads' HO_12.out).2.1); (case side3 => exact rc (Kd.R_reads' HO299.out).2.2); (case side4 => exact (Kd.R_reads' HO299.out).2.1); rintro e w121 ⟨rfl, hb⟩; refine ⟨_, rfl, ?_⟩; have n0_ := Aside0.mk (Kd.R_below (rl HO_8.out) hb); have n1_ := Aside0.mk (Kd.R_below (rl HO_12.out) hb); have n2_ := Aside0.mk (Kd.R_below (rl HO_13.out) hb); have n3_ := Aside0.mk (Kd.R_below (rl HO_282002.out) hb); have n4_ := Aside0.mk (Kd.R_below (rl HO295.out) hb); have n5_ := Aside0.mk (Kd.R_below (rl HO299.out) hb); have n6_ := Aside0.mk (blk_below (bk BK260.out) hb); have n7_ := Aside0.mk (blk_below (bk BK281.out) hb); have n8_ := Aside0.mk (below_step (by repeat with_reducible first | exact bl HB.out | refine below_set ?_ GE260.out | refine below_set ?_ GE281.out | refine bq ?_) hb); clear HO_8; clear HO_12; clear HO_13; clear HO_282002; clear HO295; clear HO299; clear BK260; clear BK281; clear HB; have HO_8 := n0_; have HO_12 := n1_; have HO_13 := n2_; have HO_282002 := n3_; have HO295 := n4_; have HO299 := n5_; have BK260 := n6_; have BK281 := n7_; have HB := n8_; clear n0_ n1_ n2_ n3_ n4_ n5_ n6_ n7_ n8_; (try clear hb); (try clear hb2); (try clear hk); (try clear hi)))
        go_ret
        exact ⟨by first | rfl | (simp [errW_none, errW_some] <;> rfl) | (simp [*, errW_none, errW_some] <;> rfl), by repeat with_reducible first | exact bl HB.out | refine below_set ?_ GE260.out | refine below_set ?_ GE281.out | refine bq ?_⟩
      ·
       replace c52 := Bool.eq_false_iff.mpr c52
       subst c52
       have H1 : (some false) = some r := by rw [if_neg (show ¬ (false = true) by decide)] at H; exact H
       clear H
       have H := H1
       clear H1
       obtain rfl := Option.some.inj H
       try go_wp2
       have n0_ := Aside0.mk (Kd.R_drew HO_8.out)
       have n1_ := Aside0.mk (Kd.R_drew HO_12.out)
       have n2_ := Aside0.mk (Kd.R_drew HO_13.out)
       have n3_ := Aside0.mk (Kd.R_drew HO_282002.out)
       have n4_ := Aside0.mk (blk_drew BK260.out)
       have n5_ := Aside0.mk (blk_drew BK281.out)
       have n6_ := Aside0.mk (below_drew1 HB.out)
       clear HO_8
       clear HO_12
       clear HO_13
       clear HO_282002
       clear BK260
       clear BK281
       clear HB
       have HO_8 := n0_
       have HO_12 := n1_
       have HO_13 := n2_
       have HO_282002 := n3_
       have BK260 := n4_
       have BK281 := n5_
       have HB := n6_
       clear n0_ n1_ n2_ n3_ n4_ n5_ n6_
       refine start_ (n := 5) (S := fun w' => w'.cell? ⟨gb281, 0, none⟩ = some (.int .i64 t276) ∧ w'.cell? ⟨gb281, 1, none⟩ = some (.int .i64 t277) ∧ w'.cell? ⟨gb281, 2, none⟩ = some (.slice Ao35 t278.length co35) ∧ w'.cell? ⟨gb260, 0, none⟩ = some (.int .i64 a0_0) ∧ w'.cell? ⟨gb260, 1, none⟩ = some (.int .i64 a0_1) ∧ w'.cell? ⟨gb260, 2, none⟩ = some (.slice A0_2 l0_2.length c0_2)) (ds := []) m0_5 (by kernel_rfl) rfl rfl ⟨ck BK281.out 0 rfl, ck BK281.out 1 rfl, ck BK281.out 2 rfl, ck BK260.out 0 rfl, ck BK260.out 1 rfl, ck BK260.out 2 rfl⟩ (fun hHeld => ?_)
       generalize wc.drew = w122 at HO_8 HO_12 HO_13 HO_282002 BK260 BK281 HB hHeld ⊢
       refine take_ (i := 0) (N := some 68) (v := ?_) (a' := ?_) m1_5 rfl rfl (by kernel_rfl) (fun _ _ _ h => h) (Or.inl ⟨by rfl, ?_⟩) hHeld ?_ ?_
       rotate_left
       ·
        rintro w' ⟨s0, s1, s2, s3, s4, s5⟩
        go_simp
        with_reducible rfl
       rotate_left
       ·
        simp only [sp_]
        rfl
       refine take_ (i := 1) (N := some 69) (v := ?_) (a' := ?_) m2_5 rfl rfl (by kernel_rfl) (fun _ _ _ h => h) (Or.inl ⟨by rfl, ?_⟩) hHeld ?_ ?_
       rotate_left
       ·
        rintro w' ⟨s0, s1, s2, s3, s4, s5⟩
        go_simp
        with_reducible rfl
       rotate_left
       ·
        simp only [sp_]
        rfl
       refine one_ (i := 2) (N := some 70) m3_5 rfl rfl (by kernel_rfl) (by decide) (fun K hK => ?_)
       refine goes_ Try.func11 (by kernel_rfl) rfl #[.agg #[.int .i64 a0_0, .int .i64 a0_1, .slice A0_2 l0_2.length c0_2]] (by rfl) rfl rfl (by (try simp only [am_]); first | done | rfl) ?_
       with_reducible refine (laws_toPlan17.calls kj19 a0_0 a0_1 _ _ l0_2 t291 t292 t293 _ ?side1 ?side2 A50.out).mono ?_
       (case side1 => exact rc (Kd.C_below HR0_2.out HB.out))
       (case side2 => exact HC0_2.out)
       rintro e w123 ⟨v294, rfl, ho0, hb⟩
       refine ⟨_, rfl, ?_⟩
       have n0_ := Aside0.mk (Kd.R_below (rl HO_8.out) hb)
       have n1_ := Aside0.mk (Kd.R_below (rl HO_12.out) hb)
       have n2_ := Aside0.mk (Kd.R_below (rl HO_13.out) hb)
       have n3_ := Aside0.mk (Kd.R_elder' (rl HO_282002.out) (Kd.R_base ho0) hb)
       have n4_ := Aside0.mk (Kd.R_lower (Kd.R_new' ho0 (Kd.R_lt (by (repeat apply rl1); exact HO_282002.out))) (below_size (by repeat with_reducible first | exact bl HB.out | refine below_set ?_ GE260.out | refine below_set ?_ GE281.out | refine bq ?_)))
       have n5_ := Aside0.mk (blk_below (bk BK260.out) hb)
       have n6_ := Aside0.mk (blk_below (bk BK281.out) hb)
       have n7_ := Aside0.mk (below_step (by repeat with_reducible first | exact bl HB.out | refine below_set ?_ GE260.out | refine below_set ?_ GE281.out | refine bq ?_) hb)
       clear HO_8
       clear HO_12
       clear HO_13
       clear HO_282002
       clear BK260
       clear BK281
       clear HB
       have HO_8 := n0_
       have HO_12 := n1_
       have HO_13 := n2_
       have HO_282002 := n3_
       have HO295 := n4_
       have BK260 := n5_
       have BK281 := n6_
       have HB := n7_
       clear n0_ n1_ n2_ n3_ n4_ n5_ n6_ n7_
       (try clear hb)
       (try clear hb2)
       (try clear hk)
       (try clear hi)
       (try clear ho0)
       obtain ⟨Ao124, co124, eo124⟩ := Kd.R_slice HO295.out
       (first | subst eo124 | (injection eo124 with f1_ f2_ f3_; have f4_ := f1_.symm; have f5_ := f3_.symm; clear f1_ f2_ f3_; subst f4_; subst f5_))
       refine hK.out _ _ ⟨ck BK281.out 0 rfl, ck BK281.out 1 rfl, ck BK281.out 2 rfl, ck BK260.out 0 rfl, ck BK260.out 1 rfl, ck BK260.out 2 rfl⟩ (fun hHeld => ?_)
       clear hK K
       refine norm_ (a' := ?_) ?_ ?_
       rotate_left
       ·
        show Act.put _ (some 70) _ = _
        simp only [sp_]
        rfl
       refine one_ (i := 3) (N := some 71) m4_5 rfl rfl (by kernel_rfl) (by decide) (fun K hK => ?_)
       refine goes_ Try.func13 (by kernel_rfl) rfl #[.agg #[.int .i64 t276, .int .i64 t277, .slice Ao35 t278.length co35], .agg #[.int .i64 t291, .int .i64 t292, .slice Ao124 t293.length co124]] (by rfl) rfl rfl (by (try simp only [am_]); first | done | rfl) ?_
       with_reducible refine (laws_eqPlan17.calls kj19 t276 t277 _ _ t278 t291 t292 _ _ t293 false _ ?side1 ?side2 ?side3 ?side4 A51.out).mono ?_
       (case side1 => exact rc (Kd.R_reads' HO_282002.out).2.2)
       (case side2 => exact (Kd.R_reads' HO_282002.out).2.1)
       (case side3 => exact rc (Kd.R_reads' HO295.out).2.2)
       (case side4 => exact (Kd.R_reads' HO295.out).2.1)
       rintro e w125 ⟨rfl, hb⟩
       refine ⟨_, rfl, ?_⟩
       have n0_ := Aside0.mk (Kd.R_below (rl HO_8.out) hb)
       have n1_ := Aside0.mk (Kd.R_below (rl HO_12.out) hb)
       have n2_ := Aside0.mk (Kd.R_below (rl HO_13.out) hb)
       have n3_ := Aside0.mk (Kd.R_below (rl HO_282002.out) hb)
       have n4_ := Aside0.mk (Kd.R_below (rl HO295.out) hb)
       have n5_ := Aside0.mk (blk_below (bk BK260.out) hb)
       have n6_ := Aside0.mk (blk_below (bk BK281.out) hb)
       have n7_ := Aside0.mk (below_step (by repeat with_reducible first | exact bl HB.out | refine below_set ?_ GE260.out | refine below_set ?_ GE281.out | refine bq ?_) hb)
       clear HO_8
       clear HO_12
       clear HO_13
       clear HO_282002
       clear HO295
       clear BK260
       clear BK281
       clear HB
       have HO_8 := n0_
       have HO_12 := n1_
       have HO_13 := n2_
       have HO_282002 := n3_
       have HO295 := n4_
       have BK260 := n5_
       have BK281 := n6_
       have HB := n7_
       clear n0_ n1_ n2_ n3_ n4_ n5_ n6_ n7_
       (try clear hb)
       (try clear hb2)
       (try clear hk)
       (try clear hi)
       refine hK.out _ _ ⟨ck BK281.out 0 rfl, ck BK281.out 1 rfl, ck BK281.out 2 rfl, ck BK260.out 0 rfl, ck BK260.out 1 rfl, ck BK260.out 2 rfl⟩ (fun hHeld => ?_)
       clear hK K
       refine norm_ (a' := ?_) ?_ ?_
       rotate_left
       ·
        show Act.put _ (some 71) _ = _
        simp only [sp_]
        rfl
       refine pure_ (i := 4) (N := some 72) (v := ?_) (a' := ?_) m5_5 rfl rfl (by kernel_rfl) (fun _ _ _ h => h) (Or.inl ⟨by rfl, ?_⟩) ?_ ?_
       rotate_left
       ·
        intro w'
        go_simp
        with_reducible rfl
       rotate_left
       ·
        simp only [sp_]
        rfl
       refine done_ (by kernel_rfl) ?_
       try go_wp2
       go_ret
       exact ⟨by first | rfl | (simp [errW_none, errW_some] <;> rfl) | (simp [*, errW_none, errW_some] <;> rfl), by repeat with_reducible first | exact bl HB.out | refine below_set ?_ GE260.out | refine below_set ?_ GE281.out | refine bq ?_⟩

end Go.Proofs.Ytlkphaahkhfgoaa.PFnExactRunJobs
