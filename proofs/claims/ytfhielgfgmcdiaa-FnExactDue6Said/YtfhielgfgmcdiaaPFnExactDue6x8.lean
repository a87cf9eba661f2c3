-- Written by a program of this session (wip/xprint.py) out of the translation; Lean checks it.
import Derived.Test.YtfhielgfgmcdiaaPFnExactDue6x0
import Derived.Test.YtfhielgfgmcdiaaPFnExactDue6x1
import Derived.Test.YtfhielgfgmcdiaaPFnExactDue6x2
import Derived.Test.YtfhielgfgmcdiaaPFnExactDue6x3
import Derived.Test.YtfhielgfgmcdiaaPFnExactDue6x4
import Derived.Test.YtfhielgfgmcdiaaPFnExactDue6x5
import Derived.Test.YtfhielgfgmcdiaaPFnExactDue6x6
import Derived.Test.YtfhielgfgmcdiaaPFnExactDue6x7
namespace Go.Proofs.Ytfhielgfgmcdiaa.PFnExactDue6
open Go.RowKit Go.Proofs.YtfhielgfgmcdiaaW.PrintWords Go.Proofs.YtfhielgfgmcdiaaW.PrintLast Go.Proofs.YtfhielgfgmcdiaaW.PrintMore Go.Proofs.Ytfhielgfgmcdiaa.Sq
attribute [local go_sem] max2_int min2_int max_two min_two max_three min_three max_four min_four   -- for this text's walks alone
set_option linter.unusedVariables false
set_option linter.unusedSimpArgs false

/-! ### laws_FnExactDue6: function 5 -/
mutual
def laws_FnExactDue6.j0 : Nat → List (S23) → List (S24) → List ByteArray → Bool → List (S29) → List (S31) → List ByteArray → Bool → Bool → Option (Bool)
 | 0, _, _, _, _, _, _, _, _, _ => none
 | k + 1, x0, x1, x6, x7, x8, x9, x10, x11, x53 => if x53 = true then (some false) else ((laws_toLifeS.f k x0).bind fun t290 => ((laws_eqLifeS.f k x8 t290).bind fun t293 => (if t293 = true then ((laws_toStayS.f k x1).bind fun t294 => ((laws_eqStayS.f k x9 t294).bind fun t297 => (if t297 = true then ((laws_markLifeS.f k x8 1).bind fun bt298 => ((laws_markStayS.f k x9 bt298.1).bind fun bt300 => (if bt300.1 < 0 then (laws_FnExactDue6.j1 k x0 x1 x6 x7 x10 true) else ((laws_eqStringS.f k x10 x6).bind fun t302 => (if t302 = true then (laws_FnExactDue6.j1 k x0 x1 x6 x7 x10 (x11 != x7)) else (laws_FnExactDue6.j1 k x0 x1 x6 x7 x10 true)))))) else (some false)))) else (some false))))
def laws_FnExactDue6.j1 : Nat → List (S23) → List (S24) → List ByteArray → Bool → List ByteArray → Bool → Option (Bool)
 | 0, _, _, _, _, _, _ => none
 | k + 1, x0, x1, x6, x7, x10, x82 => if x82 = true then (some false) else ((laws_markStringS.f k x10 1).bind fun bt303 => ((laws_heldStringS.f k bt303.2 1).bind fun t305 => (if t305 < 0 then (some false) else (if t305 = bt303.1 then ((laws_toLifeS.f k x0).bind fun t306 => ((laws_toStayS.f k x1).bind fun t309 => ((impl_Due6.f t306 t309).bind fun bt312 => ((laws_eqStringS.f k bt312.1 x6).bind fun t316 => (if t316 = true then (laws_FnExactDue6.j2 k bt303.2 bt303.1 (bt312.2 != x7)) else (laws_FnExactDue6.j2 k bt303.2 bt303.1 true)))))) else (some false)))))
def laws_FnExactDue6.j2 : Nat → List ByteArray → Int → Bool → Option (Bool)
 | 0, _, _, _ => none
 | k + 1, x10, x13, x110 => if x110 = true then (some false) else ((laws_heldStringS.f k x10 1).bind fun t317 => (if t317 < 0 then (some false) else (if t317 = x13 then (some true) else (some false))))
end
def laws_FnExactDue6.f (k : Nat) (l0 : List (S23)) (l1 : List (S24)) : Option (Bool) := (laws_szLifeS.f k l0 1048576).bind fun t267 => (if t267 < 0 then (some true) else ((laws_szStayS.f k l1 t267).bind fun t268 => (if t268 < 0 then (some true) else ((laws_toLifeS.f k l0).bind fun t269 => ((laws_toStayS.f k l1).bind fun t272 => ((spec_Due6.f k t269 t272).bind fun bt275 => ((laws_toLifeS.f k l0).bind fun t279 => ((laws_toStayS.f k l1).bind fun t282 => ((impl_Due6.f t279 t282).bind fun bt285 => ((laws_eqStringS.f k bt285.1 bt275.1).bind fun t289 => (if t289 = true then (laws_FnExactDue6.j0 k l0 l1 bt275.1 bt275.2 t279 t282 bt285.1 bt285.2 (bt285.2 != bt275.2)) else (laws_FnExactDue6.j0 k l0 l1 bt275.1 bt275.2 t279 t282 bt285.1 bt285.2 true))))))))))))
theorem laws_FnExactDue6.mono_l : ∀ k, (∀ y0 y1 y2 y3 y4 y5 y6 y7 y8, LeO (laws_FnExactDue6.j0 k y0 y1 y2 y3 y4 y5 y6 y7 y8) (laws_FnExactDue6.j0 (k + 1) y0 y1 y2 y3 y4 y5 y6 y7 y8)) ∧ (∀ y0 y1 y2 y3 y4 y5, LeO (laws_FnExactDue6.j1 k y0 y1 y2 y3 y4 y5) (laws_FnExactDue6.j1 (k + 1) y0 y1 y2 y3 y4 y5)) ∧ (∀ y0 y1 y2, LeO (laws_FnExactDue6.j2 k y0 y1 y2) (laws_FnExactDue6.j2 (k + 1) y0 y1 y2))
 | 0 => ⟨fun _ _ _ _ _ _ _ _ _ r h => by simp [laws_FnExactDue6.j0] at h, fun _ _ _ _ _ _ r h => by simp [laws_FnExactDue6.j1] at h, fun _ _ _ r h => by simp [laws_FnExactDue6.j2] at h⟩
 | k + 1 => by
  obtain ⟨ih0, ih1, ih2⟩ := laws_FnExactDue6.mono_l k
  refine ⟨?_, ?_, ?_⟩
  ·
   intro y0 y1 y2 y3 y4 y5 y6 y7 y8
   unfold laws_FnExactDue6.j0
   repeat' first
   | (with_reducible exact ih0 _ _ _ _ _ _ _ _ _)
   | (with_reducible exact ih1 _ _ _ _ _ _)
   | (with_reducible exact ih2 _ _ _)
   | (with_reducible exact laws_eqLifeS.mono _ _ _)
   | (with_reducible exact laws_eqStayS.mono _ _ _)
   | (with_reducible exact laws_eqStringS.mono _ _ _)
   | (with_reducible exact laws_heldStringS.mono _ _ _)
   | (with_reducible exact laws_markLifeS.mono _ _ _)
   | (with_reducible exact laws_markStayS.mono _ _ _)
   | (with_reducible exact laws_markStringS.mono _ _ _)
   | (with_reducible exact laws_szLifeS.mono _ _ _)
   | (with_reducible exact laws_szStayS.mono _ _ _)
   | (with_reducible exact laws_toLifeS.mono _ _)
   | (with_reducible exact laws_toStayS.mono _ _)
   | (with_reducible exact spec_Due6.mono _ _ _)
   | (with_reducible exact LeO.refl _)
   | (with_reducible exact LeO.none _)
   | (with_reducible refine LeO.ite ?_ ?_)
   | (with_reducible refine LeO.bind ?_ (fun _ => ?_))
   | exact ih0 _ _ _ _ _ _ _ _ _
   | exact ih1 _ _ _ _ _ _
   | exact ih2 _ _ _
   | exact laws_eqLifeS.mono _ _ _
   | exact laws_eqStayS.mono _ _ _
   | exact laws_eqStringS.mono _ _ _
   | exact laws_heldStringS.mono _ _ _
   | exact laws_markLifeS.mono _ _ _
   | exact laws_markStayS.mono _ _ _
   | exact laws_markStringS.mono _ _ _
   | exact laws_szLifeS.mono _ _ _
   | exact laws_szStayS.mono _ _ _
   | exact laws_toLifeS.mono _ _
   | exact laws_toStayS.mono _ _
   | exact spec_Due6.mono _ _ _
   | exact LeO.none _
   | refine LeO.ite ?_ ?_
   | refine LeO.bind ?_ (fun _ => ?_)
  ·
   intro y0 y1 y2 y3 y4 y5
   unfold laws_FnExactDue6.j1
   repeat' first
   | (with_reducible exact ih0 _ _ _ _ _ _ _ _ _)
   | (with_reducible exact ih1 _ _ _ _ _ _)
   | (with_reducible exact ih2 _ _ _)
   | (with_reducible exact laws_eqLifeS.mono _ _ _)
   | (with_reducible exact laws_eqStayS.mono _ _ _)
   | (with_reducible exact laws_eqStringS.mono _ _ _)
   | (with_reducible exact laws_heldStringS.mono _ _ _)
   | (with_reducible exact laws_markLifeS.mono _ _ _)
   | (with_reducible exact laws_markStayS.mono _ _ _)
   | (with_reducible exact laws_markStringS.mono _ _ _)
   | (with_reducible exact laws_szLifeS.mono _ _ _)
   | (with_reducible exact laws_szStayS.mono _ _ _)
   | (with_reducible exact laws_toLifeS.mono _ _)
   | (with_reducible exact laws_toStayS.mono _ _)
   | (with_reducible exact spec_Due6.mono _ _ _)
   | (with_reducible exact LeO.refl _)
   | (with_reducible exact LeO.none _)
   | (with_reducible refine LeO.ite ?_ ?_)
   | (with_reducible refine LeO.bind ?_ (fun _ => ?_))
   | exact ih0 _ _ _ _ _ _ _ _ _
   | exact ih1 _ _ _ _ _ _
   | exact ih2 _ _ _
   | exact laws_eqLifeS.mono _ _ _
   | exact laws_eqStayS.mono _ _ _
   | exact laws_eqStringS.mono _ _ _
   | exact laws_heldStringS.mono _ _ _
   | exact laws_markLifeS.mono _ _ _
   | exact laws_markStayS.mono _ _ _
   | exact laws_markStringS.mono _ _ _
   | exact laws_szLifeS.mono _ _ _
   | exact laws_szStayS.mono _ _ _
   | exact laws_toLifeS.mono _ _
   | exact laws_toStayS.mono _ _
   | exact spec_Due6.mono _ _ _
   | exact LeO.none _
   | refine LeO.ite ?_ ?_
   | refine LeO.bind ?_ (fun _ => ?_)
  ·
   intro y0 y1 y2
   unfold laws_FnExactDue6.j2
   repeat' first
   | (with_reducible exact ih0 _ _ _ _ _ _ _ _ _)
   | (with_reducible exact ih1 _ _ _ _ _ _)
   | (with_reducible exact ih2 _ _ _)
   | (with_reducible exact laws_eqLifeS.mono _ _ _)
   | (with_reducible exact laws_eqStayS.mono _ _ _)
   | (with_reducible exact laws_eqStringS.mono _ _ _)
   | (with_reducible exact laws_heldStringS.mono _ _ _)
   | (with_reducible exact laws_markLifeS.mono _ _ _)
   | (with_reducible exact laws_markStayS.mono _ _ _)
   | (with_reducible exact laws_markStringS.mono _ _ _)
   | (with_reducible exact laws_szLifeS.mono _ _ _)
   | (with_reducible exact laws_szStayS.mono _ _ _)
   | (with_reducible exact laws_toLifeS.mono _ _)
   | (with_reducible exact laws_toStayS.mono _ _)
   | (with_reducible exact spec_Due6.mono _ _ _)
   | (with_reducible exact LeO.refl _)
   | (with_reducible exact LeO.none _)
   | (with_reducible refine LeO.ite ?_ ?_)
   | (with_reducible refine LeO.bind ?_ (fun _ => ?_))
   | exact ih0 _ _ _ _ _ _ _ _ _
   | exact ih1 _ _ _ _ _ _
   | exact ih2 _ _ _
   | exact laws_eqLifeS.mono _ _ _
   | exact laws_eqStayS.mono _ _ _
   | exact laws_eqStringS.mono _ _ _
   | exact laws_heldStringS.mono _ _ _
   | exact laws_markLifeS.mono _ _ _
   | exact laws_markStayS.mono _ _ _
   | exact laws_markStringS.mono _ _ _
   | exact laws_szLifeS.mono _ _ _
   | exact laws_szStayS.mono _ _ _
   | exact laws_toLifeS.mono _ _
   | exact laws_toStayS.mono _ _
   | exact spec_Due6.mono _ _ _
   | exact LeO.none _
   | refine LeO.ite ?_ ?_
   | refine LeO.bind ?_ (fun _ => ?_)
theorem laws_FnExactDue6.mono : ∀ a0 a1 k, LeO (laws_FnExactDue6.f k a0 a1) (laws_FnExactDue6.f (k + 1) a0 a1) := by
 intro a0 a1 k
 obtain ⟨ih0, ih1, ih2⟩ := laws_FnExactDue6.mono_l k
 unfold laws_FnExactDue6.f
 repeat' first
   | (with_reducible exact ih0 _ _ _ _ _ _ _ _ _)
   | (with_reducible exact ih1 _ _ _ _ _ _)
   | (with_reducible exact ih2 _ _ _)
   | (with_reducible exact laws_eqLifeS.mono _ _ _)
   | (with_reducible exact laws_eqStayS.mono _ _ _)
   | (with_reducible exact laws_eqStringS.mono _ _ _)
   | (with_reducible exact laws_heldStringS.mono _ _ _)
   | (with_reducible exact laws_markLifeS.mono _ _ _)
   | (with_reducible exact laws_markStayS.mono _ _ _)
   | (with_reducible exact laws_markStringS.mono _ _ _)
   | (with_reducible exact laws_szLifeS.mono _ _ _)
   | (with_reducible exact laws_szStayS.mono _ _ _)
   | (with_reducible exact laws_toLifeS.mono _ _)
   | (with_reducible exact laws_toStayS.mono _ _)
   | (with_reducible exact spec_Due6.mono _ _ _)
   | (with_reducible exact LeO.refl _)
   | (with_reducible exact LeO.none _)
   | (with_reducible refine LeO.ite ?_ ?_)
   | (with_reducible refine LeO.bind ?_ (fun _ => ?_))
   | exact ih0 _ _ _ _ _ _ _ _ _
   | exact ih1 _ _ _ _ _ _
   | exact ih2 _ _ _
   | exact laws_eqLifeS.mono _ _ _
   | exact laws_eqStayS.mono _ _ _
   | exact laws_eqStringS.mono _ _ _
   | exact laws_heldStringS.mono _ _ _
   | exact laws_markLifeS.mono _ _ _
   | exact laws_markStayS.mono _ _ _
   | exact laws_markStringS.mono _ _ _
   | exact laws_szLifeS.mono _ _ _
   | exact laws_szStayS.mono _ _ _
   | exact laws_toLifeS.mono _ _
   | exact laws_toStayS.mono _ _
   | exact spec_Due6.mono _ _ _
   | exact LeO.none _
   | refine LeO.ite ?_ ?_
   | refine LeO.bind ?_ (fun _ => ?_)
set_option maxHeartbeats 8000000 in
set_option maxRecDepth 100000 in
theorem laws_FnExactDue6.calls (k : Nat) (A0 : Option Addr) (c0 : Nat) (l0 : List (S23)) (A1 : Option Addr) (c1 : Nat) (l1 : List (S24)) (r : Bool) (hr_ : r = true) (w : World) (hr0 : Kd.C k23 w A0 l0.length l0) (hc0 : l0.length ≤ c0) (hr1 : Kd.C k24 w A1 l1.length l1) (hc1 : l1.length ≤ c1) (h : laws_FnExactDue6.f k l0 l1 = some r) :
  Calls Try.prog 5 #[.slice A0 l0.length c0, .slice A1 l1.length c1] w fun e w' => e = .returned (.bool r) ∧ Below w.heap.size w w' := by
 have HR0 := Aside0.mk hr0
 have HC0 := Aside0.mk hc0
 clear hr0 hc0
 have HR1 := Aside0.mk hr1
 have HC1 := Aside0.mk hc1
 clear hr1 hc1
 have HB := Aside0.mk (Below.refl w.heap.size w)
 have H : ((laws_szLifeS.f k l0 1048576).bind fun t267 => (if t267 < 0 then (some true) else ((laws_szStayS.f k l1 t267).bind fun t268 => (if t268 < 0 then (some true) else ((laws_toLifeS.f k l0).bind fun t269 => ((laws_toStayS.f k l1).bind fun t272 => ((spec_Due6.f k t269 t272).bind fun bt275 => ((laws_toLifeS.f k l0).bind fun t279 => ((laws_toStayS.f k l1).bind fun t282 => ((impl_Due6.f t279 t282).bind fun bt285 => ((laws_eqStringS.f k bt285.1 bt275.1).bind fun t289 => (if t289 = true then (laws_FnExactDue6.j0 k l0 l1 bt275.1 bt275.2 t279 t282 bt285.1 bt285.2 (bt285.2 != bt275.2)) else (laws_FnExactDue6.j0 k l0 l1 bt275.1 bt275.2 t279 t282 bt285.1 bt285.2 true))))))))))))) = some r := h
 clear h
 replace H := Option.bind_eq_some_iff.mp H
 obtain ⟨t267, A30, H⟩ := H
 replace H : (if t267 < 0 then (some true) else ((laws_szStayS.f k l1 t267).bind fun t268 => (if t268 < 0 then (some true) else ((laws_toLifeS.f k l0).bind fun t269 => ((laws_toStayS.f k l1).bind fun t272 => ((spec_Due6.f k t269 t272).bind fun bt275 => ((laws_toLifeS.f k l0).bind fun t279 => ((laws_toStayS.f k l1).bind fun t282 => ((impl_Due6.f t279 t282).bind fun bt285 => ((laws_eqStringS.f k bt285.1 bt275.1).bind fun t289 => (if t289 = true then (laws_FnExactDue6.j0 k l0 l1 bt275.1 bt275.2 t279 t282 bt285.1 bt285.2 (bt285.2 != bt275.2)) else (laws_FnExactDue6.j0 k l0 l1 bt275.1 bt275.2 t279 t282 bt285.1 bt285.2 true)))))))))))) = some r := H
 have A3 := Aside0.mk A30
 clear A30
 have HC4 := Aside0.mk H
 clear H
 go_enter Try.func5, Try.ntmps5
 go_upto_if 21 with (first | ((with_reducible refine gate_callee (f := 15) rfl ?_); refine goesL_ (some 19) rfl rfl Try.func15 (by kernel_rfl) rfl #[.slice A0 l0.length c0, .int .i64 1048576] rfl (by (try simp only [am_]); first | done | rfl) ?_; (with_reducible refine (laws_szLifeS.calls k _ _ l0 1048576 t267 _ ?side1 ?side2 A3.out).mono ?_); (case side1 => exact rc HR0.out); (case side2 => exact HC0.out); rintro e w5 ⟨rfl, hb⟩; refine ⟨_, rfl, ?_⟩; replace HB := Aside0.mk (below_step (bl HB.out) hb); (try clear hb); (try clear hb2); (try clear hk); (try clear hi)))
 have H := HC4.out
 clear HC4
 by_cases c6 : t267 < 0
 ·
  rw [if_pos c6] at H
  have c6b0 : decide (t267 < 0) = true := decide_eq_true c6
  clear c6
  (first | rw [c6b0] | (simp only [i64_w, i32_w]; rw [c6b0]) | skip)
  obtain rfl := Option.some.inj H
  go_wp2
  go_ret
  exact ⟨by first | rfl | (simp [errW_none, errW_some] <;> rfl) | (simp [*, errW_none, errW_some] <;> rfl), bl HB.out⟩
 ·
  rw [if_neg c6] at H
  have c6b0 : decide (t267 < 0) = false := decide_eq_false c6
  clear c6
  (first | rw [c6b0] | (simp only [i64_w, i32_w]; rw [c6b0]) | skip)
  replace H := Option.bind_eq_some_iff.mp H
  obtain ⟨t268, A70, H⟩ := H
  replace H : (if t268 < 0 then (some true) else ((laws_toLifeS.f k l0).bind fun t269 => ((laws_toStayS.f k l1).bind fun t272 => ((spec_Due6.f k t269 t272).bind fun bt275 => ((laws_toLifeS.f k l0).bind fun t279 => ((laws_toStayS.f k l1).bind fun t282 => ((impl_Due6.f t279 t282).bind fun bt285 => ((laws_eqStringS.f k bt285.1 bt275.1).bind fun t289 => (if t289 = true then (laws_FnExactDue6.j0 k l0 l1 bt275.1 bt275.2 t279 t282 bt285.1 bt285.2 (bt285.2 != bt275.2)) else (laws_FnExactDue6.j0 k l0 l1 bt275.1 bt275.2 t279 t282 bt285.1 bt285.2 true)))))))))) = some r := H
  have A7 := Aside0.mk A70
  clear A70
  have HC8 := Aside0.mk H
  clear H
  go_upto_if 26 with (first | ((with_reducible refine gate_callee (f := 16) rfl ?_); refine goesL_ (some 24) rfl rfl Try.func16 (by kernel_rfl) rfl #[.slice A1 l1.length c1, .int .i64 t267] rfl (by (try simp only [am_]); first | done | rfl) ?_; (with_reducible refine (laws_szStayS.calls k _ _ l1 t267 t268 _ ?side1 ?side2 A7.out).mono ?_); (case side1 => exact rc (Kd.C_below HR1.out HB.out)); (case side2 => exact HC1.out); rintro e w9 ⟨rfl, hb⟩; refine ⟨_, rfl, ?_⟩; replace HB := Aside0.mk (below_step (bl HB.out) hb); (try clear hb); (try clear hb2); (try clear hk); (try clear hi)))
  have H := HC8.out
  clear HC8
  by_cases c10 : t268 < 0
  ·
   rw [if_pos c10] at H
   have c10b0 : decide (t268 < 0) = true := decide_eq_true c10
   clear c10
   (first | rw [c10b0] | (simp only [i64_w, i32_w]; rw [c10b0]) | skip)
   obtain rfl := Option.some.inj H
   go_wp2
   go_ret
   exact ⟨by first | rfl | (simp [errW_none, errW_some] <;> rfl) | (simp [*, errW_none, errW_some] <;> rfl), bl HB.out⟩
  ·
   rw [if_neg c10] at H
   have c10b0 : decide (t268 < 0) = false := decide_eq_false c10
   clear c10
   (first | rw [c10b0] | (simp only [i64_w, i32_w]; rw [c10b0]) | skip)
   replace H := Option.bind_eq_some_iff.mp H
   obtain ⟨t269, A110, H⟩ := H
   replace H : ((laws_toStayS.f k l1).bind fun t272 => ((spec_Due6.f k t269 t272).bind fun bt275 => ((laws_toLifeS.f k l0).bind fun t279 => ((laws_toStayS.f k l1).bind fun t282 => ((impl_Due6.f t279 t282).bind fun bt285 => ((laws_eqStringS.f k bt285.1 bt275.1).bind fun t289 => (if t289 = true then (laws_FnExactDue6.j0 k l0 l1 bt275.1 bt275.2 t279 t282 bt285.1 bt285.2 (bt285.2 != bt275.2)) else (laws_FnExactDue6.j0 k l0 l1 bt275.1 bt275.2 t279 t282 bt285.1 bt285.2 true)))))))) = some r := H
   have A11 := Aside0.mk A110
   clear A110
   replace H := Option.bind_eq_some_iff.mp H
   obtain ⟨t272, A120, H⟩ := H
   replace H : ((spec_Due6.f k t269 t272).bind fun bt275 => ((laws_toLifeS.f k l0).bind fun t279 => ((laws_toStayS.f k l1).bind fun t282 => ((impl_Due6.f t279 t282).bind fun bt285 => ((laws_eqStringS.f k bt285.1 bt275.1).bind fun t289 => (if t289 = true then (laws_FnExactDue6.j0 k l0 l1 bt275.1 bt275.2 t279 t282 bt285.1 bt285.2 (bt285.2 != bt275.2)) else (laws_FnExactDue6.j0 k l0 l1 bt275.1 bt275.2 t279 t282 bt285.1 bt285.2 true))))))) = some r := H
   have A12 := Aside0.mk A120
   clear A120
   replace H := Option.bind_eq_some_iff.mp H
   obtain ⟨⟨t275, t276⟩, A130, H⟩ := H
   replace H : ((laws_toLifeS.f k l0).bind fun t279 => ((laws_toStayS.f k l1).bind fun t282 => ((impl_Due6.f t279 t282).bind fun bt285 => ((laws_eqStringS.f k bt285.1 t275).bind fun t289 => (if t289 = true then (laws_FnExactDue6.j0 k l0 l1 t275 t276 t279 t282 bt285.1 bt285.2 (bt285.2 != t276)) else (laws_FnExactDue6.j0 k l0 l1 t275 t276 t279 t282 bt285.1 bt285.2 true)))))) = some r := H
   have A13 := Aside0.mk A130
   clear A130
   replace H := Option.bind_eq_some_iff.mp H
   obtain ⟨t279, A140, H⟩ := H
   replace H : ((laws_toStayS.f k l1).bind fun t282 => ((impl_Due6.f t279 t282).bind fun bt285 => ((laws_eqStringS.f k bt285.1 t275).bind fun t289 => (if t289 = true then (laws_FnExactDue6.j0 k l0 l1 t275 t276 t279 t282 bt285.1 bt285.2 (bt285.2 != t276)) else (laws_FnExactDue6.j0 k l0 l1 t275 t276 t279 t282 bt285.1 bt285.2 true))))) = some r := H
   have A14 := Aside0.mk A140
   clear A140
   replace H := Option.bind_eq_some_iff.mp H
   obtain ⟨t282, A150, H⟩ := H
   replace H : ((impl_Due6.f t279 t282).bind fun bt285 => ((laws_eqStringS.f k bt285.1 t275).bind fun t289 => (if t289 = true then (laws_FnExactDue6.j0 k l0 l1 t275 t276 t279 t282 bt285.1 bt285.2 (bt285.2 != t276)) else (laws_FnExactDue6.j0 k l0 l1 t275 t276 t279 t282 bt285.1 bt285.2 true)))) = some r := H
   have A15 := Aside0.mk A150
   clear A150
   replace H := Option.bind_eq_some_iff.mp H
   obtain ⟨⟨t285, t286⟩, A160, H⟩ := H
   replace H : ((laws_eqStringS.f k t285 t275).bind fun t289 => (if t289 = true then (laws_FnExactDue6.j0 k l0 l1 t275 t276 t279 t282 t285 t286 (t286 != t276)) else (laws_FnExactDue6.j0 k l0 l1 t275 t276 t279 t282 t285 t286 true))) = some r := H
   have A16 := Aside0.mk A160
   clear A160
   have HC17 := Aside0.mk H
   clear H
   go_upto_region 12 with (first | ((with_reducible refine gate_callee (f := 18) rfl ?_); refine goesL_ (some 29) rfl rfl Try.func18 (by kernel_rfl) rfl #[.slice A0 l0.length c0] rfl (by (try simp only [am_]); first | done | rfl) ?_; (with_reducible refine (laws_toLifeS.calls k _ _ l0 t269 _ ?side1 ?side2 A11.out).mono ?_); (case side1 => exact rc (Kd.C_below HR0.out HB.out)); (case side2 => exact HC0.out); rintro e w18 ⟨v270, rfl, ho0, hb⟩; refine ⟨_, rfl, ?_⟩; have HO271 := Aside0.mk (Kd.R_lower ho0 (below_size (bl HB.out))); replace HB := Aside0.mk (below_step (bl HB.out) hb); (try clear hb); (try clear hb2); (try clear hk); (try clear hi); (try clear ho0)) | ((with_reducible refine gate_callee (f := 19) rfl ?_); refine goesL_ (some 31) rfl rfl Try.func19 (by kernel_rfl) rfl #[.slice A1 l1.length c1] rfl (by (try simp only [am_]); first | done | rfl) ?_; (with_reducible refine (laws_toStayS.calls k _ _ l1 t272 _ ?side1 ?side2 A12.out).mono ?_); (case side1 => exact rc (Kd.C_below HR1.out HB.out)); (case side2 => exact HC1.out); rintro e w19 ⟨v273, rfl, ho0, hb⟩; refine ⟨_, rfl, ?_⟩; replace HO271 := Aside0.mk (Kd.R_below (rl HO271.out) hb); have HO274 := Aside0.mk (Kd.R_lower ho0 (below_size (bl HB.out))); replace HB := Aside0.mk (below_step (bl HB.out) hb); (try clear hb); (try clear hb2); (try clear hk); (try clear hi); (try clear ho0); obtain ⟨Ao20, co20, eo20⟩ := Kd.R_slice HO271.out; subst eo20; obtain ⟨Ao21, co21, eo21⟩ := Kd.R_slice HO274.out; subst eo21) | ((with_reducible refine gate_callee (f := 17) rfl ?_); refine goesL_ (some 32) rfl rfl Try.func17 (by kernel_rfl) rfl #[.slice Ao20 t269.length co20, .slice Ao21 t272.length co21] rfl (by (try simp only [am_]); first | done | rfl) ?_; (with_reducible refine (spec_Due6.calls k _ _ t269 _ _ t272 t275 t276 _ ?side1 ?side2 ?side3 ?side4 A13.out).mono ?_); (case side1 => exact rc (Kd.R_reads' HO271.out).2.2); (case side2 => exact (Kd.R_reads' HO271.out).2.1); (case side3 => exact rc (Kd.R_reads' HO274.out).2.2); (case side4 => exact (Kd.R_reads' HO274.out).2.1); rintro e w22 ⟨v277, rfl, ho0, hb⟩; refine ⟨_, rfl, ?_⟩; replace HO271 := Aside0.mk (Kd.R_below (rl HO271.out) hb); replace HO274 := Aside0.mk (Kd.R_below (rl HO274.out) hb); have HO278 := Aside0.mk (Kd.R_lower ho0 (below_size (bl HB.out))); replace HB := Aside0.mk (below_step (bl HB.out) hb); (try clear hb); (try clear hb2); (try clear hk); (try clear hi); (try clear ho0)) | ((with_reducible refine gate_callee (f := 18) rfl ?_); refine goesL_ (some 36) rfl rfl Try.func18 (by kernel_rfl) rfl #[.slice A0 l0.length c0] rfl (by (try simp only [am_]); first | done | rfl) ?_; (with_reducible refine (laws_toLifeS.calls k _ _ l0 t279 _ ?side1 ?side2 A14.out).mono ?_); (case side1 => exact rc (Kd.C_below HR0.out HB.out)); (case side2 => exact HC0.out); rintro e w23 ⟨v280, rfl, ho0, hb⟩; refine ⟨_, rfl, ?_⟩; replace HO274 := Aside0.mk (Kd.R_below (rl HO274.out) hb); replace HO278 := Aside0.mk (Kd.R_below (rl HO278.out) hb); have HO281 := Aside0.mk (Kd.R_lower (Kd.R_new' ho0 (Kd.R_lt (by (repeat apply rl1); exact HO271.out))) (below_size (bl HB.out))); replace HO271 := Aside0.mk (Kd.R_elder' (rl HO271.out) (Kd.R_base ho0) hb); replace HB := Aside0.mk (below_step (bl HB.out) hb); (try clear hb); (try clear hb2); (try clear hk); (try clear hi); (try clear ho0)) | ((with_reducible refine gate_callee (f := 19) rfl ?_); refine goesL_ (some 38) rfl rfl Try.func19 (by kernel_rfl) rfl #[.slice A1 l1.length c1] rfl (by (try simp only [am_]); first | done | rfl) ?_; (with_reducible refine (laws_toStayS.calls k _ _ l1 t282 _ ?side1 ?side2 A15.out).mono ?_); (case side1 => exact rc (Kd.C_below HR1.out HB.out)); (case side2 => exact HC1.out); rintro e w24 ⟨v283, rfl, ho0, hb⟩; refine ⟨_, rfl, ?_⟩; replace HO271 := Aside0.mk (Kd.R_below (rl HO271.out) hb); replace HO278 := Aside0.mk (Kd.R_below (rl HO278.out) hb); replace HO281 := Aside0.mk (Kd.R_below (rl HO281.out) hb); have HO284 := Aside0.mk (Kd.R_lower (Kd.R_new' ho0 (Kd.R_lt (by (repeat apply rl1); exact HO274.out))) (below_size (bl HB.out))); replace HO274 := Aside0.mk (Kd.R_elder' (rl HO274.out) (Kd.R_base ho0) hb); replace HB := Aside0.mk (below_step (bl HB.out) hb); (try clear hb); (try clear hb2); (try clear hk); (try clear hi); (try clear ho0); obtain ⟨Ao25, co25, eo25⟩ := Kd.R_slice HO281.out; subst eo25; obtain ⟨Ao26, co26, eo26⟩ := Kd.R_slice HO284.out; subst eo26) | ((with_reducible refine gate_callee (f := 14) rfl ?_); refine goesL_ (some 42) rfl rfl Try.func14 (by kernel_rfl) rfl #[.slice Ao25 t279.length co25, .slice Ao26 t282.length co26] rfl (by (try simp only [am_]); first | done | rfl) ?_; (with_reducible refine (impl_Due6.calls _ _ t279 _ _ t282 t285 t286 _ ?side1 ?side2 ?side3 ?side4 A16.out).mono ?_); (case side1 => exact rc (Kd.R_reads' HO281.out).2.2); (case side2 => exact (Kd.R_reads' HO281.out).2.1); (case side3 => exact rc (Kd.R_reads' HO284.out).2.2); (case side4 => exact (Kd.R_reads' HO284.out).2.1); rintro e w27 ⟨v287, rfl, ho0, hb⟩; refine ⟨_, rfl, ?_⟩; replace HO271 := Aside0.mk (Kd.R_below (rl HO271.out) hb); replace HO274 := Aside0.mk (Kd.R_below (rl HO274.out) hb); replace HO281 := Aside0.mk (Kd.R_below (rl HO281.out) hb); replace HO284 := Aside0.mk (Kd.R_below (rl HO284.out) hb); have HO288 := Aside0.mk (Kd.R_lower (Kd.R_new' ho0 (Kd.R_lt (by (repeat apply rl1); exact HO278.out))) (below_size (bl HB.out))); replace HO278 := Aside0.mk (Kd.R_elder' (rl HO278.out) (Kd.R_base ho0) hb); replace HB := Aside0.mk (below_step (bl HB.out) hb); (try clear hb); (try clear hb2); (try clear hk); (try clear hi); (try clear ho0)))
   (try simp only [Act.put, List.setIfInBounds_toArray, List.set_cons_zero, List.set_cons_succ])
   go_cut [53] (fun v53 wc => ∃ (kq : Nat) (x53_16 : Bool), v53 = .bool x53_16 ∧ Aside0 (laws_FnExactDue6.j0 kq l0 l1 t275 t276 t279 t282 t285 t286 x53_16 = some r) ∧ Aside0 (kq ≤ k) ∧ Aside0 (Kd.R Kd.string 9 wc w.heap.size (fun k_ => some k_ ≠ (v287 : Value).ownBlock) v277 t275) ∧ Aside0 (Kd.R k29 29 wc w.heap.size (fun _ => True) (.slice Ao25 t279.length co25) t279) ∧ Aside0 (Kd.R k31 31 wc w.heap.size (fun _ => True) (.slice Ao26 t282.length co26) t282) ∧ Aside0 (Kd.R Kd.string 9 wc w.heap.size (fun k_ => some k_ ≠ (v277 : Value).ownBlock) v287 t285) ∧ Aside0 (Below w.heap.size w wc))
   case first =>
    have H := HC17.out
    clear HC17
    replace H := Option.bind_eq_some_iff.mp H
    obtain ⟨t289, A280, H⟩ := H
    replace H : (if t289 = true then (laws_FnExactDue6.j0 k l0 l1 t275 t276 t279 t282 t285 t286 (t286 != t276)) else (laws_FnExactDue6.j0 k l0 l1 t275 t276 t279 t282 t285 t286 true)) = some r := H
    have A28 := Aside0.mk A280
    clear A280
    by_cases c29 : t289 = true
    ·
     subst c29
     have H1 : (laws_FnExactDue6.j0 k l0 l1 t275 t276 t279 t282 t285 t286 (t286 != t276)) = some r := by rw [if_pos rfl] at H; exact H
     clear H
     have H := H1
     clear H1
     have H' := Aside0.mk H
     clear H
     obtain ⟨Ao30, co30, eo30⟩ := Kd.R_slice HO288.out
     subst eo30
     obtain ⟨Ao31, co31, eo31⟩ := Kd.R_slice HO278.out
     subst eo31
     go_wp2_with (first | ((with_reducible refine gate_callee (f := 20) rfl ?_); refine goesL_ (some 47) rfl rfl Try.func20 (by kernel_rfl) rfl #[.slice Ao30 t285.length co30, .slice Ao31 t275.length co31] rfl (by (try simp only [am_]); first | done | rfl) ?_; (with_reducible refine (laws_eqStringS.calls k _ _ t285 _ _ t275 true _ ?side1 ?side2 ?side3 ?side4 A28.out).mono ?_); (case side1 => exact rc (Kd.R_reads' HO288.out).2.2); (case side2 => exact (Kd.R_reads' HO288.out).2.1); (case side3 => exact rc (Kd.R_reads' HO278.out).2.2); (case side4 => exact (Kd.R_reads' HO278.out).2.1); rintro e w' ⟨rfl, ⟨nd, rfl⟩⟩; refine ⟨_, rfl, ?_⟩))
     go_meet
     case rel => exact ⟨_, ((t286 != t276)), (by first | rfl | (simp; done) | (simp [*]; done)), H', ⟨by first | omega | exact Nat.le_refl _⟩, ⟨by (repeat apply rl1); exact Kd.R_mono HO278.out (fun _ hk => hk.2)⟩, ⟨by (repeat apply rl1); exact Kd.R_mono HO281.out (fun _ hk => trivial)⟩, ⟨by (repeat apply rl1); exact Kd.R_mono HO284.out (fun _ hk => trivial)⟩, ⟨by (repeat apply rl1); exact Kd.R_mono HO288.out (fun _ hk => hk.2)⟩, ⟨bl HB.out⟩⟩
    ·
     replace c29 := Bool.eq_false_iff.mpr c29
     subst c29
     have H1 : (laws_FnExactDue6.j0 k l0 l1 t275 t276 t279 t282 t285 t286 true) = some r := by rw [if_neg (show ¬ (false = true) by decide)] at H; exact H
     clear H
     have H := H1
     clear H1
     have H' := Aside0.mk H
     clear H
     obtain ⟨Ao32, co32, eo32⟩ := Kd.R_slice HO288.out
     subst eo32
     obtain ⟨Ao33, co33, eo33⟩ := Kd.R_slice HO278.out
     subst eo33
     go_wp2_with (first | ((with_reducible refine gate_callee (f := 20) rfl ?_); refine goesL_ (some 47) rfl rfl Try.func20 (by kernel_rfl) rfl #[.slice Ao32 t285.length co32, .slice Ao33 t275.length co33] rfl (by (try simp only [am_]); first | done | rfl) ?_; (with_reducible refine (laws_eqStringS.calls k _ _ t285 _ _ t275 false _ ?side1 ?side2 ?side3 ?side4 A28.out).mono ?_); (case side1 => exact rc (Kd.R_reads' HO288.out).2.2); (case side2 => exact (Kd.R_reads' HO288.out).2.1); (case side3 => exact rc (Kd.R_reads' HO278.out).2.2); (case side4 => exact (Kd.R_reads' HO278.out).2.1); rintro e w' ⟨rfl, ⟨nd, rfl⟩⟩; refine ⟨_, rfl, ?_⟩))
     go_meet
     case rel => exact ⟨_, (true), (by first | rfl | (simp; done) | (simp [*]; done)), H', ⟨by first | omega | exact Nat.le_refl _⟩, ⟨by (repeat apply rl1); exact Kd.R_mono HO278.out (fun _ hk => hk.2)⟩, ⟨by (repeat apply rl1); exact Kd.R_mono HO281.out (fun _ hk => trivial)⟩, ⟨by (repeat apply rl1); exact Kd.R_mono HO284.out (fun _ hk => trivial)⟩, ⟨by (repeat apply rl1); exact Kd.R_mono HO288.out (fun _ hk => hk.2)⟩, ⟨bl HB.out⟩⟩
   case rest =>
    clear HC17
    try clear c1
    try clear c2
    try clear p2
    try clear c5
    try clear c6
    try clear c6b0
    try clear c10
    try clear c10b0
    try clear c14
    try clear c15
    try clear c16
    try clear c17
    try clear c18
    try clear c19
    try clear c20
    try clear c29
    obtain ⟨kq, x53_16, rfl, HA, HJ16, HO_6, HO_8, HO_9, HO_10, HB⟩ := hcut
    cases kq with
    | zero => exact absurd HA.out (by simp [laws_FnExactDue6.j0])
    | succ kj16 =>
     have H := HA.out
     clear HA
     simp only [laws_FnExactDue6.j0] at H
     by_cases c34 : x53_16 = true
     ·
      subst c34
      have H1 : (some false) = some r := by rw [if_pos rfl] at H; exact H
      clear H
      have H := H1
      clear H1
      cases H.trans (congrArg some hr_)
     ·
      replace c34 := Bool.eq_false_iff.mpr c34
      subst c34
      have H1 : ((laws_toLifeS.f kj16 l0).bind fun t290 => ((laws_eqLifeS.f kj16 t279 t290).bind fun t293 => (if t293 = true then ((laws_toStayS.f kj16 l1).bind fun t294 => ((laws_eqStayS.f kj16 t282 t294).bind fun t297 => (if t297 = true then ((laws_markLifeS.f kj16 t279 1).bind fun bt298 => ((laws_markStayS.f kj16 t282 bt298.1).bind fun bt300 => (if bt300.1 < 0 then (laws_FnExactDue6.j1 kj16 l0 l1 t275 t276 t285 true) else ((laws_eqStringS.f kj16 t285 t275).bind fun t302 => (if t302 = true then (laws_FnExactDue6.j1 kj16 l0 l1 t275 t276 t285 (t286 != t276)) else (laws_FnExactDue6.j1 kj16 l0 l1 t275 t276 t285 true)))))) else (some false)))) else (some false)))) = some r := by rw [if_neg (show ¬ (false = true) by decide)] at H; exact H
      clear H
      have H := H1
      clear H1
      replace H := Option.bind_eq_some_iff.mp H
      obtain ⟨t290, A350, H⟩ := H
      replace H : ((laws_eqLifeS.f kj16 t279 t290).bind fun t293 => (if t293 = true then ((laws_toStayS.f kj16 l1).bind fun t294 => ((laws_eqStayS.f kj16 t282 t294).bind fun t297 => (if t297 = true then ((laws_markLifeS.f kj16 t279 1).bind fun bt298 => ((laws_markStayS.f kj16 t282 bt298.1).bind fun bt300 => (if bt300.1 < 0 then (laws_FnExactDue6.j1 kj16 l0 l1 t275 t276 t285 true) else ((laws_eqStringS.f kj16 t285 t275).bind fun t302 => (if t302 = true then (laws_FnExactDue6.j1 kj16 l0 l1 t275 t276 t285 (t286 != t276)) else (laws_FnExactDue6.j1 kj16 l0 l1 t275 t276 t285 true)))))) else (some false)))) else (some false))) = some r := H
      have A35 := Aside0.mk A350
      clear A350
      replace H := Option.bind_eq_some_iff.mp H
      obtain ⟨t293, A360, H⟩ := H
      replace H : (if t293 = true then ((laws_toStayS.f kj16 l1).bind fun t294 => ((laws_eqStayS.f kj16 t282 t294).bind fun t297 => (if t297 = true then ((laws_markLifeS.f kj16 t279 1).bind fun bt298 => ((laws_markStayS.f kj16 t282 bt298.1).bind fun bt300 => (if bt300.1 < 0 then (laws_FnExactDue6.j1 kj16 l0 l1 t275 t276 t285 true) else ((laws_eqStringS.f kj16 t285 t275).bind fun t302 => (if t302 = true then (laws_FnExactDue6.j1 kj16 l0 l1 t275 t276 t285 (t286 != t276)) else (laws_FnExactDue6.j1 kj16 l0 l1 t275 t276 t285 true)))))) else (some false)))) else (some false)) = some r := H
      have A36 := Aside0.mk A360
      clear A360
      have HC37 := Aside0.mk H
      clear H
      go_upto_if 58 with (first | ((with_reducible refine gate_callee (f := 18) rfl ?_); refine goesL_ (some 56) rfl rfl Try.func18 (by kernel_rfl) rfl #[.slice A0 l0.length c0] rfl (by (try simp only [am_]); first | done | rfl) ?_; (with_reducible refine (laws_toLifeS.calls kj16 _ _ l0 t290 _ ?side1 ?side2 A35.out).mono ?_); (case side1 => exact rc (Kd.C_below HR0.out HB.out)); (case side2 => exact HC0.out); rintro e w38 ⟨v291, rfl, ho0, hb⟩; refine ⟨_, rfl, ?_⟩; replace HO_6 := Aside0.mk (Kd.R_below (rl HO_6.out) hb); replace HO_9 := Aside0.mk (Kd.R_below (rl HO_9.out) hb); replace HO_10 := Aside0.mk (Kd.R_below (rl HO_10.out) hb); have HO292 := Aside0.mk (Kd.R_lower (Kd.R_new' ho0 (Kd.R_lt (by (repeat apply rl1); exact HO_8.out))) (below_size (bl HB.out))); replace HO_8 := Aside0.mk (Kd.R_elder' (rl HO_8.out) (Kd.R_base ho0) hb); replace HB := Aside0.mk (below_step (bl HB.out) hb); (try clear hb); (try clear hb2); (try clear hk); (try clear hi); (try clear ho0); obtain ⟨Ao39, co39, eo39⟩ := Kd.R_slice HO292.out; subst eo39) | ((with_reducible refine gate_callee (f := 21) rfl ?_); refine goesL_ (some 57) rfl rfl Try.func21 (by kernel_rfl) rfl #[.slice Ao25 t279.length co25, .slice Ao39 t290.length co39] rfl (by (try simp only [am_]); first | done | rfl) ?_; (with_reducible refine (laws_eqLifeS.calls kj16 _ _ t279 _ _ t290 t293 _ ?side1 ?side2 ?side3 ?side4 A36.out).mono ?_); (case side1 => exact rc (Kd.R_reads' HO_8.out).2.2); (case side2 => exact (Kd.R_reads' HO_8.out).2.1); (case side3 => exact rc (Kd.R_reads' HO292.out).2.2); (case side4 => exact (Kd.R_reads' HO292.out).2.1); rintro e w40 ⟨rfl, hb⟩; refine ⟨_, rfl, ?_⟩; replace HO_6 := Aside0.mk (Kd.R_below (rl HO_6.out) hb); replace HO_8 := Aside0.mk (Kd.R_below (rl HO_8.out) hb); replace HO_9 := Aside0.mk (Kd.R_below (rl HO_9.out) hb); replace HO_10 := Aside0.mk (Kd.R_below (rl HO_10.out) hb); replace HO292 := Aside0.mk (Kd.R_below (rl HO292.out) hb); replace HB := Aside0.mk (below_step (bl HB.out) hb); (try clear hb); (try clear hb2); (try clear hk); (try clear hi)))
      have H := HC37.out
      clear HC37
      by_cases c41 : t293 = true
      ·
       subst c41
       have H1 : ((laws_toStayS.f kj16 l1).bind fun t294 => ((laws_eqStayS.f kj16 t282 t294).bind fun t297 => (if t297 = true then ((laws_markLifeS.f kj16 t279 1).bind fun bt298 => ((laws_markStayS.f kj16 t282 bt298.1).bind fun bt300 => (if bt300.1 < 0 then (laws_FnExactDue6.j1 kj16 l0 l1 t275 t276 t285 true) else ((laws_eqStringS.f kj16 t285 t275).bind fun t302 => (if t302 = true then (laws_FnExactDue6.j1 kj16 l0 l1 t275 t276 t285 (t286 != t276)) else (laws_FnExactDue6.j1 kj16 l0 l1 t275 t276 t285 true)))))) else (some false)))) = some r := by rw [if_pos rfl] at H; exact H
       clear H
       have H := H1
       clear H1
       replace H := Option.bind_eq_some_iff.mp H
       obtain ⟨t294, A420, H⟩ := H
       replace H : ((laws_eqStayS.f kj16 t282 t294).bind fun t297 => (if t297 = true then ((laws_markLifeS.f kj16 t279 1).bind fun bt298 => ((laws_markStayS.f kj16 t282 bt298.1).bind fun bt300 => (if bt300.1 < 0 then (laws_FnExactDue6.j1 kj16 l0 l1 t275 t276 t285 true) else ((laws_eqStringS.f kj16 t285 t275).bind fun t302 => (if t302 = true then (laws_FnExactDue6.j1 kj16 l0 l1 t275 t276 t285 (t286 != t276)) else (laws_FnExactDue6.j1 kj16 l0 l1 t275 t276 t285 true)))))) else (some false))) = some r := H
       have A42 := Aside0.mk A420
       clear A420
       replace H := Option.bind_eq_some_iff.mp H
       obtain ⟨t297, A430, H⟩ := H
       replace H : (if t297 = true then ((laws_markLifeS.f kj16 t279 1).bind fun bt298 => ((laws_markStayS.f kj16 t282 bt298.1).bind fun bt300 => (if bt300.1 < 0 then (laws_FnExactDue6.j1 kj16 l0 l1 t275 t276 t285 true) else ((laws_eqStringS.f kj16 t285 t275).bind fun t302 => (if t302 = true then (laws_FnExactDue6.j1 kj16 l0 l1 t275 t276 t285 (t286 != t276)) else (laws_FnExactDue6.j1 kj16 l0 l1 t275 t276 t285 true)))))) else (some false)) = some r := H
       have A43 := Aside0.mk A430
       clear A430
       have HC44 := Aside0.mk H
       clear H
       go_upto_if 63 with (first | ((with_reducible refine gate_callee (f := 19) rfl ?_); refine goesL_ (some 61) rfl rfl Try.func19 (by kernel_rfl) rfl #[.slice A1 l1.length c1] rfl (by (try simp only [am_]); first | done | rfl) ?_; (with_reducible refine (laws_toStayS.calls kj16 _ _ l1 t294 _ ?side1 ?side2 A42.out).mono ?_); (case side1 => exact rc (Kd.C_below HR1.out HB.out)); (case side2 => exact HC1.out); rintro e w45 ⟨v295, rfl, ho0, hb⟩; refine ⟨_, rfl, ?_⟩; replace HO_6 := Aside0.mk (Kd.R_below (rl HO_6.out) hb); replace HO_8 := Aside0.mk (Kd.R_below (rl HO_8.out) hb); replace HO_10 := Aside0.mk (Kd.R_below (rl HO_10.out) hb); replace HO292 := Aside0.mk (Kd.R_below (rl HO292.out) hb); have HO296 := Aside0.mk (Kd.R_lower (Kd.R_new' ho0 (Kd.R_lt (by (repeat apply rl1); exact HO_9.out))) (below_size (bl HB.out))); replace HO_9 := Aside0.mk (Kd.R_elder' (rl HO_9.out) (Kd.R_base ho0) hb); replace HB := Aside0.mk (below_step (bl HB.out) hb); (try clear hb); (try clear hb2); (try clear hk); (try clear hi); (try clear ho0); obtain ⟨Ao46, co46, eo46⟩ := Kd.R_slice HO296.out; subst eo46) | ((with_reducible refine gate_callee (f := 22) rfl ?_); refine goesL_ (some 62) rfl rfl Try.func22 (by kernel_rfl) rfl #[.slice Ao26 t282.length co26, .slice Ao46 t294.length co46] rfl (by (try simp only [am_]); first | done | rfl) ?_; (with_reducible refine (laws_eqStayS.calls kj16 _ _ t282 _ _ t294 t297 _ ?side1 ?side2 ?side3 ?side4 A43.out).mono ?_); (case side1 => exact rc (Kd.R_reads' HO_9.out).2.2); (case side2 => exact (Kd.R_reads' HO_9.out).2.1); (case side3 => exact rc (Kd.R_reads' HO296.out).2.2); (case side4 => exact (Kd.R_reads' HO296.out).2.1); rintro e w47 ⟨rfl, hb⟩; refine ⟨_, rfl, ?_⟩; replace HO_6 := Aside0.mk (Kd.R_below (rl HO_6.out) hb); replace HO_8 := Aside0.mk (Kd.R_below (rl HO_8.out) hb); replace HO_9 := Aside0.mk (Kd.R_below (rl HO_9.out) hb); replace HO_10 := Aside0.mk (Kd.R_below (rl HO_10.out) hb); replace HO292 := Aside0.mk (Kd.R_below (rl HO292.out) hb); replace HO296 := Aside0.mk (Kd.R_below (rl HO296.out) hb); replace HB := Aside0.mk (below_step (bl HB.out) hb); (try clear hb); (try clear hb2); (try clear hk); (try clear hi)))
       have H := HC44.out
       clear HC44
       by_cases c48 : t297 = true
       ·
        subst c48
        have H1 : ((laws_markLifeS.f kj16 t279 1).bind fun bt298 => ((laws_markStayS.f kj16 t282 bt298.1).bind fun bt300 => (if bt300.1 < 0 then (laws_FnExactDue6.j1 kj16 l0 l1 t275 t276 t285 true) else ((laws_eqStringS.f kj16 t285 t275).bind fun t302 => (if t302 = true then (laws_FnExactDue6.j1 kj16 l0 l1 t275 t276 t285 (t286 != t276)) else (laws_FnExactDue6.j1 kj16 l0 l1 t275 t276 t285 true)))))) = some r := by rw [if_pos rfl] at H; exact H
        clear H
        have H := H1
        clear H1
        replace H := Option.bind_eq_some_iff.mp H
        obtain ⟨⟨t298, t299⟩, A490, H⟩ := H
        replace H : ((laws_markStayS.f kj16 t282 t298).bind fun bt300 => (if bt300.1 < 0 then (laws_FnExactDue6.j1 kj16 l0 l1 t275 t276 t285 true) else ((laws_eqStringS.f kj16 t285 t275).bind fun t302 => (if t302 = true then (laws_FnExactDue6.j1 kj16 l0 l1 t275 t276 t285 (t286 != t276)) else (laws_FnExactDue6.j1 kj16 l0 l1 t275 t276 t285 true))))) = some r := H
        have A49 := Aside0.mk A490
        clear A490
        replace H := Option.bind_eq_some_iff.mp H
        obtain ⟨⟨t300, t301⟩, A500, H⟩ := H
        replace H : (if t300 < 0 then (laws_FnExactDue6.j1 kj16 l0 l1 t275 t276 t285 true) else ((laws_eqStringS.f kj16 t285 t275).bind fun t302 => (if t302 = true then (laws_FnExactDue6.j1 kj16 l0 l1 t275 t276 t285 (t286 != t276)) else (laws_FnExactDue6.j1 kj16 l0 l1 t275 t276 t285 true)))) = some r := H
        have A50 := Aside0.mk A500
        clear A500
        have HC51 := Aside0.mk H
        clear H
        go_upto_region 21 with (first | ((with_reducible refine gate_callee (f := 23) rfl ?_); refine goesL_ (some 66) rfl rfl Try.func23 (by kernel_rfl) rfl #[.slice Ao25 t279.length co25, .int .i64 1] rfl (by (try simp only [am_]); first | done | rfl) ?_; (with_reducible refine (laws_markLifeS.calls kj16 (fun k_ => some k_ = (.slice Ao25 t279.length co25 : Value).ownBlock) (.slice Ao25 t279.length co25) t279 1 t298 t299 w _ ?side1 ?side2 A49.out).mono ?_); (case side1 => exact bl HB.out); (case side2 => exact Kd.R_tight rfl HO_8.out); rintro e w52 ⟨rfl, hy0, hb, hkp⟩; refine ⟨_, rfl, ?_⟩; replace HO_6 := Aside0.mk (Kd.R_mono (ok' := fun k_ => some k_ ≠ (v287 : Value).ownBlock) (Kd.R_keptB ((Kd.R_apart' HO_6.out (Kd.R_typed HO_8.out) (by decide))) hkp (fun k_ hk_ hs_ => (hk_.2) hs_)) (fun k_ hk_ => hk_.1.1)); replace HO_9 := Aside0.mk (Kd.R_mono (ok' := fun k_ => some k_ ≠ (.slice Ao46 t294.length co46 : Value).ownBlock) (Kd.R_keptB ((Kd.R_apart' HO_9.out (Kd.R_typed HO_8.out) (by decide))) hkp (fun k_ hk_ hs_ => (hk_.2) hs_)) (fun k_ hk_ => hk_.1.1.2)); replace HO_10 := Aside0.mk (Kd.R_mono (ok' := fun k_ => some k_ ≠ (v277 : Value).ownBlock) (Kd.R_keptB ((Kd.R_apart' HO_10.out (Kd.R_typed HO_8.out) (by decide))) hkp (fun k_ hk_ hs_ => (hk_.2) hs_)) (fun k_ hk_ => hk_.1.1)); replace HO292 := Aside0.mk (Kd.R_mono (ok' := fun k_ => some k_ ≠ (.slice Ao25 t279.length co25 : Value).ownBlock) (Kd.R_keptB (HO292.out) hkp (fun k_ hk_ hs_ => (hk_.2) hs_)) (fun k_ hk_ => hk_.1.2)); replace HO296 := Aside0.mk (Kd.R_mono (ok' := fun k_ => some k_ ≠ (.slice Ao26 t282.length co26 : Value).ownBlock) (Kd.R_keptB ((Kd.R_apart' HO296.out (Kd.R_typed HO_8.out) (by decide))) hkp (fun k_ hk_ hs_ => (hk_.2) hs_)) (fun k_ hk_ => hk_.1.1.2)); replace HO_8 := Aside0.mk (Kd.R_reok rfl hy0 (fun k_ e_ => HO_8.out.1 k_ e_)); replace HB := Aside0.mk (hb); (try clear hb); (try clear hkp); (try clear hy0)) | ((with_reducible refine gate_callee (f := 24) rfl ?_); refine goesL_ (some 69) rfl rfl Try.func24 (by kernel_rfl) rfl #[.slice Ao26 t282.length co26, .int .i64 t298] rfl (by (try simp only [am_]); first | done | rfl) ?_; (with_reducible refine (laws_markStayS.calls kj16 (fun k_ => some k_ = (.slice Ao26 t282.length co26 : Value).ownBlock) (.slice Ao26 t282.length co26) t282 t298 t300 t301 w _ ?side1 ?side2 A50.out).mono ?_); (case side1 => exact bl HB.out); (case side2 => exact Kd.R_tight rfl HO_9.out); rintro e w53 ⟨rfl, hy0, hb, hkp⟩; refine ⟨_, rfl, ?_⟩; replace HO_6 := Aside0.mk (Kd.R_mono (ok' := fun k_ => some k_ ≠ (v287 : Value).ownBlock) (Kd.R_keptB ((Kd.R_apart' HO_6.out (Kd.R_typed HO_9.out) (by decide))) hkp (fun k_ hk_ hs_ => (hk_.2) hs_)) (fun k_ hk_ => hk_.1.1)); replace HO_8 := Aside0.mk (Kd.R_mono (ok' := fun k_ => some k_ ≠ (.slice Ao39 t290.length co39 : Value).ownBlock) (Kd.R_keptB ((Kd.R_apart' HO_8.out (Kd.R_typed HO_9.out) (by decide))) hkp (fun k_ hk_ hs_ => (hk_.2) hs_)) (fun k_ hk_ => hk_.1.1.2)); replace HO_10 := Aside0.mk (Kd.R_mono (ok' := fun k_ => some k_ ≠ (v277 : Value).ownBlock) (Kd.R_keptB ((Kd.R_apart' HO_10.out (Kd.R_typed HO_9.out) (by decide))) hkp (fun k_ hk_ hs_ => (hk_.2) hs_)) (fun k_ hk_ => hk_.1.1)); replace HO292 := Aside0.mk (Kd.R_mono (ok' := fun k_ => some k_ ≠ (.slice Ao25 t279.length co25 : Value).ownBlock) (Kd.R_keptB ((Kd.R_apart' HO292.out (Kd.R_typed HO_9.out) (by decide))) hkp (fun k_ hk_ hs_ => (hk_.2) hs_)) (fun k_ hk_ => hk_.1.1)); replace HO_9 := Aside0.mk (Kd.R_reok rfl hy0 (fun k_ e_ => HO_9.out.1 k_ e_)); replace HO296 := Aside0.mk (Kd.R_mono (ok' := fun k_ => some k_ ≠ (.slice Ao26 t282.length co26 : Value).ownBlock) (Kd.R_keptB (HO296.out) hkp (fun k_ hk_ hs_ => (hk_) hs_)) (fun k_ hk_ => hk_.1)); replace HB := Aside0.mk (hb); (try clear hb); (try clear hkp); (try clear hy0)))
        (try simp only [Act.put, List.setIfInBounds_toArray, List.set_cons_zero, List.set_cons_succ])
        go_cut [82] (fun v82 wc => ∃ (kq : Nat) (x82_50 : Bool), v82 = .bool x82_50 ∧ Aside0 (laws_FnExactDue6.j1 kq l0 l1 t275 t276 t285 x82_50 = some r) ∧ Aside0 (kq ≤ kj16) ∧ Aside0 (Kd.R Kd.string 9 wc w.heap.size (fun k_ => some k_ ≠ (v287 : Value).ownBlock) v277 t275) ∧ Aside0 (Kd.R Kd.string 9 wc w.heap.size (fun k_ => some k_ ≠ (v277 : Value).ownBlock) v287 t285) ∧ Aside0 (Below w.heap.size w wc))
        case first =>
         have H := HC51.out
         clear HC51
         by_cases c54 : t300 < 0
         ·
          rw [if_pos c54] at H
          have c54b0 : decide (t300 < 0) = true := decide_eq_true c54
          clear c54
          (first | rw [c54b0] | (simp only [i64_w, i32_w]; rw [c54b0]) | skip)
          have H' := Aside0.mk H
          clear H
          go_wp2
          go_meet
          case rel => exact ⟨_, (true), (by first | rfl | (simp; done) | (simp [*]; done)), H', ⟨by have := HJ16.out; first | omega | exact Nat.le_refl _⟩, ⟨rl HO_6.out⟩, ⟨rl HO_10.out⟩, ⟨bl HB.out⟩⟩
         ·
          rw [if_neg c54] at H
          have c54b0 : decide (t300 < 0) = false := decide_eq_false c54
          clear c54
          (first | rw [c54b0] | (simp only [i64_w, i32_w]; rw [c54b0]) | skip)
          replace H := Option.bind_eq_some_iff.mp H
          obtain ⟨t302, A550, H⟩ := H
          replace H : (if t302 = true then (laws_FnExactDue6.j1 kj16 l0 l1 t275 t276 t285 (t286 != t276)) else (laws_FnExactDue6.j1 kj16 l0 l1 t275 t276 t285 true)) = some r := H
          have A55 := Aside0.mk A550
          clear A550
          by_cases c56 : t302 = true
          ·
           subst c56
           have H1 : (laws_FnExactDue6.j1 kj16 l0 l1 t275 t276 t285 (t286 != t276)) = some r := by rw [if_pos rfl] at H; exact H
           clear H
           have H := H1
           clear H1
           have H' := Aside0.mk H
           clear H
           obtain ⟨Ao57, co57, eo57⟩ := Kd.R_slice HO_10.out
           subst eo57
           obtain ⟨Ao58, co58, eo58⟩ := Kd.R_slice HO_6.out
           subst eo58
           go_wp2_with (first | (go_at_call 20; (with_reducible refine (laws_eqStringS.calls kj16 _ _ t285 _ _ t275 true _ ?side1 ?side2 ?side3 ?side4 A55.out).mono ?_); (case side1 => exact rc (Kd.R_reads' HO_10.out).2.2); (case side2 => exact (Kd.R_reads' HO_10.out).2.1); (case side3 => exact rc (Kd.R_reads' HO_6.out).2.2); (case side4 => exact (Kd.R_reads' HO_6.out).2.1); rintro e w' ⟨rfl, ⟨nd, rfl⟩⟩))
           go_meet
           case rel => exact ⟨_, ((t286 != t276)), (by first | rfl | (simp; done) | (simp [*]; done)), H', ⟨by have := HJ16.out; first | omega | exact Nat.le_refl _⟩, ⟨rl HO_6.out⟩, ⟨rl HO_10.out⟩, ⟨bl HB.out⟩⟩
          ·
           replace c56 := Bool.eq_false_iff.mpr c56
           subst c56
           have H1 : (laws_FnExactDue6.j1 kj16 l0 l1 t275 t276 t285 true) = some r := by rw [if_neg (show ¬ (false = true) by decide)] at H; exact H
           clear H
           have H := H1
           clear H1
           have H' := Aside0.mk H
           clear H
           obtain ⟨Ao59, co59, eo59⟩ := Kd.R_slice HO_10.out
           subst eo59
           obtain ⟨Ao60, co60, eo60⟩ := Kd.R_slice HO_6.out
           subst eo60
           go_wp2_with (first | (go_at_call 20; (with_reducible refine (laws_eqStringS.calls kj16 _ _ t285 _ _ t275 false _ ?side1 ?side2 ?side3 ?side4 A55.out).mono ?_); (case side1 => exact rc (Kd.R_reads' HO_10.out).2.2); (case side2 => exact (Kd.R_reads' HO_10.out).2.1); (case side3 => exact rc (Kd.R_reads' HO_6.out).2.2); (case side4 => exact (Kd.R_reads' HO_6.out).2.1); rintro e w' ⟨rfl, ⟨nd, rfl⟩⟩))
           go_meet
           case rel => exact ⟨_, (true), (by first | rfl | (simp; done) | (simp [*]; done)), H', ⟨by have := HJ16.out; first | omega | exact Nat.le_refl _⟩, ⟨rl HO_6.out⟩, ⟨rl HO_10.out⟩, ⟨bl HB.out⟩⟩
        case rest =>
         clear HC51
         try clear c1
         try clear c2
         try clear p2
         try clear c3
         try clear c4
         try clear c5
         try clear c6
         try clear c6b0
         try clear c10
         try clear c10b0
         try clear c14
         try clear c15
         try clear c16
         try clear c17
         try clear c18
         try clear c19
         try clear c20
         try clear c21
         try clear c22
         try clear c23
         try clear c24
         try clear c29
         try clear c34
         try clear c41
         try clear c48
         try clear c54
         try clear c54b0
         try clear c56
         try clear p2
         obtain ⟨kq, x82_50, rfl, HA, HJ50, HO_6, HO_10, HB⟩ := hcut
         cases kq with
         | zero => exact absurd HA.out (by simp [laws_FnExactDue6.j1])
         | succ kj50 =>
          have H := HA.out
          clear HA
          simp only [laws_FnExactDue6.j1] at H
          by_cases c61 : x82_50 = true
          ·
           subst c61
           have H1 : (some false) = some r := by rw [if_pos rfl] at H; exact H
           clear H
           have H := H1
           clear H1
           cases H.trans (congrArg some hr_)
          ·
           replace c61 := Bool.eq_false_iff.mpr c61
           subst c61
           have H1 : ((laws_markStringS.f kj50 t285 1).bind fun bt303 => ((laws_heldStringS.f kj50 bt303.2 1).bind fun t305 => (if t305 < 0 then (some false) else (if t305 = bt303.1 then ((laws_toLifeS.f kj50 l0).bind fun t306 => ((laws_toStayS.f kj50 l1).bind fun t309 => ((impl_Due6.f t306 t309).bind fun bt312 => ((laws_eqStringS.f kj50 bt312.1 t275).bind fun t316 => (if t316 = true then (laws_FnExactDue6.j2 kj50 bt303.2 bt303.1 (bt312.2 != t276)) else (laws_FnExactDue6.j2 kj50 bt303.2 bt303.1 true)))))) else (some false))))) = some r := by rw [if_neg (show ¬ (false = true) by decide)] at H; exact H
           clear H
           have H := H1
           clear H1
           replace H := Option.bind_eq_some_iff.mp H
           obtain ⟨⟨t303, t304⟩, A620, H⟩ := H
           replace H : ((laws_heldStringS.f kj50 t304 1).bind fun t305 => (if t305 < 0 then (some false) else (if t305 = t303 then ((laws_toLifeS.f kj50 l0).bind fun t306 => ((laws_toStayS.f kj50 l1).bind fun t309 => ((impl_Due6.f t306 t309).bind fun bt312 => ((laws_eqStringS.f kj50 bt312.1 t275).bind fun t316 => (if t316 = true then (laws_FnExactDue6.j2 kj50 t304 t303 (bt312.2 != t276)) else (laws_FnExactDue6.j2 kj50 t304 t303 true)))))) else (some false)))) = some r := H
           have A62 := Aside0.mk A620
           clear A620
           replace H := Option.bind_eq_some_iff.mp H
           obtain ⟨t305, A630, H⟩ := H
           replace H : (if t305 < 0 then (some false) else (if t305 = t303 then ((laws_toLifeS.f kj50 l0).bind fun t306 => ((laws_toStayS.f kj50 l1).bind fun t309 => ((impl_Due6.f t306 t309).bind fun bt312 => ((laws_eqStringS.f kj50 bt312.1 t275).bind fun t316 => (if t316 = true then (laws_FnExactDue6.j2 kj50 t304 t303 (bt312.2 != t276)) else (laws_FnExactDue6.j2 kj50 t304 t303 true)))))) else (some false))) = some r := H
           have A63 := Aside0.mk A630
           clear A630
           have HC64 := Aside0.mk H
           clear H
           obtain ⟨Ao65, co65, eo65⟩ := Kd.R_slice HO_10.out
           subst eo65
           go_upto_if 90 with (first | ((with_reducible refine gate_callee (f := 25) rfl ?_); refine goesL_ (some 85) rfl rfl Try.func25 (by kernel_rfl) rfl #[.slice Ao65 t285.length co65, .int .i64 1] rfl (by (try simp only [am_]); first | done | rfl) ?_; (with_reducible refine (laws_markStringS.calls kj50 (fun k_ => some k_ = (.slice Ao65 t285.length co65 : Value).ownBlock) (.slice Ao65 t285.length co65) t285 1 t303 t304 w _ ?side1 ?side2 A62.out).mono ?_); (case side1 => exact bl HB.out); (case side2 => exact Kd.R_tight rfl HO_10.out); rintro e w66 ⟨rfl, hy0, hb, hkp⟩; refine ⟨_, rfl, ?_⟩; replace HO_6 := Aside0.mk (Kd.R_mono (ok' := fun k_ => some k_ ≠ (.slice Ao65 t285.length co65 : Value).ownBlock) (Kd.R_keptB (HO_6.out) hkp (fun k_ hk_ hs_ => (hk_) hs_)) (fun k_ hk_ => hk_.1)); replace HO_10 := Aside0.mk (Kd.R_reok rfl hy0 (fun k_ e_ => HO_10.out.1 k_ e_)); replace HB := Aside0.mk (hb); (try clear hb); (try clear hkp); (try clear hy0)) | ((with_reducible refine gate_callee (f := 26) rfl ?_); refine goesL_ (some 88) rfl rfl Try.func26 (by kernel_rfl) rfl #[.slice Ao65 t304.length co65, .int .i64 1] rfl (by (try simp only [List.map_toArray, List.map_cons, List.map_nil]); first | done | (rw [show t304.length = t285.length from (Kd.R_reads' HO_10.out).1.symm] <;> rfl) | rfl | (simp only [List.length_drop, List.length_take]; rfl)) ?_; (with_reducible refine (laws_heldStringS.calls kj50 _ _ t304 1 t305 _ ?side1 ?side2 A63.out).mono ?_); (case side1 => exact rc (Kd.R_reads' HO_10.out).2.2); (case side2 => rw [show t304.length = t285.length from (Kd.R_reads' HO_10.out).1.symm]; exact (Kd.R_reads' HO_10.out).2.1); rintro e w67 ⟨rfl, hb⟩; refine ⟨_, rfl, ?_⟩; replace HO_6 := Aside0.mk (Kd.R_below (rl HO_6.out) hb); replace HO_10 := Aside0.mk (Kd.R_below (rl HO_10.out) hb); replace HB := Aside0.mk (below_step (bl HB.out) hb); (try clear hb); (try clear hb2); (try clear hk); (try clear hi)))
           have H := HC64.out
           clear HC64
           by_cases c68 : t305 < 0
           ·
            rw [if_pos c68] at H
            have c68b0 : decide (t305 < 0) = true := decide_eq_true c68
            clear c68
            (first | rw [c68b0] | (simp only [i64_w, i32_w]; rw [c68b0]) | skip)
            cases H.trans (congrArg some hr_)
           ·
            rw [if_neg c68] at H
            have c68b0 : decide (t305 < 0) = false := decide_eq_false c68
            clear c68
            (first | rw [c68b0] | (simp only [i64_w, i32_w]; rw [c68b0]) | skip)
            by_cases c69 : t305 = t303
            ·
             rw [if_pos c69] at H
             have c69b0 : (t305 == t303) = true := beq_iff_eq.mpr c69
             have c69b1 : (t305 != t303) = false := bne_eq_false_iff_eq.mpr c69
             clear c69
             replace H := Option.bind_eq_some_iff.mp H
             obtain ⟨t306, A700, H⟩ := H
             replace H : ((laws_toStayS.f kj50 l1).bind fun t309 => ((impl_Due6.f t306 t309).bind fun bt312 => ((laws_eqStringS.f kj50 bt312.1 t275).bind fun t316 => (if t316 = true then (laws_FnExactDue6.j2 kj50 t304 t303 (bt312.2 != t276)) else (laws_FnExactDue6.j2 kj50 t304 t303 true))))) = some r := H
             have A70 := Aside0.mk A700
             clear A700
             replace H := Option.bind_eq_some_iff.mp H
             obtain ⟨t309, A710, H⟩ := H
             replace H : ((impl_Due6.f t306 t309).bind fun bt312 => ((laws_eqStringS.f kj50 bt312.1 t275).bind fun t316 => (if t316 = true then (laws_FnExactDue6.j2 kj50 t304 t303 (bt312.2 != t276)) else (laws_FnExactDue6.j2 kj50 t304 t303 true)))) = some r := H
             have A71 := Aside0.mk A710
             clear A710
             replace H := Option.bind_eq_some_iff.mp H
             obtain ⟨⟨t312, t313⟩, A720, H⟩ := H
             replace H : ((laws_eqStringS.f kj50 t312 t275).bind fun t316 => (if t316 = true then (laws_FnExactDue6.j2 kj50 t304 t303 (t313 != t276)) else (laws_FnExactDue6.j2 kj50 t304 t303 true))) = some r := H
             have A72 := Aside0.mk A720
             clear A720
             have HC73 := Aside0.mk H
             clear H
             go_upto_region 32 with (first | ((with_reducible refine gate_callee (f := 18) rfl ?_); refine goesL_ (some 96) rfl rfl Try.func18 (by kernel_rfl) rfl #[.slice A0 l0.length c0] rfl (by (try simp only [am_]); first | done | rfl) ?_; (with_reducible refine (laws_toLifeS.calls kj50 _ _ l0 t306 _ ?side1 ?side2 A70.out).mono ?_); (case side1 => exact rc (Kd.C_below HR0.out HB.out)); (case side2 => exact HC0.out); rintro e w74 ⟨v307, rfl, ho0, hb⟩; refine ⟨_, rfl, ?_⟩; replace HO_6 := Aside0.mk (Kd.R_below (rl HO_6.out) hb); replace HO_10 := Aside0.mk (Kd.R_below (rl HO_10.out) hb); have HO308 := Aside0.mk (Kd.R_lower ho0 (below_size (bl HB.out))); replace HB := Aside0.mk (below_step (bl HB.out) hb); (try clear hb); (try clear hb2); (try clear hk); (try clear hi); (try clear ho0)) | ((with_reducible refine gate_callee (f := 19) rfl ?_); refine goesL_ (some 98) rfl rfl Try.func19 (by kernel_rfl) rfl #[.slice A1 l1.length c1] rfl (by (try simp only [am_]); first | done | rfl) ?_; (with_reducible refine (laws_toStayS.calls kj50 _ _ l1 t309 _ ?side1 ?side2 A71.out).mono ?_); (case side1 => exact rc (Kd.C_below HR1.out HB.out)); (case side2 => exact HC1.out); rintro e w75 ⟨v310, rfl, ho0, hb⟩; refine ⟨_, rfl, ?_⟩; replace HO_6 := Aside0.mk (Kd.R_below (rl HO_6.out) hb); replace HO_10 := Aside0.mk (Kd.R_below (rl HO_10.out) hb); replace HO308 := Aside0.mk (Kd.R_below (rl HO308.out) hb); have HO311 := Aside0.mk (Kd.R_lower ho0 (below_size (bl HB.out))); replace HB := Aside0.mk (below_step (bl HB.out) hb); (try clear hb); (try clear hb2); (try clear hk); (try clear hi); (try clear ho0); obtain ⟨Ao76, co76, eo76⟩ := Kd.R_slice HO308.out; subst eo76; obtain ⟨Ao77, co77, eo77⟩ := Kd.R_slice HO311.out; subst eo77) | ((with_reducible refine gate_callee (f := 14) rfl ?_); refine goesL_ (some 99) rfl rfl Try.func14 (by kernel_rfl) rfl #[.slice Ao76 t306.length co76, .slice Ao77 t309.length co77] rfl (by (try simp only [am_]); first | done | rfl) ?_; (with_reducible refine (impl_Due6.calls _ _ t306 _ _ t309 t312 t313 _ ?side1 ?side2 ?side3 ?side4 A72.out).mono ?_); (case side1 => exact rc (Kd.R_reads' HO308.out).2.2); (case side2 => exact (Kd.R_reads' HO308.out).2.1); (case side3 => exact rc (Kd.R_reads' HO311.out).2.2); (case side4 => exact (Kd.R_reads' HO311.out).2.1); rintro e w78 ⟨v314, rfl, ho0, hb⟩; refine ⟨_, rfl, ?_⟩; replace HO308 := Aside0.mk (Kd.R_below (rl HO308.out) hb); replace HO311 := Aside0.mk (Kd.R_below (rl HO311.out) hb); have HO315 := Aside0.mk (Kd.R_lower (Kd.R_new' (Kd.R_new' ho0 (Kd.R_lt (by (repeat apply rl1); exact HO_6.out))) (Kd.R_lt (by (repeat apply rl1); exact HO_10.out))) (below_size (bl HB.out))); replace HO_6 := Aside0.mk (Kd.R_elder' (rl HO_6.out) (Kd.R_base ho0) hb); replace HO_10 := Aside0.mk (Kd.R_elder' (rl HO_10.out) (Kd.R_base ho0) hb); replace HB := Aside0.mk (below_step (bl HB.out) hb); (try clear hb); (try clear hb2); (try clear hk); (try clear hi); (try clear ho0)))
             (try simp only [Act.put, List.setIfInBounds_toArray, List.set_cons_zero, List.set_cons_succ])
             go_cut [110] (fun v110 wc => ∃ (kq : Nat) (x110_72 : Bool), v110 = .bool x110_72 ∧ Aside0 (laws_FnExactDue6.j2 kq t304 t303 x110_72 = some r) ∧ Aside0 (kq ≤ kj50) ∧ Aside0 (Kd.R Kd.string 9 wc w.heap.size (fun _ => True) (.slice Ao65 t285.length co65) t304) ∧ Aside0 (Below w.heap.size w wc))
             case first =>
              have H := HC73.out
              clear HC73
              replace H := Option.bind_eq_some_iff.mp H
              obtain ⟨t316, A790, H⟩ := H
              replace H : (if t316 = true then (laws_FnExactDue6.j2 kj50 t304 t303 (t313 != t276)) else (laws_FnExactDue6.j2 kj50 t304 t303 true)) = some r := H
              have A79 := Aside0.mk A790
              clear A790
              by_cases c80 : t316 = true
              ·
               subst c80
               have H1 : (laws_FnExactDue6.j2 kj50 t304 t303 (t313 != t276)) = some r := by rw [if_pos rfl] at H; exact H
               clear H
               have H := H1
               clear H1
               have H' := Aside0.mk H
               clear H
               obtain ⟨Ao81, co81, eo81⟩ := Kd.R_slice HO315.out
               subst eo81
               obtain ⟨Ao82, co82, eo82⟩ := Kd.R_slice HO_6.out
               subst eo82
               go_wp2_with (first | ((with_reducible refine gate_callee (f := 20) rfl ?_); refine goesL_ (some 104) rfl rfl Try.func20 (by kernel_rfl) rfl #[.slice Ao81 t312.length co81, .slice Ao82 t275.length co82] rfl (by (try simp only [am_]); first | done | rfl) ?_; (with_reducible refine (laws_eqStringS.calls kj50 _ _ t312 _ _ t275 true _ ?side1 ?side2 ?side3 ?side4 A79.out).mono ?_); (case side1 => exact rc (Kd.R_reads' HO315.out).2.2); (case side2 => exact (Kd.R_reads' HO315.out).2.1); (case side3 => exact rc (Kd.R_reads' HO_6.out).2.2); (case side4 => exact (Kd.R_reads' HO_6.out).2.1); rintro e w' ⟨rfl, ⟨nd, rfl⟩⟩; refine ⟨_, rfl, ?_⟩))
               go_meet
               case rel => exact ⟨_, ((t313 != t276)), (by first | rfl | (simp; done) | (simp [*]; done)), H', ⟨by have := HJ16.out; have := HJ50.out; first | omega | exact Nat.le_refl _⟩, ⟨by (repeat apply rl1); exact Kd.R_mono HO_10.out (fun _ hk => trivial)⟩, ⟨bl HB.out⟩⟩
              ·
               replace c80 := Bool.eq_false_iff.mpr c80
               subst c80
               have H1 : (laws_FnExactDue6.j2 kj50 t304 t303 true) = some r := by rw [if_neg (show ¬ (false = true) by decide)] at H; exact H
               clear H
               have H := H1
               clear H1
               have H' := Aside0.mk H
               clear H
               obtain ⟨Ao83, co83, eo83⟩ := Kd.R_slice HO315.out
               subst eo83
               obtain ⟨Ao84, co84, eo84⟩ := Kd.R_slice HO_6.out
               subst eo84
               go_wp2_with (first | ((with_reducible refine gate_callee (f := 20) rfl ?_); refine goesL_ (some 104) rfl rfl Try.func20 (by kernel_rfl) rfl #[.slice Ao83 t312.length co83, .slice Ao84 t275.length co84] rfl (by (try simp only [am_]); first | done | rfl) ?_; (with_reducible refine (laws_eqStringS.calls kj50 _ _ t312 _ _ t275 false _ ?side1 ?side2 ?side3 ?side4 A79.out).mono ?_); (case side1 => exact rc (Kd.R_reads' HO315.out).2.2); (case side2 => exact (Kd.R_reads' HO315.out).2.1); (case side3 => exact rc (Kd.R_reads' HO_6.out).2.2); (case side4 => exact (Kd.R_reads' HO_6.out).2.1); rintro e w' ⟨rfl, ⟨nd, rfl⟩⟩; refine ⟨_, rfl, ?_⟩))
               go_meet
               case rel => exact ⟨_, (true), (by first | rfl | (simp; done) | (simp [*]; done)), H', ⟨by have := HJ16.out; have := HJ50.out; first | omega | exact Nat.le_refl _⟩, ⟨by (repeat apply rl1); exact Kd.R_mono HO_10.out (fun _ hk => trivial)⟩, ⟨bl HB.out⟩⟩
             case rest =>
              clear HC73
              try clear c1
              try clear c2
              try clear p2
              try clear c3
              try clear c4
              try clear c5
              try clear c6
              try clear c6b0
              try clear c8
              try clear c10
              try clear c10b0
              try clear c14
              try clear c15
              try clear c16
              try clear c17
              try clear c18
              try clear c19
              try clear c20
              try clear c21
              try clear c22
              try clear c23
              try clear c24
              try clear c25
              try clear c26
              try clear c29
              try clear c34
              try clear c41
              try clear c48
              try clear c54
              try clear c54b0
              try clear c56
              try clear c61
              try clear c68
              try clear c68b0
              try clear c69
              try clear c69b0
              try clear c69b1
              try clear c80
              try clear p2
              obtain ⟨kq, x110_72, rfl, HA, HJ72, HO_10, HB⟩ := hcut
              have hl10_72 := (Kd.R_reads' HO_10.out).1
              rw [hl10_72] at HO_10
              (try simp only [hl10_72])
              cases kq with
              | zero => exact absurd HA.out (by simp [laws_FnExactDue6.j2])
              | succ kj72 =>
               have H := HA.out
               clear HA
               simp only [laws_FnExactDue6.j2] at H
               by_cases c85 : x110_72 = true
               ·
                subst c85
                have H1 : (some false) = some r := by rw [if_pos rfl] at H; exact H
                clear H
                have H := H1
                clear H1
                cases H.trans (congrArg some hr_)
               ·
                replace c85 := Bool.eq_false_iff.mpr c85
                subst c85
                have H1 : ((laws_heldStringS.f kj72 t304 1).bind fun t317 => (if t317 < 0 then (some false) else (if t317 = t303 then (some true) else (some false)))) = some r := by rw [if_neg (show ¬ (false = true) by decide)] at H; exact H
                clear H
                have H := H1
                clear H1
                replace H := Option.bind_eq_some_iff.mp H
                obtain ⟨t317, A860, H⟩ := H
                replace H : (if t317 < 0 then (some false) else (if t317 = t303 then (some true) else (some false))) = some r := H
                have A86 := Aside0.mk A860
                clear A860
                have HC87 := Aside0.mk H
                clear H
                go_upto_if 115 with (first | ((with_reducible refine gate_callee (f := 26) rfl ?_); refine goesL_ (some 113) rfl rfl Try.func26 (by kernel_rfl) rfl #[.slice Ao65 t304.length co65, .int .i64 1] rfl (by (try simp only [am_]); first | done | rfl) ?_; (with_reducible refine (laws_heldStringS.calls kj72 _ _ t304 1 t317 _ ?side1 ?side2 A86.out).mono ?_); (case side1 => exact rc (Kd.R_reads' HO_10.out).2.2); (case side2 => exact (Kd.R_reads' HO_10.out).2.1); rintro e w88 ⟨rfl, hb⟩; refine ⟨_, rfl, ?_⟩; replace HO_10 := Aside0.mk (Kd.R_below (rl HO_10.out) hb); replace HB := Aside0.mk (below_step (bl HB.out) hb); (try clear hb); (try clear hb2); (try clear hk); (try clear hi)))
                have H := HC87.out
                clear HC87
                by_cases c89 : t317 < 0
                ·
                 rw [if_pos c89] at H
                 have c89b0 : decide (t317 < 0) = true := decide_eq_true c89
                 clear c89
                 (first | rw [c89b0] | (simp only [i64_w, i32_w]; rw [c89b0]) | skip)
                 cases H.trans (congrArg some hr_)
                ·
                 rw [if_neg c89] at H
                 have c89b0 : decide (t317 < 0) = false := decide_eq_false c89
                 clear c89
                 (first | rw [c89b0] | (simp only [i64_w, i32_w]; rw [c89b0]) | skip)
                 by_cases c90 : t317 = t303
                 ·
                  rw [if_pos c90] at H
                  have c90b0 : (t317 == t303) = true := beq_iff_eq.mpr c90
                  have c90b1 : (t317 != t303) = false := bne_eq_false_iff_eq.mpr c90
                  clear c90
                  obtain rfl := Option.some.inj H
                  go_wp2
                  go_ret
                  exact ⟨by first | rfl | (simp [errW_none, errW_some] <;> rfl) | (simp [*, errW_none, errW_some] <;> rfl), bl HB.out⟩
                 ·
                  rw [if_neg c90] at H
                  have c90b0 : (t317 == t303) = false := beq_eq_false_iff_ne.mpr c90
                  have c90b1 : (t317 != t303) = true := bne_iff_ne.mpr c90
                  cases H.trans (congrArg some hr_)
            ·
             rw [if_neg c69] at H
             have c69b0 : (t305 == t303) = false := beq_eq_false_iff_ne.mpr c69
             have c69b1 : (t305 != t303) = true := bne_iff_ne.mpr c69
             cases H.trans (congrArg some hr_)
       ·
        replace c48 := Bool.eq_false_iff.mpr c48
        subst c48
        have H1 : (some false) = some r := by rw [if_neg (show ¬ (false = true) by decide)] at H; exact H
        clear H
        have H := H1
        clear H1
        cases H.trans (congrArg some hr_)
      ·
       replace c41 := Bool.eq_false_iff.mpr c41
       subst c41
       have H1 : (some false) = some r := by rw [if_neg (show ¬ (false = true) by decide)] at H; exact H
       clear H
       have H := H1
       clear H1
       cases H.trans (congrArg some hr_)
end Go.Proofs.Ytfhielgfgmcdiaa.PFnExactDue6
