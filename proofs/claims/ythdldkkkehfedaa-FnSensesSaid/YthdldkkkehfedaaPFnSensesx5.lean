-- Written by a program of this session (wip/xprint.py) out of the translation; Lean checks it.
import Derived.Test.YthdldkkkehfedaaPFnSensesx0
import Derived.Test.YthdldkkkehfedaaPFnSensesx1
import Derived.Test.YthdldkkkehfedaaPFnSensesx2
import Derived.Test.YthdldkkkehfedaaPFnSensesx3
import Derived.Test.YthdldkkkehfedaaPFnSensesx4
namespace Go.Proofs.Ythdldkkkehfedaa.PFnSenses
open Go.RowKit Go.Proofs.YthdldkkkehfedaaW.PrintWords Go.Proofs.YthdldkkkehfedaaW.PrintLast Go.Proofs.YthdldkkkehfedaaW.PrintMore
attribute [local go_sem] max2_int min2_int max_two min_two max_three min_three max_four min_four   -- for this text's walks alone
set_option linter.unusedVariables false
set_option linter.unusedSimpArgs false

/-! ### laws_FnSenses: function 7 -/
mutual
def laws_FnSenses.j0 : Nat → Int → Int → Int → Int → Bool → Int → Int → Int → Int → Int → Int → Int → Int → Option (Bool)
  | 0, _, _, _, _, _, _, _, _, _, _, _, _, _ => none
  | k + 1, x5, x6, x7, x8, x68, x240000, x240001, x240002, x240003, x241000, x241001, x241002, x241003 => if x68 = true then (some false) else ((impl_Threat.f x240000 x240001 x240002 x240003 x241000 x241001 x241002 x5 x6 0 600 100).bind fun t249 => ((impl_TicksTo.f x241000 x241001 x241002 x5 x6 0).bind fun bt250 => (if bt250.2 = true then ((impl_TrackOk.f x241000 x241001 x241002 x5 x6 0).bind fun t252 => (if t252 = true then (if (wrap64 (bt250.1 * x6)) < x5 then (laws_FnSenses.j1 k x7 x8 t249 true x240000 x240001 x240002 x240003 x241000 x241001 x241002 x5 x6 0) else (if (wrap64 ((wrap64 (bt250.1 - 1)) * x6)) ≥ x5 then (laws_FnSenses.j1 k x7 x8 t249 (decide (bt250.1 > 0)) x240000 x240001 x240002 x240003 x241000 x241001 x241002 x5 x6 0) else (laws_FnSenses.j1 k x7 x8 t249 false x240000 x240001 x240002 x240003 x241000 x241001 x241002 x5 x6 0))) else (laws_FnSenses.j1 k x7 x8 t249 true x240000 x240001 x240002 x240003 x241000 x241001 x241002 x5 x6 0))) else (laws_FnSenses.j1 k x7 x8 t249 true x240000 x240001 x240002 x240003 x241000 x241001 x241002 x5 x6 0))))
def laws_FnSenses.j1 : Nat → Int → Int → Bool → Bool → Int → Int → Int → Int → Int → Int → Int → Int → Int → Int → Option (Bool)
  | 0, _, _, _, _, _, _, _, _, _, _, _, _, _, _ => none
  | k + 1, x7, x8, x14, x111, x240000, x240001, x240002, x240003, x249000, x249001, x249002, x249003, x249004, x249005 => if x111 = true then (some false) else (if x14 = true then ((impl_Nearest.f k x240000 x240001 x240002 x7 (([(⟨x249000, x249001, x249002, x249003, x249004, x249005⟩ : S35)] : List (S35))) 600 100).bind fun bt256 => (if (wrap64 (x7 + x8)) = 3 then (if x7 = x8 then (some false) else ((impl_Advise.f x240000 x240001 x240002 x7 x249000 x249001 x249002 x249003 x249004 x249005 600 100).bind fun t258 => (if t258 = x7 then (if bt256.2 = true then (some (bt256.1 == 0)) else (some false)) else (some false)))) else (some false))) else ((impl_Nearest.f k x240000 x240001 x240002 x240003 (([(⟨x249000, x249001, x249002, x249003, x249004, x249005⟩ : S35)] : List (S35))) 600 100).bind fun bt262 => (if x7 = 0 then (if x8 = 0 then (if bt262.2 = true then (some false) else (some (bt262.1 == (-1)))) else (some false)) else (some false))))
end
def laws_FnSenses.f (k : Nat) (l0 : List Int) : Option (Bool) := (laws_big.f l0).bind fun t228 => (if t228 = true then (some true) else ((spec_DrawMeet.f k l0).bind fun bt229 => ((impl_Pair.f k bt229.1 bt229.2.1 bt229.2.2.1 bt229.2.2.2.1 bt229.2.2.2.2.1 bt229.2.2.2.2.2.1 bt229.2.2.2.2.2.2.1 bt229.2.2.2.2.2.2.2.1 bt229.2.2.2.2.2.2.2.2.1 bt229.2.2.2.2.2.2.2.2.2 600 100).bind fun bt241 => ((impl_Pair.f k bt229.2.2.2.2.1 bt229.2.2.2.2.2.1 bt229.2.2.2.2.2.2.1 bt229.2.2.2.2.2.2.2.1 bt229.1 bt229.2.1 bt229.2.2.1 bt229.2.2.2.1 bt229.2.2.2.2.2.2.2.2.1 bt229.2.2.2.2.2.2.2.2.2 600 100).bind fun bt244 => (if bt241.2.2 = true then (if bt244.2.2 = true then (if bt244.1 = bt241.2.1 then (if bt244.2.1 = bt241.1 then ((impl_OwnOk.f bt229.1 bt229.2.1 bt229.2.2.1 bt229.2.2.2.1).bind fun t247 => (laws_FnSenses.j0 k bt229.2.2.2.2.2.2.2.2.1 bt229.2.2.2.2.2.2.2.2.2 bt241.1 bt241.2.1 (!t247) bt229.1 bt229.2.1 bt229.2.2.1 bt229.2.2.2.1 bt229.2.2.2.2.1 bt229.2.2.2.2.2.1 bt229.2.2.2.2.2.2.1 bt229.2.2.2.2.2.2.2.1)) else (laws_FnSenses.j0 k bt229.2.2.2.2.2.2.2.2.1 bt229.2.2.2.2.2.2.2.2.2 bt241.1 bt241.2.1 true bt229.1 bt229.2.1 bt229.2.2.1 bt229.2.2.2.1 bt229.2.2.2.2.1 bt229.2.2.2.2.2.1 bt229.2.2.2.2.2.2.1 bt229.2.2.2.2.2.2.2.1)) else (laws_FnSenses.j0 k bt229.2.2.2.2.2.2.2.2.1 bt229.2.2.2.2.2.2.2.2.2 bt241.1 bt241.2.1 true bt229.1 bt229.2.1 bt229.2.2.1 bt229.2.2.2.1 bt229.2.2.2.2.1 bt229.2.2.2.2.2.1 bt229.2.2.2.2.2.2.1 bt229.2.2.2.2.2.2.2.1)) else (laws_FnSenses.j0 k bt229.2.2.2.2.2.2.2.2.1 bt229.2.2.2.2.2.2.2.2.2 bt241.1 bt241.2.1 true bt229.1 bt229.2.1 bt229.2.2.1 bt229.2.2.2.1 bt229.2.2.2.2.1 bt229.2.2.2.2.2.1 bt229.2.2.2.2.2.2.1 bt229.2.2.2.2.2.2.2.1)) else (laws_FnSenses.j0 k bt229.2.2.2.2.2.2.2.2.1 bt229.2.2.2.2.2.2.2.2.2 bt241.1 bt241.2.1 true bt229.1 bt229.2.1 bt229.2.2.1 bt229.2.2.2.1 bt229.2.2.2.2.1 bt229.2.2.2.2.2.1 bt229.2.2.2.2.2.2.1 bt229.2.2.2.2.2.2.2.1))))))
theorem laws_FnSenses.mono_l : ∀ k, (∀ y0 y1 y2 y3 y4 y5 y6 y7 y8 y9 y10 y11 y12, LeO (laws_FnSenses.j0 k y0 y1 y2 y3 y4 y5 y6 y7 y8 y9 y10 y11 y12) (laws_FnSenses.j0 (k + 1) y0 y1 y2 y3 y4 y5 y6 y7 y8 y9 y10 y11 y12)) ∧ (∀ y0 y1 y2 y3 y4 y5 y6 y7 y8 y9 y10 y11 y12 y13, LeO (laws_FnSenses.j1 k y0 y1 y2 y3 y4 y5 y6 y7 y8 y9 y10 y11 y12 y13) (laws_FnSenses.j1 (k + 1) y0 y1 y2 y3 y4 y5 y6 y7 y8 y9 y10 y11 y12 y13))
  | 0 => ⟨fun _ _ _ _ _ _ _ _ _ _ _ _ _ r h => by simp [laws_FnSenses.j0] at h, fun _ _ _ _ _ _ _ _ _ _ _ _ _ _ r h => by simp [laws_FnSenses.j1] at h⟩
  | k + 1 => by
    obtain ⟨ih0, ih1⟩ := laws_FnSenses.mono_l k
    refine ⟨?_, ?_⟩
    · intro y0 y1 y2 y3 y4 y5 y6 y7 y8 y9 y10 y11 y12
      unfold laws_FnSenses.j0
      repeat' first
      | (with_reducible exact ih0 _ _ _ _ _ _ _ _ _ _ _ _ _)
      | (with_reducible exact ih1 _ _ _ _ _ _ _ _ _ _ _ _ _ _)
      | (with_reducible exact impl_Nearest.mono _ _ _ _ _ _ _ _)
      | (with_reducible exact impl_Pair.mono _ _ _ _ _ _ _ _ _ _ _ _ _)
      | (with_reducible exact spec_DrawMeet.mono _ _)
      | (with_reducible exact LeO.refl _)
      | (with_reducible exact LeO.none _)
      | (with_reducible refine LeO.ite ?_ ?_)
      | (with_reducible refine LeO.bind ?_ (fun _ => ?_))
      | exact ih0 _ _ _ _ _ _ _ _ _ _ _ _ _
      | exact ih1 _ _ _ _ _ _ _ _ _ _ _ _ _ _
      | exact impl_Nearest.mono _ _ _ _ _ _ _ _
      | exact impl_Pair.mono _ _ _ _ _ _ _ _ _ _ _ _ _
      | exact spec_DrawMeet.mono _ _
      | exact LeO.none _
      | refine LeO.ite ?_ ?_
      | refine LeO.bind ?_ (fun _ => ?_)
    · intro y0 y1 y2 y3 y4 y5 y6 y7 y8 y9 y10 y11 y12 y13
      unfold laws_FnSenses.j1
      repeat' first
      | (with_reducible exact ih0 _ _ _ _ _ _ _ _ _ _ _ _ _)
      | (with_reducible exact ih1 _ _ _ _ _ _ _ _ _ _ _ _ _ _)
      | (with_reducible exact impl_Nearest.mono _ _ _ _ _ _ _ _)
      | (with_reducible exact impl_Pair.mono _ _ _ _ _ _ _ _ _ _ _ _ _)
      | (with_reducible exact spec_DrawMeet.mono _ _)
      | (with_reducible exact LeO.refl _)
      | (with_reducible exact LeO.none _)
      | (with_reducible refine LeO.ite ?_ ?_)
      | (with_reducible refine LeO.bind ?_ (fun _ => ?_))
      | exact ih0 _ _ _ _ _ _ _ _ _ _ _ _ _
      | exact ih1 _ _ _ _ _ _ _ _ _ _ _ _ _ _
      | exact impl_Nearest.mono _ _ _ _ _ _ _ _
      | exact impl_Pair.mono _ _ _ _ _ _ _ _ _ _ _ _ _
      | exact spec_DrawMeet.mono _ _
      | exact LeO.none _
      | refine LeO.ite ?_ ?_
      | refine LeO.bind ?_ (fun _ => ?_)
theorem laws_FnSenses.mono : ∀ a0 k, LeO (laws_FnSenses.f k a0) (laws_FnSenses.f (k + 1) a0) := by
  intro a0 k
  obtain ⟨ih0, ih1⟩ := laws_FnSenses.mono_l k
  unfold laws_FnSenses.f
  repeat' first
      | (with_reducible exact ih0 _ _ _ _ _ _ _ _ _ _ _ _ _)
      | (with_reducible exact ih1 _ _ _ _ _ _ _ _ _ _ _ _ _ _)
      | (with_reducible exact impl_Nearest.mono _ _ _ _ _ _ _ _)
      | (with_reducible exact impl_Pair.mono _ _ _ _ _ _ _ _ _ _ _ _ _)
      | (with_reducible exact spec_DrawMeet.mono _ _)
      | (with_reducible exact LeO.refl _)
      | (with_reducible exact LeO.none _)
      | (with_reducible refine LeO.ite ?_ ?_)
      | (with_reducible refine LeO.bind ?_ (fun _ => ?_))
      | exact ih0 _ _ _ _ _ _ _ _ _ _ _ _ _
      | exact ih1 _ _ _ _ _ _ _ _ _ _ _ _ _ _
      | exact impl_Nearest.mono _ _ _ _ _ _ _ _
      | exact impl_Pair.mono _ _ _ _ _ _ _ _ _ _ _ _ _
      | exact spec_DrawMeet.mono _ _
      | exact LeO.none _
      | refine LeO.ite ?_ ?_
      | refine LeO.bind ?_ (fun _ => ?_)
set_option maxHeartbeats 8000000 in
set_option maxRecDepth 100000 in
theorem laws_FnSenses.calls (k : Nat) (A0 : Option Addr) (c0 : Nat) (l0 : List Int) (r : Bool) (w : World) (hr0 : Kd.C (Kd.int .u8) w A0 l0.length l0) (hc0 : l0.length ≤ c0) (h : laws_FnSenses.f k l0 = some r) :
    Calls Try.prog 7 #[.slice A0 l0.length c0] w fun e w' => e = .returned (.bool r) ∧ Below w.heap.size w w' := by
  have hu33 := Try.underlying33
  have hu35 := Try.underlying35
  have HR0 := Aside0.mk hr0
  have HC0 := Aside0.mk hc0
  clear hr0 hc0
  have HB := Aside0.mk (Below.refl w.heap.size w)
  have H : ((laws_big.f l0).bind fun t228 => (if t228 = true then (some true) else ((spec_DrawMeet.f k l0).bind fun bt229 => ((impl_Pair.f k bt229.1 bt229.2.1 bt229.2.2.1 bt229.2.2.2.1 bt229.2.2.2.2.1 bt229.2.2.2.2.2.1 bt229.2.2.2.2.2.2.1 bt229.2.2.2.2.2.2.2.1 bt229.2.2.2.2.2.2.2.2.1 bt229.2.2.2.2.2.2.2.2.2 600 100).bind fun bt241 => ((impl_Pair.f k bt229.2.2.2.2.1 bt229.2.2.2.2.2.1 bt229.2.2.2.2.2.2.1 bt229.2.2.2.2.2.2.2.1 bt229.1 bt229.2.1 bt229.2.2.1 bt229.2.2.2.1 bt229.2.2.2.2.2.2.2.2.1 bt229.2.2.2.2.2.2.2.2.2 600 100).bind fun bt244 => (if bt241.2.2 = true then (if bt244.2.2 = true then (if bt244.1 = bt241.2.1 then (if bt244.2.1 = bt241.1 then ((impl_OwnOk.f bt229.1 bt229.2.1 bt229.2.2.1 bt229.2.2.2.1).bind fun t247 => (laws_FnSenses.j0 k bt229.2.2.2.2.2.2.2.2.1 bt229.2.2.2.2.2.2.2.2.2 bt241.1 bt241.2.1 (!t247) bt229.1 bt229.2.1 bt229.2.2.1 bt229.2.2.2.1 bt229.2.2.2.2.1 bt229.2.2.2.2.2.1 bt229.2.2.2.2.2.2.1 bt229.2.2.2.2.2.2.2.1)) else (laws_FnSenses.j0 k bt229.2.2.2.2.2.2.2.2.1 bt229.2.2.2.2.2.2.2.2.2 bt241.1 bt241.2.1 true bt229.1 bt229.2.1 bt229.2.2.1 bt229.2.2.2.1 bt229.2.2.2.2.1 bt229.2.2.2.2.2.1 bt229.2.2.2.2.2.2.1 bt229.2.2.2.2.2.2.2.1)) else (laws_FnSenses.j0 k bt229.2.2.2.2.2.2.2.2.1 bt229.2.2.2.2.2.2.2.2.2 bt241.1 bt241.2.1 true bt229.1 bt229.2.1 bt229.2.2.1 bt229.2.2.2.1 bt229.2.2.2.2.1 bt229.2.2.2.2.2.1 bt229.2.2.2.2.2.2.1 bt229.2.2.2.2.2.2.2.1)) else (laws_FnSenses.j0 k bt229.2.2.2.2.2.2.2.2.1 bt229.2.2.2.2.2.2.2.2.2 bt241.1 bt241.2.1 true bt229.1 bt229.2.1 bt229.2.2.1 bt229.2.2.2.1 bt229.2.2.2.2.1 bt229.2.2.2.2.2.1 bt229.2.2.2.2.2.2.1 bt229.2.2.2.2.2.2.2.1)) else (laws_FnSenses.j0 k bt229.2.2.2.2.2.2.2.2.1 bt229.2.2.2.2.2.2.2.2.2 bt241.1 bt241.2.1 true bt229.1 bt229.2.1 bt229.2.2.1 bt229.2.2.2.1 bt229.2.2.2.2.1 bt229.2.2.2.2.2.1 bt229.2.2.2.2.2.2.1 bt229.2.2.2.2.2.2.2.1))))))) = some r := h
  clear h
  replace H := Option.bind_eq_some_iff.mp H
  obtain ⟨t228, A20, H⟩ := H
  replace H : (if t228 = true then (some true) else ((spec_DrawMeet.f k l0).bind fun bt229 => ((impl_Pair.f k bt229.1 bt229.2.1 bt229.2.2.1 bt229.2.2.2.1 bt229.2.2.2.2.1 bt229.2.2.2.2.2.1 bt229.2.2.2.2.2.2.1 bt229.2.2.2.2.2.2.2.1 bt229.2.2.2.2.2.2.2.2.1 bt229.2.2.2.2.2.2.2.2.2 600 100).bind fun bt241 => ((impl_Pair.f k bt229.2.2.2.2.1 bt229.2.2.2.2.2.1 bt229.2.2.2.2.2.2.1 bt229.2.2.2.2.2.2.2.1 bt229.1 bt229.2.1 bt229.2.2.1 bt229.2.2.2.1 bt229.2.2.2.2.2.2.2.2.1 bt229.2.2.2.2.2.2.2.2.2 600 100).bind fun bt244 => (if bt241.2.2 = true then (if bt244.2.2 = true then (if bt244.1 = bt241.2.1 then (if bt244.2.1 = bt241.1 then ((impl_OwnOk.f bt229.1 bt229.2.1 bt229.2.2.1 bt229.2.2.2.1).bind fun t247 => (laws_FnSenses.j0 k bt229.2.2.2.2.2.2.2.2.1 bt229.2.2.2.2.2.2.2.2.2 bt241.1 bt241.2.1 (!t247) bt229.1 bt229.2.1 bt229.2.2.1 bt229.2.2.2.1 bt229.2.2.2.2.1 bt229.2.2.2.2.2.1 bt229.2.2.2.2.2.2.1 bt229.2.2.2.2.2.2.2.1)) else (laws_FnSenses.j0 k bt229.2.2.2.2.2.2.2.2.1 bt229.2.2.2.2.2.2.2.2.2 bt241.1 bt241.2.1 true bt229.1 bt229.2.1 bt229.2.2.1 bt229.2.2.2.1 bt229.2.2.2.2.1 bt229.2.2.2.2.2.1 bt229.2.2.2.2.2.2.1 bt229.2.2.2.2.2.2.2.1)) else (laws_FnSenses.j0 k bt229.2.2.2.2.2.2.2.2.1 bt229.2.2.2.2.2.2.2.2.2 bt241.1 bt241.2.1 true bt229.1 bt229.2.1 bt229.2.2.1 bt229.2.2.2.1 bt229.2.2.2.2.1 bt229.2.2.2.2.2.1 bt229.2.2.2.2.2.2.1 bt229.2.2.2.2.2.2.2.1)) else (laws_FnSenses.j0 k bt229.2.2.2.2.2.2.2.2.1 bt229.2.2.2.2.2.2.2.2.2 bt241.1 bt241.2.1 true bt229.1 bt229.2.1 bt229.2.2.1 bt229.2.2.2.1 bt229.2.2.2.2.1 bt229.2.2.2.2.2.1 bt229.2.2.2.2.2.2.1 bt229.2.2.2.2.2.2.2.1)) else (laws_FnSenses.j0 k bt229.2.2.2.2.2.2.2.2.1 bt229.2.2.2.2.2.2.2.2.2 bt241.1 bt241.2.1 true bt229.1 bt229.2.1 bt229.2.2.1 bt229.2.2.2.1 bt229.2.2.2.2.1 bt229.2.2.2.2.2.1 bt229.2.2.2.2.2.2.1 bt229.2.2.2.2.2.2.2.1)))))) = some r := H
  have A2 := Aside0.mk A20
  clear A20
  by_cases c3 : t228 = true
  · subst c3
    have H1 : (some true) = some r := by rw [if_pos rfl] at H; exact H
    clear H
    have H := H1
    clear H1
    obtain rfl := Option.some.inj H
    go_enter Try.func7, Try.ntmps7
    go_wp2_with (first | ((with_reducible refine gate_callee (f := 18) rfl ?_); refine goesL_ (some 22) rfl rfl Try.func18 (by kernel_rfl) rfl #[.slice A0 l0.length c0] rfl (by (try simp only [List.map_toArray, List.map_cons, List.map_nil]); first | done | rfl | (simp only [List.length_drop, List.length_take]; rfl)) ?_; (with_reducible refine (laws_big.calls _ _ l0 true _ ?side1 ?side2 A2.out).mono ?_); (case side1 => repeat (first | exact HR0.out | (with_reducible refine Kd.C_alloc ?_ _) | (with_reducible refine Kd.C_drewN ?_ _) | (with_reducible refine Kd.C_drew ?_))); (case side2 => exact HC0.out); rintro e w' ⟨rfl, ⟨nd, rfl⟩⟩; refine ⟨_, rfl, ?_⟩))
    go_ret
    exact ⟨by first | rfl | (simp [errW_none, errW_some] <;> rfl) | (simp [*, errW_none, errW_some] <;> rfl), by repeat (first | (with_reducible first | exact HB.out | apply below_alloc | apply pw_below_drewN | apply below_drew1) | exact HB.out)⟩
  · replace c3 := Bool.eq_false_iff.mpr c3
    subst c3
    have H1 : ((spec_DrawMeet.f k l0).bind fun bt229 => ((impl_Pair.f k bt229.1 bt229.2.1 bt229.2.2.1 bt229.2.2.2.1 bt229.2.2.2.2.1 bt229.2.2.2.2.2.1 bt229.2.2.2.2.2.2.1 bt229.2.2.2.2.2.2.2.1 bt229.2.2.2.2.2.2.2.2.1 bt229.2.2.2.2.2.2.2.2.2 600 100).bind fun bt241 => ((impl_Pair.f k bt229.2.2.2.2.1 bt229.2.2.2.2.2.1 bt229.2.2.2.2.2.2.1 bt229.2.2.2.2.2.2.2.1 bt229.1 bt229.2.1 bt229.2.2.1 bt229.2.2.2.1 bt229.2.2.2.2.2.2.2.2.1 bt229.2.2.2.2.2.2.2.2.2 600 100).bind fun bt244 => (if bt241.2.2 = true then (if bt244.2.2 = true then (if bt244.1 = bt241.2.1 then (if bt244.2.1 = bt241.1 then ((impl_OwnOk.f bt229.1 bt229.2.1 bt229.2.2.1 bt229.2.2.2.1).bind fun t247 => (laws_FnSenses.j0 k bt229.2.2.2.2.2.2.2.2.1 bt229.2.2.2.2.2.2.2.2.2 bt241.1 bt241.2.1 (!t247) bt229.1 bt229.2.1 bt229.2.2.1 bt229.2.2.2.1 bt229.2.2.2.2.1 bt229.2.2.2.2.2.1 bt229.2.2.2.2.2.2.1 bt229.2.2.2.2.2.2.2.1)) else (laws_FnSenses.j0 k bt229.2.2.2.2.2.2.2.2.1 bt229.2.2.2.2.2.2.2.2.2 bt241.1 bt241.2.1 true bt229.1 bt229.2.1 bt229.2.2.1 bt229.2.2.2.1 bt229.2.2.2.2.1 bt229.2.2.2.2.2.1 bt229.2.2.2.2.2.2.1 bt229.2.2.2.2.2.2.2.1)) else (laws_FnSenses.j0 k bt229.2.2.2.2.2.2.2.2.1 bt229.2.2.2.2.2.2.2.2.2 bt241.1 bt241.2.1 true bt229.1 bt229.2.1 bt229.2.2.1 bt229.2.2.2.1 bt229.2.2.2.2.1 bt229.2.2.2.2.2.1 bt229.2.2.2.2.2.2.1 bt229.2.2.2.2.2.2.2.1)) else (laws_FnSenses.j0 k bt229.2.2.2.2.2.2.2.2.1 bt229.2.2.2.2.2.2.2.2.2 bt241.1 bt241.2.1 true bt229.1 bt229.2.1 bt229.2.2.1 bt229.2.2.2.1 bt229.2.2.2.2.1 bt229.2.2.2.2.2.1 bt229.2.2.2.2.2.2.1 bt229.2.2.2.2.2.2.2.1)) else (laws_FnSenses.j0 k bt229.2.2.2.2.2.2.2.2.1 bt229.2.2.2.2.2.2.2.2.2 bt241.1 bt241.2.1 true bt229.1 bt229.2.1 bt229.2.2.1 bt229.2.2.2.1 bt229.2.2.2.2.1 bt229.2.2.2.2.2.1 bt229.2.2.2.2.2.2.1 bt229.2.2.2.2.2.2.2.1))))) = some r := by rw [if_neg (show ¬ (false = true) by decide)] at H; exact H
    clear H
    have H := H1
    clear H1
    replace H := Option.bind_eq_some_iff.mp H
    obtain ⟨⟨t229, t230, t231, t232, t233, t234, t235, t236, t237, t238⟩, A40, H⟩ := H
    replace H : ((impl_Pair.f k t229 t230 t231 t232 t233 t234 t235 t236 t237 t238 600 100).bind fun bt241 => ((impl_Pair.f k t233 t234 t235 t236 t229 t230 t231 t232 t237 t238 600 100).bind fun bt244 => (if bt241.2.2 = true then (if bt244.2.2 = true then (if bt244.1 = bt241.2.1 then (if bt244.2.1 = bt241.1 then ((impl_OwnOk.f t229 t230 t231 t232).bind fun t247 => (laws_FnSenses.j0 k t237 t238 bt241.1 bt241.2.1 (!t247) t229 t230 t231 t232 t233 t234 t235 t236)) else (laws_FnSenses.j0 k t237 t238 bt241.1 bt241.2.1 true t229 t230 t231 t232 t233 t234 t235 t236)) else (laws_FnSenses.j0 k t237 t238 bt241.1 bt241.2.1 true t229 t230 t231 t232 t233 t234 t235 t236)) else (laws_FnSenses.j0 k t237 t238 bt241.1 bt241.2.1 true t229 t230 t231 t232 t233 t234 t235 t236)) else (laws_FnSenses.j0 k t237 t238 bt241.1 bt241.2.1 true t229 t230 t231 t232 t233 t234 t235 t236)))) = some r := H
    have A4 := Aside0.mk A40
    clear A40
    replace H := Option.bind_eq_some_iff.mp H
    obtain ⟨⟨t241, t242, t243⟩, A50, H⟩ := H
    replace H : ((impl_Pair.f k t233 t234 t235 t236 t229 t230 t231 t232 t237 t238 600 100).bind fun bt244 => (if t243 = true then (if bt244.2.2 = true then (if bt244.1 = t242 then (if bt244.2.1 = t241 then ((impl_OwnOk.f t229 t230 t231 t232).bind fun t247 => (laws_FnSenses.j0 k t237 t238 t241 t242 (!t247) t229 t230 t231 t232 t233 t234 t235 t236)) else (laws_FnSenses.j0 k t237 t238 t241 t242 true t229 t230 t231 t232 t233 t234 t235 t236)) else (laws_FnSenses.j0 k t237 t238 t241 t242 true t229 t230 t231 t232 t233 t234 t235 t236)) else (laws_FnSenses.j0 k t237 t238 t241 t242 true t229 t230 t231 t232 t233 t234 t235 t236)) else (laws_FnSenses.j0 k t237 t238 t241 t242 true t229 t230 t231 t232 t233 t234 t235 t236))) = some r := H
    have A5 := Aside0.mk A50
    clear A50
    replace H := Option.bind_eq_some_iff.mp H
    obtain ⟨⟨t244, t245, t246⟩, A60, H⟩ := H
    replace H : (if t243 = true then (if t246 = true then (if t244 = t242 then (if t245 = t241 then ((impl_OwnOk.f t229 t230 t231 t232).bind fun t247 => (laws_FnSenses.j0 k t237 t238 t241 t242 (!t247) t229 t230 t231 t232 t233 t234 t235 t236)) else (laws_FnSenses.j0 k t237 t238 t241 t242 true t229 t230 t231 t232 t233 t234 t235 t236)) else (laws_FnSenses.j0 k t237 t238 t241 t242 true t229 t230 t231 t232 t233 t234 t235 t236)) else (laws_FnSenses.j0 k t237 t238 t241 t242 true t229 t230 t231 t232 t233 t234 t235 t236)) else (laws_FnSenses.j0 k t237 t238 t241 t242 true t229 t230 t231 t232 t233 t234 t235 t236)) = some r := H
    have A6 := Aside0.mk A60
    clear A60
    have HC7 := Aside0.mk H
    clear H
    go_enter Try.func7, Try.ntmps7
    go_upto_region 6 with (first | ((with_reducible refine gate_callee (f := 18) rfl ?_); refine goesL_ (some 22) rfl rfl Try.func18 (by kernel_rfl) rfl #[.slice A0 l0.length c0] rfl (by (try simp only [List.map_toArray, List.map_cons, List.map_nil]); first | done | rfl | (simp only [List.length_drop, List.length_take]; rfl)) ?_; (with_reducible refine (laws_big.calls _ _ l0 false _ ?side1 ?side2 A2.out).mono ?_); (case side1 => repeat (first | exact HR0.out | (with_reducible refine Kd.C_alloc ?_ _) | (with_reducible refine Kd.C_drewN ?_ _) | (with_reducible refine Kd.C_drew ?_))); (case side2 => exact HC0.out); rintro e w' ⟨rfl, ⟨nd, rfl⟩⟩; refine ⟨_, rfl, ?_⟩) | ((with_reducible refine gate_callee (f := 22) rfl ?_); refine goesL_ (some 25) rfl rfl Try.func22 (by kernel_rfl) rfl #[.slice A0 l0.length c0] rfl (by (try simp only [List.map_toArray, List.map_cons, List.map_nil]); first | done | rfl | (simp only [List.length_drop, List.length_take]; rfl)) ?_; (with_reducible refine (spec_DrawMeet.calls k _ _ l0 t229 t230 t231 t232 t233 t234 t235 t236 t237 t238 _ ?side1 ?side2 A4.out).mono ?_); (case side1 => repeat (first | exact HR0.out | (with_reducible refine Kd.C_alloc ?_ _) | (with_reducible refine Kd.C_drewN ?_ _) | (with_reducible refine Kd.C_drew ?_))); (case side2 => exact HC0.out); rintro e w8 ⟨rfl, hb⟩; refine ⟨_, rfl, ?_⟩; have n0_ := Aside0.mk (below_step (by repeat (first | (with_reducible first | exact HB.out | apply below_alloc | apply pw_below_drewN | apply below_drew1) | exact HB.out)) hb); clear HB; have HB := n0_; clear n0_; (try clear hb); (try clear hb2); (try clear hk); (try clear hi)) | ((with_reducible refine gate_dst (N := 3) rfl ?_); refine box_event ?hg (N := 3) ?hd (cs := #[.int .i64 0, .int .i64 0, .int .i64 0, .int .i64 0]) (t := 33) ?hr ?_; (case hd => rfl); (case hg => rfl); (case hr => first | (go_simp; done) | (go_simp; rfl)); intro gb239 hg w9 hbox hb; have n0_ := Aside0.mk (below_step (by repeat (first | (with_reducible first | exact HB.out | apply below_alloc | apply pw_below_drewN | apply below_drew1) | exact HB.out)) hb); have n1_ := Aside0.mk (hbox); have n2_ := Aside0.mk ((by rw [hg]; exact (below_size (by repeat (first | (with_reducible first | exact HB.out | apply below_alloc | apply pw_below_drewN | apply below_drew1) | exact HB.out))) : w.heap.size ≤ gb239)); have n3_ := Aside0.mk ((by rw [hg]; exact (below_size (by repeat (first | (with_reducible first | exact HB.out | apply below_alloc | apply pw_below_drewN | apply below_drew1) | exact HB.out))) : w.heap.size ≤ gb239)); clear HB; have HB := n0_; have BK239 := n1_; have GW239 := n2_; have GE239 := n3_; clear n0_ n1_ n2_ n3_; clear hb hbox hg) | ((with_reducible refine gate_dst (N := 4) rfl ?_); refine box_event ?hg (N := 4) ?hd (cs := #[.int .i64 0, .int .i64 0, .int .i64 0, .int .i64 0]) (t := 33) ?hr ?_; (case hd => rfl); (case hg => rfl); (case hr => first | (go_simp; done) | (go_simp; rfl)); intro gb240 hg w10 hbox hb; have n0_ := Aside0.mk (blk_below (g := gb239) (o := .cells #[.int .i64 0, .int .i64 0, .int .i64 0, .int .i64 0] 33 (0, 0)) (by (with_reducible repeat (first | refine blk_drewN ?_ _ | refine blk_drew ?_ | refine blk_alloc ?_ _)); exact BK239.out) hb); have n1_ := Aside0.mk (below_step (by repeat (first | (with_reducible first | exact HB.out | apply below_alloc | apply pw_below_drewN | apply below_drew1 | refine below_set ?_ GE239.out) | exact HB.out)) hb); have n2_ := Aside0.mk (hbox); have n3_ := Aside0.mk ((by rw [hg]; exact (below_size (by repeat (first | (with_reducible first | exact HB.out | apply below_alloc | apply pw_below_drewN | apply below_drew1 | refine below_set ?_ GE239.out) | exact HB.out))) : w.heap.size ≤ gb240)); have n4_ := Aside0.mk ((by rw [hg]; exact (below_size (by repeat (first | (with_reducible first | exact HB.out | apply below_alloc | apply pw_below_drewN | apply below_drew1 | refine below_set ?_ GE239.out) | exact HB.out))) : w.heap.size ≤ gb240)); have n5_ := Aside0.mk ((by rw [hg]; exact Nat.ne_of_lt (blk_lt (g := gb239) (o := .cells #[.int .i64 0, .int .i64 0, .int .i64 0, .int .i64 0] 33 (0, 0)) (by (with_reducible repeat (first | refine blk_drewN ?_ _ | refine blk_drew ?_ | refine blk_alloc ?_ _)); exact BK239.out)) : gb239 ≠ gb240)); have n6_ := Aside0.mk ((by rw [hg]; exact Nat.ne_of_gt (blk_lt (g := gb239) (o := .cells #[.int .i64 0, .int .i64 0, .int .i64 0, .int .i64 0] 33 (0, 0)) (by (with_reducible repeat (first | refine blk_drewN ?_ _ | refine blk_drew ?_ | refine blk_alloc ?_ _)); exact BK239.out)) : gb240 ≠ gb239)); clear BK239; clear HB; have BK239 := n0_; have HB := n1_; have BK240 := n2_; have GW240 := n3_; have GE240 := n4_; have NB239_240 := n5_; have NB240_239 := n6_; clear n0_ n1_ n2_ n3_ n4_ n5_ n6_; clear hb hbox hg; have hnb11 := NB239_240.out; have hnc11 := NB240_239.out; have hcz12_0 : w10.cell? ⟨gb239, 0, none⟩ = some (.int .i64 0) := (blk_cell BK239.out 0).trans rfl; have hcz12_1 : w10.cell? ⟨gb239, 1, none⟩ = some (.int .i64 0) := (blk_cell BK239.out 1).trans rfl; have hcz12_2 : w10.cell? ⟨gb239, 2, none⟩ = some (.int .i64 0) := (blk_cell BK239.out 2).trans rfl; have hcz12_3 : w10.cell? ⟨gb239, 3, none⟩ = some (.int .i64 0) := (blk_cell BK239.out 3).trans rfl; have hfz12_0 := blk_frozen BK239.out 0; have hfz12_1 := blk_frozen BK239.out 1; have hfz12_2 := blk_frozen BK239.out 2; have hfz12_3 := blk_frozen BK239.out 3; have hcz13_0 : w10.cell? ⟨gb240, 0, none⟩ = some (.int .i64 0) := (blk_cell BK240.out 0).trans rfl; have hcz13_1 : w10.cell? ⟨gb240, 1, none⟩ = some (.int .i64 0) := (blk_cell BK240.out 1).trans rfl; have hcz13_2 : w10.cell? ⟨gb240, 2, none⟩ = some (.int .i64 0) := (blk_cell BK240.out 2).trans rfl; have hcz13_3 : w10.cell? ⟨gb240, 3, none⟩ = some (.int .i64 0) := (blk_cell BK240.out 3).trans rfl; have hfz13_0 := blk_frozen BK240.out 0; have hfz13_1 := blk_frozen BK240.out 1; have hfz13_2 := blk_frozen BK240.out 2; have hfz13_3 := blk_frozen BK240.out 3) | ((with_reducible refine gate_callee (f := 23) rfl ?_); refine goesL_ (some 35) rfl rfl Try.func23 (by kernel_rfl) rfl #[.agg #[.int .i64 t229, .int .i64 t230, .int .i64 t231, .int .i64 t232], .agg #[.int .i64 t233, .int .i64 t234, .int .i64 t235, .int .i64 t236], .int .i64 t237, .int .i64 t238, .int .i64 600, .int .i64 100] rfl (by (try simp only [List.map_toArray, List.map_cons, List.map_nil]); first | done | rfl | (simp only [List.length_drop, List.length_take]; rfl)) ?_; (with_reducible refine (impl_Pair.calls k t229 t230 t231 t232 t233 t234 t235 t236 t237 t238 600 100 t241 t242 t243 _ A5.out).mono ?_); rintro e w14 ⟨rfl, hb⟩; refine ⟨_, rfl, ?_⟩; have n0_ := Aside0.mk (blk_below (g := gb239) (o := .cells #[.int .i64 t229, .int .i64 t230, .int .i64 t231, .int .i64 t232] 33 (0, 0)) (by (with_reducible repeat (first | refine blk_drewN ?_ _ | refine blk_drew ?_ | refine blk_alloc ?_ _)); refine blk_far ?_ NB239_240.out _; (with_reducible repeat (first | refine blk_drewN ?_ _ | refine blk_drew ?_ | refine blk_alloc ?_ _)); refine blk_far ?_ NB239_240.out _; (with_reducible repeat (first | refine blk_drewN ?_ _ | refine blk_drew ?_ | refine blk_alloc ?_ _)); refine blk_far ?_ NB239_240.out _; (with_reducible repeat (first | refine blk_drewN ?_ _ | refine blk_drew ?_ | refine blk_alloc ?_ _)); refine blk_far ?_ NB239_240.out _; (with_reducible repeat (first | refine blk_drewN ?_ _ | refine blk_drew ?_ | refine blk_alloc ?_ _)); refine blk_put (cs := #[.int .i64 t229, .int .i64 t230, .int .i64 t231, .int .i64 0]) ?_ 3 _ rfl; (with_reducible repeat (first | refine blk_drewN ?_ _ | refine blk_drew ?_ | refine blk_alloc ?_ _)); refine blk_put (cs := #[.int .i64 t229, .int .i64 t230, .int .i64 0, .int .i64 0]) ?_ 2 _ rfl; (with_reducible repeat (first | refine blk_drewN ?_ _ | refine blk_drew ?_ | refine blk_alloc ?_ _)); refine blk_put (cs := #[.int .i64 t229, .int .i64 0, .int .i64 0, .int .i64 0]) ?_ 1 _ rfl; (with_reducible repeat (first | refine blk_drewN ?_ _ | refine blk_drew ?_ | refine blk_alloc ?_ _)); refine blk_put (cs := #[.int .i64 0, .int .i64 0, .int .i64 0, .int .i64 0]) ?_ 0 _ rfl; (with_reducible repeat (first | refine blk_drewN ?_ _ | refine blk_drew ?_ | refine blk_alloc ?_ _)); exact BK239.out) hb); have n1_ := Aside0.mk (blk_below (g := gb240) (o := .cells #[.int .i64 t233, .int .i64 t234, .int .i64 t235, .int .i64 t236] 33 (0, 0)) (by (with_reducible repeat (first | refine blk_drewN ?_ _ | refine blk_drew ?_ | refine blk_alloc ?_ _)); refine blk_put (cs := #[.int .i64 t233, .int .i64 t234, .int .i64 t235, .int .i64 0]) ?_ 3 _ rfl; (with_reducible repeat (first | refine blk_drewN ?_ _ | refine blk_drew ?_ | refine blk_alloc ?_ _)); refine blk_put (cs := #[.int .i64 t233, .int .i64 t234, .int .i64 0, .int .i64 0]) ?_ 2 _ rfl; (with_reducible repeat (first | refine blk_drewN ?_ _ | refine blk_drew ?_ | refine blk_alloc ?_ _)); refine blk_put (cs := #[.int .i64 t233, .int .i64 0, .int .i64 0, .int .i64 0]) ?_ 1 _ rfl; (with_reducible repeat (first | refine blk_drewN ?_ _ | refine blk_drew ?_ | refine blk_alloc ?_ _)); refine blk_put (cs := #[.int .i64 0, .int .i64 0, .int .i64 0, .int .i64 0]) ?_ 0 _ rfl; (with_reducible repeat (first | refine blk_drewN ?_ _ | refine blk_drew ?_ | refine blk_alloc ?_ _)); refine blk_far ?_ NB240_239.out _; (with_reducible repeat (first | refine blk_drewN ?_ _ | refine blk_drew ?_ | refine blk_alloc ?_ _)); refine blk_far ?_ NB240_239.out _; (with_reducible repeat (first | refine blk_drewN ?_ _ | refine blk_drew ?_ | refine blk_alloc ?_ _)); refine blk_far ?_ NB240_239.out _; (with_reducible repeat (first | refine blk_drewN ?_ _ | refine blk_drew ?_ | refine blk_alloc ?_ _)); refine blk_far ?_ NB240_239.out _; (with_reducible repeat (first | refine blk_drewN ?_ _ | refine blk_drew ?_ | refine blk_alloc ?_ _)); exact BK240.out) hb); have n2_ := Aside0.mk (below_step (by repeat (first | (with_reducible first | exact HB.out | apply below_alloc | apply pw_below_drewN | apply below_drew1 | refine below_set ?_ GE239.out | refine below_set ?_ GE240.out) | exact HB.out)) hb); clear BK239; clear BK240; clear HB; have BK239 := n0_; have BK240 := n1_; have HB := n2_; clear n0_ n1_ n2_; (try clear hb); (try clear hb2); (try clear hk); (try clear hi); have hcz15_0 : w14.cell? ⟨gb240, 0, none⟩ = some (.int .i64 t233) := (blk_cell BK240.out 0).trans rfl; have hcz15_1 : w14.cell? ⟨gb240, 1, none⟩ = some (.int .i64 t234) := (blk_cell BK240.out 1).trans rfl; have hcz15_2 : w14.cell? ⟨gb240, 2, none⟩ = some (.int .i64 t235) := (blk_cell BK240.out 2).trans rfl; have hcz15_3 : w14.cell? ⟨gb240, 3, none⟩ = some (.int .i64 t236) := (blk_cell BK240.out 3).trans rfl; have hfz15_0 := blk_frozen BK240.out 0; have hfz15_1 := blk_frozen BK240.out 1; have hfz15_2 := blk_frozen BK240.out 2; have hfz15_3 := blk_frozen BK240.out 3; have hcz16_0 : w14.cell? ⟨gb239, 0, none⟩ = some (.int .i64 t229) := (blk_cell BK239.out 0).trans rfl; have hcz16_1 : w14.cell? ⟨gb239, 1, none⟩ = some (.int .i64 t230) := (blk_cell BK239.out 1).trans rfl; have hcz16_2 : w14.cell? ⟨gb239, 2, none⟩ = some (.int .i64 t231) := (blk_cell BK239.out 2).trans rfl; have hcz16_3 : w14.cell? ⟨gb239, 3, none⟩ = some (.int .i64 t232) := (blk_cell BK239.out 3).trans rfl; have hfz16_0 := blk_frozen BK239.out 0; have hfz16_1 := blk_frozen BK239.out 1; have hfz16_2 := blk_frozen BK239.out 2; have hfz16_3 := blk_frozen BK239.out 3) | ((with_reducible refine gate_callee (f := 23) rfl ?_); refine goesL_ (some 44) rfl rfl Try.func23 (by kernel_rfl) rfl #[.agg #[.int .i64 t233, .int .i64 t234, .int .i64 t235, .int .i64 t236], .agg #[.int .i64 t229, .int .i64 t230, .int .i64 t231, .int .i64 t232], .int .i64 t237, .int .i64 t238, .int .i64 600, .int .i64 100] rfl (by (try simp only [List.map_toArray, List.map_cons, List.map_nil]); first | done | rfl | (simp only [List.length_drop, List.length_take]; rfl)) ?_; (with_reducible refine (impl_Pair.calls k t233 t234 t235 t236 t229 t230 t231 t232 t237 t238 600 100 t244 t245 t246 _ A6.out).mono ?_); rintro e w17 ⟨rfl, hb⟩; refine ⟨_, rfl, ?_⟩; have n0_ := Aside0.mk (blk_below (g := gb239) (o := .cells #[.int .i64 t229, .int .i64 t230, .int .i64 t231, .int .i64 t232] 33 (0, 0)) (by (with_reducible repeat (first | refine blk_drewN ?_ _ | refine blk_drew ?_ | refine blk_alloc ?_ _)); exact BK239.out) hb); have n1_ := Aside0.mk (blk_below (g := gb240) (o := .cells #[.int .i64 t233, .int .i64 t234, .int .i64 t235, .int .i64 t236] 33 (0, 0)) (by (with_reducible repeat (first | refine blk_drewN ?_ _ | refine blk_drew ?_ | refine blk_alloc ?_ _)); exact BK240.out) hb); have n2_ := Aside0.mk (below_step (by repeat (first | (with_reducible first | exact HB.out | apply below_alloc | apply pw_below_drewN | apply below_drew1 | refine below_set ?_ GE239.out | refine below_set ?_ GE240.out) | exact HB.out)) hb); clear BK239; clear BK240; clear HB; have BK239 := n0_; have BK240 := n1_; have HB := n2_; clear n0_ n1_ n2_; (try clear hb); (try clear hb2); (try clear hk); (try clear hi)))
    (try simp only [Act.put, List.setIfInBounds_toArray, List.set_cons_zero, List.set_cons_succ])
    go_cut [68] (fun v68 wc => ∃ (kq : Nat) (x68_6 : Bool), v68 = .bool x68_6 ∧ Aside0 (laws_FnSenses.j0 kq t237 t238 t241 t242 x68_6 t229 t230 t231 t232 t233 t234 t235 t236 = some r) ∧ Aside0 (kq ≤ k) ∧ Aside0 (wc.heap[gb239]? = some (.cells #[.int .i64 t229, .int .i64 t230, .int .i64 t231, .int .i64 t232] 33 (0, 0))) ∧ Aside0 (wc.heap[gb240]? = some (.cells #[.int .i64 t233, .int .i64 t234, .int .i64 t235, .int .i64 t236] 33 (0, 0))) ∧ Aside0 (Below w.heap.size w wc))
    case first =>
      have H := HC7.out
      clear HC7
      by_cases c18 : t243 = true
      · subst c18
        have H1 : (if t246 = true then (if t244 = t242 then (if t245 = t241 then ((impl_OwnOk.f t229 t230 t231 t232).bind fun t247 => (laws_FnSenses.j0 k t237 t238 t241 t242 (!t247) t229 t230 t231 t232 t233 t234 t235 t236)) else (laws_FnSenses.j0 k t237 t238 t241 t242 true t229 t230 t231 t232 t233 t234 t235 t236)) else (laws_FnSenses.j0 k t237 t238 t241 t242 true t229 t230 t231 t232 t233 t234 t235 t236)) else (laws_FnSenses.j0 k t237 t238 t241 t242 true t229 t230 t231 t232 t233 t234 t235 t236)) = some r := by rw [if_pos rfl] at H; exact H
        clear H
        have H := H1
        clear H1
        by_cases c19 : t246 = true
        · subst c19
          have H1 : (if t244 = t242 then (if t245 = t241 then ((impl_OwnOk.f t229 t230 t231 t232).bind fun t247 => (laws_FnSenses.j0 k t237 t238 t241 t242 (!t247) t229 t230 t231 t232 t233 t234 t235 t236)) else (laws_FnSenses.j0 k t237 t238 t241 t242 true t229 t230 t231 t232 t233 t234 t235 t236)) else (laws_FnSenses.j0 k t237 t238 t241 t242 true t229 t230 t231 t232 t233 t234 t235 t236)) = some r := by rw [if_pos rfl] at H; exact H
          clear H
          have H := H1
          clear H1
          by_cases c20 : t244 = t242
          · rw [if_pos c20] at H
            have c20b0 : (t244 == t242) = true := beq_iff_eq.mpr c20
            have c20b1 : (t244 != t242) = false := bne_eq_false_iff_eq.mpr c20
            clear c20
            (first | rw [c20b0] | (simp only [i64_w, i32_w]; rw [c20b0]) | skip)
            by_cases c21 : t245 = t241
            · rw [if_pos c21] at H
              have c21b0 : (t245 == t241) = true := beq_iff_eq.mpr c21
              have c21b1 : (t245 != t241) = false := bne_eq_false_iff_eq.mpr c21
              clear c21
              replace H := Option.bind_eq_some_iff.mp H
              obtain ⟨t247, A220, H⟩ := H
              replace H : (laws_FnSenses.j0 k t237 t238 t241 t242 (!t247) t229 t230 t231 t232 t233 t234 t235 t236) = some r := H
              have A22 := Aside0.mk A220
              clear A220
              have H' := Aside0.mk H
              clear H
              have hnb23 := NB239_240.out
              have hnc23 := NB240_239.out
              have hcz24_0 : w17.cell? ⟨gb239, 0, none⟩ = some (.int .i64 t229) := (blk_cell BK239.out 0).trans rfl
              have hcz24_1 : w17.cell? ⟨gb239, 1, none⟩ = some (.int .i64 t230) := (blk_cell BK239.out 1).trans rfl
              have hcz24_2 : w17.cell? ⟨gb239, 2, none⟩ = some (.int .i64 t231) := (blk_cell BK239.out 2).trans rfl
              have hcz24_3 : w17.cell? ⟨gb239, 3, none⟩ = some (.int .i64 t232) := (blk_cell BK239.out 3).trans rfl
              have hfz24_0 := blk_frozen BK239.out 0
              have hfz24_1 := blk_frozen BK239.out 1
              have hfz24_2 := blk_frozen BK239.out 2
              have hfz24_3 := blk_frozen BK239.out 3
              go_wp2_with (first | (go_at_call 24; (with_reducible refine (impl_OwnOk.calls t229 t230 t231 t232 t247 _ A22.out).mono ?_); rintro e w25 ⟨rfl, hb⟩; have n0_ := Aside0.mk (blk_below (g := gb239) (o := .cells #[.int .i64 t229, .int .i64 t230, .int .i64 t231, .int .i64 t232] 33 (0, 0)) (by (with_reducible repeat (first | refine blk_drewN ?_ _ | refine blk_drew ?_ | refine blk_alloc ?_ _)); exact BK239.out) hb); have n1_ := Aside0.mk (blk_below (g := gb240) (o := .cells #[.int .i64 t233, .int .i64 t234, .int .i64 t235, .int .i64 t236] 33 (0, 0)) (by (with_reducible repeat (first | refine blk_drewN ?_ _ | refine blk_drew ?_ | refine blk_alloc ?_ _)); exact BK240.out) hb); have n2_ := Aside0.mk (below_step (by repeat (first | (with_reducible first | exact HB.out | apply below_alloc | apply pw_below_drewN | apply below_drew1 | refine below_set ?_ GE239.out | refine below_set ?_ GE240.out) | exact HB.out)) hb); clear BK239; clear BK240; clear HB; have BK239 := n0_; have BK240 := n1_; have HB := n2_; clear n0_ n1_ n2_; (try clear hb); (try clear hb2); (try clear hk); (try clear hi)))
              go_meet
              case rel => exact ⟨_, (!t247), (by first | rfl | (simp; done) | (simp [*]; done)), H', ⟨by first | omega | exact Nat.le_refl _⟩, ⟨by (with_reducible repeat (first | refine blk_drewN ?_ _ | refine blk_drew ?_ | refine blk_alloc ?_ _)); exact BK239.out⟩, ⟨by (with_reducible repeat (first | refine blk_drewN ?_ _ | refine blk_drew ?_ | refine blk_alloc ?_ _)); exact BK240.out⟩, ⟨by repeat (first | (with_reducible first | exact HB.out | apply below_alloc | apply pw_below_drewN | apply below_drew1 | refine below_set ?_ GE239.out | refine below_set ?_ GE240.out) | exact HB.out)⟩⟩
            · rw [if_neg c21] at H
              have c21b0 : (t245 == t241) = false := beq_eq_false_iff_ne.mpr c21
              have c21b1 : (t245 != t241) = true := bne_iff_ne.mpr c21
              have H' := Aside0.mk H
              clear H
              go_wp2
              go_meet
              case rel => exact ⟨_, (true), (by first | rfl | (simp; done) | (simp [*]; done)), H', ⟨by first | omega | exact Nat.le_refl _⟩, ⟨by (with_reducible repeat (first | refine blk_drewN ?_ _ | refine blk_drew ?_ | refine blk_alloc ?_ _)); exact BK239.out⟩, ⟨by (with_reducible repeat (first | refine blk_drewN ?_ _ | refine blk_drew ?_ | refine blk_alloc ?_ _)); exact BK240.out⟩, ⟨by repeat (first | (with_reducible first | exact HB.out | apply below_alloc | apply pw_below_drewN | apply below_drew1 | refine below_set ?_ GE239.out | refine below_set ?_ GE240.out) | exact HB.out)⟩⟩
          · rw [if_neg c20] at H
            have c20b0 : (t244 == t242) = false := beq_eq_false_iff_ne.mpr c20
            have c20b1 : (t244 != t242) = true := bne_iff_ne.mpr c20
            (first | rw [c20b0] | (simp only [i64_w, i32_w]; rw [c20b0]) | skip)
            have H' := Aside0.mk H
            clear H
            go_wp2
            go_meet
            case rel => exact ⟨_, (true), (by first | rfl | (simp; done) | (simp [*]; done)), H', ⟨by first | omega | exact Nat.le_refl _⟩, ⟨by (with_reducible repeat (first | refine blk_drewN ?_ _ | refine blk_drew ?_ | refine blk_alloc ?_ _)); exact BK239.out⟩, ⟨by (with_reducible repeat (first | refine blk_drewN ?_ _ | refine blk_drew ?_ | refine blk_alloc ?_ _)); exact BK240.out⟩, ⟨by repeat (first | (with_reducible first | exact HB.out | apply below_alloc | apply pw_below_drewN | apply below_drew1 | refine below_set ?_ GE239.out | refine below_set ?_ GE240.out) | exact HB.out)⟩⟩
        · replace c19 := Bool.eq_false_iff.mpr c19
          subst c19
          have H1 : (laws_FnSenses.j0 k t237 t238 t241 t242 true t229 t230 t231 t232 t233 t234 t235 t236) = some r := by rw [if_neg (show ¬ (false = true) by decide)] at H; exact H
          clear H
          have H := H1
          clear H1
          have H' := Aside0.mk H
          clear H
          go_wp2
          go_meet
          case rel => exact ⟨_, (true), (by first | rfl | (simp; done) | (simp [*]; done)), H', ⟨by first | omega | exact Nat.le_refl _⟩, ⟨by (with_reducible repeat (first | refine blk_drewN ?_ _ | refine blk_drew ?_ | refine blk_alloc ?_ _)); exact BK239.out⟩, ⟨by (with_reducible repeat (first | refine blk_drewN ?_ _ | refine blk_drew ?_ | refine blk_alloc ?_ _)); exact BK240.out⟩, ⟨by repeat (first | (with_reducible first | exact HB.out | apply below_alloc | apply pw_below_drewN | apply below_drew1 | refine below_set ?_ GE239.out | refine below_set ?_ GE240.out) | exact HB.out)⟩⟩
      · replace c18 := Bool.eq_false_iff.mpr c18
        subst c18
        have H1 : (laws_FnSenses.j0 k t237 t238 t241 t242 true t229 t230 t231 t232 t233 t234 t235 t236) = some r := by rw [if_neg (show ¬ (false = true) by decide)] at H; exact H
        clear H
        have H := H1
        clear H1
        have H' := Aside0.mk H
        clear H
        go_wp2
        go_meet
        case rel => exact ⟨_, (true), (by first | rfl | (simp; done) | (simp [*]; done)), H', ⟨by first | omega | exact Nat.le_refl _⟩, ⟨by (with_reducible repeat (first | refine blk_drewN ?_ _ | refine blk_drew ?_ | refine blk_alloc ?_ _)); exact BK239.out⟩, ⟨by (with_reducible repeat (first | refine blk_drewN ?_ _ | refine blk_drew ?_ | refine blk_alloc ?_ _)); exact BK240.out⟩, ⟨by repeat (first | (with_reducible first | exact HB.out | apply below_alloc | apply pw_below_drewN | apply below_drew1 | refine below_set ?_ GE239.out | refine below_set ?_ GE240.out) | exact HB.out)⟩⟩
    case rest =>
      clear HC7
      try clear c1
      try clear c2
      try clear p2
      try clear c3
      try clear c7
      try clear c11
      try clear c18
      try clear c19
      try clear c20
      try clear c20b0
      try clear c20b1
      try clear c21
      try clear c21b0
      try clear c21b1
      try clear c22
      try clear c23
      try clear hcz12_0
      try clear hcz12_1
      try clear hcz12_2
      try clear hcz12_3
      try clear hcz13_0
      try clear hcz13_1
      try clear hcz13_2
      try clear hcz13_3
      try clear hcz15_0
      try clear hcz15_1
      try clear hcz15_2
      try clear hcz15_3
      try clear hcz16_0
      try clear hcz16_1
      try clear hcz16_2
      try clear hcz16_3
      try clear hcz24_0
      try clear hcz24_1
      try clear hcz24_2
      try clear hcz24_3
      try clear hfz12_0
      try clear hfz12_1
      try clear hfz12_2
      try clear hfz12_3
      try clear hfz13_0
      try clear hfz13_1
      try clear hfz13_2
      try clear hfz13_3
      try clear hfz15_0
      try clear hfz15_1
      try clear hfz15_2
      try clear hfz15_3
      try clear hfz16_0
      try clear hfz16_1
      try clear hfz16_2
      try clear hfz16_3
      try clear hfz24_0
      try clear hfz24_1
      try clear hfz24_2
      try clear hfz24_3
      obtain ⟨kq, x68_6, rfl, HA, HJ6, BK239, BK240, HB⟩ := hcut
      cases kq with
      | zero => exact absurd HA.out (by simp [laws_FnSenses.j0])
      | succ kj6 =>
        have H := HA.out
        clear HA
        simp only [laws_FnSenses.j0] at H
        by_cases c26 : x68_6 = true
        · subst c26
          have H1 : (some false) = some r := by rw [if_pos rfl] at H; exact H
          clear H
          have H := H1
          clear H1
          obtain rfl := Option.some.inj H
          go_wp2
          go_ret
          exact ⟨by first | rfl | (simp [errW_none, errW_some] <;> rfl) | (simp [*, errW_none, errW_some] <;> rfl), by repeat (first | (with_reducible first | exact HB.out | apply below_alloc | apply pw_below_drewN | apply below_drew1 | refine below_set ?_ GE239.out | refine below_set ?_ GE240.out) | exact HB.out)⟩
        · replace c26 := Bool.eq_false_iff.mpr c26
          subst c26
          have H1 : ((impl_Threat.f t229 t230 t231 t232 t233 t234 t235 t237 t238 0 600 100).bind fun t249 => ((impl_TicksTo.f t233 t234 t235 t237 t238 0).bind fun bt250 => (if bt250.2 = true then ((impl_TrackOk.f t233 t234 t235 t237 t238 0).bind fun t252 => (if t252 = true then (if (wrap64 (bt250.1 * t238)) < t237 then (laws_FnSenses.j1 kj6 t241 t242 t249 true t229 t230 t231 t232 t233 t234 t235 t237 t238 0) else (if (wrap64 ((wrap64 (bt250.1 - 1)) * t238)) ≥ t237 then (laws_FnSenses.j1 kj6 t241 t242 t249 (decide (bt250.1 > 0)) t229 t230 t231 t232 t233 t234 t235 t237 t238 0) else (laws_FnSenses.j1 kj6 t241 t242 t249 false t229 t230 t231 t232 t233 t234 t235 t237 t238 0))) else (laws_FnSenses.j1 kj6 t241 t242 t249 true t229 t230 t231 t232 t233 t234 t235 t237 t238 0))) else (laws_FnSenses.j1 kj6 t241 t242 t249 true t229 t230 t231 t232 t233 t234 t235 t237 t238 0)))) = some r := by rw [if_neg (show ¬ (false = true) by decide)] at H; exact H
          clear H
          have H := H1
          clear H1
          replace H := Option.bind_eq_some_iff.mp H
          obtain ⟨t249, A270, H⟩ := H
          replace H : ((impl_TicksTo.f t233 t234 t235 t237 t238 0).bind fun bt250 => (if bt250.2 = true then ((impl_TrackOk.f t233 t234 t235 t237 t238 0).bind fun t252 => (if t252 = true then (if (wrap64 (bt250.1 * t238)) < t237 then (laws_FnSenses.j1 kj6 t241 t242 t249 true t229 t230 t231 t232 t233 t234 t235 t237 t238 0) else (if (wrap64 ((wrap64 (bt250.1 - 1)) * t238)) ≥ t237 then (laws_FnSenses.j1 kj6 t241 t242 t249 (decide (bt250.1 > 0)) t229 t230 t231 t232 t233 t234 t235 t237 t238 0) else (laws_FnSenses.j1 kj6 t241 t242 t249 false t229 t230 t231 t232 t233 t234 t235 t237 t238 0))) else (laws_FnSenses.j1 kj6 t241 t242 t249 true t229 t230 t231 t232 t233 t234 t235 t237 t238 0))) else (laws_FnSenses.j1 kj6 t241 t242 t249 true t229 t230 t231 t232 t233 t234 t235 t237 t238 0))) = some r := H
          have A27 := Aside0.mk A270
          clear A270
          replace H := Option.bind_eq_some_iff.mp H
          obtain ⟨⟨t250, t251⟩, A280, H⟩ := H
          replace H : (if t251 = true then ((impl_TrackOk.f t233 t234 t235 t237 t238 0).bind fun t252 => (if t252 = true then (if (wrap64 (t250 * t238)) < t237 then (laws_FnSenses.j1 kj6 t241 t242 t249 true t229 t230 t231 t232 t233 t234 t235 t237 t238 0) else (if (wrap64 ((wrap64 (t250 - 1)) * t238)) ≥ t237 then (laws_FnSenses.j1 kj6 t241 t242 t249 (decide (t250 > 0)) t229 t230 t231 t232 t233 t234 t235 t237 t238 0) else (laws_FnSenses.j1 kj6 t241 t242 t249 false t229 t230 t231 t232 t233 t234 t235 t237 t238 0))) else (laws_FnSenses.j1 kj6 t241 t242 t249 true t229 t230 t231 t232 t233 t234 t235 t237 t238 0))) else (laws_FnSenses.j1 kj6 t241 t242 t249 true t229 t230 t231 t232 t233 t234 t235 t237 t238 0)) = some r := H
          have A28 := Aside0.mk A280
          clear A280
          have HC29 := Aside0.mk H
          clear H
          have hnb30 := NB240_239.out
          have hnc30 := NB239_240.out
          have hcz31_0 : wc.cell? ⟨gb240, 0, none⟩ = some (.int .i64 t233) := (blk_cell BK240.out 0).trans rfl
          have hcz31_1 : wc.cell? ⟨gb240, 1, none⟩ = some (.int .i64 t234) := (blk_cell BK240.out 1).trans rfl
          have hcz31_2 : wc.cell? ⟨gb240, 2, none⟩ = some (.int .i64 t235) := (blk_cell BK240.out 2).trans rfl
          have hcz31_3 : wc.cell? ⟨gb240, 3, none⟩ = some (.int .i64 t236) := (blk_cell BK240.out 3).trans rfl
          have hfz31_0 := blk_frozen BK240.out 0
          have hfz31_1 := blk_frozen BK240.out 1
          have hfz31_2 := blk_frozen BK240.out 2
          have hfz31_3 := blk_frozen BK240.out 3
          go_upto_region 11 with (first | ((with_reducible refine gate_dst (N := 13) rfl ?_); refine box_event ?hg (N := 13) ?hd (cs := #[.int .i64 0, .int .i64 0, .int .i64 0, .int .i64 0, .int .i64 0, .int .i64 0]) (t := 35) ?hr ?_; (case hd => rfl); (case hg => rfl); (case hr => first | (go_simp; done) | (go_simp; rfl)); intro gb248 hg w32 hbox hb; have n0_ := Aside0.mk (blk_below (g := gb239) (o := .cells #[.int .i64 t229, .int .i64 t230, .int .i64 t231, .int .i64 t232] 33 (0, 0)) (by (with_reducible repeat (first | refine blk_drewN ?_ _ | refine blk_drew ?_ | refine blk_alloc ?_ _)); exact BK239.out) hb); have n1_ := Aside0.mk (blk_below (g := gb240) (o := .cells #[.int .i64 t233, .int .i64 t234, .int .i64 t235, .int .i64 t236] 33 (0, 0)) (by (with_reducible repeat (first | refine blk_drewN ?_ _ | refine blk_drew ?_ | refine blk_alloc ?_ _)); exact BK240.out) hb); have n2_ := Aside0.mk (below_step (by repeat (first | (with_reducible first | exact HB.out | apply below_alloc | apply pw_below_drewN | apply below_drew1 | refine below_set ?_ GE239.out | refine below_set ?_ GE240.out) | exact HB.out)) hb); have n3_ := Aside0.mk (hbox); have n4_ := Aside0.mk ((by rw [hg]; exact (below_size (by repeat (first | (with_reducible first | exact HB.out | apply below_alloc | apply pw_below_drewN | apply below_drew1 | refine below_set ?_ GE239.out | refine below_set ?_ GE240.out) | exact HB.out))) : w.heap.size ≤ gb248)); have n5_ := Aside0.mk ((by rw [hg]; exact (below_size (by repeat (first | (with_reducible first | exact HB.out | apply below_alloc | apply pw_below_drewN | apply below_drew1 | refine below_set ?_ GE239.out | refine below_set ?_ GE240.out) | exact HB.out))) : w.heap.size ≤ gb248)); have n6_ := Aside0.mk ((by rw [hg]; exact Nat.ne_of_lt (blk_lt (g := gb239) (o := .cells #[.int .i64 t229, .int .i64 t230, .int .i64 t231, .int .i64 t232] 33 (0, 0)) (by (with_reducible repeat (first | refine blk_drewN ?_ _ | refine blk_drew ?_ | refine blk_alloc ?_ _)); exact BK239.out)) : gb239 ≠ gb248)); have n7_ := Aside0.mk ((by rw [hg]; exact Nat.ne_of_gt (blk_lt (g := gb239) (o := .cells #[.int .i64 t229, .int .i64 t230, .int .i64 t231, .int .i64 t232] 33 (0, 0)) (by (with_reducible repeat (first | refine blk_drewN ?_ _ | refine blk_drew ?_ | refine blk_alloc ?_ _)); exact BK239.out)) : gb248 ≠ gb239)); have n8_ := Aside0.mk ((by rw [hg]; exact Nat.ne_of_lt (blk_lt (g := gb240) (o := .cells #[.int .i64 t233, .int .i64 t234, .int .i64 t235, .int .i64 t236] 33 (0, 0)) (by (with_reducible repeat (first | refine blk_drewN ?_ _ | refine blk_drew ?_ | refine blk_alloc ?_ _)); exact BK240.out)) : gb240 ≠ gb248)); have n9_ := Aside0.mk ((by rw [hg]; exact Nat.ne_of_gt (blk_lt (g := gb240) (o := .cells #[.int .i64 t233, .int .i64 t234, .int .i64 t235, .int .i64 t236] 33 (0, 0)) (by (with_reducible repeat (first | refine blk_drewN ?_ _ | refine blk_drew ?_ | refine blk_alloc ?_ _)); exact BK240.out)) : gb248 ≠ gb240)); clear BK239; clear BK240; clear HB; have BK239 := n0_; have BK240 := n1_; have HB := n2_; have BK248 := n3_; have GW248 := n4_; have GE248 := n5_; have NB239_248 := n6_; have NB248_239 := n7_; have NB240_248 := n8_; have NB248_240 := n9_; clear n0_ n1_ n2_ n3_ n4_ n5_ n6_ n7_ n8_ n9_; clear hb hbox hg; have hnb33 := NB248_239.out; have hnc33 := NB239_248.out; have hnb34 := NB248_240.out; have hnc34 := NB240_248.out; have hcz35_0 : w32.cell? ⟨gb248, 0, none⟩ = some (.int .i64 0) := (blk_cell BK248.out 0).trans rfl; have hcz35_1 : w32.cell? ⟨gb248, 1, none⟩ = some (.int .i64 0) := (blk_cell BK248.out 1).trans rfl; have hcz35_2 : w32.cell? ⟨gb248, 2, none⟩ = some (.int .i64 0) := (blk_cell BK248.out 2).trans rfl; have hcz35_3 : w32.cell? ⟨gb248, 3, none⟩ = some (.int .i64 0) := (blk_cell BK248.out 3).trans rfl; have hcz35_4 : w32.cell? ⟨gb248, 4, none⟩ = some (.int .i64 0) := (blk_cell BK248.out 4).trans rfl; have hcz35_5 : w32.cell? ⟨gb248, 5, none⟩ = some (.int .i64 0) := (blk_cell BK248.out 5).trans rfl; have hfz35_0 := blk_frozen BK248.out 0; have hfz35_1 := blk_frozen BK248.out 1; have hfz35_2 := blk_frozen BK248.out 2; have hfz35_3 := blk_frozen BK248.out 3; have hfz35_4 := blk_frozen BK248.out 4; have hfz35_5 := blk_frozen BK248.out 5; have hcz36_0 : w32.cell? ⟨gb239, 0, none⟩ = some (.int .i64 t229) := (blk_cell BK239.out 0).trans rfl; have hcz36_1 : w32.cell? ⟨gb239, 1, none⟩ = some (.int .i64 t230) := (blk_cell BK239.out 1).trans rfl; have hcz36_2 : w32.cell? ⟨gb239, 2, none⟩ = some (.int .i64 t231) := (blk_cell BK239.out 2).trans rfl; have hcz36_3 : w32.cell? ⟨gb239, 3, none⟩ = some (.int .i64 t232) := (blk_cell BK239.out 3).trans rfl; have hfz36_0 := blk_frozen BK239.out 0; have hfz36_1 := blk_frozen BK239.out 1; have hfz36_2 := blk_frozen BK239.out 2; have hfz36_3 := blk_frozen BK239.out 3) | ((with_reducible refine gate_callee (f := 17) rfl ?_); refine goesL_ (some 80) rfl rfl Try.func17 (by kernel_rfl) rfl #[.agg #[.int .i64 t229, .int .i64 t230, .int .i64 t231, .int .i64 t232], .agg #[.int .i64 t233, .int .i64 t234, .int .i64 t235, .int .i64 t237, .int .i64 t238, .int .i64 0], .int .i64 600, .int .i64 100] rfl (by (try simp only [List.map_toArray, List.map_cons, List.map_nil]); first | done | rfl | (simp only [List.length_drop, List.length_take]; rfl)) ?_; (with_reducible refine (impl_Threat.calls t229 t230 t231 t232 t233 t234 t235 t237 t238 0 600 100 t249 _ A27.out).mono ?_); rintro e w37 ⟨rfl, hb⟩; refine ⟨_, rfl, ?_⟩; have n0_ := Aside0.mk (blk_below (g := gb239) (o := .cells #[.int .i64 t229, .int .i64 t230, .int .i64 t231, .int .i64 t232] 33 (0, 0)) (by (with_reducible repeat (first | refine blk_drewN ?_ _ | refine blk_drew ?_ | refine blk_alloc ?_ _)); refine blk_far ?_ NB239_248.out _; (with_reducible repeat (first | refine blk_drewN ?_ _ | refine blk_drew ?_ | refine blk_alloc ?_ _)); refine blk_far ?_ NB239_248.out _; (with_reducible repeat (first | refine blk_drewN ?_ _ | refine blk_drew ?_ | refine blk_alloc ?_ _)); refine blk_far ?_ NB239_248.out _; (with_reducible repeat (first | refine blk_drewN ?_ _ | refine blk_drew ?_ | refine blk_alloc ?_ _)); refine blk_far ?_ NB239_248.out _; (with_reducible repeat (first | refine blk_drewN ?_ _ | refine blk_drew ?_ | refine blk_alloc ?_ _)); refine blk_far ?_ NB239_248.out _; (with_reducible repeat (first | refine blk_drewN ?_ _ | refine blk_drew ?_ | refine blk_alloc ?_ _)); refine blk_far ?_ NB239_248.out _; (with_reducible repeat (first | refine blk_drewN ?_ _ | refine blk_drew ?_ | refine blk_alloc ?_ _)); exact BK239.out) hb); have n1_ := Aside0.mk (blk_below (g := gb240) (o := .cells #[.int .i64 t233, .int .i64 t234, .int .i64 t235, .int .i64 t236] 33 (0, 0)) (by (with_reducible repeat (first | refine blk_drewN ?_ _ | refine blk_drew ?_ | refine blk_alloc ?_ _)); refine blk_far ?_ NB240_248.out _; (with_reducible repeat (first | refine blk_drewN ?_ _ | refine blk_drew ?_ | refine blk_alloc ?_ _)); refine blk_far ?_ NB240_248.out _; (with_reducible repeat (first | refine blk_drewN ?_ _ | refine blk_drew ?_ | refine blk_alloc ?_ _)); refine blk_far ?_ NB240_248.out _; (with_reducible repeat (first | refine blk_drewN ?_ _ | refine blk_drew ?_ | refine blk_alloc ?_ _)); refine blk_far ?_ NB240_248.out _; (with_reducible repeat (first | refine blk_drewN ?_ _ | refine blk_drew ?_ | refine blk_alloc ?_ _)); refine blk_far ?_ NB240_248.out _; (with_reducible repeat (first | refine blk_drewN ?_ _ | refine blk_drew ?_ | refine blk_alloc ?_ _)); refine blk_far ?_ NB240_248.out _; (with_reducible repeat (first | refine blk_drewN ?_ _ | refine blk_drew ?_ | refine blk_alloc ?_ _)); exact BK240.out) hb); have n2_ := Aside0.mk (blk_below (g := gb248) (o := .cells #[.int .i64 t233, .int .i64 t234, .int .i64 t235, .int .i64 t237, .int .i64 t238, .int .i64 0] 35 (0, 0)) (by (with_reducible repeat (first | refine blk_drewN ?_ _ | refine blk_drew ?_ | refine blk_alloc ?_ _)); refine blk_put (cs := #[.int .i64 t233, .int .i64 t234, .int .i64 t235, .int .i64 t237, .int .i64 t238, .int .i64 0]) ?_ 5 _ rfl; (with_reducible repeat (first | refine blk_drewN ?_ _ | refine blk_drew ?_ | refine blk_alloc ?_ _)); refine blk_put (cs := #[.int .i64 t233, .int .i64 t234, .int .i64 t235, .int .i64 t237, .int .i64 0, .int .i64 0]) ?_ 4 _ rfl; (with_reducible repeat (first | refine blk_drewN ?_ _ | refine blk_drew ?_ | refine blk_alloc ?_ _)); refine blk_put (cs := #[.int .i64 t233, .int .i64 t234, .int .i64 t235, .int .i64 0, .int .i64 0, .int .i64 0]) ?_ 3 _ rfl; (with_reducible repeat (first | refine blk_drewN ?_ _ | refine blk_drew ?_ | refine blk_alloc ?_ _)); refine blk_put (cs := #[.int .i64 t233, .int .i64 t234, .int .i64 0, .int .i64 0, .int .i64 0, .int .i64 0]) ?_ 2 _ rfl; (with_reducible repeat (first | refine blk_drewN ?_ _ | refine blk_drew ?_ | refine blk_alloc ?_ _)); refine blk_put (cs := #[.int .i64 t233, .int .i64 0, .int .i64 0, .int .i64 0, .int .i64 0, .int .i64 0]) ?_ 1 _ rfl; (with_reducible repeat (first | refine blk_drewN ?_ _ | refine blk_drew ?_ | refine blk_alloc ?_ _)); refine blk_put (cs := #[.int .i64 0, .int .i64 0, .int .i64 0, .int .i64 0, .int .i64 0, .int .i64 0]) ?_ 0 _ rfl; (with_reducible repeat (first | refine blk_drewN ?_ _ | refine blk_drew ?_ | refine blk_alloc ?_ _)); exact BK248.out) hb); have n3_ := Aside0.mk (below_step (by repeat (first | (with_reducible first | exact HB.out | apply below_alloc | apply pw_below_drewN | apply below_drew1 | refine below_set ?_ GE239.out | refine below_set ?_ GE240.out | refine below_set ?_ GE248.out) | exact HB.out)) hb); clear BK239; clear BK240; clear BK248; clear HB; have BK239 := n0_; have BK240 := n1_; have BK248 := n2_; have HB := n3_; clear n0_ n1_ n2_ n3_; (try clear hb); (try clear hb2); (try clear hk); (try clear hi); have hcz38_0 : w37.cell? ⟨gb248, 0, none⟩ = some (.int .i64 t233) := (blk_cell BK248.out 0).trans rfl; have hcz38_1 : w37.cell? ⟨gb248, 1, none⟩ = some (.int .i64 t234) := (blk_cell BK248.out 1).trans rfl; have hcz38_2 : w37.cell? ⟨gb248, 2, none⟩ = some (.int .i64 t235) := (blk_cell BK248.out 2).trans rfl; have hcz38_3 : w37.cell? ⟨gb248, 3, none⟩ = some (.int .i64 t237) := (blk_cell BK248.out 3).trans rfl; have hcz38_4 : w37.cell? ⟨gb248, 4, none⟩ = some (.int .i64 t238) := (blk_cell BK248.out 4).trans rfl; have hcz38_5 : w37.cell? ⟨gb248, 5, none⟩ = some (.int .i64 0) := (blk_cell BK248.out 5).trans rfl; have hfz38_0 := blk_frozen BK248.out 0; have hfz38_1 := blk_frozen BK248.out 1; have hfz38_2 := blk_frozen BK248.out 2; have hfz38_3 := blk_frozen BK248.out 3; have hfz38_4 := blk_frozen BK248.out 4; have hfz38_5 := blk_frozen BK248.out 5) | ((with_reducible refine gate_callee (f := 25) rfl ?_); refine goesL_ (some 83) rfl rfl Try.func25 (by kernel_rfl) rfl #[.agg #[.int .i64 t233, .int .i64 t234, .int .i64 t235, .int .i64 t237, .int .i64 t238, .int .i64 0]] rfl (by (try simp only [List.map_toArray, List.map_cons, List.map_nil]); first | done | rfl | (simp only [List.length_drop, List.length_take]; rfl)) ?_; (with_reducible refine (impl_TicksTo.calls t233 t234 t235 t237 t238 0 t250 t251 _ A28.out).mono ?_); rintro e w39 ⟨rfl, hb⟩; refine ⟨_, rfl, ?_⟩; have n0_ := Aside0.mk (blk_below (g := gb239) (o := .cells #[.int .i64 t229, .int .i64 t230, .int .i64 t231, .int .i64 t232] 33 (0, 0)) (by (with_reducible repeat (first | refine blk_drewN ?_ _ | refine blk_drew ?_ | refine blk_alloc ?_ _)); exact BK239.out) hb); have n1_ := Aside0.mk (blk_below (g := gb240) (o := .cells #[.int .i64 t233, .int .i64 t234, .int .i64 t235, .int .i64 t236] 33 (0, 0)) (by (with_reducible repeat (first | refine blk_drewN ?_ _ | refine blk_drew ?_ | refine blk_alloc ?_ _)); exact BK240.out) hb); have n2_ := Aside0.mk (blk_below (g := gb248) (o := .cells #[.int .i64 t233, .int .i64 t234, .int .i64 t235, .int .i64 t237, .int .i64 t238, .int .i64 0] 35 (0, 0)) (by (with_reducible repeat (first | refine blk_drewN ?_ _ | refine blk_drew ?_ | refine blk_alloc ?_ _)); exact BK248.out) hb); have n3_ := Aside0.mk (below_step (by repeat (first | (with_reducible first | exact HB.out | apply below_alloc | apply pw_below_drewN | apply below_drew1 | refine below_set ?_ GE239.out | refine below_set ?_ GE240.out | refine below_set ?_ GE248.out) | exact HB.out)) hb); clear BK239; clear BK240; clear BK248; clear HB; have BK239 := n0_; have BK240 := n1_; have BK248 := n2_; have HB := n3_; clear n0_ n1_ n2_ n3_; (try clear hb); (try clear hb2); (try clear hk); (try clear hi)))
          (try simp only [Act.put, List.setIfInBounds_toArray, List.set_cons_zero, List.set_cons_succ])
          go_cut [111] (fun v111 wc => ∃ (kq : Nat) (x111_28 : Bool), v111 = .bool x111_28 ∧ Aside0 (laws_FnSenses.j1 kq t241 t242 t249 x111_28 t229 t230 t231 t232 t233 t234 t235 t237 t238 0 = some r) ∧ Aside0 (kq ≤ kj6) ∧ Aside0 (wc.heap[gb239]? = some (.cells #[.int .i64 t229, .int .i64 t230, .int .i64 t231, .int .i64 t232] 33 (0, 0))) ∧ Aside0 (wc.heap[gb240]? = some (.cells #[.int .i64 t233, .int .i64 t234, .int .i64 t235, .int .i64 t236] 33 (0, 0))) ∧ Aside0 (wc.heap[gb248]? = some (.cells #[.int .i64 t233, .int .i64 t234, .int .i64 t235, .int .i64 t237, .int .i64 t238, .int .i64 0] 35 (0, 0))) ∧ Aside0 (Below w.heap.size w wc))
          case first =>
            have H := HC29.out
            clear HC29
            by_cases c40 : t251 = true
            · subst c40
              have H1 : ((impl_TrackOk.f t233 t234 t235 t237 t238 0).bind fun t252 => (if t252 = true then (if (wrap64 (t250 * t238)) < t237 then (laws_FnSenses.j1 kj6 t241 t242 t249 true t229 t230 t231 t232 t233 t234 t235 t237 t238 0) else (if (wrap64 ((wrap64 (t250 - 1)) * t238)) ≥ t237 then (laws_FnSenses.j1 kj6 t241 t242 t249 (decide (t250 > 0)) t229 t230 t231 t232 t233 t234 t235 t237 t238 0) else (laws_FnSenses.j1 kj6 t241 t242 t249 false t229 t230 t231 t232 t233 t234 t235 t237 t238 0))) else (laws_FnSenses.j1 kj6 t241 t242 t249 true t229 t230 t231 t232 t233 t234 t235 t237 t238 0))) = some r := by rw [if_pos rfl] at H; exact H
              clear H
              have H := H1
              clear H1
              replace H := Option.bind_eq_some_iff.mp H
              obtain ⟨t252, A410, H⟩ := H
              replace H : (if t252 = true then (if (wrap64 (t250 * t238)) < t237 then (laws_FnSenses.j1 kj6 t241 t242 t249 true t229 t230 t231 t232 t233 t234 t235 t237 t238 0) else (if (wrap64 ((wrap64 (t250 - 1)) * t238)) ≥ t237 then (laws_FnSenses.j1 kj6 t241 t242 t249 (decide (t250 > 0)) t229 t230 t231 t232 t233 t234 t235 t237 t238 0) else (laws_FnSenses.j1 kj6 t241 t242 t249 false t229 t230 t231 t232 t233 t234 t235 t237 t238 0))) else (laws_FnSenses.j1 kj6 t241 t242 t249 true t229 t230 t231 t232 t233 t234 t235 t237 t238 0)) = some r := H
              have A41 := Aside0.mk A410
              clear A410
              by_cases c42 : t252 = true
              · subst c42
                have H1 : (if (wrap64 (t250 * t238)) < t237 then (laws_FnSenses.j1 kj6 t241 t242 t249 true t229 t230 t231 t232 t233 t234 t235 t237 t238 0) else (if (wrap64 ((wrap64 (t250 - 1)) * t238)) ≥ t237 then (laws_FnSenses.j1 kj6 t241 t242 t249 (decide (t250 > 0)) t229 t230 t231 t232 t233 t234 t235 t237 t238 0) else (laws_FnSenses.j1 kj6 t241 t242 t249 false t229 t230 t231 t232 t233 t234 t235 t237 t238 0))) = some r := by rw [if_pos rfl] at H; exact H
                clear H
                have H := H1
                clear H1
                by_cases c43 : (wrap64 (t250 * t238)) < t237
                · rw [if_pos c43] at H
                  have c43b0 : decide ((wrap64 (t250 * t238)) < t237) = true := decide_eq_true c43
                  clear c43
                  (first | rw [c43b0] | (simp only [i64_w, i32_w]; rw [c43b0]) | skip)
                  have H' := Aside0.mk H
                  clear H
                  have hnb44 := NB248_239.out
                  have hnc44 := NB239_248.out
                  have hnb45 := NB248_240.out
                  have hnc45 := NB240_248.out
                  have hcz46_0 : w39.cell? ⟨gb248, 0, none⟩ = some (.int .i64 t233) := (blk_cell BK248.out 0).trans rfl
                  have hcz46_1 : w39.cell? ⟨gb248, 1, none⟩ = some (.int .i64 t234) := (blk_cell BK248.out 1).trans rfl
                  have hcz46_2 : w39.cell? ⟨gb248, 2, none⟩ = some (.int .i64 t235) := (blk_cell BK248.out 2).trans rfl
                  have hcz46_3 : w39.cell? ⟨gb248, 3, none⟩ = some (.int .i64 t237) := (blk_cell BK248.out 3).trans rfl
                  have hcz46_4 : w39.cell? ⟨gb248, 4, none⟩ = some (.int .i64 t238) := (blk_cell BK248.out 4).trans rfl
                  have hcz46_5 : w39.cell? ⟨gb248, 5, none⟩ = some (.int .i64 0) := (blk_cell BK248.out 5).trans rfl
                  have hfz46_0 := blk_frozen BK248.out 0
                  have hfz46_1 := blk_frozen BK248.out 1
                  have hfz46_2 := blk_frozen BK248.out 2
                  have hfz46_3 := blk_frozen BK248.out 3
                  have hfz46_4 := blk_frozen BK248.out 4
                  have hfz46_5 := blk_frozen BK248.out 5
                  go_wp2_with (first | (go_at_call 26; (with_reducible refine (impl_TrackOk.calls t233 t234 t235 t237 t238 0 true _ A41.out).mono ?_); rintro e w47 ⟨rfl, hb⟩; have n0_ := Aside0.mk (blk_below (g := gb239) (o := .cells #[.int .i64 t229, .int .i64 t230, .int .i64 t231, .int .i64 t232] 33 (0, 0)) (by (with_reducible repeat (first | refine blk_drewN ?_ _ | refine blk_drew ?_ | refine blk_alloc ?_ _)); exact BK239.out) hb); have n1_ := Aside0.mk (blk_below (g := gb240) (o := .cells #[.int .i64 t233, .int .i64 t234, .int .i64 t235, .int .i64 t236] 33 (0, 0)) (by (with_reducible repeat (first | refine blk_drewN ?_ _ | refine blk_drew ?_ | refine blk_alloc ?_ _)); exact BK240.out) hb); have n2_ := Aside0.mk (blk_below (g := gb248) (o := .cells #[.int .i64 t233, .int .i64 t234, .int .i64 t235, .int .i64 t237, .int .i64 t238, .int .i64 0] 35 (0, 0)) (by (with_reducible repeat (first | refine blk_drewN ?_ _ | refine blk_drew ?_ | refine blk_alloc ?_ _)); exact BK248.out) hb); have n3_ := Aside0.mk (below_step (by repeat (first | (with_reducible first | exact HB.out | apply below_alloc | apply pw_below_drewN | apply below_drew1 | refine below_set ?_ GE239.out | refine below_set ?_ GE240.out | refine below_set ?_ GE248.out) | exact HB.out)) hb); clear BK239; clear BK240; clear BK248; clear HB; have BK239 := n0_; have BK240 := n1_; have BK248 := n2_; have HB := n3_; clear n0_ n1_ n2_ n3_; (try clear hb); (try clear hb2); (try clear hk); (try clear hi)))
                  go_meet
                  case rel => exact ⟨_, (true), (by first | rfl | (simp; done) | (simp [*]; done)), H', ⟨by have := HJ6.out; first | omega | exact Nat.le_refl _⟩, ⟨by (with_reducible repeat (first | refine blk_drewN ?_ _ | refine blk_drew ?_ | refine blk_alloc ?_ _)); exact BK239.out⟩, ⟨by (with_reducible repeat (first | refine blk_drewN ?_ _ | refine blk_drew ?_ | refine blk_alloc ?_ _)); exact BK240.out⟩, ⟨by (with_reducible repeat (first | refine blk_drewN ?_ _ | refine blk_drew ?_ | refine blk_alloc ?_ _)); exact BK248.out⟩, ⟨by repeat (first | (with_reducible first | exact HB.out | apply below_alloc | apply pw_below_drewN | apply below_drew1 | refine below_set ?_ GE239.out | refine below_set ?_ GE240.out | refine below_set ?_ GE248.out) | exact HB.out)⟩⟩
                · rw [if_neg c43] at H
                  have c43b0 : decide ((wrap64 (t250 * t238)) < t237) = false := decide_eq_false c43
                  clear c43
                  (first | rw [c43b0] | (simp only [i64_w, i32_w]; rw [c43b0]) | skip)
                  by_cases c48 : (wrap64 ((wrap64 (t250 - 1)) * t238)) ≥ t237
                  · rw [if_pos c48] at H
                    have c48b0 : decide (t237 ≤ (wrap64 ((wrap64 (t250 - 1)) * t238))) = true := decide_eq_true c48
                    clear c48
                    have H' := Aside0.mk H
                    clear H
                    have hnb49 := NB248_239.out
                    have hnc49 := NB239_248.out
                    have hnb50 := NB248_240.out
                    have hnc50 := NB240_248.out
                    have hcz51_0 : w39.cell? ⟨gb248, 0, none⟩ = some (.int .i64 t233) := (blk_cell BK248.out 0).trans rfl
                    have hcz51_1 : w39.cell? ⟨gb248, 1, none⟩ = some (.int .i64 t234) := (blk_cell BK248.out 1).trans rfl
                    have hcz51_2 : w39.cell? ⟨gb248, 2, none⟩ = some (.int .i64 t235) := (blk_cell BK248.out 2).trans rfl
                    have hcz51_3 : w39.cell? ⟨gb248, 3, none⟩ = some (.int .i64 t237) := (blk_cell BK248.out 3).trans rfl
                    have hcz51_4 : w39.cell? ⟨gb248, 4, none⟩ = some (.int .i64 t238) := (blk_cell BK248.out 4).trans rfl
                    have hcz51_5 : w39.cell? ⟨gb248, 5, none⟩ = some (.int .i64 0) := (blk_cell BK248.out 5).trans rfl
                    have hfz51_0 := blk_frozen BK248.out 0
                    have hfz51_1 := blk_frozen BK248.out 1
                    have hfz51_2 := blk_frozen BK248.out 2
                    have hfz51_3 := blk_frozen BK248.out 3
                    have hfz51_4 := blk_frozen BK248.out 4
                    have hfz51_5 := blk_frozen BK248.out 5
                    go_wp2_with (first | (go_at_call 26; (with_reducible refine (impl_TrackOk.calls t233 t234 t235 t237 t238 0 true _ A41.out).mono ?_); rintro e w52 ⟨rfl, hb⟩; have n0_ := Aside0.mk (blk_below (g := gb239) (o := .cells #[.int .i64 t229, .int .i64 t230, .int .i64 t231, .int .i64 t232] 33 (0, 0)) (by (with_reducible repeat (first | refine blk_drewN ?_ _ | refine blk_drew ?_ | refine blk_alloc ?_ _)); exact BK239.out) hb); have n1_ := Aside0.mk (blk_below (g := gb240) (o := .cells #[.int .i64 t233, .int .i64 t234, .int .i64 t235, .int .i64 t236] 33 (0, 0)) (by (with_reducible repeat (first | refine blk_drewN ?_ _ | refine blk_drew ?_ | refine blk_alloc ?_ _)); exact BK240.out) hb); have n2_ := Aside0.mk (blk_below (g := gb248) (o := .cells #[.int .i64 t233, .int .i64 t234, .int .i64 t235, .int .i64 t237, .int .i64 t238, .int .i64 0] 35 (0, 0)) (by (with_reducible repeat (first | refine blk_drewN ?_ _ | refine blk_drew ?_ | refine blk_alloc ?_ _)); exact BK248.out) hb); have n3_ := Aside0.mk (below_step (by repeat (first | (with_reducible first | exact HB.out | apply below_alloc | apply pw_below_drewN | apply below_drew1 | refine below_set ?_ GE239.out | refine below_set ?_ GE240.out | refine below_set ?_ GE248.out) | exact HB.out)) hb); clear BK239; clear BK240; clear BK248; clear HB; have BK239 := n0_; have BK240 := n1_; have BK248 := n2_; have HB := n3_; clear n0_ n1_ n2_ n3_; (try clear hb); (try clear hb2); (try clear hk); (try clear hi)))
                    go_meet
                    case rel => exact ⟨_, (decide (t250 > 0)), (by first | rfl | (simp; done) | (simp [*]; done)), H', ⟨by have := HJ6.out; first | omega | exact Nat.le_refl _⟩, ⟨by (with_reducible repeat (first | refine blk_drewN ?_ _ | refine blk_drew ?_ | refine blk_alloc ?_ _)); exact BK239.out⟩, ⟨by (with_reducible repeat (first | refine blk_drewN ?_ _ | refine blk_drew ?_ | refine blk_alloc ?_ _)); exact BK240.out⟩, ⟨by (with_reducible repeat (first | refine blk_drewN ?_ _ | refine blk_drew ?_ | refine blk_alloc ?_ _)); exact BK248.out⟩, ⟨by repeat (first | (with_reducible first | exact HB.out | apply below_alloc | apply pw_below_drewN | apply below_drew1 | refine below_set ?_ GE239.out | refine below_set ?_ GE240.out | refine below_set ?_ GE248.out) | exact HB.out)⟩⟩
                  · rw [if_neg c48] at H
                    have c48b0 : decide (t237 ≤ (wrap64 ((wrap64 (t250 - 1)) * t238))) = false := decide_eq_false c48
                    clear c48
                    have H' := Aside0.mk H
                    clear H
                    have hnb53 := NB248_239.out
                    have hnc53 := NB239_248.out
                    have hnb54 := NB248_240.out
                    have hnc54 := NB240_248.out
                    have hcz55_0 : w39.cell? ⟨gb248, 0, none⟩ = some (.int .i64 t233) := (blk_cell BK248.out 0).trans rfl
                    have hcz55_1 : w39.cell? ⟨gb248, 1, none⟩ = some (.int .i64 t234) := (blk_cell BK248.out 1).trans rfl
                    have hcz55_2 : w39.cell? ⟨gb248, 2, none⟩ = some (.int .i64 t235) := (blk_cell BK248.out 2).trans rfl
                    have hcz55_3 : w39.cell? ⟨gb248, 3, none⟩ = some (.int .i64 t237) := (blk_cell BK248.out 3).trans rfl
                    have hcz55_4 : w39.cell? ⟨gb248, 4, none⟩ = some (.int .i64 t238) := (blk_cell BK248.out 4).trans rfl
                    have hcz55_5 : w39.cell? ⟨gb248, 5, none⟩ = some (.int .i64 0) := (blk_cell BK248.out 5).trans rfl
                    have hfz55_0 := blk_frozen BK248.out 0
                    have hfz55_1 := blk_frozen BK248.out 1
                    have hfz55_2 := blk_frozen BK248.out 2
                    have hfz55_3 := blk_frozen BK248.out 3
                    have hfz55_4 := blk_frozen BK248.out 4
                    have hfz55_5 := blk_frozen BK248.out 5
                    go_wp2_with (first | (go_at_call 26; (with_reducible refine (impl_TrackOk.calls t233 t234 t235 t237 t238 0 true _ A41.out).mono ?_); rintro e w56 ⟨rfl, hb⟩; have n0_ := Aside0.mk (blk_below (g := gb239) (o := .cells #[.int .i64 t229, .int .i64 t230, .int .i64 t231, .int .i64 t232] 33 (0, 0)) (by (with_reducible repeat (first | refine blk_drewN ?_ _ | refine blk_drew ?_ | refine blk_alloc ?_ _)); exact BK239.out) hb); have n1_ := Aside0.mk (blk_below (g := gb240) (o := .cells #[.int .i64 t233, .int .i64 t234, .int .i64 t235, .int .i64 t236] 33 (0, 0)) (by (with_reducible repeat (first | refine blk_drewN ?_ _ | refine blk_drew ?_ | refine blk_alloc ?_ _)); exact BK240.out) hb); have n2_ := Aside0.mk (blk_below (g := gb248) (o := .cells #[.int .i64 t233, .int .i64 t234, .int .i64 t235, .int .i64 t237, .int .i64 t238, .int .i64 0] 35 (0, 0)) (by (with_reducible repeat (first | refine blk_drewN ?_ _ | refine blk_drew ?_ | refine blk_alloc ?_ _)); exact BK248.out) hb); have n3_ := Aside0.mk (below_step (by repeat (first | (with_reducible first | exact HB.out | apply below_alloc | apply pw_below_drewN | apply below_drew1 | refine below_set ?_ GE239.out | refine below_set ?_ GE240.out | refine below_set ?_ GE248.out) | exact HB.out)) hb); clear BK239; clear BK240; clear BK248; clear HB; have BK239 := n0_; have BK240 := n1_; have BK248 := n2_; have HB := n3_; clear n0_ n1_ n2_ n3_; (try clear hb); (try clear hb2); (try clear hk); (try clear hi)))
                    go_meet
                    case rel => exact ⟨_, (false), (by first | rfl | (simp; done) | (simp [*]; done)), H', ⟨by have := HJ6.out; first | omega | exact Nat.le_refl _⟩, ⟨by (with_reducible repeat (first | refine blk_drewN ?_ _ | refine blk_drew ?_ | refine blk_alloc ?_ _)); exact BK239.out⟩, ⟨by (with_reducible repeat (first | refine blk_drewN ?_ _ | refine blk_drew ?_ | refine blk_alloc ?_ _)); exact BK240.out⟩, ⟨by (with_reducible repeat (first | refine blk_drewN ?_ _ | refine blk_drew ?_ | refine blk_alloc ?_ _)); exact BK248.out⟩, ⟨by repeat (first | (with_reducible first | exact HB.out | apply below_alloc | apply pw_below_drewN | apply below_drew1 | refine below_set ?_ GE239.out | refine below_set ?_ GE240.out | refine below_set ?_ GE248.out) | exact HB.out)⟩⟩
              · replace c42 := Bool.eq_false_iff.mpr c42
                subst c42
                have H1 : (laws_FnSenses.j1 kj6 t241 t242 t249 true t229 t230 t231 t232 t233 t234 t235 t237 t238 0) = some r := by rw [if_neg (show ¬ (false = true) by decide)] at H; exact H
                clear H
                have H := H1
                clear H1
                have H' := Aside0.mk H
                clear H
                have hnb57 := NB248_239.out
                have hnc57 := NB239_248.out
                have hnb58 := NB248_240.out
                have hnc58 := NB240_248.out
                have hcz59_0 : w39.cell? ⟨gb248, 0, none⟩ = some (.int .i64 t233) := (blk_cell BK248.out 0).trans rfl
                have hcz59_1 : w39.cell? ⟨gb248, 1, none⟩ = some (.int .i64 t234) := (blk_cell BK248.out 1).trans rfl
                have hcz59_2 : w39.cell? ⟨gb248, 2, none⟩ = some (.int .i64 t235) := (blk_cell BK248.out 2).trans rfl
                have hcz59_3 : w39.cell? ⟨gb248, 3, none⟩ = some (.int .i64 t237) := (blk_cell BK248.out 3).trans rfl
                have hcz59_4 : w39.cell? ⟨gb248, 4, none⟩ = some (.int .i64 t238) := (blk_cell BK248.out 4).trans rfl
                have hcz59_5 : w39.cell? ⟨gb248, 5, none⟩ = some (.int .i64 0) := (blk_cell BK248.out 5).trans rfl
                have hfz59_0 := blk_frozen BK248.out 0
                have hfz59_1 := blk_frozen BK248.out 1
                have hfz59_2 := blk_frozen BK248.out 2
                have hfz59_3 := blk_frozen BK248.out 3
                have hfz59_4 := blk_frozen BK248.out 4
                have hfz59_5 := blk_frozen BK248.out 5
                go_wp2_with (first | (go_at_call 26; (with_reducible refine (impl_TrackOk.calls t233 t234 t235 t237 t238 0 false _ A41.out).mono ?_); rintro e w60 ⟨rfl, hb⟩; have n0_ := Aside0.mk (blk_below (g := gb239) (o := .cells #[.int .i64 t229, .int .i64 t230, .int .i64 t231, .int .i64 t232] 33 (0, 0)) (by (with_reducible repeat (first | refine blk_drewN ?_ _ | refine blk_drew ?_ | refine blk_alloc ?_ _)); exact BK239.out) hb); have n1_ := Aside0.mk (blk_below (g := gb240) (o := .cells #[.int .i64 t233, .int .i64 t234, .int .i64 t235, .int .i64 t236] 33 (0, 0)) (by (with_reducible repeat (first | refine blk_drewN ?_ _ | refine blk_drew ?_ | refine blk_alloc ?_ _)); exact BK240.out) hb); have n2_ := Aside0.mk (blk_below (g := gb248) (o := .cells #[.int .i64 t233, .int .i64 t234, .int .i64 t235, .int .i64 t237, .int .i64 t238, .int .i64 0] 35 (0, 0)) (by (with_reducible repeat (first | refine blk_drewN ?_ _ | refine blk_drew ?_ | refine blk_alloc ?_ _)); exact BK248.out) hb); have n3_ := Aside0.mk (below_step (by repeat (first | (with_reducible first | exact HB.out | apply below_alloc | apply pw_below_drewN | apply below_drew1 | refine below_set ?_ GE239.out | refine below_set ?_ GE240.out | refine below_set ?_ GE248.out) | exact HB.out)) hb); clear BK239; clear BK240; clear BK248; clear HB; have BK239 := n0_; have BK240 := n1_; have BK248 := n2_; have HB := n3_; clear n0_ n1_ n2_ n3_; (try clear hb); (try clear hb2); (try clear hk); (try clear hi)))
                go_meet
                case rel => exact ⟨_, (true), (by first | rfl | (simp; done) | (simp [*]; done)), H', ⟨by have := HJ6.out; first | omega | exact Nat.le_refl _⟩, ⟨by (with_reducible repeat (first | refine blk_drewN ?_ _ | refine blk_drew ?_ | refine blk_alloc ?_ _)); exact BK239.out⟩, ⟨by (with_reducible repeat (first | refine blk_drewN ?_ _ | refine blk_drew ?_ | refine blk_alloc ?_ _)); exact BK240.out⟩, ⟨by (with_reducible repeat (first | refine blk_drewN ?_ _ | refine blk_drew ?_ | refine blk_alloc ?_ _)); exact BK248.out⟩, ⟨by repeat (first | (with_reducible first | exact HB.out | apply below_alloc | apply pw_below_drewN | apply below_drew1 | refine below_set ?_ GE239.out | refine below_set ?_ GE240.out | refine below_set ?_ GE248.out) | exact HB.out)⟩⟩
            · replace c40 := Bool.eq_false_iff.mpr c40
              subst c40
              have H1 : (laws_FnSenses.j1 kj6 t241 t242 t249 true t229 t230 t231 t232 t233 t234 t235 t237 t238 0) = some r := by rw [if_neg (show ¬ (false = true) by decide)] at H; exact H
              clear H
              have H := H1
              clear H1
              have H' := Aside0.mk H
              clear H
              go_wp2
              go_meet
              case rel => exact ⟨_, (true), (by first | rfl | (simp; done) | (simp [*]; done)), H', ⟨by have := HJ6.out; first | omega | exact Nat.le_refl _⟩, ⟨by (with_reducible repeat (first | refine blk_drewN ?_ _ | refine blk_drew ?_ | refine blk_alloc ?_ _)); exact BK239.out⟩, ⟨by (with_reducible repeat (first | refine blk_drewN ?_ _ | refine blk_drew ?_ | refine blk_alloc ?_ _)); exact BK240.out⟩, ⟨by (with_reducible repeat (first | refine blk_drewN ?_ _ | refine blk_drew ?_ | refine blk_alloc ?_ _)); exact BK248.out⟩, ⟨by repeat (first | (with_reducible first | exact HB.out | apply below_alloc | apply pw_below_drewN | apply below_drew1 | refine below_set ?_ GE239.out | refine below_set ?_ GE240.out | refine below_set ?_ GE248.out) | exact HB.out)⟩⟩
          case rest =>
            clear HC29
            try clear c1
            try clear c2
            try clear p2
            try clear c3
            try clear c4
            try clear c5
            try clear p6
            try clear c7
            try clear c11
            try clear c17
            try clear c18
            try clear c19
            try clear c20
            try clear c20b0
            try clear c20b1
            try clear c21
            try clear c21b0
            try clear c21b1
            try clear c22
            try clear c23
            try clear c25
            try clear c26
            try clear c30
            try clear c33
            try clear c34
            try clear c40
            try clear c42
            try clear c43
            try clear c43b0
            try clear c44
            try clear c45
            try clear c48
            try clear c48b0
            try clear c49
            try clear c50
            try clear c53
            try clear c54
            try clear c57
            try clear c58
            try clear hcz12_0
            try clear hcz12_1
            try clear hcz12_2
            try clear hcz12_3
            try clear hcz13_0
            try clear hcz13_1
            try clear hcz13_2
            try clear hcz13_3
            try clear hcz15_0
            try clear hcz15_1
            try clear hcz15_2
            try clear hcz15_3
            try clear hcz16_0
            try clear hcz16_1
            try clear hcz16_2
            try clear hcz16_3
            try clear hcz24_0
            try clear hcz24_1
            try clear hcz24_2
            try clear hcz24_3
            try clear hcz31_0
            try clear hcz31_1
            try clear hcz31_2
            try clear hcz31_3
            try clear hcz35_0
            try clear hcz35_1
            try clear hcz35_2
            try clear hcz35_3
            try clear hcz35_4
            try clear hcz35_5
            try clear hcz36_0
            try clear hcz36_1
            try clear hcz36_2
            try clear hcz36_3
            try clear hcz38_0
            try clear hcz38_1
            try clear hcz38_2
            try clear hcz38_3
            try clear hcz38_4
            try clear hcz38_5
            try clear hcz46_0
            try clear hcz46_1
            try clear hcz46_2
            try clear hcz46_3
            try clear hcz46_4
            try clear hcz46_5
            try clear hcz51_0
            try clear hcz51_1
            try clear hcz51_2
            try clear hcz51_3
            try clear hcz51_4
            try clear hcz51_5
            try clear hcz55_0
            try clear hcz55_1
            try clear hcz55_2
            try clear hcz55_3
            try clear hcz55_4
            try clear hcz55_5
            try clear hcz59_0
            try clear hcz59_1
            try clear hcz59_2
            try clear hcz59_3
            try clear hcz59_4
            try clear hcz59_5
            try clear hfz12_0
            try clear hfz12_1
            try clear hfz12_2
            try clear hfz12_3
            try clear hfz13_0
            try clear hfz13_1
            try clear hfz13_2
            try clear hfz13_3
            try clear hfz15_0
            try clear hfz15_1
            try clear hfz15_2
            try clear hfz15_3
            try clear hfz16_0
            try clear hfz16_1
            try clear hfz16_2
            try clear hfz16_3
            try clear hfz24_0
            try clear hfz24_1
            try clear hfz24_2
            try clear hfz24_3
            try clear hfz31_0
            try clear hfz31_1
            try clear hfz31_2
            try clear hfz31_3
            try clear hfz35_0
            try clear hfz35_1
            try clear hfz35_2
            try clear hfz35_3
            try clear hfz35_4
            try clear hfz35_5
            try clear hfz36_0
            try clear hfz36_1
            try clear hfz36_2
            try clear hfz36_3
            try clear hfz38_0
            try clear hfz38_1
            try clear hfz38_2
            try clear hfz38_3
            try clear hfz38_4
            try clear hfz38_5
            try clear hfz46_0
            try clear hfz46_1
            try clear hfz46_2
            try clear hfz46_3
            try clear hfz46_4
            try clear hfz46_5
            try clear hfz51_0
            try clear hfz51_1
            try clear hfz51_2
            try clear hfz51_3
            try clear hfz51_4
            try clear hfz51_5
            try clear hfz55_0
            try clear hfz55_1
            try clear hfz55_2
            try clear hfz55_3
            try clear hfz55_4
            try clear hfz55_5
            try clear hfz59_0
            try clear hfz59_1
            try clear hfz59_2
            try clear hfz59_3
            try clear hfz59_4
            try clear hfz59_5
            try clear p2
            obtain ⟨kq, x111_28, rfl, HA, HJ28, BK239, BK240, BK248, HB⟩ := hcut
            cases kq with
            | zero => exact absurd HA.out (by simp [laws_FnSenses.j1])
            | succ kj28 =>
              have H := HA.out
              clear HA
              simp only [laws_FnSenses.j1] at H
              by_cases c61 : x111_28 = true
              · subst c61
                have H1 : (some false) = some r := by rw [if_pos rfl] at H; exact H
                clear H
                have H := H1
                clear H1
                obtain rfl := Option.some.inj H
                go_wp2
                go_ret
                exact ⟨by first | rfl | (simp [errW_none, errW_some] <;> rfl) | (simp [*, errW_none, errW_some] <;> rfl), by repeat (first | (with_reducible first | exact HB.out | apply below_alloc | apply pw_below_drewN | apply below_drew1 | refine below_set ?_ GE239.out | refine below_set ?_ GE240.out | refine below_set ?_ GE248.out) | exact HB.out)⟩
              · replace c61 := Bool.eq_false_iff.mpr c61
                subst c61
                have H1 : (if t249 = true then ((impl_Nearest.f kj28 t229 t230 t231 t241 (([(⟨t233, t234, t235, t237, t238, 0⟩ : S35)] : List (S35))) 600 100).bind fun bt256 => (if (wrap64 (t241 + t242)) = 3 then (if t241 = t242 then (some false) else ((impl_Advise.f t229 t230 t231 t241 t233 t234 t235 t237 t238 0 600 100).bind fun t258 => (if t258 = t241 then (if bt256.2 = true then (some (bt256.1 == 0)) else (some false)) else (some false)))) else (some false))) else ((impl_Nearest.f kj28 t229 t230 t231 t232 (([(⟨t233, t234, t235, t237, t238, 0⟩ : S35)] : List (S35))) 600 100).bind fun bt262 => (if t241 = 0 then (if t242 = 0 then (if bt262.2 = true then (some false) else (some (bt262.1 == (-1)))) else (some false)) else (some false)))) = some r := by rw [if_neg (show ¬ (false = true) by decide)] at H; exact H
                clear H
                have H := H1
                clear H1
                by_cases c62 : t249 = true
                · subst c62
                  have H1 : ((impl_Nearest.f kj28 t229 t230 t231 t241 (([(⟨t233, t234, t235, t237, t238, 0⟩ : S35)] : List (S35))) 600 100).bind fun bt256 => (if (wrap64 (t241 + t242)) = 3 then (if t241 = t242 then (some false) else ((impl_Advise.f t229 t230 t231 t241 t233 t234 t235 t237 t238 0 600 100).bind fun t258 => (if t258 = t241 then (if bt256.2 = true then (some (bt256.1 == 0)) else (some false)) else (some false)))) else (some false))) = some r := by rw [if_pos rfl] at H; exact H
                  clear H
                  have H := H1
                  clear H1
                  obtain ⟨y253, hy253⟩ : ∃ y_ : List (S35), y_ = (([(⟨t233, t234, t235, t237, t238, 0⟩ : S35)] : List (S35))) := ⟨_, rfl⟩
                  replace H : ((impl_Nearest.f kj28 t229 t230 t231 t241 y253 600 100).bind fun bt256 => (if (wrap64 (t241 + t242)) = 3 then (if t241 = t242 then (some false) else ((impl_Advise.f t229 t230 t231 t241 t233 t234 t235 t237 t238 0 600 100).bind fun t258 => (if t258 = t241 then (if bt256.2 = true then (some (bt256.1 == 0)) else (some false)) else (some false)))) else (some false))) = some r := by first | (rw [hy253]; with_reducible exact H) | (have H2_ := (Option.bind_some _ _).symm.trans H; rw [hy253]; with_reducible exact H2_) | (have H2_ := (Option.bind_some _ _).symm.trans H; with_reducible exact H2_) | with_reducible exact H | (rw [hy253]; exact H) | exact H
                  have Ny253 := Aside0.mk hy253
                  clear hy253
                  replace H := Option.bind_eq_some_iff.mp H
                  obtain ⟨⟨t256, t257⟩, A630, H⟩ := H
                  replace H : (if (wrap64 (t241 + t242)) = 3 then (if t241 = t242 then (some false) else ((impl_Advise.f t229 t230 t231 t241 t233 t234 t235 t237 t238 0 600 100).bind fun t258 => (if t258 = t241 then (if t257 = true then (some (t256 == 0)) else (some false)) else (some false)))) else (some false)) = some r := H
                  have A63 := Aside0.mk A630
                  clear A630
                  by_cases c64 : (wrap64 (t241 + t242)) = 3
                  · rw [if_pos c64] at H
                    have c64b0 : ((wrap64 (t241 + t242)) == 3) = true := beq_iff_eq.mpr c64
                    have c64b1 : ((wrap64 (t241 + t242)) != 3) = false := bne_eq_false_iff_eq.mpr c64
                    clear c64
                    by_cases c65 : t241 = t242
                    · rw [if_pos c65] at H
                      have c65b0 : (t241 == t242) = true := beq_iff_eq.mpr c65
                      have c65b1 : (t241 != t242) = false := bne_eq_false_iff_eq.mpr c65
                      clear c65
                      obtain rfl := Option.some.inj H
                      have hnb66 := NB239_240.out
                      have hnc66 := NB240_239.out
                      have hnb67 := NB239_248.out
                      have hnc67 := NB248_239.out
                      have hcz68_0 : wc.cell? ⟨gb239, 0, none⟩ = some (.int .i64 t229) := (blk_cell BK239.out 0).trans rfl
                      have hcz68_1 : wc.cell? ⟨gb239, 1, none⟩ = some (.int .i64 t230) := (blk_cell BK239.out 1).trans rfl
                      have hcz68_2 : wc.cell? ⟨gb239, 2, none⟩ = some (.int .i64 t231) := (blk_cell BK239.out 2).trans rfl
                      have hcz68_3 : wc.cell? ⟨gb239, 3, none⟩ = some (.int .i64 t232) := (blk_cell BK239.out 3).trans rfl
                      have hfz68_0 := blk_frozen BK239.out 0
                      have hfz68_1 := blk_frozen BK239.out 1
                      have hfz68_2 := blk_frozen BK239.out 2
                      have hfz68_3 := blk_frozen BK239.out 3
                      have hnb69 := NB248_240.out
                      have hnc69 := NB240_248.out
                      have hcz70_0 : wc.cell? ⟨gb248, 0, none⟩ = some (.int .i64 t233) := (blk_cell BK248.out 0).trans rfl
                      have hcz70_1 : wc.cell? ⟨gb248, 1, none⟩ = some (.int .i64 t234) := (blk_cell BK248.out 1).trans rfl
                      have hcz70_2 : wc.cell? ⟨gb248, 2, none⟩ = some (.int .i64 t235) := (blk_cell BK248.out 2).trans rfl
                      have hcz70_3 : wc.cell? ⟨gb248, 3, none⟩ = some (.int .i64 t237) := (blk_cell BK248.out 3).trans rfl
                      have hcz70_4 : wc.cell? ⟨gb248, 4, none⟩ = some (.int .i64 t238) := (blk_cell BK248.out 4).trans rfl
                      have hcz70_5 : wc.cell? ⟨gb248, 5, none⟩ = some (.int .i64 0) := (blk_cell BK248.out 5).trans rfl
                      have hfz70_0 := blk_frozen BK248.out 0
                      have hfz70_1 := blk_frozen BK248.out 1
                      have hfz70_2 := blk_frozen BK248.out 2
                      have hfz70_3 := blk_frozen BK248.out 3
                      have hfz70_4 := blk_frozen BK248.out 4
                      have hfz70_5 := blk_frozen BK248.out 5
                      go_wp2_with (first | ((with_reducible refine gate_dst (N := 140) rfl ?_); refine Kd.R_lit k35 _ 35 ?hg (N := 140) ?hd (xs := ([(⟨t233, t234, t235, t237, t238, 0⟩ : S35)] : List (S35))) (inner := [.int .i64 t233, .int .i64 t234, .int .i64 t235, .int .i64 t237, .int .i64 t238, .int .i64 0]) (ok := fun _ => True) (okp := fun _ => True) ?hr ?hp (fun _ hk => hk) trivial (Below.refl _ _) (Nat.le_refl _) (by simp) ?_; (case hd => rfl); (case hg => rfl); (case hr => first | (go_simp; done) | (go_simp; rfl)); (case hp => exact (Reps.c6 (show Kd.M k35 _ _ _ (⟨t233, t234, t235, t237, t238, 0⟩ : S35) [.int .i64 t233, .int .i64 t234, .int .i64 t235, .int .i64 t237, .int .i64 t238, .int .i64 0] from (k35_mkM _ _ _ (⟨t233, t234, t235, t237, t238, 0⟩ : S35) )) (Reps.none _ _))); intro v254 w71 ho72 hb hg_ hnew_; clear hg_ hnew_; (first | rw [← Ny253.out] at ho72 | (simp only [Int.reduceToNat] at ho72; rw [← Ny253.out] at ho72)); have n0_ := Aside0.mk (Kd.R_lower (Kd.R_newB ho72 (g := gb248) (o := .cells #[.int .i64 t233, .int .i64 t234, .int .i64 t235, .int .i64 t237, .int .i64 t238, .int .i64 0] 35 (0, 0)) (by (with_reducible repeat (first | refine blk_drewN ?_ _ | refine blk_drew ?_ | refine blk_alloc ?_ _)); refine blk_far ?_ NB248_239.out _; (with_reducible repeat (first | refine blk_drewN ?_ _ | refine blk_drew ?_ | refine blk_alloc ?_ _)); exact BK248.out)) (below_size (by repeat (first | (with_reducible first | exact HB.out | apply below_alloc | apply pw_below_drewN | apply below_drew1 | refine below_set ?_ GE239.out | refine below_set ?_ GE240.out | refine below_set ?_ GE248.out) | exact HB.out)))); have n1_ := Aside0.mk (blk_below (g := gb239) (o := .cells #[.int .i64 t229, .int .i64 t230, .int .i64 t231, .int .i64 t241] 33 (0, 0)) (by (with_reducible repeat (first | refine blk_drewN ?_ _ | refine blk_drew ?_ | refine blk_alloc ?_ _)); refine blk_put (cs := #[.int .i64 t229, .int .i64 t230, .int .i64 t231, .int .i64 t232]) ?_ 3 _ rfl; (with_reducible repeat (first | refine blk_drewN ?_ _ | refine blk_drew ?_ | refine blk_alloc ?_ _)); exact BK239.out) hb); have n2_ := Aside0.mk (blk_below (g := gb240) (o := .cells #[.int .i64 t233, .int .i64 t234, .int .i64 t235, .int .i64 t236] 33 (0, 0)) (by (with_reducible repeat (first | refine blk_drewN ?_ _ | refine blk_drew ?_ | refine blk_alloc ?_ _)); refine blk_far ?_ NB240_239.out _; (with_reducible repeat (first | refine blk_drewN ?_ _ | refine blk_drew ?_ | refine blk_alloc ?_ _)); exact BK240.out) hb); have n3_ := Aside0.mk (blk_below (g := gb248) (o := .cells #[.int .i64 t233, .int .i64 t234, .int .i64 t235, .int .i64 t237, .int .i64 t238, .int .i64 0] 35 (0, 0)) (by (with_reducible repeat (first | refine blk_drewN ?_ _ | refine blk_drew ?_ | refine blk_alloc ?_ _)); refine blk_far ?_ NB248_239.out _; (with_reducible repeat (first | refine blk_drewN ?_ _ | refine blk_drew ?_ | refine blk_alloc ?_ _)); exact BK248.out) hb); have n4_ := Aside0.mk (below_step (by repeat (first | (with_reducible first | exact HB.out | apply below_alloc | apply pw_below_drewN | apply below_drew1 | refine below_set ?_ GE239.out | refine below_set ?_ GE240.out | refine below_set ?_ GE248.out) | exact HB.out)) hb); clear BK239; clear BK240; clear BK248; clear HB; have HO255 := n0_; have BK239 := n1_; have BK240 := n2_; have BK248 := n3_; have HB := n4_; clear n0_ n1_ n2_ n3_ n4_; clear hb ho72; obtain ⟨Ao73, co73, eo73⟩ := Kd.R_slice HO255.out; subst eo73) | ((with_reducible refine gate_callee (f := 27) rfl ?_); refine goesL_ (some 141) rfl rfl Try.func27 (by kernel_rfl) rfl #[.agg #[.int .i64 t229, .int .i64 t230, .int .i64 t231, .int .i64 t241], .slice Ao73 y253.length co73, .int .i64 600, .int .i64 100] rfl (by (try simp only [List.map_toArray, List.map_cons, List.map_nil]); first | done | rfl | (simp only [List.length_drop, List.length_take]; rfl)) ?_; (with_reducible refine (impl_Nearest.calls kj28 t229 t230 t231 t241 _ _ y253 600 100 t256 t257 _ ?side1 ?side2 A63.out).mono ?_); (case side1 => repeat (first | exact (Kd.R_reads' HO255.out).2.2 | (with_reducible refine Kd.C_alloc ?_ _) | (with_reducible refine Kd.C_drewN ?_ _) | (with_reducible refine Kd.C_drew ?_))); (case side2 => exact (Kd.R_reads' HO255.out).2.1); rintro e w74 ⟨rfl, hb⟩; refine ⟨_, rfl, ?_⟩; have n0_ := Aside0.mk (Kd.R_below (by (with_reducible repeat (first | apply Kd.R_alloc | apply Kd.R_drewN | apply Kd.R_drew)); exact HO255.out) hb); have n1_ := Aside0.mk (blk_below (g := gb239) (o := .cells #[.int .i64 t229, .int .i64 t230, .int .i64 t231, .int .i64 t241] 33 (0, 0)) (by (with_reducible repeat (first | refine blk_drewN ?_ _ | refine blk_drew ?_ | refine blk_alloc ?_ _)); exact BK239.out) hb); have n2_ := Aside0.mk (blk_below (g := gb240) (o := .cells #[.int .i64 t233, .int .i64 t234, .int .i64 t235, .int .i64 t236] 33 (0, 0)) (by (with_reducible repeat (first | refine blk_drewN ?_ _ | refine blk_drew ?_ | refine blk_alloc ?_ _)); exact BK240.out) hb); have n3_ := Aside0.mk (blk_below (g := gb248) (o := .cells #[.int .i64 t233, .int .i64 t234, .int .i64 t235, .int .i64 t237, .int .i64 t238, .int .i64 0] 35 (0, 0)) (by (with_reducible repeat (first | refine blk_drewN ?_ _ | refine blk_drew ?_ | refine blk_alloc ?_ _)); exact BK248.out) hb); have n4_ := Aside0.mk (below_step (by repeat (first | (with_reducible first | exact HB.out | apply below_alloc | apply pw_below_drewN | apply below_drew1 | refine below_set ?_ GE239.out | refine below_set ?_ GE240.out | refine below_set ?_ GE248.out) | exact HB.out)) hb); clear HO255; clear BK239; clear BK240; clear BK248; clear HB; have HO255 := n0_; have BK239 := n1_; have BK240 := n2_; have BK248 := n3_; have HB := n4_; clear n0_ n1_ n2_ n3_ n4_; (try clear hb); (try clear hb2); (try clear hk); (try clear hi)))
                      go_ret
                      exact ⟨by first | rfl | (simp [errW_none, errW_some] <;> rfl) | (simp [*, errW_none, errW_some] <;> rfl), by repeat (first | (with_reducible first | exact HB.out | apply below_alloc | apply pw_below_drewN | apply below_drew1 | refine below_set ?_ GE239.out | refine below_set ?_ GE240.out | refine below_set ?_ GE248.out) | exact HB.out)⟩
                    · rw [if_neg c65] at H
                      have c65b0 : (t241 == t242) = false := beq_eq_false_iff_ne.mpr c65
                      have c65b1 : (t241 != t242) = true := bne_iff_ne.mpr c65
                      replace H := Option.bind_eq_some_iff.mp H
                      obtain ⟨t258, A750, H⟩ := H
                      replace H : (if t258 = t241 then (if t257 = true then (some (t256 == 0)) else (some false)) else (some false)) = some r := H
                      have A75 := Aside0.mk A750
                      clear A750
                      by_cases c76 : t258 = t241
                      · rw [if_pos c76] at H
                        have c76b0 : (t258 == t241) = true := beq_iff_eq.mpr c76
                        have c76b1 : (t258 != t241) = false := bne_eq_false_iff_eq.mpr c76
                        clear c76
                        by_cases c77 : t257 = true
                        · subst c77
                          have H1 : (some (t256 == 0)) = some r := by rw [if_pos rfl] at H; exact H
                          clear H
                          have H := H1
                          clear H1
                          obtain rfl := Option.some.inj H
                          have hnb78 := NB239_240.out
                          have hnc78 := NB240_239.out
                          have hnb79 := NB239_248.out
                          have hnc79 := NB248_239.out
                          have hcz80_0 : wc.cell? ⟨gb239, 0, none⟩ = some (.int .i64 t229) := (blk_cell BK239.out 0).trans rfl
                          have hcz80_1 : wc.cell? ⟨gb239, 1, none⟩ = some (.int .i64 t230) := (blk_cell BK239.out 1).trans rfl
                          have hcz80_2 : wc.cell? ⟨gb239, 2, none⟩ = some (.int .i64 t231) := (blk_cell BK239.out 2).trans rfl
                          have hcz80_3 : wc.cell? ⟨gb239, 3, none⟩ = some (.int .i64 t232) := (blk_cell BK239.out 3).trans rfl
                          have hfz80_0 := blk_frozen BK239.out 0
                          have hfz80_1 := blk_frozen BK239.out 1
                          have hfz80_2 := blk_frozen BK239.out 2
                          have hfz80_3 := blk_frozen BK239.out 3
                          have hnb81 := NB248_240.out
                          have hnc81 := NB240_248.out
                          have hcz82_0 : wc.cell? ⟨gb248, 0, none⟩ = some (.int .i64 t233) := (blk_cell BK248.out 0).trans rfl
                          have hcz82_1 : wc.cell? ⟨gb248, 1, none⟩ = some (.int .i64 t234) := (blk_cell BK248.out 1).trans rfl
                          have hcz82_2 : wc.cell? ⟨gb248, 2, none⟩ = some (.int .i64 t235) := (blk_cell BK248.out 2).trans rfl
                          have hcz82_3 : wc.cell? ⟨gb248, 3, none⟩ = some (.int .i64 t237) := (blk_cell BK248.out 3).trans rfl
                          have hcz82_4 : wc.cell? ⟨gb248, 4, none⟩ = some (.int .i64 t238) := (blk_cell BK248.out 4).trans rfl
                          have hcz82_5 : wc.cell? ⟨gb248, 5, none⟩ = some (.int .i64 0) := (blk_cell BK248.out 5).trans rfl
                          have hfz82_0 := blk_frozen BK248.out 0
                          have hfz82_1 := blk_frozen BK248.out 1
                          have hfz82_2 := blk_frozen BK248.out 2
                          have hfz82_3 := blk_frozen BK248.out 3
                          have hfz82_4 := blk_frozen BK248.out 4
                          have hfz82_5 := blk_frozen BK248.out 5
                          go_wp2_with (first | ((with_reducible refine gate_dst (N := 140) rfl ?_); refine Kd.R_lit k35 _ 35 ?hg (N := 140) ?hd (xs := ([(⟨t233, t234, t235, t237, t238, 0⟩ : S35)] : List (S35))) (inner := [.int .i64 t233, .int .i64 t234, .int .i64 t235, .int .i64 t237, .int .i64 t238, .int .i64 0]) (ok := fun _ => True) (okp := fun _ => True) ?hr ?hp (fun _ hk => hk) trivial (Below.refl _ _) (Nat.le_refl _) (by simp) ?_; (case hd => rfl); (case hg => rfl); (case hr => first | (go_simp; done) | (go_simp; rfl)); (case hp => exact (Reps.c6 (show Kd.M k35 _ _ _ (⟨t233, t234, t235, t237, t238, 0⟩ : S35) [.int .i64 t233, .int .i64 t234, .int .i64 t235, .int .i64 t237, .int .i64 t238, .int .i64 0] from (k35_mkM _ _ _ (⟨t233, t234, t235, t237, t238, 0⟩ : S35) )) (Reps.none _ _))); intro v254 w83 ho84 hb hg_ hnew_; clear hg_ hnew_; (first | rw [← Ny253.out] at ho84 | (simp only [Int.reduceToNat] at ho84; rw [← Ny253.out] at ho84)); have n0_ := Aside0.mk (Kd.R_lower (Kd.R_newB ho84 (g := gb248) (o := .cells #[.int .i64 t233, .int .i64 t234, .int .i64 t235, .int .i64 t237, .int .i64 t238, .int .i64 0] 35 (0, 0)) (by (with_reducible repeat (first | refine blk_drewN ?_ _ | refine blk_drew ?_ | refine blk_alloc ?_ _)); refine blk_far ?_ NB248_239.out _; (with_reducible repeat (first | refine blk_drewN ?_ _ | refine blk_drew ?_ | refine blk_alloc ?_ _)); exact BK248.out)) (below_size (by repeat (first | (with_reducible first | exact HB.out | apply below_alloc | apply pw_below_drewN | apply below_drew1 | refine below_set ?_ GE239.out | refine below_set ?_ GE240.out | refine below_set ?_ GE248.out) | exact HB.out)))); have n1_ := Aside0.mk (blk_below (g := gb239) (o := .cells #[.int .i64 t229, .int .i64 t230, .int .i64 t231, .int .i64 t241] 33 (0, 0)) (by (with_reducible repeat (first | refine blk_drewN ?_ _ | refine blk_drew ?_ | refine blk_alloc ?_ _)); refine blk_put (cs := #[.int .i64 t229, .int .i64 t230, .int .i64 t231, .int .i64 t232]) ?_ 3 _ rfl; (with_reducible repeat (first | refine blk_drewN ?_ _ | refine blk_drew ?_ | refine blk_alloc ?_ _)); exact BK239.out) hb); have n2_ := Aside0.mk (blk_below (g := gb240) (o := .cells #[.int .i64 t233, .int .i64 t234, .int .i64 t235, .int .i64 t236] 33 (0, 0)) (by (with_reducible repeat (first | refine blk_drewN ?_ _ | refine blk_drew ?_ | refine blk_alloc ?_ _)); refine blk_far ?_ NB240_239.out _; (with_reducible repeat (first | refine blk_drewN ?_ _ | refine blk_drew ?_ | refine blk_alloc ?_ _)); exact BK240.out) hb); have n3_ := Aside0.mk (blk_below (g := gb248) (o := .cells #[.int .i64 t233, .int .i64 t234, .int .i64 t235, .int .i64 t237, .int .i64 t238, .int .i64 0] 35 (0, 0)) (by (with_reducible repeat (first | refine blk_drewN ?_ _ | refine blk_drew ?_ | refine blk_alloc ?_ _)); refine blk_far ?_ NB248_239.out _; (with_reducible repeat (first | refine blk_drewN ?_ _ | refine blk_drew ?_ | refine blk_alloc ?_ _)); exact BK248.out) hb); have n4_ := Aside0.mk (below_step (by repeat (first | (with_reducible first | exact HB.out | apply below_alloc | apply pw_below_drewN | apply below_drew1 | refine below_set ?_ GE239.out | refine below_set ?_ GE240.out | refine below_set ?_ GE248.out) | exact HB.out)) hb); clear BK239; clear BK240; clear BK248; clear HB; have HO255 := n0_; have BK239 := n1_; have BK240 := n2_; have BK248 := n3_; have HB := n4_; clear n0_ n1_ n2_ n3_ n4_; clear hb ho84; obtain ⟨Ao85, co85, eo85⟩ := Kd.R_slice HO255.out; subst eo85) | ((with_reducible refine gate_callee (f := 27) rfl ?_); refine goesL_ (some 141) rfl rfl Try.func27 (by kernel_rfl) rfl #[.agg #[.int .i64 t229, .int .i64 t230, .int .i64 t231, .int .i64 t241], .slice Ao85 y253.length co85, .int .i64 600, .int .i64 100] rfl (by (try simp only [List.map_toArray, List.map_cons, List.map_nil]); first | done | rfl | (simp only [List.length_drop, List.length_take]; rfl)) ?_; (with_reducible refine (impl_Nearest.calls kj28 t229 t230 t231 t241 _ _ y253 600 100 t256 true _ ?side1 ?side2 A63.out).mono ?_); (case side1 => repeat (first | exact (Kd.R_reads' HO255.out).2.2 | (with_reducible refine Kd.C_alloc ?_ _) | (with_reducible refine Kd.C_drewN ?_ _) | (with_reducible refine Kd.C_drew ?_))); (case side2 => exact (Kd.R_reads' HO255.out).2.1); rintro e w86 ⟨rfl, hb⟩; refine ⟨_, rfl, ?_⟩; have n0_ := Aside0.mk (Kd.R_below (by (with_reducible repeat (first | apply Kd.R_alloc | apply Kd.R_drewN | apply Kd.R_drew)); exact HO255.out) hb); have n1_ := Aside0.mk (blk_below (g := gb239) (o := .cells #[.int .i64 t229, .int .i64 t230, .int .i64 t231, .int .i64 t241] 33 (0, 0)) (by (with_reducible repeat (first | refine blk_drewN ?_ _ | refine blk_drew ?_ | refine blk_alloc ?_ _)); exact BK239.out) hb); have n2_ := Aside0.mk (blk_below (g := gb240) (o := .cells #[.int .i64 t233, .int .i64 t234, .int .i64 t235, .int .i64 t236] 33 (0, 0)) (by (with_reducible repeat (first | refine blk_drewN ?_ _ | refine blk_drew ?_ | refine blk_alloc ?_ _)); exact BK240.out) hb); have n3_ := Aside0.mk (blk_below (g := gb248) (o := .cells #[.int .i64 t233, .int .i64 t234, .int .i64 t235, .int .i64 t237, .int .i64 t238, .int .i64 0] 35 (0, 0)) (by (with_reducible repeat (first | refine blk_drewN ?_ _ | refine blk_drew ?_ | refine blk_alloc ?_ _)); exact BK248.out) hb); have n4_ := Aside0.mk (below_step (by repeat (first | (with_reducible first | exact HB.out | apply below_alloc | apply pw_below_drewN | apply below_drew1 | refine below_set ?_ GE239.out | refine below_set ?_ GE240.out | refine below_set ?_ GE248.out) | exact HB.out)) hb); clear HO255; clear BK239; clear BK240; clear BK248; clear HB; have HO255 := n0_; have BK239 := n1_; have BK240 := n2_; have BK248 := n3_; have HB := n4_; clear n0_ n1_ n2_ n3_ n4_; (try clear hb); (try clear hb2); (try clear hk); (try clear hi); have hcz87_0 : w86.cell? ⟨gb239, 0, none⟩ = some (.int .i64 t229) := (blk_cell BK239.out 0).trans rfl; have hcz87_1 : w86.cell? ⟨gb239, 1, none⟩ = some (.int .i64 t230) := (blk_cell BK239.out 1).trans rfl; have hcz87_2 : w86.cell? ⟨gb239, 2, none⟩ = some (.int .i64 t231) := (blk_cell BK239.out 2).trans rfl; have hcz87_3 : w86.cell? ⟨gb239, 3, none⟩ = some (.int .i64 t241) := (blk_cell BK239.out 3).trans rfl; have hfz87_0 := blk_frozen BK239.out 0; have hfz87_1 := blk_frozen BK239.out 1; have hfz87_2 := blk_frozen BK239.out 2; have hfz87_3 := blk_frozen BK239.out 3; have hcz88_0 : w86.cell? ⟨gb248, 0, none⟩ = some (.int .i64 t233) := (blk_cell BK248.out 0).trans rfl; have hcz88_1 : w86.cell? ⟨gb248, 1, none⟩ = some (.int .i64 t234) := (blk_cell BK248.out 1).trans rfl; have hcz88_2 : w86.cell? ⟨gb248, 2, none⟩ = some (.int .i64 t235) := (blk_cell BK248.out 2).trans rfl; have hcz88_3 : w86.cell? ⟨gb248, 3, none⟩ = some (.int .i64 t237) := (blk_cell BK248.out 3).trans rfl; have hcz88_4 : w86.cell? ⟨gb248, 4, none⟩ = some (.int .i64 t238) := (blk_cell BK248.out 4).trans rfl; have hcz88_5 : w86.cell? ⟨gb248, 5, none⟩ = some (.int .i64 0) := (blk_cell BK248.out 5).trans rfl; have hfz88_0 := blk_frozen BK248.out 0; have hfz88_1 := blk_frozen BK248.out 1; have hfz88_2 := blk_frozen BK248.out 2; have hfz88_3 := blk_frozen BK248.out 3; have hfz88_4 := blk_frozen BK248.out 4; have hfz88_5 := blk_frozen BK248.out 5) | (go_at_call 21; (with_reducible refine (impl_Advise.calls t229 t230 t231 t241 t233 t234 t235 t237 t238 0 600 100 t258 _ A75.out).mono ?_); rintro e w89 ⟨rfl, hb⟩; have n0_ := Aside0.mk (Kd.R_below (by (with_reducible repeat (first | apply Kd.R_alloc | apply Kd.R_drewN | apply Kd.R_drew)); exact HO255.out) hb); have n1_ := Aside0.mk (blk_below (g := gb239) (o := .cells #[.int .i64 t229, .int .i64 t230, .int .i64 t231, .int .i64 t241] 33 (0, 0)) (by (with_reducible repeat (first | refine blk_drewN ?_ _ | refine blk_drew ?_ | refine blk_alloc ?_ _)); exact BK239.out) hb); have n2_ := Aside0.mk (blk_below (g := gb240) (o := .cells #[.int .i64 t233, .int .i64 t234, .int .i64 t235, .int .i64 t236] 33 (0, 0)) (by (with_reducible repeat (first | refine blk_drewN ?_ _ | refine blk_drew ?_ | refine blk_alloc ?_ _)); exact BK240.out) hb); have n3_ := Aside0.mk (blk_below (g := gb248) (o := .cells #[.int .i64 t233, .int .i64 t234, .int .i64 t235, .int .i64 t237, .int .i64 t238, .int .i64 0] 35 (0, 0)) (by (with_reducible repeat (first | refine blk_drewN ?_ _ | refine blk_drew ?_ | refine blk_alloc ?_ _)); exact BK248.out) hb); have n4_ := Aside0.mk (below_step (by repeat (first | (with_reducible first | exact HB.out | apply below_alloc | apply pw_below_drewN | apply below_drew1 | refine below_set ?_ GE239.out | refine below_set ?_ GE240.out | refine below_set ?_ GE248.out) | exact HB.out)) hb); clear HO255; clear BK239; clear BK240; clear BK248; clear HB; have HO255 := n0_; have BK239 := n1_; have BK240 := n2_; have BK248 := n3_; have HB := n4_; clear n0_ n1_ n2_ n3_ n4_; (try clear hb); (try clear hb2); (try clear hk); (try clear hi)))
                          go_ret
                          exact ⟨by first | rfl | (simp [errW_none, errW_some] <;> rfl) | (simp [*, errW_none, errW_some] <;> rfl), by repeat (first | (with_reducible first | exact HB.out | apply below_alloc | apply pw_below_drewN | apply below_drew1 | refine below_set ?_ GE239.out | refine below_set ?_ GE240.out | refine below_set ?_ GE248.out) | exact HB.out)⟩
                        · replace c77 := Bool.eq_false_iff.mpr c77
                          subst c77
                          have H1 : (some false) = some r := by rw [if_neg (show ¬ (false = true) by decide)] at H; exact H
                          clear H
                          have H := H1
                          clear H1
                          obtain rfl := Option.some.inj H
                          have hnb90 := NB239_240.out
                          have hnc90 := NB240_239.out
                          have hnb91 := NB239_248.out
                          have hnc91 := NB248_239.out
                          have hcz92_0 : wc.cell? ⟨gb239, 0, none⟩ = some (.int .i64 t229) := (blk_cell BK239.out 0).trans rfl
                          have hcz92_1 : wc.cell? ⟨gb239, 1, none⟩ = some (.int .i64 t230) := (blk_cell BK239.out 1).trans rfl
                          have hcz92_2 : wc.cell? ⟨gb239, 2, none⟩ = some (.int .i64 t231) := (blk_cell BK239.out 2).trans rfl
                          have hcz92_3 : wc.cell? ⟨gb239, 3, none⟩ = some (.int .i64 t232) := (blk_cell BK239.out 3).trans rfl
                          have hfz92_0 := blk_frozen BK239.out 0
                          have hfz92_1 := blk_frozen BK239.out 1
                          have hfz92_2 := blk_frozen BK239.out 2
                          have hfz92_3 := blk_frozen BK239.out 3
                          have hnb93 := NB248_240.out
                          have hnc93 := NB240_248.out
                          have hcz94_0 : wc.cell? ⟨gb248, 0, none⟩ = some (.int .i64 t233) := (blk_cell BK248.out 0).trans rfl
                          have hcz94_1 : wc.cell? ⟨gb248, 1, none⟩ = some (.int .i64 t234) := (blk_cell BK248.out 1).trans rfl
                          have hcz94_2 : wc.cell? ⟨gb248, 2, none⟩ = some (.int .i64 t235) := (blk_cell BK248.out 2).trans rfl
                          have hcz94_3 : wc.cell? ⟨gb248, 3, none⟩ = some (.int .i64 t237) := (blk_cell BK248.out 3).trans rfl
                          have hcz94_4 : wc.cell? ⟨gb248, 4, none⟩ = some (.int .i64 t238) := (blk_cell BK248.out 4).trans rfl
                          have hcz94_5 : wc.cell? ⟨gb248, 5, none⟩ = some (.int .i64 0) := (blk_cell BK248.out 5).trans rfl
                          have hfz94_0 := blk_frozen BK248.out 0
                          have hfz94_1 := blk_frozen BK248.out 1
                          have hfz94_2 := blk_frozen BK248.out 2
                          have hfz94_3 := blk_frozen BK248.out 3
                          have hfz94_4 := blk_frozen BK248.out 4
                          have hfz94_5 := blk_frozen BK248.out 5
                          go_wp2_with (first | ((with_reducible refine gate_dst (N := 140) rfl ?_); refine Kd.R_lit k35 _ 35 ?hg (N := 140) ?hd (xs := ([(⟨t233, t234, t235, t237, t238, 0⟩ : S35)] : List (S35))) (inner := [.int .i64 t233, .int .i64 t234, .int .i64 t235, .int .i64 t237, .int .i64 t238, .int .i64 0]) (ok := fun _ => True) (okp := fun _ => True) ?hr ?hp (fun _ hk => hk) trivial (Below.refl _ _) (Nat.le_refl _) (by simp) ?_; (case hd => rfl); (case hg => rfl); (case hr => first | (go_simp; done) | (go_simp; rfl)); (case hp => exact (Reps.c6 (show Kd.M k35 _ _ _ (⟨t233, t234, t235, t237, t238, 0⟩ : S35) [.int .i64 t233, .int .i64 t234, .int .i64 t235, .int .i64 t237, .int .i64 t238, .int .i64 0] from (k35_mkM _ _ _ (⟨t233, t234, t235, t237, t238, 0⟩ : S35) )) (Reps.none _ _))); intro v254 w95 ho96 hb hg_ hnew_; clear hg_ hnew_; (first | rw [← Ny253.out] at ho96 | (simp only [Int.reduceToNat] at ho96; rw [← Ny253.out] at ho96)); have n0_ := Aside0.mk (Kd.R_lower (Kd.R_newB ho96 (g := gb248) (o := .cells #[.int .i64 t233, .int .i64 t234, .int .i64 t235, .int .i64 t237, .int .i64 t238, .int .i64 0] 35 (0, 0)) (by (with_reducible repeat (first | refine blk_drewN ?_ _ | refine blk_drew ?_ | refine blk_alloc ?_ _)); refine blk_far ?_ NB248_239.out _; (with_reducible repeat (first | refine blk_drewN ?_ _ | refine blk_drew ?_ | refine blk_alloc ?_ _)); exact BK248.out)) (below_size (by repeat (first | (with_reducible first | exact HB.out | apply below_alloc | apply pw_below_drewN | apply below_drew1 | refine below_set ?_ GE239.out | refine below_set ?_ GE240.out | refine below_set ?_ GE248.out) | exact HB.out)))); have n1_ := Aside0.mk (blk_below (g := gb239) (o := .cells #[.int .i64 t229, .int .i64 t230, .int .i64 t231, .int .i64 t241] 33 (0, 0)) (by (with_reducible repeat (first | refine blk_drewN ?_ _ | refine blk_drew ?_ | refine blk_alloc ?_ _)); refine blk_put (cs := #[.int .i64 t229, .int .i64 t230, .int .i64 t231, .int .i64 t232]) ?_ 3 _ rfl; (with_reducible repeat (first | refine blk_drewN ?_ _ | refine blk_drew ?_ | refine blk_alloc ?_ _)); exact BK239.out) hb); have n2_ := Aside0.mk (blk_below (g := gb240) (o := .cells #[.int .i64 t233, .int .i64 t234, .int .i64 t235, .int .i64 t236] 33 (0, 0)) (by (with_reducible repeat (first | refine blk_drewN ?_ _ | refine blk_drew ?_ | refine blk_alloc ?_ _)); refine blk_far ?_ NB240_239.out _; (with_reducible repeat (first | refine blk_drewN ?_ _ | refine blk_drew ?_ | refine blk_alloc ?_ _)); exact BK240.out) hb); have n3_ := Aside0.mk (blk_below (g := gb248) (o := .cells #[.int .i64 t233, .int .i64 t234, .int .i64 t235, .int .i64 t237, .int .i64 t238, .int .i64 0] 35 (0, 0)) (by (with_reducible repeat (first | refine blk_drewN ?_ _ | refine blk_drew ?_ | refine blk_alloc ?_ _)); refine blk_far ?_ NB248_239.out _; (with_reducible repeat (first | refine blk_drewN ?_ _ | refine blk_drew ?_ | refine blk_alloc ?_ _)); exact BK248.out) hb); have n4_ := Aside0.mk (below_step (by repeat (first | (with_reducible first | exact HB.out | apply below_alloc | apply pw_below_drewN | apply below_drew1 | refine below_set ?_ GE239.out | refine below_set ?_ GE240.out | refine below_set ?_ GE248.out) | exact HB.out)) hb); clear BK239; clear BK240; clear BK248; clear HB; have HO255 := n0_; have BK239 := n1_; have BK240 := n2_; have BK248 := n3_; have HB := n4_; clear n0_ n1_ n2_ n3_ n4_; clear hb ho96; obtain ⟨Ao97, co97, eo97⟩ := Kd.R_slice HO255.out; subst eo97) | ((with_reducible refine gate_callee (f := 27) rfl ?_); refine goesL_ (some 141) rfl rfl Try.func27 (by kernel_rfl) rfl #[.agg #[.int .i64 t229, .int .i64 t230, .int .i64 t231, .int .i64 t241], .slice Ao97 y253.length co97, .int .i64 600, .int .i64 100] rfl (by (try simp only [List.map_toArray, List.map_cons, List.map_nil]); first | done | rfl | (simp only [List.length_drop, List.length_take]; rfl)) ?_; (with_reducible refine (impl_Nearest.calls kj28 t229 t230 t231 t241 _ _ y253 600 100 t256 false _ ?side1 ?side2 A63.out).mono ?_); (case side1 => repeat (first | exact (Kd.R_reads' HO255.out).2.2 | (with_reducible refine Kd.C_alloc ?_ _) | (with_reducible refine Kd.C_drewN ?_ _) | (with_reducible refine Kd.C_drew ?_))); (case side2 => exact (Kd.R_reads' HO255.out).2.1); rintro e w98 ⟨rfl, hb⟩; refine ⟨_, rfl, ?_⟩; have n0_ := Aside0.mk (Kd.R_below (by (with_reducible repeat (first | apply Kd.R_alloc | apply Kd.R_drewN | apply Kd.R_drew)); exact HO255.out) hb); have n1_ := Aside0.mk (blk_below (g := gb239) (o := .cells #[.int .i64 t229, .int .i64 t230, .int .i64 t231, .int .i64 t241] 33 (0, 0)) (by (with_reducible repeat (first | refine blk_drewN ?_ _ | refine blk_drew ?_ | refine blk_alloc ?_ _)); exact BK239.out) hb); have n2_ := Aside0.mk (blk_below (g := gb240) (o := .cells #[.int .i64 t233, .int .i64 t234, .int .i64 t235, .int .i64 t236] 33 (0, 0)) (by (with_reducible repeat (first | refine blk_drewN ?_ _ | refine blk_drew ?_ | refine blk_alloc ?_ _)); exact BK240.out) hb); have n3_ := Aside0.mk (blk_below (g := gb248) (o := .cells #[.int .i64 t233, .int .i64 t234, .int .i64 t235, .int .i64 t237, .int .i64 t238, .int .i64 0] 35 (0, 0)) (by (with_reducible repeat (first | refine blk_drewN ?_ _ | refine blk_drew ?_ | refine blk_alloc ?_ _)); exact BK248.out) hb); have n4_ := Aside0.mk (below_step (by repeat (first | (with_reducible first | exact HB.out | apply below_alloc | apply pw_below_drewN | apply below_drew1 | refine below_set ?_ GE239.out | refine below_set ?_ GE240.out | refine below_set ?_ GE248.out) | exact HB.out)) hb); clear HO255; clear BK239; clear BK240; clear BK248; clear HB; have HO255 := n0_; have BK239 := n1_; have BK240 := n2_; have BK248 := n3_; have HB := n4_; clear n0_ n1_ n2_ n3_ n4_; (try clear hb); (try clear hb2); (try clear hk); (try clear hi); have hcz99_0 : w98.cell? ⟨gb239, 0, none⟩ = some (.int .i64 t229) := (blk_cell BK239.out 0).trans rfl; have hcz99_1 : w98.cell? ⟨gb239, 1, none⟩ = some (.int .i64 t230) := (blk_cell BK239.out 1).trans rfl; have hcz99_2 : w98.cell? ⟨gb239, 2, none⟩ = some (.int .i64 t231) := (blk_cell BK239.out 2).trans rfl; have hcz99_3 : w98.cell? ⟨gb239, 3, none⟩ = some (.int .i64 t241) := (blk_cell BK239.out 3).trans rfl; have hfz99_0 := blk_frozen BK239.out 0; have hfz99_1 := blk_frozen BK239.out 1; have hfz99_2 := blk_frozen BK239.out 2; have hfz99_3 := blk_frozen BK239.out 3; have hcz100_0 : w98.cell? ⟨gb248, 0, none⟩ = some (.int .i64 t233) := (blk_cell BK248.out 0).trans rfl; have hcz100_1 : w98.cell? ⟨gb248, 1, none⟩ = some (.int .i64 t234) := (blk_cell BK248.out 1).trans rfl; have hcz100_2 : w98.cell? ⟨gb248, 2, none⟩ = some (.int .i64 t235) := (blk_cell BK248.out 2).trans rfl; have hcz100_3 : w98.cell? ⟨gb248, 3, none⟩ = some (.int .i64 t237) := (blk_cell BK248.out 3).trans rfl; have hcz100_4 : w98.cell? ⟨gb248, 4, none⟩ = some (.int .i64 t238) := (blk_cell BK248.out 4).trans rfl; have hcz100_5 : w98.cell? ⟨gb248, 5, none⟩ = some (.int .i64 0) := (blk_cell BK248.out 5).trans rfl; have hfz100_0 := blk_frozen BK248.out 0; have hfz100_1 := blk_frozen BK248.out 1; have hfz100_2 := blk_frozen BK248.out 2; have hfz100_3 := blk_frozen BK248.out 3; have hfz100_4 := blk_frozen BK248.out 4; have hfz100_5 := blk_frozen BK248.out 5) | (go_at_call 21; (with_reducible refine (impl_Advise.calls t229 t230 t231 t241 t233 t234 t235 t237 t238 0 600 100 t258 _ A75.out).mono ?_); rintro e w101 ⟨rfl, hb⟩; have n0_ := Aside0.mk (Kd.R_below (by (with_reducible repeat (first | apply Kd.R_alloc | apply Kd.R_drewN | apply Kd.R_drew)); exact HO255.out) hb); have n1_ := Aside0.mk (blk_below (g := gb239) (o := .cells #[.int .i64 t229, .int .i64 t230, .int .i64 t231, .int .i64 t241] 33 (0, 0)) (by (with_reducible repeat (first | refine blk_drewN ?_ _ | refine blk_drew ?_ | refine blk_alloc ?_ _)); exact BK239.out) hb); have n2_ := Aside0.mk (blk_below (g := gb240) (o := .cells #[.int .i64 t233, .int .i64 t234, .int .i64 t235, .int .i64 t236] 33 (0, 0)) (by (with_reducible repeat (first | refine blk_drewN ?_ _ | refine blk_drew ?_ | refine blk_alloc ?_ _)); exact BK240.out) hb); have n3_ := Aside0.mk (blk_below (g := gb248) (o := .cells #[.int .i64 t233, .int .i64 t234, .int .i64 t235, .int .i64 t237, .int .i64 t238, .int .i64 0] 35 (0, 0)) (by (with_reducible repeat (first | refine blk_drewN ?_ _ | refine blk_drew ?_ | refine blk_alloc ?_ _)); exact BK248.out) hb); have n4_ := Aside0.mk (below_step (by repeat (first | (with_reducible first | exact HB.out | apply below_alloc | apply pw_below_drewN | apply below_drew1 | refine below_set ?_ GE239.out | refine below_set ?_ GE240.out | refine below_set ?_ GE248.out) | exact HB.out)) hb); clear HO255; clear BK239; clear BK240; clear BK248; clear HB; have HO255 := n0_; have BK239 := n1_; have BK240 := n2_; have BK248 := n3_; have HB := n4_; clear n0_ n1_ n2_ n3_ n4_; (try clear hb); (try clear hb2); (try clear hk); (try clear hi)))
                          go_ret
                          exact ⟨by first | rfl | (simp [errW_none, errW_some] <;> rfl) | (simp [*, errW_none, errW_some] <;> rfl), by repeat (first | (with_reducible first | exact HB.out | apply below_alloc | apply pw_below_drewN | apply below_drew1 | refine below_set ?_ GE239.out | refine below_set ?_ GE240.out | refine below_set ?_ GE248.out) | exact HB.out)⟩
                      · rw [if_neg c76] at H
                        have c76b0 : (t258 == t241) = false := beq_eq_false_iff_ne.mpr c76
                        have c76b1 : (t258 != t241) = true := bne_iff_ne.mpr c76
                        obtain rfl := Option.some.inj H
                        have hnb102 := NB239_240.out
                        have hnc102 := NB240_239.out
                        have hnb103 := NB239_248.out
                        have hnc103 := NB248_239.out
                        have hcz104_0 : wc.cell? ⟨gb239, 0, none⟩ = some (.int .i64 t229) := (blk_cell BK239.out 0).trans rfl
                        have hcz104_1 : wc.cell? ⟨gb239, 1, none⟩ = some (.int .i64 t230) := (blk_cell BK239.out 1).trans rfl
                        have hcz104_2 : wc.cell? ⟨gb239, 2, none⟩ = some (.int .i64 t231) := (blk_cell BK239.out 2).trans rfl
                        have hcz104_3 : wc.cell? ⟨gb239, 3, none⟩ = some (.int .i64 t232) := (blk_cell BK239.out 3).trans rfl
                        have hfz104_0 := blk_frozen BK239.out 0
                        have hfz104_1 := blk_frozen BK239.out 1
                        have hfz104_2 := blk_frozen BK239.out 2
                        have hfz104_3 := blk_frozen BK239.out 3
                        have hnb105 := NB248_240.out
                        have hnc105 := NB240_248.out
                        have hcz106_0 : wc.cell? ⟨gb248, 0, none⟩ = some (.int .i64 t233) := (blk_cell BK248.out 0).trans rfl
                        have hcz106_1 : wc.cell? ⟨gb248, 1, none⟩ = some (.int .i64 t234) := (blk_cell BK248.out 1).trans rfl
                        have hcz106_2 : wc.cell? ⟨gb248, 2, none⟩ = some (.int .i64 t235) := (blk_cell BK248.out 2).trans rfl
                        have hcz106_3 : wc.cell? ⟨gb248, 3, none⟩ = some (.int .i64 t237) := (blk_cell BK248.out 3).trans rfl
                        have hcz106_4 : wc.cell? ⟨gb248, 4, none⟩ = some (.int .i64 t238) := (blk_cell BK248.out 4).trans rfl
                        have hcz106_5 : wc.cell? ⟨gb248, 5, none⟩ = some (.int .i64 0) := (blk_cell BK248.out 5).trans rfl
                        have hfz106_0 := blk_frozen BK248.out 0
                        have hfz106_1 := blk_frozen BK248.out 1
                        have hfz106_2 := blk_frozen BK248.out 2
                        have hfz106_3 := blk_frozen BK248.out 3
                        have hfz106_4 := blk_frozen BK248.out 4
                        have hfz106_5 := blk_frozen BK248.out 5
                        go_wp2_with (first | ((with_reducible refine gate_dst (N := 140) rfl ?_); refine Kd.R_lit k35 _ 35 ?hg (N := 140) ?hd (xs := ([(⟨t233, t234, t235, t237, t238, 0⟩ : S35)] : List (S35))) (inner := [.int .i64 t233, .int .i64 t234, .int .i64 t235, .int .i64 t237, .int .i64 t238, .int .i64 0]) (ok := fun _ => True) (okp := fun _ => True) ?hr ?hp (fun _ hk => hk) trivial (Below.refl _ _) (Nat.le_refl _) (by simp) ?_; (case hd => rfl); (case hg => rfl); (case hr => first | (go_simp; done) | (go_simp; rfl)); (case hp => exact (Reps.c6 (show Kd.M k35 _ _ _ (⟨t233, t234, t235, t237, t238, 0⟩ : S35) [.int .i64 t233, .int .i64 t234, .int .i64 t235, .int .i64 t237, .int .i64 t238, .int .i64 0] from (k35_mkM _ _ _ (⟨t233, t234, t235, t237, t238, 0⟩ : S35) )) (Reps.none _ _))); intro v254 w107 ho108 hb hg_ hnew_; clear hg_ hnew_; (first | rw [← Ny253.out] at ho108 | (simp only [Int.reduceToNat] at ho108; rw [← Ny253.out] at ho108)); have n0_ := Aside0.mk (Kd.R_lower (Kd.R_newB ho108 (g := gb248) (o := .cells #[.int .i64 t233, .int .i64 t234, .int .i64 t235, .int .i64 t237, .int .i64 t238, .int .i64 0] 35 (0, 0)) (by (with_reducible repeat (first | refine blk_drewN ?_ _ | refine blk_drew ?_ | refine blk_alloc ?_ _)); refine blk_far ?_ NB248_239.out _; (with_reducible repeat (first | refine blk_drewN ?_ _ | refine blk_drew ?_ | refine blk_alloc ?_ _)); exact BK248.out)) (below_size (by repeat (first | (with_reducible first | exact HB.out | apply below_alloc | apply pw_below_drewN | apply below_drew1 | refine below_set ?_ GE239.out | refine below_set ?_ GE240.out | refine below_set ?_ GE248.out) | exact HB.out)))); have n1_ := Aside0.mk (blk_below (g := gb239) (o := .cells #[.int .i64 t229, .int .i64 t230, .int .i64 t231, .int .i64 t241] 33 (0, 0)) (by (with_reducible repeat (first | refine blk_drewN ?_ _ | refine blk_drew ?_ | refine blk_alloc ?_ _)); refine blk_put (cs := #[.int .i64 t229, .int .i64 t230, .int .i64 t231, .int .i64 t232]) ?_ 3 _ rfl; (with_reducible repeat (first | refine blk_drewN ?_ _ | refine blk_drew ?_ | refine blk_alloc ?_ _)); exact BK239.out) hb); have n2_ := Aside0.mk (blk_below (g := gb240) (o := .cells #[.int .i64 t233, .int .i64 t234, .int .i64 t235, .int .i64 t236] 33 (0, 0)) (by (with_reducible repeat (first | refine blk_drewN ?_ _ | refine blk_drew ?_ | refine blk_alloc ?_ _)); refine blk_far ?_ NB240_239.out _; (with_reducible repeat (first | refine blk_drewN ?_ _ | refine blk_drew ?_ | refine blk_alloc ?_ _)); exact BK240.out) hb); have n3_ := Aside0.mk (blk_below (g := gb248) (o := .cells #[.int .i64 t233, .int .i64 t234, .int .i64 t235, .int .i64 t237, .int .i64 t238, .int .i64 0] 35 (0, 0)) (by (with_reducible repeat (first | refine blk_drewN ?_ _ | refine blk_drew ?_ | refine blk_alloc ?_ _)); refine blk_far ?_ NB248_239.out _; (with_reducible repeat (first | refine blk_drewN ?_ _ | refine blk_drew ?_ | refine blk_alloc ?_ _)); exact BK248.out) hb); have n4_ := Aside0.mk (below_step (by repeat (first | (with_reducible first | exact HB.out | apply below_alloc | apply pw_below_drewN | apply below_drew1 | refine below_set ?_ GE239.out | refine below_set ?_ GE240.out | refine below_set ?_ GE248.out) | exact HB.out)) hb); clear BK239; clear BK240; clear BK248; clear HB; have HO255 := n0_; have BK239 := n1_; have BK240 := n2_; have BK248 := n3_; have HB := n4_; clear n0_ n1_ n2_ n3_ n4_; clear hb ho108; obtain ⟨Ao109, co109, eo109⟩ := Kd.R_slice HO255.out; subst eo109) | ((with_reducible refine gate_callee (f := 27) rfl ?_); refine goesL_ (some 141) rfl rfl Try.func27 (by kernel_rfl) rfl #[.agg #[.int .i64 t229, .int .i64 t230, .int .i64 t231, .int .i64 t241], .slice Ao109 y253.length co109, .int .i64 600, .int .i64 100] rfl (by (try simp only [List.map_toArray, List.map_cons, List.map_nil]); first | done | rfl | (simp only [List.length_drop, List.length_take]; rfl)) ?_; (with_reducible refine (impl_Nearest.calls kj28 t229 t230 t231 t241 _ _ y253 600 100 t256 t257 _ ?side1 ?side2 A63.out).mono ?_); (case side1 => repeat (first | exact (Kd.R_reads' HO255.out).2.2 | (with_reducible refine Kd.C_alloc ?_ _) | (with_reducible refine Kd.C_drewN ?_ _) | (with_reducible refine Kd.C_drew ?_))); (case side2 => exact (Kd.R_reads' HO255.out).2.1); rintro e w110 ⟨rfl, hb⟩; refine ⟨_, rfl, ?_⟩; have n0_ := Aside0.mk (Kd.R_below (by (with_reducible repeat (first | apply Kd.R_alloc | apply Kd.R_drewN | apply Kd.R_drew)); exact HO255.out) hb); have n1_ := Aside0.mk (blk_below (g := gb239) (o := .cells #[.int .i64 t229, .int .i64 t230, .int .i64 t231, .int .i64 t241] 33 (0, 0)) (by (with_reducible repeat (first | refine blk_drewN ?_ _ | refine blk_drew ?_ | refine blk_alloc ?_ _)); exact BK239.out) hb); have n2_ := Aside0.mk (blk_below (g := gb240) (o := .cells #[.int .i64 t233, .int .i64 t234, .int .i64 t235, .int .i64 t236] 33 (0, 0)) (by (with_reducible repeat (first | refine blk_drewN ?_ _ | refine blk_drew ?_ | refine blk_alloc ?_ _)); exact BK240.out) hb); have n3_ := Aside0.mk (blk_below (g := gb248) (o := .cells #[.int .i64 t233, .int .i64 t234, .int .i64 t235, .int .i64 t237, .int .i64 t238, .int .i64 0] 35 (0, 0)) (by (with_reducible repeat (first | refine blk_drewN ?_ _ | refine blk_drew ?_ | refine blk_alloc ?_ _)); exact BK248.out) hb); have n4_ := Aside0.mk (below_step (by repeat (first | (with_reducible first | exact HB.out | apply below_alloc | apply pw_below_drewN | apply below_drew1 | refine below_set ?_ GE239.out | refine below_set ?_ GE240.out | refine below_set ?_ GE248.out) | exact HB.out)) hb); clear HO255; clear BK239; clear BK240; clear BK248; clear HB; have HO255 := n0_; have BK239 := n1_; have BK240 := n2_; have BK248 := n3_; have HB := n4_; clear n0_ n1_ n2_ n3_ n4_; (try clear hb); (try clear hb2); (try clear hk); (try clear hi); have hcz111_0 : w110.cell? ⟨gb239, 0, none⟩ = some (.int .i64 t229) := (blk_cell BK239.out 0).trans rfl; have hcz111_1 : w110.cell? ⟨gb239, 1, none⟩ = some (.int .i64 t230) := (blk_cell BK239.out 1).trans rfl; have hcz111_2 : w110.cell? ⟨gb239, 2, none⟩ = some (.int .i64 t231) := (blk_cell BK239.out 2).trans rfl; have hcz111_3 : w110.cell? ⟨gb239, 3, none⟩ = some (.int .i64 t241) := (blk_cell BK239.out 3).trans rfl; have hfz111_0 := blk_frozen BK239.out 0; have hfz111_1 := blk_frozen BK239.out 1; have hfz111_2 := blk_frozen BK239.out 2; have hfz111_3 := blk_frozen BK239.out 3; have hcz112_0 : w110.cell? ⟨gb248, 0, none⟩ = some (.int .i64 t233) := (blk_cell BK248.out 0).trans rfl; have hcz112_1 : w110.cell? ⟨gb248, 1, none⟩ = some (.int .i64 t234) := (blk_cell BK248.out 1).trans rfl; have hcz112_2 : w110.cell? ⟨gb248, 2, none⟩ = some (.int .i64 t235) := (blk_cell BK248.out 2).trans rfl; have hcz112_3 : w110.cell? ⟨gb248, 3, none⟩ = some (.int .i64 t237) := (blk_cell BK248.out 3).trans rfl; have hcz112_4 : w110.cell? ⟨gb248, 4, none⟩ = some (.int .i64 t238) := (blk_cell BK248.out 4).trans rfl; have hcz112_5 : w110.cell? ⟨gb248, 5, none⟩ = some (.int .i64 0) := (blk_cell BK248.out 5).trans rfl; have hfz112_0 := blk_frozen BK248.out 0; have hfz112_1 := blk_frozen BK248.out 1; have hfz112_2 := blk_frozen BK248.out 2; have hfz112_3 := blk_frozen BK248.out 3; have hfz112_4 := blk_frozen BK248.out 4; have hfz112_5 := blk_frozen BK248.out 5) | (go_at_call 21; (with_reducible refine (impl_Advise.calls t229 t230 t231 t241 t233 t234 t235 t237 t238 0 600 100 t258 _ A75.out).mono ?_); rintro e w113 ⟨rfl, hb⟩; have n0_ := Aside0.mk (Kd.R_below (by (with_reducible repeat (first | apply Kd.R_alloc | apply Kd.R_drewN | apply Kd.R_drew)); exact HO255.out) hb); have n1_ := Aside0.mk (blk_below (g := gb239) (o := .cells #[.int .i64 t229, .int .i64 t230, .int .i64 t231, .int .i64 t241] 33 (0, 0)) (by (with_reducible repeat (first | refine blk_drewN ?_ _ | refine blk_drew ?_ | refine blk_alloc ?_ _)); exact BK239.out) hb); have n2_ := Aside0.mk (blk_below (g := gb240) (o := .cells #[.int .i64 t233, .int .i64 t234, .int .i64 t235, .int .i64 t236] 33 (0, 0)) (by (with_reducible repeat (first | refine blk_drewN ?_ _ | refine blk_drew ?_ | refine blk_alloc ?_ _)); exact BK240.out) hb); have n3_ := Aside0.mk (blk_below (g := gb248) (o := .cells #[.int .i64 t233, .int .i64 t234, .int .i64 t235, .int .i64 t237, .int .i64 t238, .int .i64 0] 35 (0, 0)) (by (with_reducible repeat (first | refine blk_drewN ?_ _ | refine blk_drew ?_ | refine blk_alloc ?_ _)); exact BK248.out) hb); have n4_ := Aside0.mk (below_step (by repeat (first | (with_reducible first | exact HB.out | apply below_alloc | apply pw_below_drewN | apply below_drew1 | refine below_set ?_ GE239.out | refine below_set ?_ GE240.out | refine below_set ?_ GE248.out) | exact HB.out)) hb); clear HO255; clear BK239; clear BK240; clear BK248; clear HB; have HO255 := n0_; have BK239 := n1_; have BK240 := n2_; have BK248 := n3_; have HB := n4_; clear n0_ n1_ n2_ n3_ n4_; (try clear hb); (try clear hb2); (try clear hk); (try clear hi)))
                        go_ret
                        exact ⟨by first | rfl | (simp [errW_none, errW_some] <;> rfl) | (simp [*, errW_none, errW_some] <;> rfl), by repeat (first | (with_reducible first | exact HB.out | apply below_alloc | apply pw_below_drewN | apply below_drew1 | refine below_set ?_ GE239.out | refine below_set ?_ GE240.out | refine below_set ?_ GE248.out) | exact HB.out)⟩
                  · rw [if_neg c64] at H
                    have c64b0 : ((wrap64 (t241 + t242)) == 3) = false := beq_eq_false_iff_ne.mpr c64
                    have c64b1 : ((wrap64 (t241 + t242)) != 3) = true := bne_iff_ne.mpr c64
                    obtain rfl := Option.some.inj H
                    have hnb114 := NB239_240.out
                    have hnc114 := NB240_239.out
                    have hnb115 := NB239_248.out
                    have hnc115 := NB248_239.out
                    have hcz116_0 : wc.cell? ⟨gb239, 0, none⟩ = some (.int .i64 t229) := (blk_cell BK239.out 0).trans rfl
                    have hcz116_1 : wc.cell? ⟨gb239, 1, none⟩ = some (.int .i64 t230) := (blk_cell BK239.out 1).trans rfl
                    have hcz116_2 : wc.cell? ⟨gb239, 2, none⟩ = some (.int .i64 t231) := (blk_cell BK239.out 2).trans rfl
                    have hcz116_3 : wc.cell? ⟨gb239, 3, none⟩ = some (.int .i64 t232) := (blk_cell BK239.out 3).trans rfl
                    have hfz116_0 := blk_frozen BK239.out 0
                    have hfz116_1 := blk_frozen BK239.out 1
                    have hfz116_2 := blk_frozen BK239.out 2
                    have hfz116_3 := blk_frozen BK239.out 3
                    have hnb117 := NB248_240.out
                    have hnc117 := NB240_248.out
                    have hcz118_0 : wc.cell? ⟨gb248, 0, none⟩ = some (.int .i64 t233) := (blk_cell BK248.out 0).trans rfl
                    have hcz118_1 : wc.cell? ⟨gb248, 1, none⟩ = some (.int .i64 t234) := (blk_cell BK248.out 1).trans rfl
                    have hcz118_2 : wc.cell? ⟨gb248, 2, none⟩ = some (.int .i64 t235) := (blk_cell BK248.out 2).trans rfl
                    have hcz118_3 : wc.cell? ⟨gb248, 3, none⟩ = some (.int .i64 t237) := (blk_cell BK248.out 3).trans rfl
                    have hcz118_4 : wc.cell? ⟨gb248, 4, none⟩ = some (.int .i64 t238) := (blk_cell BK248.out 4).trans rfl
                    have hcz118_5 : wc.cell? ⟨gb248, 5, none⟩ = some (.int .i64 0) := (blk_cell BK248.out 5).trans rfl
                    have hfz118_0 := blk_frozen BK248.out 0
                    have hfz118_1 := blk_frozen BK248.out 1
                    have hfz118_2 := blk_frozen BK248.out 2
                    have hfz118_3 := blk_frozen BK248.out 3
                    have hfz118_4 := blk_frozen BK248.out 4
                    have hfz118_5 := blk_frozen BK248.out 5
                    go_wp2_with (first | ((with_reducible refine gate_dst (N := 140) rfl ?_); refine Kd.R_lit k35 _ 35 ?hg (N := 140) ?hd (xs := ([(⟨t233, t234, t235, t237, t238, 0⟩ : S35)] : List (S35))) (inner := [.int .i64 t233, .int .i64 t234, .int .i64 t235, .int .i64 t237, .int .i64 t238, .int .i64 0]) (ok := fun _ => True) (okp := fun _ => True) ?hr ?hp (fun _ hk => hk) trivial (Below.refl _ _) (Nat.le_refl _) (by simp) ?_; (case hd => rfl); (case hg => rfl); (case hr => first | (go_simp; done) | (go_simp; rfl)); (case hp => exact (Reps.c6 (show Kd.M k35 _ _ _ (⟨t233, t234, t235, t237, t238, 0⟩ : S35) [.int .i64 t233, .int .i64 t234, .int .i64 t235, .int .i64 t237, .int .i64 t238, .int .i64 0] from (k35_mkM _ _ _ (⟨t233, t234, t235, t237, t238, 0⟩ : S35) )) (Reps.none _ _))); intro v254 w119 ho120 hb hg_ hnew_; clear hg_ hnew_; (first | rw [← Ny253.out] at ho120 | (simp only [Int.reduceToNat] at ho120; rw [← Ny253.out] at ho120)); have n0_ := Aside0.mk (Kd.R_lower (Kd.R_newB ho120 (g := gb248) (o := .cells #[.int .i64 t233, .int .i64 t234, .int .i64 t235, .int .i64 t237, .int .i64 t238, .int .i64 0] 35 (0, 0)) (by (with_reducible repeat (first | refine blk_drewN ?_ _ | refine blk_drew ?_ | refine blk_alloc ?_ _)); refine blk_far ?_ NB248_239.out _; (with_reducible repeat (first | refine blk_drewN ?_ _ | refine blk_drew ?_ | refine blk_alloc ?_ _)); exact BK248.out)) (below_size (by repeat (first | (with_reducible first | exact HB.out | apply below_alloc | apply pw_below_drewN | apply below_drew1 | refine below_set ?_ GE239.out | refine below_set ?_ GE240.out | refine below_set ?_ GE248.out) | exact HB.out)))); have n1_ := Aside0.mk (blk_below (g := gb239) (o := .cells #[.int .i64 t229, .int .i64 t230, .int .i64 t231, .int .i64 t241] 33 (0, 0)) (by (with_reducible repeat (first | refine blk_drewN ?_ _ | refine blk_drew ?_ | refine blk_alloc ?_ _)); refine blk_put (cs := #[.int .i64 t229, .int .i64 t230, .int .i64 t231, .int .i64 t232]) ?_ 3 _ rfl; (with_reducible repeat (first | refine blk_drewN ?_ _ | refine blk_drew ?_ | refine blk_alloc ?_ _)); exact BK239.out) hb); have n2_ := Aside0.mk (blk_below (g := gb240) (o := .cells #[.int .i64 t233, .int .i64 t234, .int .i64 t235, .int .i64 t236] 33 (0, 0)) (by (with_reducible repeat (first | refine blk_drewN ?_ _ | refine blk_drew ?_ | refine blk_alloc ?_ _)); refine blk_far ?_ NB240_239.out _; (with_reducible repeat (first | refine blk_drewN ?_ _ | refine blk_drew ?_ | refine blk_alloc ?_ _)); exact BK240.out) hb); have n3_ := Aside0.mk (blk_below (g := gb248) (o := .cells #[.int .i64 t233, .int .i64 t234, .int .i64 t235, .int .i64 t237, .int .i64 t238, .int .i64 0] 35 (0, 0)) (by (with_reducible repeat (first | refine blk_drewN ?_ _ | refine blk_drew ?_ | refine blk_alloc ?_ _)); refine blk_far ?_ NB248_239.out _; (with_reducible repeat (first | refine blk_drewN ?_ _ | refine blk_drew ?_ | refine blk_alloc ?_ _)); exact BK248.out) hb); have n4_ := Aside0.mk (below_step (by repeat (first | (with_reducible first | exact HB.out | apply below_alloc | apply pw_below_drewN | apply below_drew1 | refine below_set ?_ GE239.out | refine below_set ?_ GE240.out | refine below_set ?_ GE248.out) | exact HB.out)) hb); clear BK239; clear BK240; clear BK248; clear HB; have HO255 := n0_; have BK239 := n1_; have BK240 := n2_; have BK248 := n3_; have HB := n4_; clear n0_ n1_ n2_ n3_ n4_; clear hb ho120; obtain ⟨Ao121, co121, eo121⟩ := Kd.R_slice HO255.out; subst eo121) | ((with_reducible refine gate_callee (f := 27) rfl ?_); refine goesL_ (some 141) rfl rfl Try.func27 (by kernel_rfl) rfl #[.agg #[.int .i64 t229, .int .i64 t230, .int .i64 t231, .int .i64 t241], .slice Ao121 y253.length co121, .int .i64 600, .int .i64 100] rfl (by (try simp only [List.map_toArray, List.map_cons, List.map_nil]); first | done | rfl | (simp only [List.length_drop, List.length_take]; rfl)) ?_; (with_reducible refine (impl_Nearest.calls kj28 t229 t230 t231 t241 _ _ y253 600 100 t256 t257 _ ?side1 ?side2 A63.out).mono ?_); (case side1 => repeat (first | exact (Kd.R_reads' HO255.out).2.2 | (with_reducible refine Kd.C_alloc ?_ _) | (with_reducible refine Kd.C_drewN ?_ _) | (with_reducible refine Kd.C_drew ?_))); (case side2 => exact (Kd.R_reads' HO255.out).2.1); rintro e w122 ⟨rfl, hb⟩; refine ⟨_, rfl, ?_⟩; have n0_ := Aside0.mk (Kd.R_below (by (with_reducible repeat (first | apply Kd.R_alloc | apply Kd.R_drewN | apply Kd.R_drew)); exact HO255.out) hb); have n1_ := Aside0.mk (blk_below (g := gb239) (o := .cells #[.int .i64 t229, .int .i64 t230, .int .i64 t231, .int .i64 t241] 33 (0, 0)) (by (with_reducible repeat (first | refine blk_drewN ?_ _ | refine blk_drew ?_ | refine blk_alloc ?_ _)); exact BK239.out) hb); have n2_ := Aside0.mk (blk_below (g := gb240) (o := .cells #[.int .i64 t233, .int .i64 t234, .int .i64 t235, .int .i64 t236] 33 (0, 0)) (by (with_reducible repeat (first | refine blk_drewN ?_ _ | refine blk_drew ?_ | refine blk_alloc ?_ _)); exact BK240.out) hb); have n3_ := Aside0.mk (blk_below (g := gb248) (o := .cells #[.int .i64 t233, .int .i64 t234, .int .i64 t235, .int .i64 t237, .int .i64 t238, .int .i64 0] 35 (0, 0)) (by (with_reducible repeat (first | refine blk_drewN ?_ _ | refine blk_drew ?_ | refine blk_alloc ?_ _)); exact BK248.out) hb); have n4_ := Aside0.mk (below_step (by repeat (first | (with_reducible first | exact HB.out | apply below_alloc | apply pw_below_drewN | apply below_drew1 | refine below_set ?_ GE239.out | refine below_set ?_ GE240.out | refine below_set ?_ GE248.out) | exact HB.out)) hb); clear HO255; clear BK239; clear BK240; clear BK248; clear HB; have HO255 := n0_; have BK239 := n1_; have BK240 := n2_; have BK248 := n3_; have HB := n4_; clear n0_ n1_ n2_ n3_ n4_; (try clear hb); (try clear hb2); (try clear hk); (try clear hi)))
                    go_ret
                    exact ⟨by first | rfl | (simp [errW_none, errW_some] <;> rfl) | (simp [*, errW_none, errW_some] <;> rfl), by repeat (first | (with_reducible first | exact HB.out | apply below_alloc | apply pw_below_drewN | apply below_drew1 | refine below_set ?_ GE239.out | refine below_set ?_ GE240.out | refine below_set ?_ GE248.out) | exact HB.out)⟩
                · replace c62 := Bool.eq_false_iff.mpr c62
                  subst c62
                  have H1 : ((impl_Nearest.f kj28 t229 t230 t231 t232 (([(⟨t233, t234, t235, t237, t238, 0⟩ : S35)] : List (S35))) 600 100).bind fun bt262 => (if t241 = 0 then (if t242 = 0 then (if bt262.2 = true then (some false) else (some (bt262.1 == (-1)))) else (some false)) else (some false))) = some r := by rw [if_neg (show ¬ (false = true) by decide)] at H; exact H
                  clear H
                  have H := H1
                  clear H1
                  obtain ⟨y259, hy259⟩ : ∃ y_ : List (S35), y_ = (([(⟨t233, t234, t235, t237, t238, 0⟩ : S35)] : List (S35))) := ⟨_, rfl⟩
                  replace H : ((impl_Nearest.f kj28 t229 t230 t231 t232 y259 600 100).bind fun bt262 => (if t241 = 0 then (if t242 = 0 then (if bt262.2 = true then (some false) else (some (bt262.1 == (-1)))) else (some false)) else (some false))) = some r := by first | (rw [hy259]; with_reducible exact H) | (have H2_ := (Option.bind_some _ _).symm.trans H; rw [hy259]; with_reducible exact H2_) | (have H2_ := (Option.bind_some _ _).symm.trans H; with_reducible exact H2_) | with_reducible exact H | (rw [hy259]; exact H) | exact H
                  have Ny259 := Aside0.mk hy259
                  clear hy259
                  replace H := Option.bind_eq_some_iff.mp H
                  obtain ⟨⟨t262, t263⟩, A1230, H⟩ := H
                  replace H : (if t241 = 0 then (if t242 = 0 then (if t263 = true then (some false) else (some (t262 == (-1)))) else (some false)) else (some false)) = some r := H
                  have A123 := Aside0.mk A1230
                  clear A1230
                  by_cases c124 : t241 = 0
                  · rw [if_pos c124] at H
                    have c124b0 : (t241 == 0) = true := beq_iff_eq.mpr c124
                    have c124b1 : (t241 != 0) = false := bne_eq_false_iff_eq.mpr c124
                    clear c124
                    by_cases c125 : t242 = 0
                    · rw [if_pos c125] at H
                      have c125b0 : (t242 == 0) = true := beq_iff_eq.mpr c125
                      have c125b1 : (t242 != 0) = false := bne_eq_false_iff_eq.mpr c125
                      clear c125
                      by_cases c126 : t263 = true
                      · subst c126
                        have H1 : (some false) = some r := by rw [if_pos rfl] at H; exact H
                        clear H
                        have H := H1
                        clear H1
                        obtain rfl := Option.some.inj H
                        have hnb127 := NB239_240.out
                        have hnc127 := NB240_239.out
                        have hnb128 := NB239_248.out
                        have hnc128 := NB248_239.out
                        have hcz129_0 : wc.cell? ⟨gb239, 0, none⟩ = some (.int .i64 t229) := (blk_cell BK239.out 0).trans rfl
                        have hcz129_1 : wc.cell? ⟨gb239, 1, none⟩ = some (.int .i64 t230) := (blk_cell BK239.out 1).trans rfl
                        have hcz129_2 : wc.cell? ⟨gb239, 2, none⟩ = some (.int .i64 t231) := (blk_cell BK239.out 2).trans rfl
                        have hcz129_3 : wc.cell? ⟨gb239, 3, none⟩ = some (.int .i64 t232) := (blk_cell BK239.out 3).trans rfl
                        have hfz129_0 := blk_frozen BK239.out 0
                        have hfz129_1 := blk_frozen BK239.out 1
                        have hfz129_2 := blk_frozen BK239.out 2
                        have hfz129_3 := blk_frozen BK239.out 3
                        have hnb130 := NB248_240.out
                        have hnc130 := NB240_248.out
                        have hcz131_0 : wc.cell? ⟨gb248, 0, none⟩ = some (.int .i64 t233) := (blk_cell BK248.out 0).trans rfl
                        have hcz131_1 : wc.cell? ⟨gb248, 1, none⟩ = some (.int .i64 t234) := (blk_cell BK248.out 1).trans rfl
                        have hcz131_2 : wc.cell? ⟨gb248, 2, none⟩ = some (.int .i64 t235) := (blk_cell BK248.out 2).trans rfl
                        have hcz131_3 : wc.cell? ⟨gb248, 3, none⟩ = some (.int .i64 t237) := (blk_cell BK248.out 3).trans rfl
                        have hcz131_4 : wc.cell? ⟨gb248, 4, none⟩ = some (.int .i64 t238) := (blk_cell BK248.out 4).trans rfl
                        have hcz131_5 : wc.cell? ⟨gb248, 5, none⟩ = some (.int .i64 0) := (blk_cell BK248.out 5).trans rfl
                        have hfz131_0 := blk_frozen BK248.out 0
                        have hfz131_1 := blk_frozen BK248.out 1
                        have hfz131_2 := blk_frozen BK248.out 2
                        have hfz131_3 := blk_frozen BK248.out 3
                        have hfz131_4 := blk_frozen BK248.out 4
                        have hfz131_5 := blk_frozen BK248.out 5
                        go_wp2_with (first | ((with_reducible refine gate_dst (N := 117) rfl ?_); refine Kd.R_lit k35 _ 35 ?hg (N := 117) ?hd (xs := ([(⟨t233, t234, t235, t237, t238, 0⟩ : S35)] : List (S35))) (inner := [.int .i64 t233, .int .i64 t234, .int .i64 t235, .int .i64 t237, .int .i64 t238, .int .i64 0]) (ok := fun _ => True) (okp := fun _ => True) ?hr ?hp (fun _ hk => hk) trivial (Below.refl _ _) (Nat.le_refl _) (by simp) ?_; (case hd => rfl); (case hg => rfl); (case hr => first | (go_simp; done) | (go_simp; rfl)); (case hp => exact (Reps.c6 (show Kd.M k35 _ _ _ (⟨t233, t234, t235, t237, t238, 0⟩ : S35) [.int .i64 t233, .int .i64 t234, .int .i64 t235, .int .i64 t237, .int .i64 t238, .int .i64 0] from (k35_mkM _ _ _ (⟨t233, t234, t235, t237, t238, 0⟩ : S35) )) (Reps.none _ _))); intro v260 w132 ho133 hb hg_ hnew_; clear hg_ hnew_; (first | rw [← Ny259.out] at ho133 | (simp only [Int.reduceToNat] at ho133; rw [← Ny259.out] at ho133)); have n0_ := Aside0.mk (Kd.R_lower (Kd.R_newB ho133 (g := gb248) (o := .cells #[.int .i64 t233, .int .i64 t234, .int .i64 t235, .int .i64 t237, .int .i64 t238, .int .i64 0] 35 (0, 0)) (by (with_reducible repeat (first | refine blk_drewN ?_ _ | refine blk_drew ?_ | refine blk_alloc ?_ _)); exact BK248.out)) (below_size (by repeat (first | (with_reducible first | exact HB.out | apply below_alloc | apply pw_below_drewN | apply below_drew1 | refine below_set ?_ GE239.out | refine below_set ?_ GE240.out | refine below_set ?_ GE248.out) | exact HB.out)))); have n1_ := Aside0.mk (blk_below (g := gb239) (o := .cells #[.int .i64 t229, .int .i64 t230, .int .i64 t231, .int .i64 t232] 33 (0, 0)) (by (with_reducible repeat (first | refine blk_drewN ?_ _ | refine blk_drew ?_ | refine blk_alloc ?_ _)); exact BK239.out) hb); have n2_ := Aside0.mk (blk_below (g := gb240) (o := .cells #[.int .i64 t233, .int .i64 t234, .int .i64 t235, .int .i64 t236] 33 (0, 0)) (by (with_reducible repeat (first | refine blk_drewN ?_ _ | refine blk_drew ?_ | refine blk_alloc ?_ _)); exact BK240.out) hb); have n3_ := Aside0.mk (blk_below (g := gb248) (o := .cells #[.int .i64 t233, .int .i64 t234, .int .i64 t235, .int .i64 t237, .int .i64 t238, .int .i64 0] 35 (0, 0)) (by (with_reducible repeat (first | refine blk_drewN ?_ _ | refine blk_drew ?_ | refine blk_alloc ?_ _)); exact BK248.out) hb); have n4_ := Aside0.mk (below_step (by repeat (first | (with_reducible first | exact HB.out | apply below_alloc | apply pw_below_drewN | apply below_drew1 | refine below_set ?_ GE239.out | refine below_set ?_ GE240.out | refine below_set ?_ GE248.out) | exact HB.out)) hb); clear BK239; clear BK240; clear BK248; clear HB; have HO261 := n0_; have BK239 := n1_; have BK240 := n2_; have BK248 := n3_; have HB := n4_; clear n0_ n1_ n2_ n3_ n4_; clear hb ho133; obtain ⟨Ao134, co134, eo134⟩ := Kd.R_slice HO261.out; subst eo134) | ((with_reducible refine gate_callee (f := 27) rfl ?_); refine goesL_ (some 118) rfl rfl Try.func27 (by kernel_rfl) rfl #[.agg #[.int .i64 t229, .int .i64 t230, .int .i64 t231, .int .i64 t232], .slice Ao134 y259.length co134, .int .i64 600, .int .i64 100] rfl (by (try simp only [List.map_toArray, List.map_cons, List.map_nil]); first | done | rfl | (simp only [List.length_drop, List.length_take]; rfl)) ?_; (with_reducible refine (impl_Nearest.calls kj28 t229 t230 t231 t232 _ _ y259 600 100 t262 true _ ?side1 ?side2 A123.out).mono ?_); (case side1 => repeat (first | exact (Kd.R_reads' HO261.out).2.2 | (with_reducible refine Kd.C_alloc ?_ _) | (with_reducible refine Kd.C_drewN ?_ _) | (with_reducible refine Kd.C_drew ?_))); (case side2 => exact (Kd.R_reads' HO261.out).2.1); rintro e w135 ⟨rfl, hb⟩; refine ⟨_, rfl, ?_⟩; have n0_ := Aside0.mk (Kd.R_below (by (with_reducible repeat (first | apply Kd.R_alloc | apply Kd.R_drewN | apply Kd.R_drew)); exact HO261.out) hb); have n1_ := Aside0.mk (blk_below (g := gb239) (o := .cells #[.int .i64 t229, .int .i64 t230, .int .i64 t231, .int .i64 t232] 33 (0, 0)) (by (with_reducible repeat (first | refine blk_drewN ?_ _ | refine blk_drew ?_ | refine blk_alloc ?_ _)); exact BK239.out) hb); have n2_ := Aside0.mk (blk_below (g := gb240) (o := .cells #[.int .i64 t233, .int .i64 t234, .int .i64 t235, .int .i64 t236] 33 (0, 0)) (by (with_reducible repeat (first | refine blk_drewN ?_ _ | refine blk_drew ?_ | refine blk_alloc ?_ _)); exact BK240.out) hb); have n3_ := Aside0.mk (blk_below (g := gb248) (o := .cells #[.int .i64 t233, .int .i64 t234, .int .i64 t235, .int .i64 t237, .int .i64 t238, .int .i64 0] 35 (0, 0)) (by (with_reducible repeat (first | refine blk_drewN ?_ _ | refine blk_drew ?_ | refine blk_alloc ?_ _)); exact BK248.out) hb); have n4_ := Aside0.mk (below_step (by repeat (first | (with_reducible first | exact HB.out | apply below_alloc | apply pw_below_drewN | apply below_drew1 | refine below_set ?_ GE239.out | refine below_set ?_ GE240.out | refine below_set ?_ GE248.out) | exact HB.out)) hb); clear HO261; clear BK239; clear BK240; clear BK248; clear HB; have HO261 := n0_; have BK239 := n1_; have BK240 := n2_; have BK248 := n3_; have HB := n4_; clear n0_ n1_ n2_ n3_ n4_; (try clear hb); (try clear hb2); (try clear hk); (try clear hi)))
                        go_ret
                        exact ⟨by first | rfl | (simp [errW_none, errW_some] <;> rfl) | (simp [*, errW_none, errW_some] <;> rfl), by repeat (first | (with_reducible first | exact HB.out | apply below_alloc | apply pw_below_drewN | apply below_drew1 | refine below_set ?_ GE239.out | refine below_set ?_ GE240.out | refine below_set ?_ GE248.out) | exact HB.out)⟩
                      · replace c126 := Bool.eq_false_iff.mpr c126
                        subst c126
                        have H1 : (some (t262 == (-1))) = some r := by rw [if_neg (show ¬ (false = true) by decide)] at H; exact H
                        clear H
                        have H := H1
                        clear H1
                        obtain rfl := Option.some.inj H
                        have hnb136 := NB239_240.out
                        have hnc136 := NB240_239.out
                        have hnb137 := NB239_248.out
                        have hnc137 := NB248_239.out
                        have hcz138_0 : wc.cell? ⟨gb239, 0, none⟩ = some (.int .i64 t229) := (blk_cell BK239.out 0).trans rfl
                        have hcz138_1 : wc.cell? ⟨gb239, 1, none⟩ = some (.int .i64 t230) := (blk_cell BK239.out 1).trans rfl
                        have hcz138_2 : wc.cell? ⟨gb239, 2, none⟩ = some (.int .i64 t231) := (blk_cell BK239.out 2).trans rfl
                        have hcz138_3 : wc.cell? ⟨gb239, 3, none⟩ = some (.int .i64 t232) := (blk_cell BK239.out 3).trans rfl
                        have hfz138_0 := blk_frozen BK239.out 0
                        have hfz138_1 := blk_frozen BK239.out 1
                        have hfz138_2 := blk_frozen BK239.out 2
                        have hfz138_3 := blk_frozen BK239.out 3
                        have hnb139 := NB248_240.out
                        have hnc139 := NB240_248.out
                        have hcz140_0 : wc.cell? ⟨gb248, 0, none⟩ = some (.int .i64 t233) := (blk_cell BK248.out 0).trans rfl
                        have hcz140_1 : wc.cell? ⟨gb248, 1, none⟩ = some (.int .i64 t234) := (blk_cell BK248.out 1).trans rfl
                        have hcz140_2 : wc.cell? ⟨gb248, 2, none⟩ = some (.int .i64 t235) := (blk_cell BK248.out 2).trans rfl
                        have hcz140_3 : wc.cell? ⟨gb248, 3, none⟩ = some (.int .i64 t237) := (blk_cell BK248.out 3).trans rfl
                        have hcz140_4 : wc.cell? ⟨gb248, 4, none⟩ = some (.int .i64 t238) := (blk_cell BK248.out 4).trans rfl
                        have hcz140_5 : wc.cell? ⟨gb248, 5, none⟩ = some (.int .i64 0) := (blk_cell BK248.out 5).trans rfl
                        have hfz140_0 := blk_frozen BK248.out 0
                        have hfz140_1 := blk_frozen BK248.out 1
                        have hfz140_2 := blk_frozen BK248.out 2
                        have hfz140_3 := blk_frozen BK248.out 3
                        have hfz140_4 := blk_frozen BK248.out 4
                        have hfz140_5 := blk_frozen BK248.out 5
                        go_wp2_with (first | ((with_reducible refine gate_dst (N := 117) rfl ?_); refine Kd.R_lit k35 _ 35 ?hg (N := 117) ?hd (xs := ([(⟨t233, t234, t235, t237, t238, 0⟩ : S35)] : List (S35))) (inner := [.int .i64 t233, .int .i64 t234, .int .i64 t235, .int .i64 t237, .int .i64 t238, .int .i64 0]) (ok := fun _ => True) (okp := fun _ => True) ?hr ?hp (fun _ hk => hk) trivial (Below.refl _ _) (Nat.le_refl _) (by simp) ?_; (case hd => rfl); (case hg => rfl); (case hr => first | (go_simp; done) | (go_simp; rfl)); (case hp => exact (Reps.c6 (show Kd.M k35 _ _ _ (⟨t233, t234, t235, t237, t238, 0⟩ : S35) [.int .i64 t233, .int .i64 t234, .int .i64 t235, .int .i64 t237, .int .i64 t238, .int .i64 0] from (k35_mkM _ _ _ (⟨t233, t234, t235, t237, t238, 0⟩ : S35) )) (Reps.none _ _))); intro v260 w141 ho142 hb hg_ hnew_; clear hg_ hnew_; (first | rw [← Ny259.out] at ho142 | (simp only [Int.reduceToNat] at ho142; rw [← Ny259.out] at ho142)); have n0_ := Aside0.mk (Kd.R_lower (Kd.R_newB ho142 (g := gb248) (o := .cells #[.int .i64 t233, .int .i64 t234, .int .i64 t235, .int .i64 t237, .int .i64 t238, .int .i64 0] 35 (0, 0)) (by (with_reducible repeat (first | refine blk_drewN ?_ _ | refine blk_drew ?_ | refine blk_alloc ?_ _)); exact BK248.out)) (below_size (by repeat (first | (with_reducible first | exact HB.out | apply below_alloc | apply pw_below_drewN | apply below_drew1 | refine below_set ?_ GE239.out | refine below_set ?_ GE240.out | refine below_set ?_ GE248.out) | exact HB.out)))); have n1_ := Aside0.mk (blk_below (g := gb239) (o := .cells #[.int .i64 t229, .int .i64 t230, .int .i64 t231, .int .i64 t232] 33 (0, 0)) (by (with_reducible repeat (first | refine blk_drewN ?_ _ | refine blk_drew ?_ | refine blk_alloc ?_ _)); exact BK239.out) hb); have n2_ := Aside0.mk (blk_below (g := gb240) (o := .cells #[.int .i64 t233, .int .i64 t234, .int .i64 t235, .int .i64 t236] 33 (0, 0)) (by (with_reducible repeat (first | refine blk_drewN ?_ _ | refine blk_drew ?_ | refine blk_alloc ?_ _)); exact BK240.out) hb); have n3_ := Aside0.mk (blk_below (g := gb248) (o := .cells #[.int .i64 t233, .int .i64 t234, .int .i64 t235, .int .i64 t237, .int .i64 t238, .int .i64 0] 35 (0, 0)) (by (with_reducible repeat (first | refine blk_drewN ?_ _ | refine blk_drew ?_ | refine blk_alloc ?_ _)); exact BK248.out) hb); have n4_ := Aside0.mk (below_step (by repeat (first | (with_reducible first | exact HB.out | apply below_alloc | apply pw_below_drewN | apply below_drew1 | refine below_set ?_ GE239.out | refine below_set ?_ GE240.out | refine below_set ?_ GE248.out) | exact HB.out)) hb); clear BK239; clear BK240; clear BK248; clear HB; have HO261 := n0_; have BK239 := n1_; have BK240 := n2_; have BK248 := n3_; have HB := n4_; clear n0_ n1_ n2_ n3_ n4_; clear hb ho142; obtain ⟨Ao143, co143, eo143⟩ := Kd.R_slice HO261.out; subst eo143) | ((with_reducible refine gate_callee (f := 27) rfl ?_); refine goesL_ (some 118) rfl rfl Try.func27 (by kernel_rfl) rfl #[.agg #[.int .i64 t229, .int .i64 t230, .int .i64 t231, .int .i64 t232], .slice Ao143 y259.length co143, .int .i64 600, .int .i64 100] rfl (by (try simp only [List.map_toArray, List.map_cons, List.map_nil]); first | done | rfl | (simp only [List.length_drop, List.length_take]; rfl)) ?_; (with_reducible refine (impl_Nearest.calls kj28 t229 t230 t231 t232 _ _ y259 600 100 t262 false _ ?side1 ?side2 A123.out).mono ?_); (case side1 => repeat (first | exact (Kd.R_reads' HO261.out).2.2 | (with_reducible refine Kd.C_alloc ?_ _) | (with_reducible refine Kd.C_drewN ?_ _) | (with_reducible refine Kd.C_drew ?_))); (case side2 => exact (Kd.R_reads' HO261.out).2.1); rintro e w144 ⟨rfl, hb⟩; refine ⟨_, rfl, ?_⟩; have n0_ := Aside0.mk (Kd.R_below (by (with_reducible repeat (first | apply Kd.R_alloc | apply Kd.R_drewN | apply Kd.R_drew)); exact HO261.out) hb); have n1_ := Aside0.mk (blk_below (g := gb239) (o := .cells #[.int .i64 t229, .int .i64 t230, .int .i64 t231, .int .i64 t232] 33 (0, 0)) (by (with_reducible repeat (first | refine blk_drewN ?_ _ | refine blk_drew ?_ | refine blk_alloc ?_ _)); exact BK239.out) hb); have n2_ := Aside0.mk (blk_below (g := gb240) (o := .cells #[.int .i64 t233, .int .i64 t234, .int .i64 t235, .int .i64 t236] 33 (0, 0)) (by (with_reducible repeat (first | refine blk_drewN ?_ _ | refine blk_drew ?_ | refine blk_alloc ?_ _)); exact BK240.out) hb); have n3_ := Aside0.mk (blk_below (g := gb248) (o := .cells #[.int .i64 t233, .int .i64 t234, .int .i64 t235, .int .i64 t237, .int .i64 t238, .int .i64 0] 35 (0, 0)) (by (with_reducible repeat (first | refine blk_drewN ?_ _ | refine blk_drew ?_ | refine blk_alloc ?_ _)); exact BK248.out) hb); have n4_ := Aside0.mk (below_step (by repeat (first | (with_reducible first | exact HB.out | apply below_alloc | apply pw_below_drewN | apply below_drew1 | refine below_set ?_ GE239.out | refine below_set ?_ GE240.out | refine below_set ?_ GE248.out) | exact HB.out)) hb); clear HO261; clear BK239; clear BK240; clear BK248; clear HB; have HO261 := n0_; have BK239 := n1_; have BK240 := n2_; have BK248 := n3_; have HB := n4_; clear n0_ n1_ n2_ n3_ n4_; (try clear hb); (try clear hb2); (try clear hk); (try clear hi)))
                        go_ret
                        exact ⟨by first | rfl | (simp [errW_none, errW_some] <;> rfl) | (simp [*, errW_none, errW_some] <;> rfl), by repeat (first | (with_reducible first | exact HB.out | apply below_alloc | apply pw_below_drewN | apply below_drew1 | refine below_set ?_ GE239.out | refine below_set ?_ GE240.out | refine below_set ?_ GE248.out) | exact HB.out)⟩
                    · rw [if_neg c125] at H
                      have c125b0 : (t242 == 0) = false := beq_eq_false_iff_ne.mpr c125
                      have c125b1 : (t242 != 0) = true := bne_iff_ne.mpr c125
                      obtain rfl := Option.some.inj H
                      have hnb145 := NB239_240.out
                      have hnc145 := NB240_239.out
                      have hnb146 := NB239_248.out
                      have hnc146 := NB248_239.out
                      have hcz147_0 : wc.cell? ⟨gb239, 0, none⟩ = some (.int .i64 t229) := (blk_cell BK239.out 0).trans rfl
                      have hcz147_1 : wc.cell? ⟨gb239, 1, none⟩ = some (.int .i64 t230) := (blk_cell BK239.out 1).trans rfl
                      have hcz147_2 : wc.cell? ⟨gb239, 2, none⟩ = some (.int .i64 t231) := (blk_cell BK239.out 2).trans rfl
                      have hcz147_3 : wc.cell? ⟨gb239, 3, none⟩ = some (.int .i64 t232) := (blk_cell BK239.out 3).trans rfl
                      have hfz147_0 := blk_frozen BK239.out 0
                      have hfz147_1 := blk_frozen BK239.out 1
                      have hfz147_2 := blk_frozen BK239.out 2
                      have hfz147_3 := blk_frozen BK239.out 3
                      have hnb148 := NB248_240.out
                      have hnc148 := NB240_248.out
                      have hcz149_0 : wc.cell? ⟨gb248, 0, none⟩ = some (.int .i64 t233) := (blk_cell BK248.out 0).trans rfl
                      have hcz149_1 : wc.cell? ⟨gb248, 1, none⟩ = some (.int .i64 t234) := (blk_cell BK248.out 1).trans rfl
                      have hcz149_2 : wc.cell? ⟨gb248, 2, none⟩ = some (.int .i64 t235) := (blk_cell BK248.out 2).trans rfl
                      have hcz149_3 : wc.cell? ⟨gb248, 3, none⟩ = some (.int .i64 t237) := (blk_cell BK248.out 3).trans rfl
                      have hcz149_4 : wc.cell? ⟨gb248, 4, none⟩ = some (.int .i64 t238) := (blk_cell BK248.out 4).trans rfl
                      have hcz149_5 : wc.cell? ⟨gb248, 5, none⟩ = some (.int .i64 0) := (blk_cell BK248.out 5).trans rfl
                      have hfz149_0 := blk_frozen BK248.out 0
                      have hfz149_1 := blk_frozen BK248.out 1
                      have hfz149_2 := blk_frozen BK248.out 2
                      have hfz149_3 := blk_frozen BK248.out 3
                      have hfz149_4 := blk_frozen BK248.out 4
                      have hfz149_5 := blk_frozen BK248.out 5
                      go_wp2_with (first | ((with_reducible refine gate_dst (N := 117) rfl ?_); refine Kd.R_lit k35 _ 35 ?hg (N := 117) ?hd (xs := ([(⟨t233, t234, t235, t237, t238, 0⟩ : S35)] : List (S35))) (inner := [.int .i64 t233, .int .i64 t234, .int .i64 t235, .int .i64 t237, .int .i64 t238, .int .i64 0]) (ok := fun _ => True) (okp := fun _ => True) ?hr ?hp (fun _ hk => hk) trivial (Below.refl _ _) (Nat.le_refl _) (by simp) ?_; (case hd => rfl); (case hg => rfl); (case hr => first | (go_simp; done) | (go_simp; rfl)); (case hp => exact (Reps.c6 (show Kd.M k35 _ _ _ (⟨t233, t234, t235, t237, t238, 0⟩ : S35) [.int .i64 t233, .int .i64 t234, .int .i64 t235, .int .i64 t237, .int .i64 t238, .int .i64 0] from (k35_mkM _ _ _ (⟨t233, t234, t235, t237, t238, 0⟩ : S35) )) (Reps.none _ _))); intro v260 w150 ho151 hb hg_ hnew_; clear hg_ hnew_; (first | rw [← Ny259.out] at ho151 | (simp only [Int.reduceToNat] at ho151; rw [← Ny259.out] at ho151)); have n0_ := Aside0.mk (Kd.R_lower (Kd.R_newB ho151 (g := gb248) (o := .cells #[.int .i64 t233, .int .i64 t234, .int .i64 t235, .int .i64 t237, .int .i64 t238, .int .i64 0] 35 (0, 0)) (by (with_reducible repeat (first | refine blk_drewN ?_ _ | refine blk_drew ?_ | refine blk_alloc ?_ _)); exact BK248.out)) (below_size (by repeat (first | (with_reducible first | exact HB.out | apply below_alloc | apply pw_below_drewN | apply below_drew1 | refine below_set ?_ GE239.out | refine below_set ?_ GE240.out | refine below_set ?_ GE248.out) | exact HB.out)))); have n1_ := Aside0.mk (blk_below (g := gb239) (o := .cells #[.int .i64 t229, .int .i64 t230, .int .i64 t231, .int .i64 t232] 33 (0, 0)) (by (with_reducible repeat (first | refine blk_drewN ?_ _ | refine blk_drew ?_ | refine blk_alloc ?_ _)); exact BK239.out) hb); have n2_ := Aside0.mk (blk_below (g := gb240) (o := .cells #[.int .i64 t233, .int .i64 t234, .int .i64 t235, .int .i64 t236] 33 (0, 0)) (by (with_reducible repeat (first | refine blk_drewN ?_ _ | refine blk_drew ?_ | refine blk_alloc ?_ _)); exact BK240.out) hb); have n3_ := Aside0.mk (blk_below (g := gb248) (o := .cells #[.int .i64 t233, .int .i64 t234, .int .i64 t235, .int .i64 t237, .int .i64 t238, .int .i64 0] 35 (0, 0)) (by (with_reducible repeat (first | refine blk_drewN ?_ _ | refine blk_drew ?_ | refine blk_alloc ?_ _)); exact BK248.out) hb); have n4_ := Aside0.mk (below_step (by repeat (first | (with_reducible first | exact HB.out | apply below_alloc | apply pw_below_drewN | apply below_drew1 | refine below_set ?_ GE239.out | refine below_set ?_ GE240.out | refine below_set ?_ GE248.out) | exact HB.out)) hb); clear BK239; clear BK240; clear BK248; clear HB; have HO261 := n0_; have BK239 := n1_; have BK240 := n2_; have BK248 := n3_; have HB := n4_; clear n0_ n1_ n2_ n3_ n4_; clear hb ho151; obtain ⟨Ao152, co152, eo152⟩ := Kd.R_slice HO261.out; subst eo152) | ((with_reducible refine gate_callee (f := 27) rfl ?_); refine goesL_ (some 118) rfl rfl Try.func27 (by kernel_rfl) rfl #[.agg #[.int .i64 t229, .int .i64 t230, .int .i64 t231, .int .i64 t232], .slice Ao152 y259.length co152, .int .i64 600, .int .i64 100] rfl (by (try simp only [List.map_toArray, List.map_cons, List.map_nil]); first | done | rfl | (simp only [List.length_drop, List.length_take]; rfl)) ?_; (with_reducible refine (impl_Nearest.calls kj28 t229 t230 t231 t232 _ _ y259 600 100 t262 t263 _ ?side1 ?side2 A123.out).mono ?_); (case side1 => repeat (first | exact (Kd.R_reads' HO261.out).2.2 | (with_reducible refine Kd.C_alloc ?_ _) | (with_reducible refine Kd.C_drewN ?_ _) | (with_reducible refine Kd.C_drew ?_))); (case side2 => exact (Kd.R_reads' HO261.out).2.1); rintro e w153 ⟨rfl, hb⟩; refine ⟨_, rfl, ?_⟩; have n0_ := Aside0.mk (Kd.R_below (by (with_reducible repeat (first | apply Kd.R_alloc | apply Kd.R_drewN | apply Kd.R_drew)); exact HO261.out) hb); have n1_ := Aside0.mk (blk_below (g := gb239) (o := .cells #[.int .i64 t229, .int .i64 t230, .int .i64 t231, .int .i64 t232] 33 (0, 0)) (by (with_reducible repeat (first | refine blk_drewN ?_ _ | refine blk_drew ?_ | refine blk_alloc ?_ _)); exact BK239.out) hb); have n2_ := Aside0.mk (blk_below (g := gb240) (o := .cells #[.int .i64 t233, .int .i64 t234, .int .i64 t235, .int .i64 t236] 33 (0, 0)) (by (with_reducible repeat (first | refine blk_drewN ?_ _ | refine blk_drew ?_ | refine blk_alloc ?_ _)); exact BK240.out) hb); have n3_ := Aside0.mk (blk_below (g := gb248) (o := .cells #[.int .i64 t233, .int .i64 t234, .int .i64 t235, .int .i64 t237, .int .i64 t238, .int .i64 0] 35 (0, 0)) (by (with_reducible repeat (first | refine blk_drewN ?_ _ | refine blk_drew ?_ | refine blk_alloc ?_ _)); exact BK248.out) hb); have n4_ := Aside0.mk (below_step (by repeat (first | (with_reducible first | exact HB.out | apply below_alloc | apply pw_below_drewN | apply below_drew1 | refine below_set ?_ GE239.out | refine below_set ?_ GE240.out | refine below_set ?_ GE248.out) | exact HB.out)) hb); clear HO261; clear BK239; clear BK240; clear BK248; clear HB; have HO261 := n0_; have BK239 := n1_; have BK240 := n2_; have BK248 := n3_; have HB := n4_; clear n0_ n1_ n2_ n3_ n4_; (try clear hb); (try clear hb2); (try clear hk); (try clear hi)))
                      go_ret
                      exact ⟨by first | rfl | (simp [errW_none, errW_some] <;> rfl) | (simp [*, errW_none, errW_some] <;> rfl), by repeat (first | (with_reducible first | exact HB.out | apply below_alloc | apply pw_below_drewN | apply below_drew1 | refine below_set ?_ GE239.out | refine below_set ?_ GE240.out | refine below_set ?_ GE248.out) | exact HB.out)⟩
                  · rw [if_neg c124] at H
                    have c124b0 : (t241 == 0) = false := beq_eq_false_iff_ne.mpr c124
                    have c124b1 : (t241 != 0) = true := bne_iff_ne.mpr c124
                    obtain rfl := Option.some.inj H
                    have hnb154 := NB239_240.out
                    have hnc154 := NB240_239.out
                    have hnb155 := NB239_248.out
                    have hnc155 := NB248_239.out
                    have hcz156_0 : wc.cell? ⟨gb239, 0, none⟩ = some (.int .i64 t229) := (blk_cell BK239.out 0).trans rfl
                    have hcz156_1 : wc.cell? ⟨gb239, 1, none⟩ = some (.int .i64 t230) := (blk_cell BK239.out 1).trans rfl
                    have hcz156_2 : wc.cell? ⟨gb239, 2, none⟩ = some (.int .i64 t231) := (blk_cell BK239.out 2).trans rfl
                    have hcz156_3 : wc.cell? ⟨gb239, 3, none⟩ = some (.int .i64 t232) := (blk_cell BK239.out 3).trans rfl
                    have hfz156_0 := blk_frozen BK239.out 0
                    have hfz156_1 := blk_frozen BK239.out 1
                    have hfz156_2 := blk_frozen BK239.out 2
                    have hfz156_3 := blk_frozen BK239.out 3
                    have hnb157 := NB248_240.out
                    have hnc157 := NB240_248.out
                    have hcz158_0 : wc.cell? ⟨gb248, 0, none⟩ = some (.int .i64 t233) := (blk_cell BK248.out 0).trans rfl
                    have hcz158_1 : wc.cell? ⟨gb248, 1, none⟩ = some (.int .i64 t234) := (blk_cell BK248.out 1).trans rfl
                    have hcz158_2 : wc.cell? ⟨gb248, 2, none⟩ = some (.int .i64 t235) := (blk_cell BK248.out 2).trans rfl
                    have hcz158_3 : wc.cell? ⟨gb248, 3, none⟩ = some (.int .i64 t237) := (blk_cell BK248.out 3).trans rfl
                    have hcz158_4 : wc.cell? ⟨gb248, 4, none⟩ = some (.int .i64 t238) := (blk_cell BK248.out 4).trans rfl
                    have hcz158_5 : wc.cell? ⟨gb248, 5, none⟩ = some (.int .i64 0) := (blk_cell BK248.out 5).trans rfl
                    have hfz158_0 := blk_frozen BK248.out 0
                    have hfz158_1 := blk_frozen BK248.out 1
                    have hfz158_2 := blk_frozen BK248.out 2
                    have hfz158_3 := blk_frozen BK248.out 3
                    have hfz158_4 := blk_frozen BK248.out 4
                    have hfz158_5 := blk_frozen BK248.out 5
                    go_wp2_with (first | ((with_reducible refine gate_dst (N := 117) rfl ?_); refine Kd.R_lit k35 _ 35 ?hg (N := 117) ?hd (xs := ([(⟨t233, t234, t235, t237, t238, 0⟩ : S35)] : List (S35))) (inner := [.int .i64 t233, .int .i64 t234, .int .i64 t235, .int .i64 t237, .int .i64 t238, .int .i64 0]) (ok := fun _ => True) (okp := fun _ => True) ?hr ?hp (fun _ hk => hk) trivial (Below.refl _ _) (Nat.le_refl _) (by simp) ?_; (case hd => rfl); (case hg => rfl); (case hr => first | (go_simp; done) | (go_simp; rfl)); (case hp => exact (Reps.c6 (show Kd.M k35 _ _ _ (⟨t233, t234, t235, t237, t238, 0⟩ : S35) [.int .i64 t233, .int .i64 t234, .int .i64 t235, .int .i64 t237, .int .i64 t238, .int .i64 0] from (k35_mkM _ _ _ (⟨t233, t234, t235, t237, t238, 0⟩ : S35) )) (Reps.none _ _))); intro v260 w159 ho160 hb hg_ hnew_; clear hg_ hnew_; (first | rw [← Ny259.out] at ho160 | (simp only [Int.reduceToNat] at ho160; rw [← Ny259.out] at ho160)); have n0_ := Aside0.mk (Kd.R_lower (Kd.R_newB ho160 (g := gb248) (o := .cells #[.int .i64 t233, .int .i64 t234, .int .i64 t235, .int .i64 t237, .int .i64 t238, .int .i64 0] 35 (0, 0)) (by (with_reducible repeat (first | refine blk_drewN ?_ _ | refine blk_drew ?_ | refine blk_alloc ?_ _)); exact BK248.out)) (below_size (by repeat (first | (with_reducible first | exact HB.out | apply below_alloc | apply pw_below_drewN | apply below_drew1 | refine below_set ?_ GE239.out | refine below_set ?_ GE240.out | refine below_set ?_ GE248.out) | exact HB.out)))); have n1_ := Aside0.mk (blk_below (g := gb239) (o := .cells #[.int .i64 t229, .int .i64 t230, .int .i64 t231, .int .i64 t232] 33 (0, 0)) (by (with_reducible repeat (first | refine blk_drewN ?_ _ | refine blk_drew ?_ | refine blk_alloc ?_ _)); exact BK239.out) hb); have n2_ := Aside0.mk (blk_below (g := gb240) (o := .cells #[.int .i64 t233, .int .i64 t234, .int .i64 t235, .int .i64 t236] 33 (0, 0)) (by (with_reducible repeat (first | refine blk_drewN ?_ _ | refine blk_drew ?_ | refine blk_alloc ?_ _)); exact BK240.out) hb); have n3_ := Aside0.mk (blk_below (g := gb248) (o := .cells #[.int .i64 t233, .int .i64 t234, .int .i64 t235, .int .i64 t237, .int .i64 t238, .int .i64 0] 35 (0, 0)) (by (with_reducible repeat (first | refine blk_drewN ?_ _ | refine blk_drew ?_ | refine blk_alloc ?_ _)); exact BK248.out) hb); have n4_ := Aside0.mk (below_step (by repeat (first | (with_reducible first | exact HB.out | apply below_alloc | apply pw_below_drewN | apply below_drew1 | refine below_set ?_ GE239.out | refine below_set ?_ GE240.out | refine below_set ?_ GE248.out) | exact HB.out)) hb); clear BK239; clear BK240; clear BK248; clear HB; have HO261 := n0_; have BK239 := n1_; have BK240 := n2_; have BK248 := n3_; have HB := n4_; clear n0_ n1_ n2_ n3_ n4_; clear hb ho160; obtain ⟨Ao161, co161, eo161⟩ := Kd.R_slice HO261.out; subst eo161) | ((with_reducible refine gate_callee (f := 27) rfl ?_); refine goesL_ (some 118) rfl rfl Try.func27 (by kernel_rfl) rfl #[.agg #[.int .i64 t229, .int .i64 t230, .int .i64 t231, .int .i64 t232], .slice Ao161 y259.length co161, .int .i64 600, .int .i64 100] rfl (by (try simp only [List.map_toArray, List.map_cons, List.map_nil]); first | done | rfl | (simp only [List.length_drop, List.length_take]; rfl)) ?_; (with_reducible refine (impl_Nearest.calls kj28 t229 t230 t231 t232 _ _ y259 600 100 t262 t263 _ ?side1 ?side2 A123.out).mono ?_); (case side1 => repeat (first | exact (Kd.R_reads' HO261.out).2.2 | (with_reducible refine Kd.C_alloc ?_ _) | (with_reducible refine Kd.C_drewN ?_ _) | (with_reducible refine Kd.C_drew ?_))); (case side2 => exact (Kd.R_reads' HO261.out).2.1); rintro e w162 ⟨rfl, hb⟩; refine ⟨_, rfl, ?_⟩; have n0_ := Aside0.mk (Kd.R_below (by (with_reducible repeat (first | apply Kd.R_alloc | apply Kd.R_drewN | apply Kd.R_drew)); exact HO261.out) hb); have n1_ := Aside0.mk (blk_below (g := gb239) (o := .cells #[.int .i64 t229, .int .i64 t230, .int .i64 t231, .int .i64 t232] 33 (0, 0)) (by (with_reducible repeat (first | refine blk_drewN ?_ _ | refine blk_drew ?_ | refine blk_alloc ?_ _)); exact BK239.out) hb); have n2_ := Aside0.mk (blk_below (g := gb240) (o := .cells #[.int .i64 t233, .int .i64 t234, .int .i64 t235, .int .i64 t236] 33 (0, 0)) (by (with_reducible repeat (first | refine blk_drewN ?_ _ | refine blk_drew ?_ | refine blk_alloc ?_ _)); exact BK240.out) hb); have n3_ := Aside0.mk (blk_below (g := gb248) (o := .cells #[.int .i64 t233, .int .i64 t234, .int .i64 t235, .int .i64 t237, .int .i64 t238, .int .i64 0] 35 (0, 0)) (by (with_reducible repeat (first | refine blk_drewN ?_ _ | refine blk_drew ?_ | refine blk_alloc ?_ _)); exact BK248.out) hb); have n4_ := Aside0.mk (below_step (by repeat (first | (with_reducible first | exact HB.out | apply below_alloc | apply pw_below_drewN | apply below_drew1 | refine below_set ?_ GE239.out | refine below_set ?_ GE240.out | refine below_set ?_ GE248.out) | exact HB.out)) hb); clear HO261; clear BK239; clear BK240; clear BK248; clear HB; have HO261 := n0_; have BK239 := n1_; have BK240 := n2_; have BK248 := n3_; have HB := n4_; clear n0_ n1_ n2_ n3_ n4_; (try clear hb); (try clear hb2); (try clear hk); (try clear hi)))
                    go_ret
                    exact ⟨by first | rfl | (simp [errW_none, errW_some] <;> rfl) | (simp [*, errW_none, errW_some] <;> rfl), by repeat (first | (with_reducible first | exact HB.out | apply below_alloc | apply pw_below_drewN | apply below_drew1 | refine below_set ?_ GE239.out | refine below_set ?_ GE240.out | refine below_set ?_ GE248.out) | exact HB.out)⟩

/-- THE ONE PURE STATEMENT of laws_FnSenses: yours. -/
def laws_FnSenses.Pure : Prop := ∀ (l0 : List Int), l0.length ≤ maxLen → l0.length * 1 ≤ 140737488351232 → (∀ x ∈ l0, (Lit.int .u8 x).wf = true) → ∃ k, laws_FnSenses.f k l0 = some true
theorem laws_FnSenses.walk (P : laws_FnSenses.Pure) (a0 : Option Addr) (len0 cap0 : Nat) (z0 : List Int) (w : World) (w0 : (a0 = none ∧ len0 = 0 ∧ cap0 = 0 ∧ z0 = []) ∨ ∃ x, a0 = some x ∧ len0 ≤ cap0 ∧ cap0 ≤ maxLen ∧ z0.length = cap0 ∧ (∀ i, i < z0.length → w.cell? (x.add i) = some (.int .u8 (z0.getD i 0))) ∧ ∀ n ∈ z0, (Lit.int .u8 n).wf = true) (y0 : len0 * 1 ≤ 140737488351232) :
    Calls Try.prog 7 #[.slice a0 len0 cap0] w fun e w' => e = .returned (.bool true) ∧ Below w.heap.size w w' := by
  obtain ⟨l0, rfl, hr0, hm0, hw0, hc0⟩ := ReadsInt.ofRowC w0
  obtain ⟨k, h⟩ := P l0 hm0 y0 hw0
  refine (laws_FnSenses.calls k _ _ l0 true w (Kd.C_of_reads (d := (0 : Int)) (h1 := fun _ => rfl) hr0) hc0 h).mono ?_
  rintro e w' ⟨rfl, hd⟩
  exact ⟨rfl, hd⟩

end Go.Proofs.Ythdldkkkehfedaa.PFnSenses
