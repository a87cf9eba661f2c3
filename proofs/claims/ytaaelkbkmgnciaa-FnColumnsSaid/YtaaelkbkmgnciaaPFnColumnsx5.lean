-- Written by a program of this session (wip/xprint.py) out of the translation; Lean checks it.
import Derived.Test.YtaaelkbkmgnciaaPFnColumnsx0
import Derived.Test.YtaaelkbkmgnciaaPFnColumnsx1
import Derived.Test.YtaaelkbkmgnciaaPFnColumnsx2
import Derived.Test.YtaaelkbkmgnciaaPFnColumnsx3
import Derived.Test.YtaaelkbkmgnciaaPFnColumnsx4
namespace Go.Proofs.Ytaaelkbkmgnciaa.PFnColumns
open Go.RowKit Go.Proofs.YtaaelkbkmgnciaaW.PrintWords Go.Proofs.YtaaelkbkmgnciaaW.PrintLast Go.Proofs.YtaaelkbkmgnciaaW.PrintMore Go.Proofs.Ytaaelkbkmgnciaa.Sq
attribute [local go_sem] max2_int min2_int max_two min_two max_three min_three max_four min_four   -- for this text's walks alone
set_option linter.unusedVariables false
set_option linter.unusedSimpArgs false

/-! ### laws_FnColumns: function 5 -/
mutual
def laws_FnColumns.j0 : Nat → List (List Int) → Int → Int → List Int → List Int → Bool → Option (Bool)
 | 0, _, _, _, _, _, _ => none
 | k + 1, x3, x8, x9, x10, x12, x110 => if x110 = true then (some false) else (laws_FnColumns.l0 k x3 x8 x9 x10 x12 0)
def laws_FnColumns.l0 : Nat → List (List Int) → Int → Int → List Int → List Int → Int → Option (Bool)
 | 0, _, _, _, _, _, _ => none
 | k + 1, x3, x8, x9, x10, x12, x16 => if x16 < (x10.length : Int) then (if 0 ≤ x16 then (if (rd x10 x16) > x9 then (if x16 = 0 then (if x16 < (x3.length : Int) then (if 0 ≤ x8 then (if x8 < ((rd_L2 x3 x16).length : Int) then (if (rd x10 x16) = (rd (rd_L2 x3 x16) x8) then ((laws_within.f k x12 x16).bind fun t271 => (if (true != t271) = true then (some false) else (laws_FnColumns.l0 k x3 x8 x9 x10 x12 (wrap64 (x16 + 1))))) else (some false)) else (none)) else (none)) else (none)) else (if 0 ≤ (wrap64 (x16 - 1)) then (if (wrap64 (x16 - 1)) < (x10.length : Int) then (if x16 < (x3.length : Int) then (if 0 ≤ x8 then (if x8 < ((rd_L2 x3 x16).length : Int) then (if (rd x10 x16) = (rd (rd_L2 x3 x16) x8) then ((laws_within.f k x12 x16).bind fun t276 => (if ((decide ((rd x10 (wrap64 (x16 - 1))) ≤ x9)) != t276) = true then (some false) else (laws_FnColumns.l0 k x3 x8 x9 x10 x12 (wrap64 (x16 + 1))))) else (some false)) else (none)) else (none)) else (none)) else (none)) else (none))) else (if x16 < (x3.length : Int) then (if 0 ≤ x8 then (if x8 < ((rd_L2 x3 x16).length : Int) then (if (rd x10 x16) = (rd (rd_L2 x3 x16) x8) then ((laws_within.f k x12 x16).bind fun t280 => (if (false != t280) = true then (some false) else (laws_FnColumns.l0 k x3 x8 x9 x10 x12 (wrap64 (x16 + 1))))) else (some false)) else (none)) else (none)) else (none))) else (none)) else (laws_FnColumns.l1 k x12 1)
def laws_FnColumns.l1 : Nat → List Int → Int → Option (Bool)
 | 0, _, _ => none
 | k + 1, x12, x18 => if x18 < (x12.length : Int) then (if 0 ≤ (wrap64 (x18 - 1)) then (if (wrap64 (x18 - 1)) < (x12.length : Int) then (if 0 ≤ x18 then (if (rd x12 (wrap64 (x18 - 1))) ≥ (rd x12 x18) then (some false) else (laws_FnColumns.l1 k x12 (wrap64 (x18 + 1)))) else (none)) else (none)) else (none)) else (some true)
end
def laws_FnColumns.f (k : Nat) (l0 : List Int) : Option (Bool) := (laws_big.f l0).bind fun t219 => (if t219 = true then (some true) else ((spec_DrawRecord.f k l0).bind fun t220 => (if (t220.length : Int) = 0 then ((impl_Column.f k t220 0).bind fun bt223 => ((impl_Events20.f k (([(([1] : List Int)), (([5] : List Int)), (([6] : List Int)), (([1] : List Int)), (([9] : List Int))] : List (List Int))) 0 4).bind fun bt245 => (if bt223.2 = true then (some false) else (if bt245.2 = true then (if (bt245.1.length : Int) = 2 then (if 0 < (bt245.1.length : Int) then (if (rd bt245.1 0) = 1 then (if 1 < (bt245.1.length : Int) then (some ((rd bt245.1 1) == 4)) else (none)) else (some false)) else (none)) else (some false)) else (some false))))) else ((laws_at.f l0 1).bind fun t251 => (if 0 < (t220.length : Int) then (if ((rd_L2 t220 0).length : Int) = 0 then (none) else ((laws_at.f l0 2).bind fun t253 => ((impl_Column.f k t220 (Int.tmod t251 ((rd_L2 t220 0).length : Int))).bind fun bt254 => ((impl_Events20.f k t220 (Int.tmod t251 ((rd_L2 t220 0).length : Int)) (wrap64 (t253 - 128))).bind fun bt258 => ((impl_Column.f k t220 ((rd_L2 t220 0).length : Int)).bind fun bt263 => (if bt254.2 = true then (if bt258.2 = true then (if bt263.2 = true then (laws_FnColumns.j0 k t220 (Int.tmod t251 ((rd_L2 t220 0).length : Int)) (wrap64 (t253 - 128)) bt254.1 bt258.1 true) else (laws_FnColumns.j0 k t220 (Int.tmod t251 ((rd_L2 t220 0).length : Int)) (wrap64 (t253 - 128)) bt254.1 bt258.1 ((bt254.1.length : Int) != (t220.length : Int)))) else (laws_FnColumns.j0 k t220 (Int.tmod t251 ((rd_L2 t220 0).length : Int)) (wrap64 (t253 - 128)) bt254.1 bt258.1 true)) else (laws_FnColumns.j0 k t220 (Int.tmod t251 ((rd_L2 t220 0).length : Int)) (wrap64 (t253 - 128)) bt254.1 bt258.1 true))))))) else (none))))))
theorem laws_FnColumns.mono_l : ∀ k, (∀ y0 y1 y2 y3 y4 y5, LeO (laws_FnColumns.j0 k y0 y1 y2 y3 y4 y5) (laws_FnColumns.j0 (k + 1) y0 y1 y2 y3 y4 y5)) ∧ (∀ y0 y1 y2 y3 y4 y5, LeO (laws_FnColumns.l0 k y0 y1 y2 y3 y4 y5) (laws_FnColumns.l0 (k + 1) y0 y1 y2 y3 y4 y5)) ∧ (∀ y0 y1, LeO (laws_FnColumns.l1 k y0 y1) (laws_FnColumns.l1 (k + 1) y0 y1))
 | 0 => ⟨fun _ _ _ _ _ _ r h => by simp [laws_FnColumns.j0] at h, fun _ _ _ _ _ _ r h => by simp [laws_FnColumns.l0] at h, fun _ _ r h => by simp [laws_FnColumns.l1] at h⟩
 | k + 1 => by
  obtain ⟨ih0, ih1, ih2⟩ := laws_FnColumns.mono_l k
  refine ⟨?_, ?_, ?_⟩
  ·
   intro y0 y1 y2 y3 y4 y5
   unfold laws_FnColumns.j0
   repeat' first
   | (with_reducible exact ih0 _ _ _ _ _ _)
   | (with_reducible exact ih1 _ _ _ _ _ _)
   | (with_reducible exact ih2 _ _)
   | (with_reducible exact impl_Column.mono _ _ _)
   | (with_reducible exact impl_Events20.mono _ _ _ _)
   | (with_reducible exact laws_within.mono _ _ _)
   | (with_reducible exact spec_DrawRecord.mono _ _)
   | (with_reducible exact LeO.refl _)
   | (with_reducible exact LeO.none _)
   | (with_reducible refine LeO.ite ?_ ?_)
   | (with_reducible refine LeO.bind ?_ (fun _ => ?_))
   | exact ih0 _ _ _ _ _ _
   | exact ih1 _ _ _ _ _ _
   | exact ih2 _ _
   | exact impl_Column.mono _ _ _
   | exact impl_Events20.mono _ _ _ _
   | exact laws_within.mono _ _ _
   | exact spec_DrawRecord.mono _ _
   | exact LeO.none _
   | refine LeO.ite ?_ ?_
   | refine LeO.bind ?_ (fun _ => ?_)
  ·
   intro y0 y1 y2 y3 y4 y5
   unfold laws_FnColumns.l0
   repeat' first
   | (with_reducible exact ih0 _ _ _ _ _ _)
   | (with_reducible exact ih1 _ _ _ _ _ _)
   | (with_reducible exact ih2 _ _)
   | (with_reducible exact impl_Column.mono _ _ _)
   | (with_reducible exact impl_Events20.mono _ _ _ _)
   | (with_reducible exact laws_within.mono _ _ _)
   | (with_reducible exact spec_DrawRecord.mono _ _)
   | (with_reducible exact LeO.refl _)
   | (with_reducible exact LeO.none _)
   | (with_reducible refine LeO.ite ?_ ?_)
   | (with_reducible refine LeO.bind ?_ (fun _ => ?_))
   | exact ih0 _ _ _ _ _ _
   | exact ih1 _ _ _ _ _ _
   | exact ih2 _ _
   | exact impl_Column.mono _ _ _
   | exact impl_Events20.mono _ _ _ _
   | exact laws_within.mono _ _ _
   | exact spec_DrawRecord.mono _ _
   | exact LeO.none _
   | refine LeO.ite ?_ ?_
   | refine LeO.bind ?_ (fun _ => ?_)
  ·
   intro y0 y1
   unfold laws_FnColumns.l1
   repeat' first
   | (with_reducible exact ih0 _ _ _ _ _ _)
   | (with_reducible exact ih1 _ _ _ _ _ _)
   | (with_reducible exact ih2 _ _)
   | (with_reducible exact impl_Column.mono _ _ _)
   | (with_reducible exact impl_Events20.mono _ _ _ _)
   | (with_reducible exact laws_within.mono _ _ _)
   | (with_reducible exact spec_DrawRecord.mono _ _)
   | (with_reducible exact LeO.refl _)
   | (with_reducible exact LeO.none _)
   | (with_reducible refine LeO.ite ?_ ?_)
   | (with_reducible refine LeO.bind ?_ (fun _ => ?_))
   | exact ih0 _ _ _ _ _ _
   | exact ih1 _ _ _ _ _ _
   | exact ih2 _ _
   | exact impl_Column.mono _ _ _
   | exact impl_Events20.mono _ _ _ _
   | exact laws_within.mono _ _ _
   | exact spec_DrawRecord.mono _ _
   | exact LeO.none _
   | refine LeO.ite ?_ ?_
   | refine LeO.bind ?_ (fun _ => ?_)
theorem laws_FnColumns.mono : ∀ a0 k, LeO (laws_FnColumns.f k a0) (laws_FnColumns.f (k + 1) a0) := by
 intro a0 k
 obtain ⟨ih0, ih1, ih2⟩ := laws_FnColumns.mono_l k
 unfold laws_FnColumns.f
 repeat' first
   | (with_reducible exact ih0 _ _ _ _ _ _)
   | (with_reducible exact ih1 _ _ _ _ _ _)
   | (with_reducible exact ih2 _ _)
   | (with_reducible exact impl_Column.mono _ _ _)
   | (with_reducible exact impl_Events20.mono _ _ _ _)
   | (with_reducible exact laws_within.mono _ _ _)
   | (with_reducible exact spec_DrawRecord.mono _ _)
   | (with_reducible exact LeO.refl _)
   | (with_reducible exact LeO.none _)
   | (with_reducible refine LeO.ite ?_ ?_)
   | (with_reducible refine LeO.bind ?_ (fun _ => ?_))
   | exact ih0 _ _ _ _ _ _
   | exact ih1 _ _ _ _ _ _
   | exact ih2 _ _
   | exact impl_Column.mono _ _ _
   | exact impl_Events20.mono _ _ _ _
   | exact laws_within.mono _ _ _
   | exact spec_DrawRecord.mono _ _
   | exact LeO.none _
   | refine LeO.ite ?_ ?_
   | refine LeO.bind ?_ (fun _ => ?_)
set_option maxHeartbeats 8000000 in
set_option maxRecDepth 100000 in
theorem laws_FnColumns.calls (k : Nat) (A0 : Option Addr) (c0 : Nat) (l0 : List Int) (r : Bool) (w : World) (hr0 : Kd.C (Kd.int .u8) w A0 l0.length l0) (hc0 : l0.length ≤ c0) (h : laws_FnColumns.f k l0 = some r) :
  Calls Try.prog 5 #[.slice A0 l0.length c0] w fun e w' => e = .returned (.bool r) ∧ Below w.heap.size w w' := by
 have HR0 := Aside0.mk hr0
 have HC0 := Aside0.mk hc0
 clear hr0 hc0
 have HB := Aside0.mk (Below.refl w.heap.size w)
 have H : ((laws_big.f l0).bind fun t219 => (if t219 = true then (some true) else ((spec_DrawRecord.f k l0).bind fun t220 => (if (t220.length : Int) = 0 then ((impl_Column.f k t220 0).bind fun bt223 => ((impl_Events20.f k (([(([1] : List Int)), (([5] : List Int)), (([6] : List Int)), (([1] : List Int)), (([9] : List Int))] : List (List Int))) 0 4).bind fun bt245 => (if bt223.2 = true then (some false) else (if bt245.2 = true then (if (bt245.1.length : Int) = 2 then (if 0 < (bt245.1.length : Int) then (if (rd bt245.1 0) = 1 then (if 1 < (bt245.1.length : Int) then (some ((rd bt245.1 1) == 4)) else (none)) else (some false)) else (none)) else (some false)) else (some false))))) else ((laws_at.f l0 1).bind fun t251 => (if 0 < (t220.length : Int) then (if ((rd_L2 t220 0).length : Int) = 0 then (none) else ((laws_at.f l0 2).bind fun t253 => ((impl_Column.f k t220 (Int.tmod t251 ((rd_L2 t220 0).length : Int))).bind fun bt254 => ((impl_Events20.f k t220 (Int.tmod t251 ((rd_L2 t220 0).length : Int)) (wrap64 (t253 - 128))).bind fun bt258 => ((impl_Column.f k t220 ((rd_L2 t220 0).length : Int)).bind fun bt263 => (if bt254.2 = true then (if bt258.2 = true then (if bt263.2 = true then (laws_FnColumns.j0 k t220 (Int.tmod t251 ((rd_L2 t220 0).length : Int)) (wrap64 (t253 - 128)) bt254.1 bt258.1 true) else (laws_FnColumns.j0 k t220 (Int.tmod t251 ((rd_L2 t220 0).length : Int)) (wrap64 (t253 - 128)) bt254.1 bt258.1 ((bt254.1.length : Int) != (t220.length : Int)))) else (laws_FnColumns.j0 k t220 (Int.tmod t251 ((rd_L2 t220 0).length : Int)) (wrap64 (t253 - 128)) bt254.1 bt258.1 true)) else (laws_FnColumns.j0 k t220 (Int.tmod t251 ((rd_L2 t220 0).length : Int)) (wrap64 (t253 - 128)) bt254.1 bt258.1 true))))))) else (none))))))) = some r := h
 clear h
 replace H := Option.bind_eq_some_iff.mp H
 obtain ⟨t219, A20, H⟩ := H
 replace H : (if t219 = true then (some true) else ((spec_DrawRecord.f k l0).bind fun t220 => (if (t220.length : Int) = 0 then ((impl_Column.f k t220 0).bind fun bt223 => ((impl_Events20.f k (([(([1] : List Int)), (([5] : List Int)), (([6] : List Int)), (([1] : List Int)), (([9] : List Int))] : List (List Int))) 0 4).bind fun bt245 => (if bt223.2 = true then (some false) else (if bt245.2 = true then (if (bt245.1.length : Int) = 2 then (if 0 < (bt245.1.length : Int) then (if (rd bt245.1 0) = 1 then (if 1 < (bt245.1.length : Int) then (some ((rd bt245.1 1) == 4)) else (none)) else (some false)) else (none)) else (some false)) else (some false))))) else ((laws_at.f l0 1).bind fun t251 => (if 0 < (t220.length : Int) then (if ((rd_L2 t220 0).length : Int) = 0 then (none) else ((laws_at.f l0 2).bind fun t253 => ((impl_Column.f k t220 (Int.tmod t251 ((rd_L2 t220 0).length : Int))).bind fun bt254 => ((impl_Events20.f k t220 (Int.tmod t251 ((rd_L2 t220 0).length : Int)) (wrap64 (t253 - 128))).bind fun bt258 => ((impl_Column.f k t220 ((rd_L2 t220 0).length : Int)).bind fun bt263 => (if bt254.2 = true then (if bt258.2 = true then (if bt263.2 = true then (laws_FnColumns.j0 k t220 (Int.tmod t251 ((rd_L2 t220 0).length : Int)) (wrap64 (t253 - 128)) bt254.1 bt258.1 true) else (laws_FnColumns.j0 k t220 (Int.tmod t251 ((rd_L2 t220 0).length : Int)) (wrap64 (t253 - 128)) bt254.1 bt258.1 ((bt254.1.length : Int) != (t220.length : Int)))) else (laws_FnColumns.j0 k t220 (Int.tmod t251 ((rd_L2 t220 0).length : Int)) (wrap64 (t253 - 128)) bt254.1 bt258.1 true)) else (laws_FnColumns.j0 k t220 (Int.tmod t251 ((rd_L2 t220 0).length : Int)) (wrap64 (t253 - 128)) bt254.1 bt258.1 true))))))) else (none)))))) = some r := H
 have A2 := Aside0.mk A20
 clear A20
 by_cases c3 : t219 = true
 ·
  subst c3
  have H1 : (some true) = some r := by rw [if_pos rfl] at H; exact H
  clear H
  have H := H1
  clear H1
  obtain rfl := Option.some.inj H
  go_enter Try.func5, Try.ntmps5
  go_wp2_with (first | (go_at_call 18; (with_reducible refine (laws_big.calls _ _ l0 true _ ?side1 ?side2 A2.out).mono ?_); (case side1 => exact rc HR0.out); (case side2 => exact HC0.out); rintro e w' ⟨rfl, ⟨nd, rfl⟩⟩; (try first | exact ⟨rfl, _, World.drewN_drewN _ _ _⟩ | exact ⟨rfl, _, Eq.trans (World.drewN_drewN _ _ _) (congrArg (World.drewN _) (Nat.add_assoc _ _ _))⟩)))
  repeat (go_quiet (first | (go_at_call 18; (with_reducible refine (laws_big.calls _ _ l0 true _ ?side1 ?side2 A2.out).mono ?_); (case side1 => exact rc HR0.out); (case side2 => exact HC0.out); rintro e w' ⟨rfl, ⟨nd, rfl⟩⟩; (try first | exact ⟨rfl, _, World.drewN_drewN _ _ _⟩ | exact ⟨rfl, _, Eq.trans (World.drewN_drewN _ _ _) (congrArg (World.drewN _) (Nat.add_assoc _ _ _))⟩))); try go_wp2_with (first | (go_at_call 18; (with_reducible refine (laws_big.calls _ _ l0 true _ ?side1 ?side2 A2.out).mono ?_); (case side1 => exact rc HR0.out); (case side2 => exact HC0.out); rintro e w' ⟨rfl, ⟨nd, rfl⟩⟩; (try first | exact ⟨rfl, _, World.drewN_drewN _ _ _⟩ | exact ⟨rfl, _, Eq.trans (World.drewN_drewN _ _ _) (congrArg (World.drewN _) (Nat.add_assoc _ _ _))⟩))))
  go_ret
  exact ⟨by first | rfl | (simp [errW_none, errW_some] <;> rfl) | (simp [*, errW_none, errW_some] <;> rfl), bl HB.out⟩
 ·
  replace c3 := Bool.eq_false_iff.mpr c3
  subst c3
  have H1 : ((spec_DrawRecord.f k l0).bind fun t220 => (if (t220.length : Int) = 0 then ((impl_Column.f k t220 0).bind fun bt223 => ((impl_Events20.f k (([(([1] : List Int)), (([5] : List Int)), (([6] : List Int)), (([1] : List Int)), (([9] : List Int))] : List (List Int))) 0 4).bind fun bt245 => (if bt223.2 = true then (some false) else (if bt245.2 = true then (if (bt245.1.length : Int) = 2 then (if 0 < (bt245.1.length : Int) then (if (rd bt245.1 0) = 1 then (if 1 < (bt245.1.length : Int) then (some ((rd bt245.1 1) == 4)) else (none)) else (some false)) else (none)) else (some false)) else (some false))))) else ((laws_at.f l0 1).bind fun t251 => (if 0 < (t220.length : Int) then (if ((rd_L2 t220 0).length : Int) = 0 then (none) else ((laws_at.f l0 2).bind fun t253 => ((impl_Column.f k t220 (Int.tmod t251 ((rd_L2 t220 0).length : Int))).bind fun bt254 => ((impl_Events20.f k t220 (Int.tmod t251 ((rd_L2 t220 0).length : Int)) (wrap64 (t253 - 128))).bind fun bt258 => ((impl_Column.f k t220 ((rd_L2 t220 0).length : Int)).bind fun bt263 => (if bt254.2 = true then (if bt258.2 = true then (if bt263.2 = true then (laws_FnColumns.j0 k t220 (Int.tmod t251 ((rd_L2 t220 0).length : Int)) (wrap64 (t253 - 128)) bt254.1 bt258.1 true) else (laws_FnColumns.j0 k t220 (Int.tmod t251 ((rd_L2 t220 0).length : Int)) (wrap64 (t253 - 128)) bt254.1 bt258.1 ((bt254.1.length : Int) != (t220.length : Int)))) else (laws_FnColumns.j0 k t220 (Int.tmod t251 ((rd_L2 t220 0).length : Int)) (wrap64 (t253 - 128)) bt254.1 bt258.1 true)) else (laws_FnColumns.j0 k t220 (Int.tmod t251 ((rd_L2 t220 0).length : Int)) (wrap64 (t253 - 128)) bt254.1 bt258.1 true))))))) else (none))))) = some r := by rw [if_neg (show ¬ (false = true) by decide)] at H; exact H
  clear H
  have H := H1
  clear H1
  replace H := Option.bind_eq_some_iff.mp H
  obtain ⟨t220, A40, H⟩ := H
  replace H : (if (t220.length : Int) = 0 then ((impl_Column.f k t220 0).bind fun bt223 => ((impl_Events20.f k (([(([1] : List Int)), (([5] : List Int)), (([6] : List Int)), (([1] : List Int)), (([9] : List Int))] : List (List Int))) 0 4).bind fun bt245 => (if bt223.2 = true then (some false) else (if bt245.2 = true then (if (bt245.1.length : Int) = 2 then (if 0 < (bt245.1.length : Int) then (if (rd bt245.1 0) = 1 then (if 1 < (bt245.1.length : Int) then (some ((rd bt245.1 1) == 4)) else (none)) else (some false)) else (none)) else (some false)) else (some false))))) else ((laws_at.f l0 1).bind fun t251 => (if 0 < (t220.length : Int) then (if ((rd_L2 t220 0).length : Int) = 0 then (none) else ((laws_at.f l0 2).bind fun t253 => ((impl_Column.f k t220 (Int.tmod t251 ((rd_L2 t220 0).length : Int))).bind fun bt254 => ((impl_Events20.f k t220 (Int.tmod t251 ((rd_L2 t220 0).length : Int)) (wrap64 (t253 - 128))).bind fun bt258 => ((impl_Column.f k t220 ((rd_L2 t220 0).length : Int)).bind fun bt263 => (if bt254.2 = true then (if bt258.2 = true then (if bt263.2 = true then (laws_FnColumns.j0 k t220 (Int.tmod t251 ((rd_L2 t220 0).length : Int)) (wrap64 (t253 - 128)) bt254.1 bt258.1 true) else (laws_FnColumns.j0 k t220 (Int.tmod t251 ((rd_L2 t220 0).length : Int)) (wrap64 (t253 - 128)) bt254.1 bt258.1 ((bt254.1.length : Int) != (t220.length : Int)))) else (laws_FnColumns.j0 k t220 (Int.tmod t251 ((rd_L2 t220 0).length : Int)) (wrap64 (t253 - 128)) bt254.1 bt258.1 true)) else (laws_FnColumns.j0 k t220 (Int.tmod t251 ((rd_L2 t220 0).length : Int)) (wrap64 (t253 - 128)) bt254.1 bt258.1 true))))))) else (none)))) = some r := H
  have A4 := Aside0.mk A40
  clear A40
  by_cases c5 : (t220.length : Int) = 0
  ·
   rw [if_pos c5] at H
   have c5b0 : ((t220.length : Int) == 0) = true := beq_iff_eq.mpr c5
   have c5b1 : ((t220.length : Int) != 0) = false := bne_eq_false_iff_eq.mpr c5
   clear c5
   replace H := Option.bind_eq_some_iff.mp H
   obtain ⟨⟨t223, t224⟩, A60, H⟩ := H
   replace H : ((impl_Events20.f k (([(([1] : List Int)), (([5] : List Int)), (([6] : List Int)), (([1] : List Int)), (([9] : List Int))] : List (List Int))) 0 4).bind fun bt245 => (if t224 = true then (some false) else (if bt245.2 = true then (if (bt245.1.length : Int) = 2 then (if 0 < (bt245.1.length : Int) then (if (rd bt245.1 0) = 1 then (if 1 < (bt245.1.length : Int) then (some ((rd bt245.1 1) == 4)) else (none)) else (some false)) else (none)) else (some false)) else (some false)))) = some r := H
   have A6 := Aside0.mk A60
   clear A60
   obtain ⟨y227, hy227⟩ : ∃ y_ : List Int, y_ = (([1] : List Int)) := ⟨_, rfl⟩
   replace H : ((impl_Events20.f k (([y227, (([5] : List Int)), (([6] : List Int)), (([1] : List Int)), (([9] : List Int))] : List (List Int))) 0 4).bind fun bt245 => (if t224 = true then (some false) else (if bt245.2 = true then (if (bt245.1.length : Int) = 2 then (if 0 < (bt245.1.length : Int) then (if (rd bt245.1 0) = 1 then (if 1 < (bt245.1.length : Int) then (some ((rd bt245.1 1) == 4)) else (none)) else (some false)) else (none)) else (some false)) else (some false)))) = some r := by first | (rw [hy227]; with_reducible exact H) | (have H2_ := (Option.bind_some _ _).symm.trans H; rw [hy227]; with_reducible exact H2_) | (have H2_ := (Option.bind_some _ _).symm.trans H; with_reducible exact H2_) | with_reducible exact H | (rw [hy227]; exact H) | exact H
   have Ny227 := Aside0.mk hy227
   clear hy227
   obtain ⟨y230, hy230⟩ : ∃ y_ : List Int, y_ = (([5] : List Int)) := ⟨_, rfl⟩
   replace H : ((impl_Events20.f k (([y227, y230, (([6] : List Int)), (([1] : List Int)), (([9] : List Int))] : List (List Int))) 0 4).bind fun bt245 => (if t224 = true then (some false) else (if bt245.2 = true then (if (bt245.1.length : Int) = 2 then (if 0 < (bt245.1.length : Int) then (if (rd bt245.1 0) = 1 then (if 1 < (bt245.1.length : Int) then (some ((rd bt245.1 1) == 4)) else (none)) else (some false)) else (none)) else (some false)) else (some false)))) = some r := by first | (rw [hy230]; with_reducible exact H) | (have H2_ := (Option.bind_some _ _).symm.trans H; rw [hy230]; with_reducible exact H2_) | (have H2_ := (Option.bind_some _ _).symm.trans H; with_reducible exact H2_) | with_reducible exact H | (rw [hy230]; exact H) | exact H
   have Ny230 := Aside0.mk hy230
   clear hy230
   obtain ⟨y233, hy233⟩ : ∃ y_ : List Int, y_ = (([6] : List Int)) := ⟨_, rfl⟩
   replace H : ((impl_Events20.f k (([y227, y230, y233, (([1] : List Int)), (([9] : List Int))] : List (List Int))) 0 4).bind fun bt245 => (if t224 = true then (some false) else (if bt245.2 = true then (if (bt245.1.length : Int) = 2 then (if 0 < (bt245.1.length : Int) then (if (rd bt245.1 0) = 1 then (if 1 < (bt245.1.length : Int) then (some ((rd bt245.1 1) == 4)) else (none)) else (some false)) else (none)) else (some false)) else (some false)))) = some r := by first | (rw [hy233]; with_reducible exact H) | (have H2_ := (Option.bind_some _ _).symm.trans H; rw [hy233]; with_reducible exact H2_) | (have H2_ := (Option.bind_some _ _).symm.trans H; with_reducible exact H2_) | with_reducible exact H | (rw [hy233]; exact H) | exact H
   have Ny233 := Aside0.mk hy233
   clear hy233
   obtain ⟨y236, hy236⟩ : ∃ y_ : List Int, y_ = (([1] : List Int)) := ⟨_, rfl⟩
   replace H : ((impl_Events20.f k (([y227, y230, y233, y236, (([9] : List Int))] : List (List Int))) 0 4).bind fun bt245 => (if t224 = true then (some false) else (if bt245.2 = true then (if (bt245.1.length : Int) = 2 then (if 0 < (bt245.1.length : Int) then (if (rd bt245.1 0) = 1 then (if 1 < (bt245.1.length : Int) then (some ((rd bt245.1 1) == 4)) else (none)) else (some false)) else (none)) else (some false)) else (some false)))) = some r := by first | (rw [hy236]; with_reducible exact H) | (have H2_ := (Option.bind_some _ _).symm.trans H; rw [hy236]; with_reducible exact H2_) | (have H2_ := (Option.bind_some _ _).symm.trans H; with_reducible exact H2_) | with_reducible exact H | (rw [hy236]; exact H) | exact H
   have Ny236 := Aside0.mk hy236
   clear hy236
   obtain ⟨y239, hy239⟩ : ∃ y_ : List Int, y_ = (([9] : List Int)) := ⟨_, rfl⟩
   replace H : ((impl_Events20.f k (([y227, y230, y233, y236, y239] : List (List Int))) 0 4).bind fun bt245 => (if t224 = true then (some false) else (if bt245.2 = true then (if (bt245.1.length : Int) = 2 then (if 0 < (bt245.1.length : Int) then (if (rd bt245.1 0) = 1 then (if 1 < (bt245.1.length : Int) then (some ((rd bt245.1 1) == 4)) else (none)) else (some false)) else (none)) else (some false)) else (some false)))) = some r := by first | (rw [hy239]; with_reducible exact H) | (have H2_ := (Option.bind_some _ _).symm.trans H; rw [hy239]; with_reducible exact H2_) | (have H2_ := (Option.bind_some _ _).symm.trans H; with_reducible exact H2_) | with_reducible exact H | (rw [hy239]; exact H) | exact H
   have Ny239 := Aside0.mk hy239
   clear hy239
   obtain ⟨y242, hy242⟩ : ∃ y_ : List (List Int), y_ = (([y227, y230, y233, y236, y239] : List (List Int))) := ⟨_, rfl⟩
   replace H : ((impl_Events20.f k y242 0 4).bind fun bt245 => (if t224 = true then (some false) else (if bt245.2 = true then (if (bt245.1.length : Int) = 2 then (if 0 < (bt245.1.length : Int) then (if (rd bt245.1 0) = 1 then (if 1 < (bt245.1.length : Int) then (some ((rd bt245.1 1) == 4)) else (none)) else (some false)) else (none)) else (some false)) else (some false)))) = some r := by first | (rw [hy242]; with_reducible exact H) | (have H2_ := (Option.bind_some _ _).symm.trans H; rw [hy242]; with_reducible exact H2_) | (have H2_ := (Option.bind_some _ _).symm.trans H; with_reducible exact H2_) | with_reducible exact H | (rw [hy242]; exact H) | exact H
   have Ny242 := Aside0.mk hy242
   clear hy242
   replace H := Option.bind_eq_some_iff.mp H
   obtain ⟨⟨t245, t246⟩, A70, H⟩ := H
   replace H : (if t224 = true then (some false) else (if t246 = true then (if (t245.length : Int) = 2 then (if 0 < (t245.length : Int) then (if (rd t245 0) = 1 then (if 1 < (t245.length : Int) then (some ((rd t245 1) == 4)) else (none)) else (some false)) else (none)) else (some false)) else (some false))) = some r := H
   have A7 := Aside0.mk A70
   clear A70
   by_cases c8 : t224 = true
   ·
    subst c8
    have H1 : (some false) = some r := by rw [if_pos rfl] at H; exact H
    clear H
    have H := H1
    clear H1
    obtain rfl := Option.some.inj H
    go_enter Try.func5, Try.ntmps5
    go_wp2_with (first | (go_at_call 18; (with_reducible refine (laws_big.calls _ _ l0 false _ ?side1 ?side2 A2.out).mono ?_); (case side1 => exact rc HR0.out); (case side2 => exact HC0.out); rintro e w' ⟨rfl, ⟨nd, rfl⟩⟩; (try first | exact ⟨rfl, _, World.drewN_drewN _ _ _⟩ | exact ⟨rfl, _, Eq.trans (World.drewN_drewN _ _ _) (congrArg (World.drewN _) (Nat.add_assoc _ _ _))⟩)) | (go_at_call 19; (with_reducible refine (spec_DrawRecord.calls k _ _ l0 t220 _ ?side1 ?side2 A4.out).mono ?_); (case side1 => exact rc HR0.out); (case side2 => exact HC0.out); rintro e w9 ⟨v221, rfl, ho0, hb⟩; have n0_ := Aside0.mk (Kd.N_lower (Kd.N_mono (ok' := fun k_ => True) (Kd.S_N (Kd.S_bound ho0)) (fun k_ hk_ => trivial)) (below_size (bl HB.out))); have n1_ := Aside0.mk (below_step (bl HB.out) hb); clear HB; have HO222 := n0_; have HB := n1_; clear n0_ n1_; (try clear hb); (try clear hb2); (try clear hk); (try clear hi); (try clear ho0); obtain ⟨Ao10, co10, eo10⟩ := Kd.N_slice HO222.out; subst eo10) | (go_at_call 20; (with_reducible refine (impl_Column.calls k _ _ t220 0 t223 true _ ?side1 ?side2 A6.out).mono ?_); (case side1 => repeat (first | exact (Kd.N_reads' HO222.out).2.2 | (with_reducible refine Kd.C_alloc ?_ _) | (with_reducible refine Kd.C_drewN ?_ _) | (with_reducible refine Kd.C_drew ?_))); (case side2 => exact (Kd.N_reads' HO222.out).2.1); rintro e w11 ⟨v225, rfl, ho0, hb⟩; have n0_ := Aside0.mk (Kd.N_elder' (by (with_reducible repeat (first | apply Kd.N_alloc | apply Kd.N_drewN | apply Kd.N_drew)); exact HO222.out) (Kd.R_base ho0) hb); have n1_ := Aside0.mk (Kd.R_lower ho0 (below_size (bl HB.out))); have n2_ := Aside0.mk (below_step (bl HB.out) hb); clear HO222; clear HB; have HO222 := n0_; have HO226 := n1_; have HB := n2_; clear n0_ n1_ n2_; (try clear hb); (try clear hb2); (try clear hk); (try clear hi); (try clear ho0)) | ((with_reducible refine gate_dst (N := 32) rfl ?_); (try (refine gate_guard (by rfl) ?_; dsimp only)); refine Kd.R_lit (Kd.int .i64) _ 3 ?hg (N := 32) ?hd (xs := ([1] : List Int)) (inner := [.int .i64 1]) (ok := fun _ => True) (okp := fun _ => True) ?hr ?hp (fun _ hk => hk) trivial (Below.refl _ _) (Nat.le_refl _) (by simp) ?_; (case hd => rfl); (case hg => rfl); (case hr => first | (go_simp; done) | (go_simp; rfl)); (case hp => exact (Reps.one (show Kd.M (Kd.int .i64) _ _ _ 1 [.int .i64 1] from rfl) (Reps.none _ _))); intro v228 w12 ho13 hb hg_ hnew_; clear hg_ hnew_; (first | rw [← Ny227.out] at ho13 | (simp only [Int.reduceToNat] at ho13; rw [← Ny227.out] at ho13)); have n0_ := Aside0.mk (Kd.N_elder' (by (with_reducible repeat (first | apply Kd.N_alloc | apply Kd.N_drewN | apply Kd.N_drew)); exact HO222.out) (Kd.R_base ho13) hb); have n1_ := Aside0.mk (Kd.R_elder' (rl HO226.out) (Kd.R_base ho13) hb); have n2_ := Aside0.mk (Kd.R_lower (Kd.R_new' ho13 (Kd.R_lt (by (repeat apply rl1); exact HO226.out))) (below_size (bl HB.out))); have n3_ := Aside0.mk (below_step (bl HB.out) hb); clear HO222; clear HO226; clear HB; have HO222 := n0_; have HO226 := n1_; have HO229 := n2_; have HB := n3_; clear n0_ n1_ n2_ n3_; clear hb ho13) | ((with_reducible refine gate_dst (N := 33) rfl ?_); (try (refine gate_guard (by rfl) ?_; dsimp only)); refine Kd.R_lit (Kd.int .i64) _ 3 ?hg (N := 33) ?hd (xs := ([5] : List Int)) (inner := [.int .i64 5]) (ok := fun _ => True) (okp := fun _ => True) ?hr ?hp (fun _ hk => hk) trivial (Below.refl _ _) (Nat.le_refl _) (by simp) ?_; (case hd => rfl); (case hg => rfl); (case hr => first | (go_simp; done) | (go_simp; rfl)); (case hp => exact (Reps.one (show Kd.M (Kd.int .i64) _ _ _ 5 [.int .i64 5] from rfl) (Reps.none _ _))); intro v231 w14 ho15 hb hg_ hnew_; clear hg_ hnew_; (first | rw [← Ny230.out] at ho15 | (simp only [Int.reduceToNat] at ho15; rw [← Ny230.out] at ho15)); have n0_ := Aside0.mk (Kd.N_elder' (by (with_reducible repeat (first | apply Kd.N_alloc | apply Kd.N_drewN | apply Kd.N_drew)); exact HO222.out) (Kd.R_base ho15) hb); have n1_ := Aside0.mk (Kd.R_elder' (rl HO226.out) (Kd.R_base ho15) hb); have n2_ := Aside0.mk (Kd.R_elder' (rl HO229.out) (Kd.R_base ho15) hb); have n3_ := Aside0.mk (Kd.R_lower (Kd.R_new' (Kd.R_new' ho15 (Kd.R_lt (by (repeat apply rl1); exact HO226.out))) (Kd.R_lt (by (repeat apply rl1); exact HO229.out))) (below_size (bl HB.out))); have n4_ := Aside0.mk (below_step (bl HB.out) hb); clear HO222; clear HO226; clear HO229; clear HB; have HO222 := n0_; have HO226 := n1_; have HO229 := n2_; have HO232 := n3_; have HB := n4_; clear n0_ n1_ n2_ n3_ n4_; clear hb ho15) | ((with_reducible refine gate_dst (N := 34) rfl ?_); (try (refine gate_guard (by rfl) ?_; dsimp only)); refine Kd.R_lit (Kd.int .i64) _ 3 ?hg (N := 34) ?hd (xs := ([6] : List Int)) (inner := [.int .i64 6]) (ok := fun _ => True) (okp := fun _ => True) ?hr ?hp (fun _ hk => hk) trivial (Below.refl _ _) (Nat.le_refl _) (by simp) ?_; (case hd => rfl); (case hg => rfl); (case hr => first | (go_simp; done) | (go_simp; rfl)); (case hp => exact (Reps.one (show Kd.M (Kd.int .i64) _ _ _ 6 [.int .i64 6] from rfl) (Reps.none _ _))); intro v234 w16 ho17 hb hg_ hnew_; clear hg_ hnew_; (first | rw [← Ny233.out] at ho17 | (simp only [Int.reduceToNat] at ho17; rw [← Ny233.out] at ho17)); have n0_ := Aside0.mk (Kd.N_elder' (by (with_reducible repeat (first | apply Kd.N_alloc | apply Kd.N_drewN | apply Kd.N_drew)); exact HO222.out) (Kd.R_base ho17) hb); have n1_ := Aside0.mk (Kd.R_elder' (rl HO226.out) (Kd.R_base ho17) hb); have n2_ := Aside0.mk (Kd.R_elder' (rl HO229.out) (Kd.R_base ho17) hb); have n3_ := Aside0.mk (Kd.R_elder' (rl HO232.out) (Kd.R_base ho17) hb); have n4_ := Aside0.mk (Kd.R_lower (Kd.R_new' (Kd.R_new' (Kd.R_new' ho17 (Kd.R_lt (by (repeat apply rl1); exact HO226.out))) (Kd.R_lt (by (repeat apply rl1); exact HO229.out))) (Kd.R_lt (by (repeat apply rl1); exact HO232.out))) (below_size (bl HB.out))); have n5_ := Aside0.mk (below_step (bl HB.out) hb); clear HO222; clear HO226; clear HO229; clear HO232; clear HB; have HO222 := n0_; have HO226 := n1_; have HO229 := n2_; have HO232 := n3_; have HO235 := n4_; have HB := n5_; clear n0_ n1_ n2_ n3_ n4_ n5_; clear hb ho17) | ((with_reducible refine gate_dst (N := 35) rfl ?_); (try (refine gate_guard (by rfl) ?_; dsimp only)); refine Kd.R_lit (Kd.int .i64) _ 3 ?hg (N := 35) ?hd (xs := ([1] : List Int)) (inner := [.int .i64 1]) (ok := fun _ => True) (okp := fun _ => True) ?hr ?hp (fun _ hk => hk) trivial (Below.refl _ _) (Nat.le_refl _) (by simp) ?_; (case hd => rfl); (case hg => rfl); (case hr => first | (go_simp; done) | (go_simp; rfl)); (case hp => exact (Reps.one (show Kd.M (Kd.int .i64) _ _ _ 1 [.int .i64 1] from rfl) (Reps.none _ _))); intro v237 w18 ho19 hb hg_ hnew_; clear hg_ hnew_; (first | rw [← Ny236.out] at ho19 | (simp only [Int.reduceToNat] at ho19; rw [← Ny236.out] at ho19)); have n0_ := Aside0.mk (Kd.N_elder' (by (with_reducible repeat (first | apply Kd.N_alloc | apply Kd.N_drewN | apply Kd.N_drew)); exact HO222.out) (Kd.R_base ho19) hb); have n1_ := Aside0.mk (Kd.R_elder' (rl HO226.out) (Kd.R_base ho19) hb); have n2_ := Aside0.mk (Kd.R_elder' (rl HO229.out) (Kd.R_base ho19) hb); have n3_ := Aside0.mk (Kd.R_elder' (rl HO232.out) (Kd.R_base ho19) hb); have n4_ := Aside0.mk (Kd.R_elder' (rl HO235.out) (Kd.R_base ho19) hb); have n5_ := Aside0.mk (Kd.R_lower (Kd.R_new' (Kd.R_new' (Kd.R_new' (Kd.R_new' ho19 (Kd.R_lt (by (repeat apply rl1); exact HO226.out))) (Kd.R_lt (by (repeat apply rl1); exact HO229.out))) (Kd.R_lt (by (repeat apply rl1); exact HO232.out))) (Kd.R_lt (by (repeat apply rl1); exact HO235.out))) (below_size (bl HB.out))); have n6_ := Aside0.mk (below_step (bl HB.out) hb); clear HO222; clear HO226; clear HO229; clear HO232; clear HO235; clear HB; have HO222 := n0_; have HO226 := n1_; have HO229 := n2_; have HO232 := n3_; have HO235 := n4_; have HO238 := n5_; have HB := n6_; clear n0_ n1_ n2_ n3_ n4_ n5_ n6_; clear hb ho19) | ((with_reducible refine gate_dst (N := 36) rfl ?_); (try (refine gate_guard (by rfl) ?_; dsimp only)); refine Kd.R_lit (Kd.int .i64) _ 3 ?hg (N := 36) ?hd (xs := ([9] : List Int)) (inner := [.int .i64 9]) (ok := fun _ => True) (okp := fun _ => True) ?hr ?hp (fun _ hk => hk) trivial (Below.refl _ _) (Nat.le_refl _) (by simp) ?_; (case hd => rfl); (case hg => rfl); (case hr => first | (go_simp; done) | (go_simp; rfl)); (case hp => exact (Reps.one (show Kd.M (Kd.int .i64) _ _ _ 9 [.int .i64 9] from rfl) (Reps.none _ _))); intro v240 w20 ho21 hb hg_ hnew_; clear hg_ hnew_; (first | rw [← Ny239.out] at ho21 | (simp only [Int.reduceToNat] at ho21; rw [← Ny239.out] at ho21)); have n0_ := Aside0.mk (Kd.N_elder' (by (with_reducible repeat (first | apply Kd.N_alloc | apply Kd.N_drewN | apply Kd.N_drew)); exact HO222.out) (Kd.R_base ho21) hb); have n1_ := Aside0.mk (Kd.R_elder' (rl HO226.out) (Kd.R_base ho21) hb); have n2_ := Aside0.mk (Kd.R_elder' (rl HO229.out) (Kd.R_base ho21) hb); have n3_ := Aside0.mk (Kd.R_elder' (rl HO232.out) (Kd.R_base ho21) hb); have n4_ := Aside0.mk (Kd.R_elder' (rl HO235.out) (Kd.R_base ho21) hb); have n5_ := Aside0.mk (Kd.R_elder' (rl HO238.out) (Kd.R_base ho21) hb); have n6_ := Aside0.mk (Kd.R_lower (Kd.R_new' (Kd.R_new' (Kd.R_new' (Kd.R_new' (Kd.R_new' ho21 (Kd.R_lt (by (repeat apply rl1); exact HO226.out))) (Kd.R_lt (by (repeat apply rl1); exact HO229.out))) (Kd.R_lt (by (repeat apply rl1); exact HO232.out))) (Kd.R_lt (by (repeat apply rl1); exact HO235.out))) (Kd.R_lt (by (repeat apply rl1); exact HO238.out))) (below_size (bl HB.out))); have n7_ := Aside0.mk (below_step (bl HB.out) hb); clear HO222; clear HO226; clear HO229; clear HO232; clear HO235; clear HO238; clear HB; have HO222 := n0_; have HO226 := n1_; have HO229 := n2_; have HO232 := n3_; have HO235 := n4_; have HO238 := n5_; have HO241 := n6_; have HB := n7_; clear n0_ n1_ n2_ n3_ n4_ n5_ n6_ n7_; clear hb ho21; obtain ⟨Ao22, co22, eo22⟩ := Kd.R_slice HO229.out; subst eo22; obtain ⟨Ao23, co23, eo23⟩ := Kd.R_slice HO232.out; subst eo23; obtain ⟨Ao24, co24, eo24⟩ := Kd.R_slice HO235.out; subst eo24; obtain ⟨Ao25, co25, eo25⟩ := Kd.R_slice HO238.out; subst eo25; obtain ⟨Ao26, co26, eo26⟩ := Kd.R_slice HO241.out; subst eo26) | ((with_reducible refine gate_dst (N := 37) rfl ?_); (try (refine gate_guard (by rfl) ?_; dsimp only)); refine Kd.N_lit (Kd.slice 3 (Kd.int .i64)) _ 32 ?hg (N' := 37) ?hd (xs := ([y227, y230, y233, y236, y239] : List (List Int))) (inner := [.slice Ao22 y227.length co22, .slice Ao23 y230.length co23, .slice Ao24 y233.length co24, .slice Ao25 y236.length co25, .slice Ao26 y239.length co26]) (ok := (fun k_ => some k_ ≠ (.slice Ao10 t220.length co10 : Value).ownBlock ∧ some k_ ≠ (v225 : Value).ownBlock)) (okp := (fun k_ => some k_ ≠ (.slice Ao10 t220.length co10 : Value).ownBlock ∧ some k_ ≠ (v225 : Value).ownBlock)) ?hr ?hp (fun _ hk => hk) ((show ∀ k_, w20.heap.size ≤ k_ → (fun k_ => some k_ ≠ (.slice Ao10 t220.length co10 : Value).ownBlock ∧ some k_ ≠ (v225 : Value).ownBlock) k_ from fun k_ hk => ⟨Kd.fresh' (Kd.N_lt (by (with_reducible repeat (first | apply Kd.N_alloc | apply Kd.N_drewN | apply Kd.N_drew)); exact HO222.out)) k_ hk, Kd.fresh' (Kd.R_lt (by (repeat apply rl1); exact HO226.out)) k_ hk⟩) _ (Nat.le_refl _)) (Below.refl _ _) (Nat.le_refl _) (by simp) ?_; (case hd => rfl); (case hg => rfl); (case hr => first | (go_simp; done) | (go_simp; rfl)); (case hp => exact (Reps.one (show Kd.FK (Kd.slice 3 (Kd.int .i64)) _ _ y227 [.slice Ao22 y227.length co22] from (Kd.FK_slice_mk (Kd.R_reads' (Kd.R_mono (ok' := (fun k_ => some k_ ≠ (.slice Ao10 t220.length co10 : Value).ownBlock ∧ some k_ ≠ (v225 : Value).ownBlock)) (Kd.R_apart' (HO229.out) (Kd.N_typed HO222.out) (by decide)) (fun k_ hk => ⟨hk.2, hk.1.1.1.1.1.2⟩))).2.1 (Kd.R_F (Kd.R_mono (ok' := (fun k_ => some k_ ≠ (.slice Ao10 t220.length co10 : Value).ownBlock ∧ some k_ ≠ (v225 : Value).ownBlock)) (Kd.R_apart' (HO229.out) (Kd.N_typed HO222.out) (by decide)) (fun k_ hk => ⟨hk.2, hk.1.1.1.1.1.2⟩))))) (Reps.one (show Kd.FK (Kd.slice 3 (Kd.int .i64)) _ _ y230 [.slice Ao23 y230.length co23] from (Kd.FK_slice_mk (Kd.R_reads' (Kd.R_mono (ok' := (fun k_ => some k_ ≠ (.slice Ao10 t220.length co10 : Value).ownBlock ∧ some k_ ≠ (v225 : Value).ownBlock)) (Kd.R_apart' (HO232.out) (Kd.N_typed HO222.out) (by decide)) (fun k_ hk => ⟨hk.2, hk.1.1.1.1.1.2⟩))).2.1 (Kd.R_F (Kd.R_mono (ok' := (fun k_ => some k_ ≠ (.slice Ao10 t220.length co10 : Value).ownBlock ∧ some k_ ≠ (v225 : Value).ownBlock)) (Kd.R_apart' (HO232.out) (Kd.N_typed HO222.out) (by decide)) (fun k_ hk => ⟨hk.2, hk.1.1.1.1.1.2⟩))))) (Reps.one (show Kd.FK (Kd.slice 3 (Kd.int .i64)) _ _ y233 [.slice Ao24 y233.length co24] from (Kd.FK_slice_mk (Kd.R_reads' (Kd.R_mono (ok' := (fun k_ => some k_ ≠ (.slice Ao10 t220.length co10 : Value).ownBlock ∧ some k_ ≠ (v225 : Value).ownBlock)) (Kd.R_apart' (HO235.out) (Kd.N_typed HO222.out) (by decide)) (fun k_ hk => ⟨hk.2, hk.1.1.1.1.1.2⟩))).2.1 (Kd.R_F (Kd.R_mono (ok' := (fun k_ => some k_ ≠ (.slice Ao10 t220.length co10 : Value).ownBlock ∧ some k_ ≠ (v225 : Value).ownBlock)) (Kd.R_apart' (HO235.out) (Kd.N_typed HO222.out) (by decide)) (fun k_ hk => ⟨hk.2, hk.1.1.1.1.1.2⟩))))) (Reps.one (show Kd.FK (Kd.slice 3 (Kd.int .i64)) _ _ y236 [.slice Ao25 y236.length co25] from (Kd.FK_slice_mk (Kd.R_reads' (Kd.R_mono (ok' := (fun k_ => some k_ ≠ (.slice Ao10 t220.length co10 : Value).ownBlock ∧ some k_ ≠ (v225 : Value).ownBlock)) (Kd.R_apart' (HO238.out) (Kd.N_typed HO222.out) (by decide)) (fun k_ hk => ⟨hk.2, hk.1.1.1.1.1.2⟩))).2.1 (Kd.R_F (Kd.R_mono (ok' := (fun k_ => some k_ ≠ (.slice Ao10 t220.length co10 : Value).ownBlock ∧ some k_ ≠ (v225 : Value).ownBlock)) (Kd.R_apart' (HO238.out) (Kd.N_typed HO222.out) (by decide)) (fun k_ hk => ⟨hk.2, hk.1.1.1.1.1.2⟩))))) (Reps.one (show Kd.FK (Kd.slice 3 (Kd.int .i64)) _ _ y239 [.slice Ao26 y239.length co26] from (Kd.FK_slice_mk (Kd.R_reads' (Kd.R_mono (ok' := (fun k_ => some k_ ≠ (.slice Ao10 t220.length co10 : Value).ownBlock ∧ some k_ ≠ (v225 : Value).ownBlock)) (Kd.R_apart' (HO241.out) (Kd.N_typed HO222.out) (by decide)) (fun k_ hk => ⟨hk.2, hk.1.1.1.1.1.2⟩))).2.1 (Kd.R_F (Kd.R_mono (ok' := (fun k_ => some k_ ≠ (.slice Ao10 t220.length co10 : Value).ownBlock ∧ some k_ ≠ (v225 : Value).ownBlock)) (Kd.R_apart' (HO241.out) (Kd.N_typed HO222.out) (by decide)) (fun k_ hk => ⟨hk.2, hk.1.1.1.1.1.2⟩))))) (Reps.none _ _))))))); intro v243 w27 ho28 hb hg_ hnew_; clear hg_ hnew_; (first | rw [← Ny242.out] at ho28 | (simp only [Int.reduceToNat] at ho28; rw [← Ny242.out] at ho28)); have n0_ := Aside0.mk (Kd.N_elder' (by (with_reducible repeat (first | apply Kd.N_alloc | apply Kd.N_drewN | apply Kd.N_drew)); exact HO222.out) (Kd.N_base ho28) hb); have n1_ := Aside0.mk (Kd.R_below (rl HO226.out) hb); have n2_ := Aside0.mk (Kd.N_lower ho28 (below_size (bl HB.out))); have n3_ := Aside0.mk (below_step (bl HB.out) hb); clear HO222; clear HO226; clear HB; clear HO229; clear HO232; clear HO235; clear HO238; clear HO241; have HO222 := n0_; have HO226 := n1_; have HO244 := n2_; have HB := n3_; clear n0_ n1_ n2_ n3_; clear hb ho28; obtain ⟨Ao29, co29, eo29⟩ := Kd.N_slice HO244.out; subst eo29) | (go_at_call 21; (with_reducible refine (impl_Events20.calls k _ _ y242 0 4 t245 t246 _ ?side1 ?side2 A7.out).mono ?_); (case side1 => repeat (first | exact (Kd.N_reads' HO244.out).2.2 | (with_reducible refine Kd.C_alloc ?_ _) | (with_reducible refine Kd.C_drewN ?_ _) | (with_reducible refine Kd.C_drew ?_))); (case side2 => exact (Kd.N_reads' HO244.out).2.1); rintro e w30 ⟨v247, rfl, ho0, hb⟩; have n0_ := Aside0.mk (Kd.N_elder' (by (with_reducible repeat (first | apply Kd.N_alloc | apply Kd.N_drewN | apply Kd.N_drew)); exact HO222.out) (Kd.R_base ho0) hb); have n1_ := Aside0.mk (Kd.R_elder' (rl HO226.out) (Kd.R_base ho0) hb); have n2_ := Aside0.mk (Kd.N_elder' (by (with_reducible repeat (first | apply Kd.N_alloc | apply Kd.N_drewN | apply Kd.N_drew)); exact HO244.out) (Kd.R_base ho0) hb); have n3_ := Aside0.mk (Kd.R_lower (Kd.R_new' ho0 (Kd.R_lt (by (repeat apply rl1); exact HO226.out))) (below_size (bl HB.out))); have n4_ := Aside0.mk (below_step (bl HB.out) hb); clear HO222; clear HO226; clear HO244; clear HB; have HO222 := n0_; have HO226 := n1_; have HO244 := n2_; have HO248 := n3_; have HB := n4_; clear n0_ n1_ n2_ n3_ n4_; (try clear hb); (try clear hb2); (try clear hk); (try clear hi); (try clear ho0)))
    go_ret
    exact ⟨by first | rfl | (simp [errW_none, errW_some] <;> rfl) | (simp [*, errW_none, errW_some] <;> rfl), bl HB.out⟩
   ·
    replace c8 := Bool.eq_false_iff.mpr c8
    subst c8
    have H1 : (if t246 = true then (if (t245.length : Int) = 2 then (if 0 < (t245.length : Int) then (if (rd t245 0) = 1 then (if 1 < (t245.length : Int) then (some ((rd t245 1) == 4)) else (none)) else (some false)) else (none)) else (some false)) else (some false)) = some r := by rw [if_neg (show ¬ (false = true) by decide)] at H; exact H
    clear H
    have H := H1
    clear H1
    by_cases c31 : t246 = true
    ·
     subst c31
     have H1 : (if (t245.length : Int) = 2 then (if 0 < (t245.length : Int) then (if (rd t245 0) = 1 then (if 1 < (t245.length : Int) then (some ((rd t245 1) == 4)) else (none)) else (some false)) else (none)) else (some false)) = some r := by rw [if_pos rfl] at H; exact H
     clear H
     have H := H1
     clear H1
     by_cases c32 : (t245.length : Int) = 2
     ·
      rw [if_pos c32] at H
      have c32b0 : ((t245.length : Int) == 2) = true := beq_iff_eq.mpr c32
      have c32b1 : ((t245.length : Int) != 2) = false := bne_eq_false_iff_eq.mpr c32
      clear c32
      by_cases c33 : 0 < (t245.length : Int)
      ·
       rw [if_pos c33] at H
       have c33b0 : decide (0 < (t245.length : Int)) = true := decide_eq_true c33
       have c33b1 : decide (0 < t245.length) = true := decide_eq_true (by omega)
       clear c33
       by_cases c34 : (rd t245 0) = 1
       ·
        rw [if_pos c34] at H
        have c34b0 : ((rd t245 0) == 1) = true := beq_iff_eq.mpr c34
        have c34b1 : ((rd t245 0) != 1) = false := bne_eq_false_iff_eq.mpr c34
        clear c34
        by_cases c35 : 1 < (t245.length : Int)
        ·
         rw [if_pos c35] at H
         have c35b0 : decide (1 < (t245.length : Int)) = true := decide_eq_true c35
         have c35b1 : decide (1 < t245.length) = true := decide_eq_true (by omega)
         clear c35
         obtain rfl := Option.some.inj H
         go_enter Try.func5, Try.ntmps5
         go_wp2_with (first | (go_at_call 18; (with_reducible refine (laws_big.calls _ _ l0 false _ ?side1 ?side2 A2.out).mono ?_); (case side1 => exact rc HR0.out); (case side2 => exact HC0.out); rintro e w' ⟨rfl, ⟨nd, rfl⟩⟩; (try first | exact ⟨rfl, _, World.drewN_drewN _ _ _⟩ | exact ⟨rfl, _, Eq.trans (World.drewN_drewN _ _ _) (congrArg (World.drewN _) (Nat.add_assoc _ _ _))⟩)) | (go_at_call 19; (with_reducible refine (spec_DrawRecord.calls k _ _ l0 t220 _ ?side1 ?side2 A4.out).mono ?_); (case side1 => exact rc HR0.out); (case side2 => exact HC0.out); rintro e w36 ⟨v221, rfl, ho0, hb⟩; have n0_ := Aside0.mk (Kd.N_lower (Kd.N_mono (ok' := fun k_ => True) (Kd.S_N (Kd.S_bound ho0)) (fun k_ hk_ => trivial)) (below_size (bl HB.out))); have n1_ := Aside0.mk (below_step (bl HB.out) hb); clear HB; have HO222 := n0_; have HB := n1_; clear n0_ n1_; (try clear hb); (try clear hb2); (try clear hk); (try clear hi); (try clear ho0); obtain ⟨Ao37, co37, eo37⟩ := Kd.N_slice HO222.out; subst eo37) | (go_at_call 20; (with_reducible refine (impl_Column.calls k _ _ t220 0 t223 false _ ?side1 ?side2 A6.out).mono ?_); (case side1 => repeat (first | exact (Kd.N_reads' HO222.out).2.2 | (with_reducible refine Kd.C_alloc ?_ _) | (with_reducible refine Kd.C_drewN ?_ _) | (with_reducible refine Kd.C_drew ?_))); (case side2 => exact (Kd.N_reads' HO222.out).2.1); rintro e w38 ⟨v225, rfl, ho0, hb⟩; have n0_ := Aside0.mk (Kd.N_elder' (by (with_reducible repeat (first | apply Kd.N_alloc | apply Kd.N_drewN | apply Kd.N_drew)); exact HO222.out) (Kd.R_base ho0) hb); have n1_ := Aside0.mk (Kd.R_lower ho0 (below_size (bl HB.out))); have n2_ := Aside0.mk (below_step (bl HB.out) hb); clear HO222; clear HB; have HO222 := n0_; have HO226 := n1_; have HB := n2_; clear n0_ n1_ n2_; (try clear hb); (try clear hb2); (try clear hk); (try clear hi); (try clear ho0)) | ((with_reducible refine gate_dst (N := 32) rfl ?_); (try (refine gate_guard (by rfl) ?_; dsimp only)); refine Kd.R_lit (Kd.int .i64) _ 3 ?hg (N := 32) ?hd (xs := ([1] : List Int)) (inner := [.int .i64 1]) (ok := fun _ => True) (okp := fun _ => True) ?hr ?hp (fun _ hk => hk) trivial (Below.refl _ _) (Nat.le_refl _) (by simp) ?_; (case hd => rfl); (case hg => rfl); (case hr => first | (go_simp; done) | (go_simp; rfl)); (case hp => exact (Reps.one (show Kd.M (Kd.int .i64) _ _ _ 1 [.int .i64 1] from rfl) (Reps.none _ _))); intro v228 w39 ho40 hb hg_ hnew_; clear hg_ hnew_; (first | rw [← Ny227.out] at ho40 | (simp only [Int.reduceToNat] at ho40; rw [← Ny227.out] at ho40)); have n0_ := Aside0.mk (Kd.N_elder' (by (with_reducible repeat (first | apply Kd.N_alloc | apply Kd.N_drewN | apply Kd.N_drew)); exact HO222.out) (Kd.R_base ho40) hb); have n1_ := Aside0.mk (Kd.R_elder' (rl HO226.out) (Kd.R_base ho40) hb); have n2_ := Aside0.mk (Kd.R_lower (Kd.R_new' ho40 (Kd.R_lt (by (repeat apply rl1); exact HO226.out))) (below_size (bl HB.out))); have n3_ := Aside0.mk (below_step (bl HB.out) hb); clear HO222; clear HO226; clear HB; have HO222 := n0_; have HO226 := n1_; have HO229 := n2_; have HB := n3_; clear n0_ n1_ n2_ n3_; clear hb ho40) | ((with_reducible refine gate_dst (N := 33) rfl ?_); (try (refine gate_guard (by rfl) ?_; dsimp only)); refine Kd.R_lit (Kd.int .i64) _ 3 ?hg (N := 33) ?hd (xs := ([5] : List Int)) (inner := [.int .i64 5]) (ok := fun _ => True) (okp := fun _ => True) ?hr ?hp (fun _ hk => hk) trivial (Below.refl _ _) (Nat.le_refl _) (by simp) ?_; (case hd => rfl); (case hg => rfl); (case hr => first | (go_simp; done) | (go_simp; rfl)); (case hp => exact (Reps.one (show Kd.M (Kd.int .i64) _ _ _ 5 [.int .i64 5] from rfl) (Reps.none _ _))); intro v231 w41 ho42 hb hg_ hnew_; clear hg_ hnew_; (first | rw [← Ny230.out] at ho42 | (simp only [Int.reduceToNat] at ho42; rw [← Ny230.out] at ho42)); have n0_ := Aside0.mk (Kd.N_elder' (by (with_reducible repeat (first | apply Kd.N_alloc | apply Kd.N_drewN | apply Kd.N_drew)); exact HO222.out) (Kd.R_base ho42) hb); have n1_ := Aside0.mk (Kd.R_elder' (rl HO226.out) (Kd.R_base ho42) hb); have n2_ := Aside0.mk (Kd.R_elder' (rl HO229.out) (Kd.R_base ho42) hb); have n3_ := Aside0.mk (Kd.R_lower (Kd.R_new' (Kd.R_new' ho42 (Kd.R_lt (by (repeat apply rl1); exact HO226.out))) (Kd.R_lt (by (repeat apply rl1); exact HO229.out))) (below_size (bl HB.out))); have n4_ := Aside0.mk (below_step (bl HB.out) hb); clear HO222; clear HO226; clear HO229; clear HB; have HO222 := n0_; have HO226 := n1_; have HO229 := n2_; have HO232 := n3_; have HB := n4_; clear n0_ n1_ n2_ n3_ n4_; clear hb ho42) | ((with_reducible refine gate_dst (N := 34) rfl ?_); (try (refine gate_guard (by rfl) ?_; dsimp only)); refine Kd.R_lit (Kd.int .i64) _ 3 ?hg (N := 34) ?hd (xs := ([6] : List Int)) (inner := [.int .i64 6]) (ok := fun _ => True) (okp := fun _ => True) ?hr ?hp (fun _ hk => hk) trivial (Below.refl _ _) (Nat.le_refl _) (by simp) ?_; (case hd => rfl); (case hg => rfl); (case hr => first | (go_simp; done) | (go_simp; rfl)); (case hp => exact (Reps.one (show Kd.M (Kd.int .i64) _ _ _ 6 [.int .i64 6] from rfl) (Reps.none _ _))); intro v234 w43 ho44 hb hg_ hnew_; clear hg_ hnew_; (first | rw [← Ny233.out] at ho44 | (simp only [Int.reduceToNat] at ho44; rw [← Ny233.out] at ho44)); have n0_ := Aside0.mk (Kd.N_elder' (by (with_reducible repeat (first | apply Kd.N_alloc | apply Kd.N_drewN | apply Kd.N_drew)); exact HO222.out) (Kd.R_base ho44) hb); have n1_ := Aside0.mk (Kd.R_elder' (rl HO226.out) (Kd.R_base ho44) hb); have n2_ := Aside0.mk (Kd.R_elder' (rl HO229.out) (Kd.R_base ho44) hb); have n3_ := Aside0.mk (Kd.R_elder' (rl HO232.out) (Kd.R_base ho44) hb); have n4_ := Aside0.mk (Kd.R_lower (Kd.R_new' (Kd.R_new' (Kd.R_new' ho44 (Kd.R_lt (by (repeat apply rl1); exact HO226.out))) (Kd.R_lt (by (repeat apply rl1); exact HO229.out))) (Kd.R_lt (by (repeat apply rl1); exact HO232.out))) (below_size (bl HB.out))); have n5_ := Aside0.mk (below_step (bl HB.out) hb); clear HO222; clear HO226; clear HO229; clear HO232; clear HB; have HO222 := n0_; have HO226 := n1_; have HO229 := n2_; have HO232 := n3_; have HO235 := n4_; have HB := n5_; clear n0_ n1_ n2_ n3_ n4_ n5_; clear hb ho44) | ((with_reducible refine gate_dst (N := 35) rfl ?_); (try (refine gate_guard (by rfl) ?_; dsimp only)); refine Kd.R_lit (Kd.int .i64) _ 3 ?hg (N := 35) ?hd (xs := ([1] : List Int)) (inner := [.int .i64 1]) (ok := fun _ => True) (okp := fun _ => True) ?hr ?hp (fun _ hk => hk) trivial (Below.refl _ _) (Nat.le_refl _) (by simp) ?_; (case hd => rfl); (case hg => rfl); (case hr => first | (go_simp; done) | (go_simp; rfl)); (case hp => exact (Reps.one (show Kd.M (Kd.int .i64) _ _ _ 1 [.int .i64 1] from rfl) (Reps.none _ _))); intro v237 w45 ho46 hb hg_ hnew_; clear hg_ hnew_; (first | rw [← Ny236.out] at ho46 | (simp only [Int.reduceToNat] at ho46; rw [← Ny236.out] at ho46)); have n0_ := Aside0.mk (Kd.N_elder' (by (with_reducible repeat (first | apply Kd.N_alloc | apply Kd.N_drewN | apply Kd.N_drew)); exact HO222.out) (Kd.R_base ho46) hb); have n1_ := Aside0.mk (Kd.R_elder' (rl HO226.out) (Kd.R_base ho46) hb); have n2_ := Aside0.mk (Kd.R_elder' (rl HO229.out) (Kd.R_base ho46) hb); have n3_ := Aside0.mk (Kd.R_elder' (rl HO232.out) (Kd.R_base ho46) hb); have n4_ := Aside0.mk (Kd.R_elder' (rl HO235.out) (Kd.R_base ho46) hb); have n5_ := Aside0.mk (Kd.R_lower (Kd.R_new' (Kd.R_new' (Kd.R_new' (Kd.R_new' ho46 (Kd.R_lt (by (repeat apply rl1); exact HO226.out))) (Kd.R_lt (by (repeat apply rl1); exact HO229.out))) (Kd.R_lt (by (repeat apply rl1); exact HO232.out))) (Kd.R_lt (by (repeat apply rl1); exact HO235.out))) (below_size (bl HB.out))); have n6_ := Aside0.mk (below_step (bl HB.out) hb); clear HO222; clear HO226; clear HO229; clear HO232; clear HO235; clear HB; have HO222 := n0_; have HO226 := n1_; have HO229 := n2_; have HO232 := n3_; have HO235 := n4_; have HO238 := n5_; have HB := n6_; clear n0_ n1_ n2_ n3_ n4_ n5_ n6_; clear hb ho46) | ((with_reducible refine gate_dst (N := 36) rfl ?_); (try (refine gate_guard (by rfl) ?_; dsimp only)); refine Kd.R_lit (Kd.int .i64) _ 3 ?hg (N := 36) ?hd (xs := ([9] : List Int)) (inner := [.int .i64 9]) (ok := fun _ => True) (okp := fun _ => True) ?hr ?hp (fun _ hk => hk) trivial (Below.refl _ _) (Nat.le_refl _) (by simp) ?_; (case hd => rfl); (case hg => rfl); (case hr => first | (go_simp; done) | (go_simp; rfl)); (case hp => exact (Reps.one (show Kd.M (Kd.int .i64) _ _ _ 9 [.int .i64 9] from rfl) (Reps.none _ _))); intro v240 w47 ho48 hb hg_ hnew_; clear hg_ hnew_; (first | rw [← Ny239.out] at ho48 | (simp only [Int.reduceToNat] at ho48; rw [← Ny239.out] at ho48)); have n0_ := Aside0.mk (Kd.N_elder' (by (with_reducible repeat (first | apply Kd.N_alloc | apply Kd.N_drewN | apply Kd.N_drew)); exact HO222.out) (Kd.R_base ho48) hb); have n1_ := Aside0.mk (Kd.R_elder' (rl HO226.out) (Kd.R_base ho48) hb); have n2_ := Aside0.mk (Kd.R_elder' (rl HO229.out) (Kd.R_base ho48) hb); have n3_ := Aside0.mk (Kd.R_elder' (rl HO232.out) (Kd.R_base ho48) hb); have n4_ := Aside0.mk (Kd.R_elder' (rl HO235.out) (Kd.R_base ho48) hb); have n5_ := Aside0.mk (Kd.R_elder' (rl HO238.out) (Kd.R_base ho48) hb); have n6_ := Aside0.mk (Kd.R_lower (Kd.R_new' (Kd.R_new' (Kd.R_new' (Kd.R_new' (Kd.R_new' ho48 (Kd.R_lt (by (repeat apply rl1); exact HO226.out))) (Kd.R_lt (by (repeat apply rl1); exact HO229.out))) (Kd.R_lt (by (repeat apply rl1); exact HO232.out))) (Kd.R_lt (by (repeat apply rl1); exact HO235.out))) (Kd.R_lt (by (repeat apply rl1); exact HO238.out))) (below_size (bl HB.out))); have n7_ := Aside0.mk (below_step (bl HB.out) hb); clear HO222; clear HO226; clear HO229; clear HO232; clear HO235; clear HO238; clear HB; have HO222 := n0_; have HO226 := n1_; have HO229 := n2_; have HO232 := n3_; have HO235 := n4_; have HO238 := n5_; have HO241 := n6_; have HB := n7_; clear n0_ n1_ n2_ n3_ n4_ n5_ n6_ n7_; clear hb ho48; obtain ⟨Ao49, co49, eo49⟩ := Kd.R_slice HO229.out; subst eo49; obtain ⟨Ao50, co50, eo50⟩ := Kd.R_slice HO232.out; subst eo50; obtain ⟨Ao51, co51, eo51⟩ := Kd.R_slice HO235.out; subst eo51; obtain ⟨Ao52, co52, eo52⟩ := Kd.R_slice HO238.out; subst eo52; obtain ⟨Ao53, co53, eo53⟩ := Kd.R_slice HO241.out; subst eo53) | ((with_reducible refine gate_dst (N := 37) rfl ?_); (try (refine gate_guard (by rfl) ?_; dsimp only)); refine Kd.N_lit (Kd.slice 3 (Kd.int .i64)) _ 32 ?hg (N' := 37) ?hd (xs := ([y227, y230, y233, y236, y239] : List (List Int))) (inner := [.slice Ao49 y227.length co49, .slice Ao50 y230.length co50, .slice Ao51 y233.length co51, .slice Ao52 y236.length co52, .slice Ao53 y239.length co53]) (ok := (fun k_ => some k_ ≠ (.slice Ao37 t220.length co37 : Value).ownBlock ∧ some k_ ≠ (v225 : Value).ownBlock)) (okp := (fun k_ => some k_ ≠ (.slice Ao37 t220.length co37 : Value).ownBlock ∧ some k_ ≠ (v225 : Value).ownBlock)) ?hr ?hp (fun _ hk => hk) ((show ∀ k_, w47.heap.size ≤ k_ → (fun k_ => some k_ ≠ (.slice Ao37 t220.length co37 : Value).ownBlock ∧ some k_ ≠ (v225 : Value).ownBlock) k_ from fun k_ hk => ⟨Kd.fresh' (Kd.N_lt (by (with_reducible repeat (first | apply Kd.N_alloc | apply Kd.N_drewN | apply Kd.N_drew)); exact HO222.out)) k_ hk, Kd.fresh' (Kd.R_lt (by (repeat apply rl1); exact HO226.out)) k_ hk⟩) _ (Nat.le_refl _)) (Below.refl _ _) (Nat.le_refl _) (by simp) ?_; (case hd => rfl); (case hg => rfl); (case hr => first | (go_simp; done) | (go_simp; rfl)); (case hp => exact (Reps.one (show Kd.FK (Kd.slice 3 (Kd.int .i64)) _ _ y227 [.slice Ao49 y227.length co49] from (Kd.FK_slice_mk (Kd.R_reads' (Kd.R_mono (ok' := (fun k_ => some k_ ≠ (.slice Ao37 t220.length co37 : Value).ownBlock ∧ some k_ ≠ (v225 : Value).ownBlock)) (Kd.R_apart' (HO229.out) (Kd.N_typed HO222.out) (by decide)) (fun k_ hk => ⟨hk.2, hk.1.1.1.1.1.2⟩))).2.1 (Kd.R_F (Kd.R_mono (ok' := (fun k_ => some k_ ≠ (.slice Ao37 t220.length co37 : Value).ownBlock ∧ some k_ ≠ (v225 : Value).ownBlock)) (Kd.R_apart' (HO229.out) (Kd.N_typed HO222.out) (by decide)) (fun k_ hk => ⟨hk.2, hk.1.1.1.1.1.2⟩))))) (Reps.one (show Kd.FK (Kd.slice 3 (Kd.int .i64)) _ _ y230 [.slice Ao50 y230.length co50] from (Kd.FK_slice_mk (Kd.R_reads' (Kd.R_mono (ok' := (fun k_ => some k_ ≠ (.slice Ao37 t220.length co37 : Value).ownBlock ∧ some k_ ≠ (v225 : Value).ownBlock)) (Kd.R_apart' (HO232.out) (Kd.N_typed HO222.out) (by decide)) (fun k_ hk => ⟨hk.2, hk.1.1.1.1.1.2⟩))).2.1 (Kd.R_F (Kd.R_mono (ok' := (fun k_ => some k_ ≠ (.slice Ao37 t220.length co37 : Value).ownBlock ∧ some k_ ≠ (v225 : Value).ownBlock)) (Kd.R_apart' (HO232.out) (Kd.N_typed HO222.out) (by decide)) (fun k_ hk => ⟨hk.2, hk.1.1.1.1.1.2⟩))))) (Reps.one (show Kd.FK (Kd.slice 3 (Kd.int .i64)) _ _ y233 [.slice Ao51 y233.length co51] from (Kd.FK_slice_mk (Kd.R_reads' (Kd.R_mono (ok' := (fun k_ => some k_ ≠ (.slice Ao37 t220.length co37 : Value).ownBlock ∧ some k_ ≠ (v225 : Value).ownBlock)) (Kd.R_apart' (HO235.out) (Kd.N_typed HO222.out) (by decide)) (fun k_ hk => ⟨hk.2, hk.1.1.1.1.1.2⟩))).2.1 (Kd.R_F (Kd.R_mono (ok' := (fun k_ => some k_ ≠ (.slice Ao37 t220.length co37 : Value).ownBlock ∧ some k_ ≠ (v225 : Value).ownBlock)) (Kd.R_apart' (HO235.out) (Kd.N_typed HO222.out) (by decide)) (fun k_ hk => ⟨hk.2, hk.1.1.1.1.1.2⟩))))) (Reps.one (show Kd.FK (Kd.slice 3 (Kd.int .i64)) _ _ y236 [.slice Ao52 y236.length co52] from (Kd.FK_slice_mk (Kd.R_reads' (Kd.R_mono (ok' := (fun k_ => some k_ ≠ (.slice Ao37 t220.length co37 : Value).ownBlock ∧ some k_ ≠ (v225 : Value).ownBlock)) (Kd.R_apart' (HO238.out) (Kd.N_typed HO222.out) (by decide)) (fun k_ hk => ⟨hk.2, hk.1.1.1.1.1.2⟩))).2.1 (Kd.R_F (Kd.R_mono (ok' := (fun k_ => some k_ ≠ (.slice Ao37 t220.length co37 : Value).ownBlock ∧ some k_ ≠ (v225 : Value).ownBlock)) (Kd.R_apart' (HO238.out) (Kd.N_typed HO222.out) (by decide)) (fun k_ hk => ⟨hk.2, hk.1.1.1.1.1.2⟩))))) (Reps.one (show Kd.FK (Kd.slice 3 (Kd.int .i64)) _ _ y239 [.slice Ao53 y239.length co53] from (Kd.FK_slice_mk (Kd.R_reads' (Kd.R_mono (ok' := (fun k_ => some k_ ≠ (.slice Ao37 t220.length co37 : Value).ownBlock ∧ some k_ ≠ (v225 : Value).ownBlock)) (Kd.R_apart' (HO241.out) (Kd.N_typed HO222.out) (by decide)) (fun k_ hk => ⟨hk.2, hk.1.1.1.1.1.2⟩))).2.1 (Kd.R_F (Kd.R_mono (ok' := (fun k_ => some k_ ≠ (.slice Ao37 t220.length co37 : Value).ownBlock ∧ some k_ ≠ (v225 : Value).ownBlock)) (Kd.R_apart' (HO241.out) (Kd.N_typed HO222.out) (by decide)) (fun k_ hk => ⟨hk.2, hk.1.1.1.1.1.2⟩))))) (Reps.none _ _))))))); intro v243 w54 ho55 hb hg_ hnew_; clear hg_ hnew_; (first | rw [← Ny242.out] at ho55 | (simp only [Int.reduceToNat] at ho55; rw [← Ny242.out] at ho55)); have n0_ := Aside0.mk (Kd.N_elder' (by (with_reducible repeat (first | apply Kd.N_alloc | apply Kd.N_drewN | apply Kd.N_drew)); exact HO222.out) (Kd.N_base ho55) hb); have n1_ := Aside0.mk (Kd.R_below (rl HO226.out) hb); have n2_ := Aside0.mk (Kd.N_lower ho55 (below_size (bl HB.out))); have n3_ := Aside0.mk (below_step (bl HB.out) hb); clear HO222; clear HO226; clear HB; clear HO229; clear HO232; clear HO235; clear HO238; clear HO241; have HO222 := n0_; have HO226 := n1_; have HO244 := n2_; have HB := n3_; clear n0_ n1_ n2_ n3_; clear hb ho55; obtain ⟨Ao56, co56, eo56⟩ := Kd.N_slice HO244.out; subst eo56) | (go_at_call 21; (with_reducible refine (impl_Events20.calls k _ _ y242 0 4 t245 true _ ?side1 ?side2 A7.out).mono ?_); (case side1 => repeat (first | exact (Kd.N_reads' HO244.out).2.2 | (with_reducible refine Kd.C_alloc ?_ _) | (with_reducible refine Kd.C_drewN ?_ _) | (with_reducible refine Kd.C_drew ?_))); (case side2 => exact (Kd.N_reads' HO244.out).2.1); rintro e w57 ⟨v247, rfl, ho0, hb⟩; have n0_ := Aside0.mk (Kd.N_elder' (by (with_reducible repeat (first | apply Kd.N_alloc | apply Kd.N_drewN | apply Kd.N_drew)); exact HO222.out) (Kd.R_base ho0) hb); have n1_ := Aside0.mk (Kd.R_elder' (rl HO226.out) (Kd.R_base ho0) hb); have n2_ := Aside0.mk (Kd.N_elder' (by (with_reducible repeat (first | apply Kd.N_alloc | apply Kd.N_drewN | apply Kd.N_drew)); exact HO244.out) (Kd.R_base ho0) hb); have n3_ := Aside0.mk (Kd.R_lower (Kd.R_new' ho0 (Kd.R_lt (by (repeat apply rl1); exact HO226.out))) (below_size (bl HB.out))); have n4_ := Aside0.mk (below_step (bl HB.out) hb); clear HO222; clear HO226; clear HO244; clear HB; have HO222 := n0_; have HO226 := n1_; have HO244 := n2_; have HO248 := n3_; have HB := n4_; clear n0_ n1_ n2_ n3_ n4_; (try clear hb); (try clear hb2); (try clear hk); (try clear hi); (try clear ho0); obtain ⟨Ao58, co58, eo58⟩ := Kd.R_slice HO248.out; subst eo58; have p249 : 0 ≤ (0 : Int) := (by omega); have q249 : 0 < (t245.length : Int) := of_decide_eq_true (by first | (with_reducible assumption) | assumption); obtain ⟨ad249, e249, hx249_0⟩ := Kd.at_int (Kd.R_reads' HO248.out).2.2 0 p249 q249; cases e249; have qi249 : (0 < t245.length) = True := eq_true (by omega); (try rw [show ((0 : Int)).toNat = 0 from rfl] at hx249_0); (try rw [Addr.add_zero'] at hx249_0); replace p249 := eq_true p249; replace q249 := eq_true q249; have p250 : 0 ≤ (1 : Int) := (by omega); have q250 : 1 < (t245.length : Int) := of_decide_eq_true (by first | (with_reducible assumption) | assumption); obtain ⟨ad250, e250, hx250_0⟩ := Kd.at_int (Kd.R_reads' HO248.out).2.2 1 p250 q250; obtain rfl : ad249 = ad250 := (by injection e250); (try simp only [show (1 : Int).toNat = 1 from rfl, Nat.reduceMul, Nat.reduceEqDiff, Go.Addr.add, ↓reduceIte] at hx250_0); have qi250 : (1 < t245.length) = True := eq_true (by omega); (try rw [show ((1 : Int)).toNat = 1 from rfl] at hx250_0); replace p250 := eq_true p250; replace q250 := eq_true q250))
         go_ret
         exact ⟨by first | rfl | (simp [errW_none, errW_some] <;> rfl) | (simp [*, errW_none, errW_some] <;> rfl), bl HB.out⟩
        ·
         rw [if_neg c35] at H
         exact absurd H (by simp)
       ·
        rw [if_neg c34] at H
        have c34b0 : ((rd t245 0) == 1) = false := beq_eq_false_iff_ne.mpr c34
        have c34b1 : ((rd t245 0) != 1) = true := bne_iff_ne.mpr c34
        obtain rfl := Option.some.inj H
        go_enter Try.func5, Try.ntmps5
        go_wp2_with (first | (go_at_call 18; (with_reducible refine (laws_big.calls _ _ l0 false _ ?side1 ?side2 A2.out).mono ?_); (case side1 => exact rc HR0.out); (case side2 => exact HC0.out); rintro e w' ⟨rfl, ⟨nd, rfl⟩⟩; (try first | exact ⟨rfl, _, World.drewN_drewN _ _ _⟩ | exact ⟨rfl, _, Eq.trans (World.drewN_drewN _ _ _) (congrArg (World.drewN _) (Nat.add_assoc _ _ _))⟩)) | (go_at_call 19; (with_reducible refine (spec_DrawRecord.calls k _ _ l0 t220 _ ?side1 ?side2 A4.out).mono ?_); (case side1 => exact rc HR0.out); (case side2 => exact HC0.out); rintro e w59 ⟨v221, rfl, ho0, hb⟩; have n0_ := Aside0.mk (Kd.N_lower (Kd.N_mono (ok' := fun k_ => True) (Kd.S_N (Kd.S_bound ho0)) (fun k_ hk_ => trivial)) (below_size (bl HB.out))); have n1_ := Aside0.mk (below_step (bl HB.out) hb); clear HB; have HO222 := n0_; have HB := n1_; clear n0_ n1_; (try clear hb); (try clear hb2); (try clear hk); (try clear hi); (try clear ho0); obtain ⟨Ao60, co60, eo60⟩ := Kd.N_slice HO222.out; subst eo60) | (go_at_call 20; (with_reducible refine (impl_Column.calls k _ _ t220 0 t223 false _ ?side1 ?side2 A6.out).mono ?_); (case side1 => repeat (first | exact (Kd.N_reads' HO222.out).2.2 | (with_reducible refine Kd.C_alloc ?_ _) | (with_reducible refine Kd.C_drewN ?_ _) | (with_reducible refine Kd.C_drew ?_))); (case side2 => exact (Kd.N_reads' HO222.out).2.1); rintro e w61 ⟨v225, rfl, ho0, hb⟩; have n0_ := Aside0.mk (Kd.N_elder' (by (with_reducible repeat (first | apply Kd.N_alloc | apply Kd.N_drewN | apply Kd.N_drew)); exact HO222.out) (Kd.R_base ho0) hb); have n1_ := Aside0.mk (Kd.R_lower ho0 (below_size (bl HB.out))); have n2_ := Aside0.mk (below_step (bl HB.out) hb); clear HO222; clear HB; have HO222 := n0_; have HO226 := n1_; have HB := n2_; clear n0_ n1_ n2_; (try clear hb); (try clear hb2); (try clear hk); (try clear hi); (try clear ho0)) | ((with_reducible refine gate_dst (N := 32) rfl ?_); (try (refine gate_guard (by rfl) ?_; dsimp only)); refine Kd.R_lit (Kd.int .i64) _ 3 ?hg (N := 32) ?hd (xs := ([1] : List Int)) (inner := [.int .i64 1]) (ok := fun _ => True) (okp := fun _ => True) ?hr ?hp (fun _ hk => hk) trivial (Below.refl _ _) (Nat.le_refl _) (by simp) ?_; (case hd => rfl); (case hg => rfl); (case hr => first | (go_simp; done) | (go_simp; rfl)); (case hp => exact (Reps.one (show Kd.M (Kd.int .i64) _ _ _ 1 [.int .i64 1] from rfl) (Reps.none _ _))); intro v228 w62 ho63 hb hg_ hnew_; clear hg_ hnew_; (first | rw [← Ny227.out] at ho63 | (simp only [Int.reduceToNat] at ho63; rw [← Ny227.out] at ho63)); have n0_ := Aside0.mk (Kd.N_elder' (by (with_reducible repeat (first | apply Kd.N_alloc | apply Kd.N_drewN | apply Kd.N_drew)); exact HO222.out) (Kd.R_base ho63) hb); have n1_ := Aside0.mk (Kd.R_elder' (rl HO226.out) (Kd.R_base ho63) hb); have n2_ := Aside0.mk (Kd.R_lower (Kd.R_new' ho63 (Kd.R_lt (by (repeat apply rl1); exact HO226.out))) (below_size (bl HB.out))); have n3_ := Aside0.mk (below_step (bl HB.out) hb); clear HO222; clear HO226; clear HB; have HO222 := n0_; have HO226 := n1_; have HO229 := n2_; have HB := n3_; clear n0_ n1_ n2_ n3_; clear hb ho63) | ((with_reducible refine gate_dst (N := 33) rfl ?_); (try (refine gate_guard (by rfl) ?_; dsimp only)); refine Kd.R_lit (Kd.int .i64) _ 3 ?hg (N := 33) ?hd (xs := ([5] : List Int)) (inner := [.int .i64 5]) (ok := fun _ => True) (okp := fun _ => True) ?hr ?hp (fun _ hk => hk) trivial (Below.refl _ _) (Nat.le_refl _) (by simp) ?_; (case hd => rfl); (case hg => rfl); (case hr => first | (go_simp; done) | (go_simp; rfl)); (case hp => exact (Reps.one (show Kd.M (Kd.int .i64) _ _ _ 5 [.int .i64 5] from rfl) (Reps.none _ _))); intro v231 w64 ho65 hb hg_ hnew_; clear hg_ hnew_; (first | rw [← Ny230.out] at ho65 | (simp only [Int.reduceToNat] at ho65; rw [← Ny230.out] at ho65)); have n0_ := Aside0.mk (Kd.N_elder' (by (with_reducible repeat (first | apply Kd.N_alloc | apply Kd.N_drewN | apply Kd.N_drew)); exact HO222.out) (Kd.R_base ho65) hb); have n1_ := Aside0.mk (Kd.R_elder' (rl HO226.out) (Kd.R_base ho65) hb); have n2_ := Aside0.mk (Kd.R_elder' (rl HO229.out) (Kd.R_base ho65) hb); have n3_ := Aside0.mk (Kd.R_lower (Kd.R_new' (Kd.R_new' ho65 (Kd.R_lt (by (repeat apply rl1); exact HO226.out))) (Kd.R_lt (by (repeat apply rl1); exact HO229.out))) (below_size (bl HB.out))); have n4_ := Aside0.mk (below_step (bl HB.out) hb); clear HO222; clear HO226; clear HO229; clear HB; have HO222 := n0_; have HO226 := n1_; have HO229 := n2_; have HO232 := n3_; have HB := n4_; clear n0_ n1_ n2_ n3_ n4_; clear hb ho65) | ((with_reducible refine gate_dst (N := 34) rfl ?_); (try (refine gate_guard (by rfl) ?_; dsimp only)); refine Kd.R_lit (Kd.int .i64) _ 3 ?hg (N := 34) ?hd (xs := ([6] : List Int)) (inner := [.int .i64 6]) (ok := fun _ => True) (okp := fun _ => True) ?hr ?hp (fun _ hk => hk) trivial (Below.refl _ _) (Nat.le_refl _) (by simp) ?_; (case hd => rfl); (case hg => rfl); (case hr => first | (go_simp; done) | (go_simp; rfl)); (case hp => exact (Reps.one (show Kd.M (Kd.int .i64) _ _ _ 6 [.int .i64 6] from rfl) (Reps.none _ _))); intro v234 w66 ho67 hb hg_ hnew_; clear hg_ hnew_; (first | rw [← Ny233.out] at ho67 | (simp only [Int.reduceToNat] at ho67; rw [← Ny233.out] at ho67)); have n0_ := Aside0.mk (Kd.N_elder' (by (with_reducible repeat (first | apply Kd.N_alloc | apply Kd.N_drewN | apply Kd.N_drew)); exact HO222.out) (Kd.R_base ho67) hb); have n1_ := Aside0.mk (Kd.R_elder' (rl HO226.out) (Kd.R_base ho67) hb); have n2_ := Aside0.mk (Kd.R_elder' (rl HO229.out) (Kd.R_base ho67) hb); have n3_ := Aside0.mk (Kd.R_elder' (rl HO232.out) (Kd.R_base ho67) hb); have n4_ := Aside0.mk (Kd.R_lower (Kd.R_new' (Kd.R_new' (Kd.R_new' ho67 (Kd.R_lt (by (repeat apply rl1); exact HO226.out))) (Kd.R_lt (by (repeat apply rl1); exact HO229.out))) (Kd.R_lt (by (repeat apply rl1); exact HO232.out))) (below_size (bl HB.out))); have n5_ := Aside0.mk (below_step (bl HB.out) hb); clear HO222; clear HO226; clear HO229; clear HO232; clear HB; have HO222 := n0_; have HO226 := n1_; have HO229 := n2_; have HO232 := n3_; have HO235 := n4_; have HB := n5_; clear n0_ n1_ n2_ n3_ n4_ n5_; clear hb ho67) | ((with_reducible refine gate_dst (N := 35) rfl ?_); (try (refine gate_guard (by rfl) ?_; dsimp only)); refine Kd.R_lit (Kd.int .i64) _ 3 ?hg (N := 35) ?hd (xs := ([1] : List Int)) (inner := [.int .i64 1]) (ok := fun _ => True) (okp := fun _ => True) ?hr ?hp (fun _ hk => hk) trivial (Below.refl _ _) (Nat.le_refl _) (by simp) ?_; (case hd => rfl); (case hg => rfl); (case hr => first | (go_simp; done) | (go_simp; rfl)); (case hp => exact (Reps.one (show Kd.M (Kd.int .i64) _ _ _ 1 [.int .i64 1] from rfl) (Reps.none _ _))); intro v237 w68 ho69 hb hg_ hnew_; clear hg_ hnew_; (first | rw [← Ny236.out] at ho69 | (simp only [Int.reduceToNat] at ho69; rw [← Ny236.out] at ho69)); have n0_ := Aside0.mk (Kd.N_elder' (by (with_reducible repeat (first | apply Kd.N_alloc | apply Kd.N_drewN | apply Kd.N_drew)); exact HO222.out) (Kd.R_base ho69) hb); have n1_ := Aside0.mk (Kd.R_elder' (rl HO226.out) (Kd.R_base ho69) hb); have n2_ := Aside0.mk (Kd.R_elder' (rl HO229.out) (Kd.R_base ho69) hb); have n3_ := Aside0.mk (Kd.R_elder' (rl HO232.out) (Kd.R_base ho69) hb); have n4_ := Aside0.mk (Kd.R_elder' (rl HO235.out) (Kd.R_base ho69) hb); have n5_ := Aside0.mk (Kd.R_lower (Kd.R_new' (Kd.R_new' (Kd.R_new' (Kd.R_new' ho69 (Kd.R_lt (by (repeat apply rl1); exact HO226.out))) (Kd.R_lt (by (repeat apply rl1); exact HO229.out))) (Kd.R_lt (by (repeat apply rl1); exact HO232.out))) (Kd.R_lt (by (repeat apply rl1); exact HO235.out))) (below_size (bl HB.out))); have n6_ := Aside0.mk (below_step (bl HB.out) hb); clear HO222; clear HO226; clear HO229; clear HO232; clear HO235; clear HB; have HO222 := n0_; have HO226 := n1_; have HO229 := n2_; have HO232 := n3_; have HO235 := n4_; have HO238 := n5_; have HB := n6_; clear n0_ n1_ n2_ n3_ n4_ n5_ n6_; clear hb ho69) | ((with_reducible refine gate_dst (N := 36) rfl ?_); (try (refine gate_guard (by rfl) ?_; dsimp only)); refine Kd.R_lit (Kd.int .i64) _ 3 ?hg (N := 36) ?hd (xs := ([9] : List Int)) (inner := [.int .i64 9]) (ok := fun _ => True) (okp := fun _ => True) ?hr ?hp (fun _ hk => hk) trivial (Below.refl _ _) (Nat.le_refl _) (by simp) ?_; (case hd => rfl); (case hg => rfl); (case hr => first | (go_simp; done) | (go_simp; rfl)); (case hp => exact (Reps.one (show Kd.M (Kd.int .i64) _ _ _ 9 [.int .i64 9] from rfl) (Reps.none _ _))); intro v240 w70 ho71 hb hg_ hnew_; clear hg_ hnew_; (first | rw [← Ny239.out] at ho71 | (simp only [Int.reduceToNat] at ho71; rw [← Ny239.out] at ho71)); have n0_ := Aside0.mk (Kd.N_elder' (by (with_reducible repeat (first | apply Kd.N_alloc | apply Kd.N_drewN | apply Kd.N_drew)); exact HO222.out) (Kd.R_base ho71) hb); have n1_ := Aside0.mk (Kd.R_elder' (rl HO226.out) (Kd.R_base ho71) hb); have n2_ := Aside0.mk (Kd.R_elder' (rl HO229.out) (Kd.R_base ho71) hb); have n3_ := Aside0.mk (Kd.R_elder' (rl HO232.out) (Kd.R_base ho71) hb); have n4_ := Aside0.mk (Kd.R_elder' (rl HO235.out) (Kd.R_base ho71) hb); have n5_ := Aside0.mk (Kd.R_elder' (rl HO238.out) (Kd.R_base ho71) hb); have n6_ := Aside0.mk (Kd.R_lower (Kd.R_new' (Kd.R_new' (Kd.R_new' (Kd.R_new' (Kd.R_new' ho71 (Kd.R_lt (by (repeat apply rl1); exact HO226.out))) (Kd.R_lt (by (repeat apply rl1); exact HO229.out))) (Kd.R_lt (by (repeat apply rl1); exact HO232.out))) (Kd.R_lt (by (repeat apply rl1); exact HO235.out))) (Kd.R_lt (by (repeat apply rl1); exact HO238.out))) (below_size (bl HB.out))); have n7_ := Aside0.mk (below_step (bl HB.out) hb); clear HO222; clear HO226; clear HO229; clear HO232; clear HO235; clear HO238; clear HB; have HO222 := n0_; have HO226 := n1_; have HO229 := n2_; have HO232 := n3_; have HO235 := n4_; have HO238 := n5_; have HO241 := n6_; have HB := n7_; clear n0_ n1_ n2_ n3_ n4_ n5_ n6_ n7_; clear hb ho71; obtain ⟨Ao72, co72, eo72⟩ := Kd.R_slice HO229.out; subst eo72; obtain ⟨Ao73, co73, eo73⟩ := Kd.R_slice HO232.out; subst eo73; obtain ⟨Ao74, co74, eo74⟩ := Kd.R_slice HO235.out; subst eo74; obtain ⟨Ao75, co75, eo75⟩ := Kd.R_slice HO238.out; subst eo75; obtain ⟨Ao76, co76, eo76⟩ := Kd.R_slice HO241.out; subst eo76) | ((with_reducible refine gate_dst (N := 37) rfl ?_); (try (refine gate_guard (by rfl) ?_; dsimp only)); refine Kd.N_lit (Kd.slice 3 (Kd.int .i64)) _ 32 ?hg (N' := 37) ?hd (xs := ([y227, y230, y233, y236, y239] : List (List Int))) (inner := [.slice Ao72 y227.length co72, .slice Ao73 y230.length co73, .slice Ao74 y233.length co74, .slice Ao75 y236.length co75, .slice Ao76 y239.length co76]) (ok := (fun k_ => some k_ ≠ (.slice Ao60 t220.length co60 : Value).ownBlock ∧ some k_ ≠ (v225 : Value).ownBlock)) (okp := (fun k_ => some k_ ≠ (.slice Ao60 t220.length co60 : Value).ownBlock ∧ some k_ ≠ (v225 : Value).ownBlock)) ?hr ?hp (fun _ hk => hk) ((show ∀ k_, w70.heap.size ≤ k_ → (fun k_ => some k_ ≠ (.slice Ao60 t220.length co60 : Value).ownBlock ∧ some k_ ≠ (v225 : Value).ownBlock) k_ from fun k_ hk => ⟨Kd.fresh' (Kd.N_lt (by (with_reducible repeat (first | apply Kd.N_alloc | apply Kd.N_drewN | apply Kd.N_drew)); exact HO222.out)) k_ hk, Kd.fresh' (Kd.R_lt (by (repeat apply rl1); exact HO226.out)) k_ hk⟩) _ (Nat.le_refl _)) (Below.refl _ _) (Nat.le_refl _) (by simp) ?_; (case hd => rfl); (case hg => rfl); (case hr => first | (go_simp; done) | (go_simp; rfl)); (case hp => exact (Reps.one (show Kd.FK (Kd.slice 3 (Kd.int .i64)) _ _ y227 [.slice Ao72 y227.length co72] from (Kd.FK_slice_mk (Kd.R_reads' (Kd.R_mono (ok' := (fun k_ => some k_ ≠ (.slice Ao60 t220.length co60 : Value).ownBlock ∧ some k_ ≠ (v225 : Value).ownBlock)) (Kd.R_apart' (HO229.out) (Kd.N_typed HO222.out) (by decide)) (fun k_ hk => ⟨hk.2, hk.1.1.1.1.1.2⟩))).2.1 (Kd.R_F (Kd.R_mono (ok' := (fun k_ => some k_ ≠ (.slice Ao60 t220.length co60 : Value).ownBlock ∧ some k_ ≠ (v225 : Value).ownBlock)) (Kd.R_apart' (HO229.out) (Kd.N_typed HO222.out) (by decide)) (fun k_ hk => ⟨hk.2, hk.1.1.1.1.1.2⟩))))) (Reps.one (show Kd.FK (Kd.slice 3 (Kd.int .i64)) _ _ y230 [.slice Ao73 y230.length co73] from (Kd.FK_slice_mk (Kd.R_reads' (Kd.R_mono (ok' := (fun k_ => some k_ ≠ (.slice Ao60 t220.length co60 : Value).ownBlock ∧ some k_ ≠ (v225 : Value).ownBlock)) (Kd.R_apart' (HO232.out) (Kd.N_typed HO222.out) (by decide)) (fun k_ hk => ⟨hk.2, hk.1.1.1.1.1.2⟩))).2.1 (Kd.R_F (Kd.R_mono (ok' := (fun k_ => some k_ ≠ (.slice Ao60 t220.length co60 : Value).ownBlock ∧ some k_ ≠ (v225 : Value).ownBlock)) (Kd.R_apart' (HO232.out) (Kd.N_typed HO222.out) (by decide)) (fun k_ hk => ⟨hk.2, hk.1.1.1.1.1.2⟩))))) (Reps.one (show Kd.FK (Kd.slice 3 (Kd.int .i64)) _ _ y233 [.slice Ao74 y233.length co74] from (Kd.FK_slice_mk (Kd.R_reads' (Kd.R_mono (ok' := (fun k_ => some k_ ≠ (.slice Ao60 t220.length co60 : Value).ownBlock ∧ some k_ ≠ (v225 : Value).ownBlock)) (Kd.R_apart' (HO235.out) (Kd.N_typed HO222.out) (by decide)) (fun k_ hk => ⟨hk.2, hk.1.1.1.1.1.2⟩))).2.1 (Kd.R_F (Kd.R_mono (ok' := (fun k_ => some k_ ≠ (.slice Ao60 t220.length co60 : Value).ownBlock ∧ some k_ ≠ (v225 : Value).ownBlock)) (Kd.R_apart' (HO235.out) (Kd.N_typed HO222.out) (by decide)) (fun k_ hk => ⟨hk.2, hk.1.1.1.1.1.2⟩))))) (Reps.one (show Kd.FK (Kd.slice 3 (Kd.int .i64)) _ _ y236 [.slice Ao75 y236.length co75] from (Kd.FK_slice_mk (Kd.R_reads' (Kd.R_mono (ok' := (fun k_ => some k_ ≠ (.slice Ao60 t220.length co60 : Value).ownBlock ∧ some k_ ≠ (v225 : Value).ownBlock)) (Kd.R_apart' (HO238.out) (Kd.N_typed HO222.out) (by decide)) (fun k_ hk => ⟨hk.2, hk.1.1.1.1.1.2⟩))).2.1 (Kd.R_F (Kd.R_mono (ok' := (fun k_ => some k_ ≠ (.slice Ao60 t220.length co60 : Value).ownBlock ∧ some k_ ≠ (v225 : Value).ownBlock)) (Kd.R_apart' (HO238.out) (Kd.N_typed HO222.out) (by decide)) (fun k_ hk => ⟨hk.2, hk.1.1.1.1.1.2⟩))))) (Reps.one (show Kd.FK (Kd.slice 3 (Kd.int .i64)) _ _ y239 [.slice Ao76 y239.length co76] from (Kd.FK_slice_mk (Kd.R_reads' (Kd.R_mono (ok' := (fun k_ => some k_ ≠ (.slice Ao60 t220.length co60 : Value).ownBlock ∧ some k_ ≠ (v225 : Value).ownBlock)) (Kd.R_apart' (HO241.out) (Kd.N_typed HO222.out) (by decide)) (fun k_ hk => ⟨hk.2, hk.1.1.1.1.1.2⟩))).2.1 (Kd.R_F (Kd.R_mono (ok' := (fun k_ => some k_ ≠ (.slice Ao60 t220.length co60 : Value).ownBlock ∧ some k_ ≠ (v225 : Value).ownBlock)) (Kd.R_apart' (HO241.out) (Kd.N_typed HO222.out) (by decide)) (fun k_ hk => ⟨hk.2, hk.1.1.1.1.1.2⟩))))) (Reps.none _ _))))))); intro v243 w77 ho78 hb hg_ hnew_; clear hg_ hnew_; (first | rw [← Ny242.out] at ho78 | (simp only [Int.reduceToNat] at ho78; rw [← Ny242.out] at ho78)); have n0_ := Aside0.mk (Kd.N_elder' (by (with_reducible repeat (first | apply Kd.N_alloc | apply Kd.N_drewN | apply Kd.N_drew)); exact HO222.out) (Kd.N_base ho78) hb); have n1_ := Aside0.mk (Kd.R_below (rl HO226.out) hb); have n2_ := Aside0.mk (Kd.N_lower ho78 (below_size (bl HB.out))); have n3_ := Aside0.mk (below_step (bl HB.out) hb); clear HO222; clear HO226; clear HB; clear HO229; clear HO232; clear HO235; clear HO238; clear HO241; have HO222 := n0_; have HO226 := n1_; have HO244 := n2_; have HB := n3_; clear n0_ n1_ n2_ n3_; clear hb ho78; obtain ⟨Ao79, co79, eo79⟩ := Kd.N_slice HO244.out; subst eo79) | (go_at_call 21; (with_reducible refine (impl_Events20.calls k _ _ y242 0 4 t245 true _ ?side1 ?side2 A7.out).mono ?_); (case side1 => repeat (first | exact (Kd.N_reads' HO244.out).2.2 | (with_reducible refine Kd.C_alloc ?_ _) | (with_reducible refine Kd.C_drewN ?_ _) | (with_reducible refine Kd.C_drew ?_))); (case side2 => exact (Kd.N_reads' HO244.out).2.1); rintro e w80 ⟨v247, rfl, ho0, hb⟩; have n0_ := Aside0.mk (Kd.N_elder' (by (with_reducible repeat (first | apply Kd.N_alloc | apply Kd.N_drewN | apply Kd.N_drew)); exact HO222.out) (Kd.R_base ho0) hb); have n1_ := Aside0.mk (Kd.R_elder' (rl HO226.out) (Kd.R_base ho0) hb); have n2_ := Aside0.mk (Kd.N_elder' (by (with_reducible repeat (first | apply Kd.N_alloc | apply Kd.N_drewN | apply Kd.N_drew)); exact HO244.out) (Kd.R_base ho0) hb); have n3_ := Aside0.mk (Kd.R_lower (Kd.R_new' ho0 (Kd.R_lt (by (repeat apply rl1); exact HO226.out))) (below_size (bl HB.out))); have n4_ := Aside0.mk (below_step (bl HB.out) hb); clear HO222; clear HO226; clear HO244; clear HB; have HO222 := n0_; have HO226 := n1_; have HO244 := n2_; have HO248 := n3_; have HB := n4_; clear n0_ n1_ n2_ n3_ n4_; (try clear hb); (try clear hb2); (try clear hk); (try clear hi); (try clear ho0); obtain ⟨Ao81, co81, eo81⟩ := Kd.R_slice HO248.out; subst eo81; have p249 : 0 ≤ (0 : Int) := (by omega); have q249 : 0 < (t245.length : Int) := of_decide_eq_true (by first | (with_reducible assumption) | assumption); obtain ⟨ad249, e249, hx249_0⟩ := Kd.at_int (Kd.R_reads' HO248.out).2.2 0 p249 q249; cases e249; have qi249 : (0 < t245.length) = True := eq_true (by omega); (try rw [show ((0 : Int)).toNat = 0 from rfl] at hx249_0); (try rw [Addr.add_zero'] at hx249_0); replace p249 := eq_true p249; replace q249 := eq_true q249))
        go_ret
        exact ⟨by first | rfl | (simp [errW_none, errW_some] <;> rfl) | (simp [*, errW_none, errW_some] <;> rfl), bl HB.out⟩
      ·
       rw [if_neg c33] at H
       exact absurd H (by simp)
     ·
      rw [if_neg c32] at H
      have c32b0 : ((t245.length : Int) == 2) = false := beq_eq_false_iff_ne.mpr c32
      have c32b1 : ((t245.length : Int) != 2) = true := bne_iff_ne.mpr c32
      obtain rfl := Option.some.inj H
      go_enter Try.func5, Try.ntmps5
      go_wp2_with (first | (go_at_call 18; (with_reducible refine (laws_big.calls _ _ l0 false _ ?side1 ?side2 A2.out).mono ?_); (case side1 => exact rc HR0.out); (case side2 => exact HC0.out); rintro e w' ⟨rfl, ⟨nd, rfl⟩⟩; (try first | exact ⟨rfl, _, World.drewN_drewN _ _ _⟩ | exact ⟨rfl, _, Eq.trans (World.drewN_drewN _ _ _) (congrArg (World.drewN _) (Nat.add_assoc _ _ _))⟩)) | (go_at_call 19; (with_reducible refine (spec_DrawRecord.calls k _ _ l0 t220 _ ?side1 ?side2 A4.out).mono ?_); (case side1 => exact rc HR0.out); (case side2 => exact HC0.out); rintro e w82 ⟨v221, rfl, ho0, hb⟩; have n0_ := Aside0.mk (Kd.N_lower (Kd.N_mono (ok' := fun k_ => True) (Kd.S_N (Kd.S_bound ho0)) (fun k_ hk_ => trivial)) (below_size (bl HB.out))); have n1_ := Aside0.mk (below_step (bl HB.out) hb); clear HB; have HO222 := n0_; have HB := n1_; clear n0_ n1_; (try clear hb); (try clear hb2); (try clear hk); (try clear hi); (try clear ho0); obtain ⟨Ao83, co83, eo83⟩ := Kd.N_slice HO222.out; subst eo83) | (go_at_call 20; (with_reducible refine (impl_Column.calls k _ _ t220 0 t223 false _ ?side1 ?side2 A6.out).mono ?_); (case side1 => repeat (first | exact (Kd.N_reads' HO222.out).2.2 | (with_reducible refine Kd.C_alloc ?_ _) | (with_reducible refine Kd.C_drewN ?_ _) | (with_reducible refine Kd.C_drew ?_))); (case side2 => exact (Kd.N_reads' HO222.out).2.1); rintro e w84 ⟨v225, rfl, ho0, hb⟩; have n0_ := Aside0.mk (Kd.N_elder' (by (with_reducible repeat (first | apply Kd.N_alloc | apply Kd.N_drewN | apply Kd.N_drew)); exact HO222.out) (Kd.R_base ho0) hb); have n1_ := Aside0.mk (Kd.R_lower ho0 (below_size (bl HB.out))); have n2_ := Aside0.mk (below_step (bl HB.out) hb); clear HO222; clear HB; have HO222 := n0_; have HO226 := n1_; have HB := n2_; clear n0_ n1_ n2_; (try clear hb); (try clear hb2); (try clear hk); (try clear hi); (try clear ho0)) | ((with_reducible refine gate_dst (N := 32) rfl ?_); (try (refine gate_guard (by rfl) ?_; dsimp only)); refine Kd.R_lit (Kd.int .i64) _ 3 ?hg (N := 32) ?hd (xs := ([1] : List Int)) (inner := [.int .i64 1]) (ok := fun _ => True) (okp := fun _ => True) ?hr ?hp (fun _ hk => hk) trivial (Below.refl _ _) (Nat.le_refl _) (by simp) ?_; (case hd => rfl); (case hg => rfl); (case hr => first | (go_simp; done) | (go_simp; rfl)); (case hp => exact (Reps.one (show Kd.M (Kd.int .i64) _ _ _ 1 [.int .i64 1] from rfl) (Reps.none _ _))); intro v228 w85 ho86 hb hg_ hnew_; clear hg_ hnew_; (first | rw [← Ny227.out] at ho86 | (simp only [Int.reduceToNat] at ho86; rw [← Ny227.out] at ho86)); have n0_ := Aside0.mk (Kd.N_elder' (by (with_reducible repeat (first | apply Kd.N_alloc | apply Kd.N_drewN | apply Kd.N_drew)); exact HO222.out) (Kd.R_base ho86) hb); have n1_ := Aside0.mk (Kd.R_elder' (rl HO226.out) (Kd.R_base ho86) hb); have n2_ := Aside0.mk (Kd.R_lower (Kd.R_new' ho86 (Kd.R_lt (by (repeat apply rl1); exact HO226.out))) (below_size (bl HB.out))); have n3_ := Aside0.mk (below_step (bl HB.out) hb); clear HO222; clear HO226; clear HB; have HO222 := n0_; have HO226 := n1_; have HO229 := n2_; have HB := n3_; clear n0_ n1_ n2_ n3_; clear hb ho86) | ((with_reducible refine gate_dst (N := 33) rfl ?_); (try (refine gate_guard (by rfl) ?_; dsimp only)); refine Kd.R_lit (Kd.int .i64) _ 3 ?hg (N := 33) ?hd (xs := ([5] : List Int)) (inner := [.int .i64 5]) (ok := fun _ => True) (okp := fun _ => True) ?hr ?hp (fun _ hk => hk) trivial (Below.refl _ _) (Nat.le_refl _) (by simp) ?_; (case hd => rfl); (case hg => rfl); (case hr => first | (go_simp; done) | (go_simp; rfl)); (case hp => exact (Reps.one (show Kd.M (Kd.int .i64) _ _ _ 5 [.int .i64 5] from rfl) (Reps.none _ _))); intro v231 w87 ho88 hb hg_ hnew_; clear hg_ hnew_; (first | rw [← Ny230.out] at ho88 | (simp only [Int.reduceToNat] at ho88; rw [← Ny230.out] at ho88)); have n0_ := Aside0.mk (Kd.N_elder' (by (with_reducible repeat (first | apply Kd.N_alloc | apply Kd.N_drewN | apply Kd.N_drew)); exact HO222.out) (Kd.R_base ho88) hb); have n1_ := Aside0.mk (Kd.R_elder' (rl HO226.out) (Kd.R_base ho88) hb); have n2_ := Aside0.mk (Kd.R_elder' (rl HO229.out) (Kd.R_base ho88) hb); have n3_ := Aside0.mk (Kd.R_lower (Kd.R_new' (Kd.R_new' ho88 (Kd.R_lt (by (repeat apply rl1); exact HO226.out))) (Kd.R_lt (by (repeat apply rl1); exact HO229.out))) (below_size (bl HB.out))); have n4_ := Aside0.mk (below_step (bl HB.out) hb); clear HO222; clear HO226; clear HO229; clear HB; have HO222 := n0_; have HO226 := n1_; have HO229 := n2_; have HO232 := n3_; have HB := n4_; clear n0_ n1_ n2_ n3_ n4_; clear hb ho88) | ((with_reducible refine gate_dst (N := 34) rfl ?_); (try (refine gate_guard (by rfl) ?_; dsimp only)); refine Kd.R_lit (Kd.int .i64) _ 3 ?hg (N := 34) ?hd (xs := ([6] : List Int)) (inner := [.int .i64 6]) (ok := fun _ => True) (okp := fun _ => True) ?hr ?hp (fun _ hk => hk) trivial (Below.refl _ _) (Nat.le_refl _) (by simp) ?_; (case hd => rfl); (case hg => rfl); (case hr => first | (go_simp; done) | (go_simp; rfl)); (case hp => exact (Reps.one (show Kd.M (Kd.int .i64) _ _ _ 6 [.int .i64 6] from rfl) (Reps.none _ _))); intro v234 w89 ho90 hb hg_ hnew_; clear hg_ hnew_; (first | rw [← Ny233.out] at ho90 | (simp only [Int.reduceToNat] at ho90; rw [← Ny233.out] at ho90)); have n0_ := Aside0.mk (Kd.N_elder' (by (with_reducible repeat (first | apply Kd.N_alloc | apply Kd.N_drewN | apply Kd.N_drew)); exact HO222.out) (Kd.R_base ho90) hb); have n1_ := Aside0.mk (Kd.R_elder' (rl HO226.out) (Kd.R_base ho90) hb); have n2_ := Aside0.mk (Kd.R_elder' (rl HO229.out) (Kd.R_base ho90) hb); have n3_ := Aside0.mk (Kd.R_elder' (rl HO232.out) (Kd.R_base ho90) hb); have n4_ := Aside0.mk (Kd.R_lower (Kd.R_new' (Kd.R_new' (Kd.R_new' ho90 (Kd.R_lt (by (repeat apply rl1); exact HO226.out))) (Kd.R_lt (by (repeat apply rl1); exact HO229.out))) (Kd.R_lt (by (repeat apply rl1); exact HO232.out))) (below_size (bl HB.out))); have n5_ := Aside0.mk (below_step (bl HB.out) hb); clear HO222; clear HO226; clear HO229; clear HO232; clear HB; have HO222 := n0_; have HO226 := n1_; have HO229 := n2_; have HO232 := n3_; have HO235 := n4_; have HB := n5_; clear n0_ n1_ n2_ n3_ n4_ n5_; clear hb ho90) | ((with_reducible refine gate_dst (N := 35) rfl ?_); (try (refine gate_guard (by rfl) ?_; dsimp only)); refine Kd.R_lit (Kd.int .i64) _ 3 ?hg (N := 35) ?hd (xs := ([1] : List Int)) (inner := [.int .i64 1]) (ok := fun _ => True) (okp := fun _ => True) ?hr ?hp (fun _ hk => hk) trivial (Below.refl _ _) (Nat.le_refl _) (by simp) ?_; (case hd => rfl); (case hg => rfl); (case hr => first | (go_simp; done) | (go_simp; rfl)); (case hp => exact (Reps.one (show Kd.M (Kd.int .i64) _ _ _ 1 [.int .i64 1] from rfl) (Reps.none _ _))); intro v237 w91 ho92 hb hg_ hnew_; clear hg_ hnew_; (first | rw [← Ny236.out] at ho92 | (simp only [Int.reduceToNat] at ho92; rw [← Ny236.out] at ho92)); have n0_ := Aside0.mk (Kd.N_elder' (by (with_reducible repeat (first | apply Kd.N_alloc | apply Kd.N_drewN | apply Kd.N_drew)); exact HO222.out) (Kd.R_base ho92) hb); have n1_ := Aside0.mk (Kd.R_elder' (rl HO226.out) (Kd.R_base ho92) hb); have n2_ := Aside0.mk (Kd.R_elder' (rl HO229.out) (Kd.R_base ho92) hb); have n3_ := Aside0.mk (Kd.R_elder' (rl HO232.out) (Kd.R_base ho92) hb); have n4_ := Aside0.mk (Kd.R_elder' (rl HO235.out) (Kd.R_base ho92) hb); have n5_ := Aside0.mk (Kd.R_lower (Kd.R_new' (Kd.R_new' (Kd.R_new' (Kd.R_new' ho92 (Kd.R_lt (by (repeat apply rl1); exact HO226.out))) (Kd.R_lt (by (repeat apply rl1); exact HO229.out))) (Kd.R_lt (by (repeat apply rl1); exact HO232.out))) (Kd.R_lt (by (repeat apply rl1); exact HO235.out))) (below_size (bl HB.out))); have n6_ := Aside0.mk (below_step (bl HB.out) hb); clear HO222; clear HO226; clear HO229; clear HO232; clear HO235; clear HB; have HO222 := n0_; have HO226 := n1_; have HO229 := n2_; have HO232 := n3_; have HO235 := n4_; have HO238 := n5_; have HB := n6_; clear n0_ n1_ n2_ n3_ n4_ n5_ n6_; clear hb ho92) | ((with_reducible refine gate_dst (N := 36) rfl ?_); (try (refine gate_guard (by rfl) ?_; dsimp only)); refine Kd.R_lit (Kd.int .i64) _ 3 ?hg (N := 36) ?hd (xs := ([9] : List Int)) (inner := [.int .i64 9]) (ok := fun _ => True) (okp := fun _ => True) ?hr ?hp (fun _ hk => hk) trivial (Below.refl _ _) (Nat.le_refl _) (by simp) ?_; (case hd => rfl); (case hg => rfl); (case hr => first | (go_simp; done) | (go_simp; rfl)); (case hp => exact (Reps.one (show Kd.M (Kd.int .i64) _ _ _ 9 [.int .i64 9] from rfl) (Reps.none _ _))); intro v240 w93 ho94 hb hg_ hnew_; clear hg_ hnew_; (first | rw [← Ny239.out] at ho94 | (simp only [Int.reduceToNat] at ho94; rw [← Ny239.out] at ho94)); have n0_ := Aside0.mk (Kd.N_elder' (by (with_reducible repeat (first | apply Kd.N_alloc | apply Kd.N_drewN | apply Kd.N_drew)); exact HO222.out) (Kd.R_base ho94) hb); have n1_ := Aside0.mk (Kd.R_elder' (rl HO226.out) (Kd.R_base ho94) hb); have n2_ := Aside0.mk (Kd.R_elder' (rl HO229.out) (Kd.R_base ho94) hb); have n3_ := Aside0.mk (Kd.R_elder' (rl HO232.out) (Kd.R_base ho94) hb); have n4_ := Aside0.mk (Kd.R_elder' (rl HO235.out) (Kd.R_base ho94) hb); have n5_ := Aside0.mk (Kd.R_elder' (rl HO238.out) (Kd.R_base ho94) hb); have n6_ := Aside0.mk (Kd.R_lower (Kd.R_new' (Kd.R_new' (Kd.R_new' (Kd.R_new' (Kd.R_new' ho94 (Kd.R_lt (by (repeat apply rl1); exact HO226.out))) (Kd.R_lt (by (repeat apply rl1); exact HO229.out))) (Kd.R_lt (by (repeat apply rl1); exact HO232.out))) (Kd.R_lt (by (repeat apply rl1); exact HO235.out))) (Kd.R_lt (by (repeat apply rl1); exact HO238.out))) (below_size (bl HB.out))); have n7_ := Aside0.mk (below_step (bl HB.out) hb); clear HO222; clear HO226; clear HO229; clear HO232; clear HO235; clear HO238; clear HB; have HO222 := n0_; have HO226 := n1_; have HO229 := n2_; have HO232 := n3_; have HO235 := n4_; have HO238 := n5_; have HO241 := n6_; have HB := n7_; clear n0_ n1_ n2_ n3_ n4_ n5_ n6_ n7_; clear hb ho94; obtain ⟨Ao95, co95, eo95⟩ := Kd.R_slice HO229.out; subst eo95; obtain ⟨Ao96, co96, eo96⟩ := Kd.R_slice HO232.out; subst eo96; obtain ⟨Ao97, co97, eo97⟩ := Kd.R_slice HO235.out; subst eo97; obtain ⟨Ao98, co98, eo98⟩ := Kd.R_slice HO238.out; subst eo98; obtain ⟨Ao99, co99, eo99⟩ := Kd.R_slice HO241.out; subst eo99) | ((with_reducible refine gate_dst (N := 37) rfl ?_); (try (refine gate_guard (by rfl) ?_; dsimp only)); refine Kd.N_lit (Kd.slice 3 (Kd.int .i64)) _ 32 ?hg (N' := 37) ?hd (xs := ([y227, y230, y233, y236, y239] : List (List Int))) (inner := [.slice Ao95 y227.length co95, .slice Ao96 y230.length co96, .slice Ao97 y233.length co97, .slice Ao98 y236.length co98, .slice Ao99 y239.length co99]) (ok := (fun k_ => some k_ ≠ (.slice Ao83 t220.length co83 : Value).ownBlock ∧ some k_ ≠ (v225 : Value).ownBlock)) (okp := (fun k_ => some k_ ≠ (.slice Ao83 t220.length co83 : Value).ownBlock ∧ some k_ ≠ (v225 : Value).ownBlock)) ?hr ?hp (fun _ hk => hk) ((show ∀ k_, w93.heap.size ≤ k_ → (fun k_ => some k_ ≠ (.slice Ao83 t220.length co83 : Value).ownBlock ∧ some k_ ≠ (v225 : Value).ownBlock) k_ from fun k_ hk => ⟨Kd.fresh' (Kd.N_lt (by (with_reducible repeat (first | apply Kd.N_alloc | apply Kd.N_drewN | apply Kd.N_drew)); exact HO222.out)) k_ hk, Kd.fresh' (Kd.R_lt (by (repeat apply rl1); exact HO226.out)) k_ hk⟩) _ (Nat.le_refl _)) (Below.refl _ _) (Nat.le_refl _) (by simp) ?_; (case hd => rfl); (case hg => rfl); (case hr => first | (go_simp; done) | (go_simp; rfl)); (case hp => exact (Reps.one (show Kd.FK (Kd.slice 3 (Kd.int .i64)) _ _ y227 [.slice Ao95 y227.length co95] from (Kd.FK_slice_mk (Kd.R_reads' (Kd.R_mono (ok' := (fun k_ => some k_ ≠ (.slice Ao83 t220.length co83 : Value).ownBlock ∧ some k_ ≠ (v225 : Value).ownBlock)) (Kd.R_apart' (HO229.out) (Kd.N_typed HO222.out) (by decide)) (fun k_ hk => ⟨hk.2, hk.1.1.1.1.1.2⟩))).2.1 (Kd.R_F (Kd.R_mono (ok' := (fun k_ => some k_ ≠ (.slice Ao83 t220.length co83 : Value).ownBlock ∧ some k_ ≠ (v225 : Value).ownBlock)) (Kd.R_apart' (HO229.out) (Kd.N_typed HO222.out) (by decide)) (fun k_ hk => ⟨hk.2, hk.1.1.1.1.1.2⟩))))) (Reps.one (show Kd.FK (Kd.slice 3 (Kd.int .i64)) _ _ y230 [.slice Ao96 y230.length co96] from (Kd.FK_slice_mk (Kd.R_reads' (Kd.R_mono (ok' := (fun k_ => some k_ ≠ (.slice Ao83 t220.length co83 : Value).ownBlock ∧ some k_ ≠ (v225 : Value).ownBlock)) (Kd.R_apart' (HO232.out) (Kd.N_typed HO222.out) (by decide)) (fun k_ hk => ⟨hk.2, hk.1.1.1.1.1.2⟩))).2.1 (Kd.R_F (Kd.R_mono (ok' := (fun k_ => some k_ ≠ (.slice Ao83 t220.length co83 : Value).ownBlock ∧ some k_ ≠ (v225 : Value).ownBlock)) (Kd.R_apart' (HO232.out) (Kd.N_typed HO222.out) (by decide)) (fun k_ hk => ⟨hk.2, hk.1.1.1.1.1.2⟩))))) (Reps.one (show Kd.FK (Kd.slice 3 (Kd.int .i64)) _ _ y233 [.slice Ao97 y233.length co97] from (Kd.FK_slice_mk (Kd.R_reads' (Kd.R_mono (ok' := (fun k_ => some k_ ≠ (.slice Ao83 t220.length co83 : Value).ownBlock ∧ some k_ ≠ (v225 : Value).ownBlock)) (Kd.R_apart' (HO235.out) (Kd.N_typed HO222.out) (by decide)) (fun k_ hk => ⟨hk.2, hk.1.1.1.1.1.2⟩))).2.1 (Kd.R_F (Kd.R_mono (ok' := (fun k_ => some k_ ≠ (.slice Ao83 t220.length co83 : Value).ownBlock ∧ some k_ ≠ (v225 : Value).ownBlock)) (Kd.R_apart' (HO235.out) (Kd.N_typed HO222.out) (by decide)) (fun k_ hk => ⟨hk.2, hk.1.1.1.1.1.2⟩))))) (Reps.one (show Kd.FK (Kd.slice 3 (Kd.int .i64)) _ _ y236 [.slice Ao98 y236.length co98] from (Kd.FK_slice_mk (Kd.R_reads' (Kd.R_mono (ok' := (fun k_ => some k_ ≠ (.slice Ao83 t220.length co83 : Value).ownBlock ∧ some k_ ≠ (v225 : Value).ownBlock)) (Kd.R_apart' (HO238.out) (Kd.N_typed HO222.out) (by decide)) (fun k_ hk => ⟨hk.2, hk.1.1.1.1.1.2⟩))).2.1 (Kd.R_F (Kd.R_mono (ok' := (fun k_ => some k_ ≠ (.slice Ao83 t220.length co83 : Value).ownBlock ∧ some k_ ≠ (v225 : Value).ownBlock)) (Kd.R_apart' (HO238.out) (Kd.N_typed HO222.out) (by decide)) (fun k_ hk => ⟨hk.2, hk.1.1.1.1.1.2⟩))))) (Reps.one (show Kd.FK (Kd.slice 3 (Kd.int .i64)) _ _ y239 [.slice Ao99 y239.length co99] from (Kd.FK_slice_mk (Kd.R_reads' (Kd.R_mono (ok' := (fun k_ => some k_ ≠ (.slice Ao83 t220.length co83 : Value).ownBlock ∧ some k_ ≠ (v225 : Value).ownBlock)) (Kd.R_apart' (HO241.out) (Kd.N_typed HO222.out) (by decide)) (fun k_ hk => ⟨hk.2, hk.1.1.1.1.1.2⟩))).2.1 (Kd.R_F (Kd.R_mono (ok' := (fun k_ => some k_ ≠ (.slice Ao83 t220.length co83 : Value).ownBlock ∧ some k_ ≠ (v225 : Value).ownBlock)) (Kd.R_apart' (HO241.out) (Kd.N_typed HO222.out) (by decide)) (fun k_ hk => ⟨hk.2, hk.1.1.1.1.1.2⟩))))) (Reps.none _ _))))))); intro v243 w100 ho101 hb hg_ hnew_; clear hg_ hnew_; (first | rw [← Ny242.out] at ho101 | (simp only [Int.reduceToNat] at ho101; rw [← Ny242.out] at ho101)); have n0_ := Aside0.mk (Kd.N_elder' (by (with_reducible repeat (first | apply Kd.N_alloc | apply Kd.N_drewN | apply Kd.N_drew)); exact HO222.out) (Kd.N_base ho101) hb); have n1_ := Aside0.mk (Kd.R_below (rl HO226.out) hb); have n2_ := Aside0.mk (Kd.N_lower ho101 (below_size (bl HB.out))); have n3_ := Aside0.mk (below_step (bl HB.out) hb); clear HO222; clear HO226; clear HB; clear HO229; clear HO232; clear HO235; clear HO238; clear HO241; have HO222 := n0_; have HO226 := n1_; have HO244 := n2_; have HB := n3_; clear n0_ n1_ n2_ n3_; clear hb ho101; obtain ⟨Ao102, co102, eo102⟩ := Kd.N_slice HO244.out; subst eo102) | (go_at_call 21; (with_reducible refine (impl_Events20.calls k _ _ y242 0 4 t245 true _ ?side1 ?side2 A7.out).mono ?_); (case side1 => repeat (first | exact (Kd.N_reads' HO244.out).2.2 | (with_reducible refine Kd.C_alloc ?_ _) | (with_reducible refine Kd.C_drewN ?_ _) | (with_reducible refine Kd.C_drew ?_))); (case side2 => exact (Kd.N_reads' HO244.out).2.1); rintro e w103 ⟨v247, rfl, ho0, hb⟩; have n0_ := Aside0.mk (Kd.N_elder' (by (with_reducible repeat (first | apply Kd.N_alloc | apply Kd.N_drewN | apply Kd.N_drew)); exact HO222.out) (Kd.R_base ho0) hb); have n1_ := Aside0.mk (Kd.R_elder' (rl HO226.out) (Kd.R_base ho0) hb); have n2_ := Aside0.mk (Kd.N_elder' (by (with_reducible repeat (first | apply Kd.N_alloc | apply Kd.N_drewN | apply Kd.N_drew)); exact HO244.out) (Kd.R_base ho0) hb); have n3_ := Aside0.mk (Kd.R_lower (Kd.R_new' ho0 (Kd.R_lt (by (repeat apply rl1); exact HO226.out))) (below_size (bl HB.out))); have n4_ := Aside0.mk (below_step (bl HB.out) hb); clear HO222; clear HO226; clear HO244; clear HB; have HO222 := n0_; have HO226 := n1_; have HO244 := n2_; have HO248 := n3_; have HB := n4_; clear n0_ n1_ n2_ n3_ n4_; (try clear hb); (try clear hb2); (try clear hk); (try clear hi); (try clear ho0); obtain ⟨Ao104, co104, eo104⟩ := Kd.R_slice HO248.out; subst eo104))
      go_ret
      exact ⟨by first | rfl | (simp [errW_none, errW_some] <;> rfl) | (simp [*, errW_none, errW_some] <;> rfl), bl HB.out⟩
    ·
     replace c31 := Bool.eq_false_iff.mpr c31
     subst c31
     have H1 : (some false) = some r := by rw [if_neg (show ¬ (false = true) by decide)] at H; exact H
     clear H
     have H := H1
     clear H1
     obtain rfl := Option.some.inj H
     go_enter Try.func5, Try.ntmps5
     go_wp2_with (first | (go_at_call 18; (with_reducible refine (laws_big.calls _ _ l0 false _ ?side1 ?side2 A2.out).mono ?_); (case side1 => exact rc HR0.out); (case side2 => exact HC0.out); rintro e w' ⟨rfl, ⟨nd, rfl⟩⟩; (try first | exact ⟨rfl, _, World.drewN_drewN _ _ _⟩ | exact ⟨rfl, _, Eq.trans (World.drewN_drewN _ _ _) (congrArg (World.drewN _) (Nat.add_assoc _ _ _))⟩)) | (go_at_call 19; (with_reducible refine (spec_DrawRecord.calls k _ _ l0 t220 _ ?side1 ?side2 A4.out).mono ?_); (case side1 => exact rc HR0.out); (case side2 => exact HC0.out); rintro e w105 ⟨v221, rfl, ho0, hb⟩; have n0_ := Aside0.mk (Kd.N_lower (Kd.N_mono (ok' := fun k_ => True) (Kd.S_N (Kd.S_bound ho0)) (fun k_ hk_ => trivial)) (below_size (bl HB.out))); have n1_ := Aside0.mk (below_step (bl HB.out) hb); clear HB; have HO222 := n0_; have HB := n1_; clear n0_ n1_; (try clear hb); (try clear hb2); (try clear hk); (try clear hi); (try clear ho0); obtain ⟨Ao106, co106, eo106⟩ := Kd.N_slice HO222.out; subst eo106) | (go_at_call 20; (with_reducible refine (impl_Column.calls k _ _ t220 0 t223 false _ ?side1 ?side2 A6.out).mono ?_); (case side1 => repeat (first | exact (Kd.N_reads' HO222.out).2.2 | (with_reducible refine Kd.C_alloc ?_ _) | (with_reducible refine Kd.C_drewN ?_ _) | (with_reducible refine Kd.C_drew ?_))); (case side2 => exact (Kd.N_reads' HO222.out).2.1); rintro e w107 ⟨v225, rfl, ho0, hb⟩; have n0_ := Aside0.mk (Kd.N_elder' (by (with_reducible repeat (first | apply Kd.N_alloc | apply Kd.N_drewN | apply Kd.N_drew)); exact HO222.out) (Kd.R_base ho0) hb); have n1_ := Aside0.mk (Kd.R_lower ho0 (below_size (bl HB.out))); have n2_ := Aside0.mk (below_step (bl HB.out) hb); clear HO222; clear HB; have HO222 := n0_; have HO226 := n1_; have HB := n2_; clear n0_ n1_ n2_; (try clear hb); (try clear hb2); (try clear hk); (try clear hi); (try clear ho0)) | ((with_reducible refine gate_dst (N := 32) rfl ?_); (try (refine gate_guard (by rfl) ?_; dsimp only)); refine Kd.R_lit (Kd.int .i64) _ 3 ?hg (N := 32) ?hd (xs := ([1] : List Int)) (inner := [.int .i64 1]) (ok := fun _ => True) (okp := fun _ => True) ?hr ?hp (fun _ hk => hk) trivial (Below.refl _ _) (Nat.le_refl _) (by simp) ?_; (case hd => rfl); (case hg => rfl); (case hr => first | (go_simp; done) | (go_simp; rfl)); (case hp => exact (Reps.one (show Kd.M (Kd.int .i64) _ _ _ 1 [.int .i64 1] from rfl) (Reps.none _ _))); intro v228 w108 ho109 hb hg_ hnew_; clear hg_ hnew_; (first | rw [← Ny227.out] at ho109 | (simp only [Int.reduceToNat] at ho109; rw [← Ny227.out] at ho109)); have n0_ := Aside0.mk (Kd.N_elder' (by (with_reducible repeat (first | apply Kd.N_alloc | apply Kd.N_drewN | apply Kd.N_drew)); exact HO222.out) (Kd.R_base ho109) hb); have n1_ := Aside0.mk (Kd.R_elder' (rl HO226.out) (Kd.R_base ho109) hb); have n2_ := Aside0.mk (Kd.R_lower (Kd.R_new' ho109 (Kd.R_lt (by (repeat apply rl1); exact HO226.out))) (below_size (bl HB.out))); have n3_ := Aside0.mk (below_step (bl HB.out) hb); clear HO222; clear HO226; clear HB; have HO222 := n0_; have HO226 := n1_; have HO229 := n2_; have HB := n3_; clear n0_ n1_ n2_ n3_; clear hb ho109) | ((with_reducible refine gate_dst (N := 33) rfl ?_); (try (refine gate_guard (by rfl) ?_; dsimp only)); refine Kd.R_lit (Kd.int .i64) _ 3 ?hg (N := 33) ?hd (xs := ([5] : List Int)) (inner := [.int .i64 5]) (ok := fun _ => True) (okp := fun _ => True) ?hr ?hp (fun _ hk => hk) trivial (Below.refl _ _) (Nat.le_refl _) (by simp) ?_; (case hd => rfl); (case hg => rfl); (case hr => first | (go_simp; done) | (go_simp; rfl)); (case hp => exact (Reps.one (show Kd.M (Kd.int .i64) _ _ _ 5 [.int .i64 5] from rfl) (Reps.none _ _))); intro v231 w110 ho111 hb hg_ hnew_; clear hg_ hnew_; (first | rw [← Ny230.out] at ho111 | (simp only [Int.reduceToNat] at ho111; rw [← Ny230.out] at ho111)); have n0_ := Aside0.mk (Kd.N_elder' (by (with_reducible repeat (first | apply Kd.N_alloc | apply Kd.N_drewN | apply Kd.N_drew)); exact HO222.out) (Kd.R_base ho111) hb); have n1_ := Aside0.mk (Kd.R_elder' (rl HO226.out) (Kd.R_base ho111) hb); have n2_ := Aside0.mk (Kd.R_elder' (rl HO229.out) (Kd.R_base ho111) hb); have n3_ := Aside0.mk (Kd.R_lower (Kd.R_new' (Kd.R_new' ho111 (Kd.R_lt (by (repeat apply rl1); exact HO226.out))) (Kd.R_lt (by (repeat apply rl1); exact HO229.out))) (below_size (bl HB.out))); have n4_ := Aside0.mk (below_step (bl HB.out) hb); clear HO222; clear HO226; clear HO229; clear HB; have HO222 := n0_; have HO226 := n1_; have HO229 := n2_; have HO232 := n3_; have HB := n4_; clear n0_ n1_ n2_ n3_ n4_; clear hb ho111) | ((with_reducible refine gate_dst (N := 34) rfl ?_); (try (refine gate_guard (by rfl) ?_; dsimp only)); refine Kd.R_lit (Kd.int .i64) _ 3 ?hg (N := 34) ?hd (xs := ([6] : List Int)) (inner := [.int .i64 6]) (ok := fun _ => True) (okp := fun _ => True) ?hr ?hp (fun _ hk => hk) trivial (Below.refl _ _) (Nat.le_refl _) (by simp) ?_; (case hd => rfl); (case hg => rfl); (case hr => first | (go_simp; done) | (go_simp; rfl)); (case hp => exact (Reps.one (show Kd.M (Kd.int .i64) _ _ _ 6 [.int .i64 6] from rfl) (Reps.none _ _))); intro v234 w112 ho113 hb hg_ hnew_; clear hg_ hnew_; (first | rw [← Ny233.out] at ho113 | (simp only [Int.reduceToNat] at ho113; rw [← Ny233.out] at ho113)); have n0_ := Aside0.mk (Kd.N_elder' (by (with_reducible repeat (first | apply Kd.N_alloc | apply Kd.N_drewN | apply Kd.N_drew)); exact HO222.out) (Kd.R_base ho113) hb); have n1_ := Aside0.mk (Kd.R_elder' (rl HO226.out) (Kd.R_base ho113) hb); have n2_ := Aside0.mk (Kd.R_elder' (rl HO229.out) (Kd.R_base ho113) hb); have n3_ := Aside0.mk (Kd.R_elder' (rl HO232.out) (Kd.R_base ho113) hb); have n4_ := Aside0.mk (Kd.R_lower (Kd.R_new' (Kd.R_new' (Kd.R_new' ho113 (Kd.R_lt (by (repeat apply rl1); exact HO226.out))) (Kd.R_lt (by (repeat apply rl1); exact HO229.out))) (Kd.R_lt (by (repeat apply rl1); exact HO232.out))) (below_size (bl HB.out))); have n5_ := Aside0.mk (below_step (bl HB.out) hb); clear HO222; clear HO226; clear HO229; clear HO232; clear HB; have HO222 := n0_; have HO226 := n1_; have HO229 := n2_; have HO232 := n3_; have HO235 := n4_; have HB := n5_; clear n0_ n1_ n2_ n3_ n4_ n5_; clear hb ho113) | ((with_reducible refine gate_dst (N := 35) rfl ?_); (try (refine gate_guard (by rfl) ?_; dsimp only)); refine Kd.R_lit (Kd.int .i64) _ 3 ?hg (N := 35) ?hd (xs := ([1] : List Int)) (inner := [.int .i64 1]) (ok := fun _ => True) (okp := fun _ => True) ?hr ?hp (fun _ hk => hk) trivial (Below.refl _ _) (Nat.le_refl _) (by simp) ?_; (case hd => rfl); (case hg => rfl); (case hr => first | (go_simp; done) | (go_simp; rfl)); (case hp => exact (Reps.one (show Kd.M (Kd.int .i64) _ _ _ 1 [.int .i64 1] from rfl) (Reps.none _ _))); intro v237 w114 ho115 hb hg_ hnew_; clear hg_ hnew_; (first | rw [← Ny236.out] at ho115 | (simp only [Int.reduceToNat] at ho115; rw [← Ny236.out] at ho115)); have n0_ := Aside0.mk (Kd.N_elder' (by (with_reducible repeat (first | apply Kd.N_alloc | apply Kd.N_drewN | apply Kd.N_drew)); exact HO222.out) (Kd.R_base ho115) hb); have n1_ := Aside0.mk (Kd.R_elder' (rl HO226.out) (Kd.R_base ho115) hb); have n2_ := Aside0.mk (Kd.R_elder' (rl HO229.out) (Kd.R_base ho115) hb); have n3_ := Aside0.mk (Kd.R_elder' (rl HO232.out) (Kd.R_base ho115) hb); have n4_ := Aside0.mk (Kd.R_elder' (rl HO235.out) (Kd.R_base ho115) hb); have n5_ := Aside0.mk (Kd.R_lower (Kd.R_new' (Kd.R_new' (Kd.R_new' (Kd.R_new' ho115 (Kd.R_lt (by (repeat apply rl1); exact HO226.out))) (Kd.R_lt (by (repeat apply rl1); exact HO229.out))) (Kd.R_lt (by (repeat apply rl1); exact HO232.out))) (Kd.R_lt (by (repeat apply rl1); exact HO235.out))) (below_size (bl HB.out))); have n6_ := Aside0.mk (below_step (bl HB.out) hb); clear HO222; clear HO226; clear HO229; clear HO232; clear HO235; clear HB; have HO222 := n0_; have HO226 := n1_; have HO229 := n2_; have HO232 := n3_; have HO235 := n4_; have HO238 := n5_; have HB := n6_; clear n0_ n1_ n2_ n3_ n4_ n5_ n6_; clear hb ho115) | ((with_reducible refine gate_dst (N := 36) rfl ?_); (try (refine gate_guard (by rfl) ?_; dsimp only)); refine Kd.R_lit (Kd.int .i64) _ 3 ?hg (N := 36) ?hd (xs := ([9] : List Int)) (inner := [.int .i64 9]) (ok := fun _ => True) (okp := fun _ => True) ?hr ?hp (fun _ hk => hk) trivial (Below.refl _ _) (Nat.le_refl _) (by simp) ?_; (case hd => rfl); (case hg => rfl); (case hr => first | (go_simp; done) | (go_simp; rfl)); (case hp => exact (Reps.one (show Kd.M (Kd.int .i64) _ _ _ 9 [.int .i64 9] from rfl) (Reps.none _ _))); intro v240 w116 ho117 hb hg_ hnew_; clear hg_ hnew_; (first | rw [← Ny239.out] at ho117 | (simp only [Int.reduceToNat] at ho117; rw [← Ny239.out] at ho117)); have n0_ := Aside0.mk (Kd.N_elder' (by (with_reducible repeat (first | apply Kd.N_alloc | apply Kd.N_drewN | apply Kd.N_drew)); exact HO222.out) (Kd.R_base ho117) hb); have n1_ := Aside0.mk (Kd.R_elder' (rl HO226.out) (Kd.R_base ho117) hb); have n2_ := Aside0.mk (Kd.R_elder' (rl HO229.out) (Kd.R_base ho117) hb); have n3_ := Aside0.mk (Kd.R_elder' (rl HO232.out) (Kd.R_base ho117) hb); have n4_ := Aside0.mk (Kd.R_elder' (rl HO235.out) (Kd.R_base ho117) hb); have n5_ := Aside0.mk (Kd.R_elder' (rl HO238.out) (Kd.R_base ho117) hb); have n6_ := Aside0.mk (Kd.R_lower (Kd.R_new' (Kd.R_new' (Kd.R_new' (Kd.R_new' (Kd.R_new' ho117 (Kd.R_lt (by (repeat apply rl1); exact HO226.out))) (Kd.R_lt (by (repeat apply rl1); exact HO229.out))) (Kd.R_lt (by (repeat apply rl1); exact HO232.out))) (Kd.R_lt (by (repeat apply rl1); exact HO235.out))) (Kd.R_lt (by (repeat apply rl1); exact HO238.out))) (below_size (bl HB.out))); have n7_ := Aside0.mk (below_step (bl HB.out) hb); clear HO222; clear HO226; clear HO229; clear HO232; clear HO235; clear HO238; clear HB; have HO222 := n0_; have HO226 := n1_; have HO229 := n2_; have HO232 := n3_; have HO235 := n4_; have HO238 := n5_; have HO241 := n6_; have HB := n7_; clear n0_ n1_ n2_ n3_ n4_ n5_ n6_ n7_; clear hb ho117; obtain ⟨Ao118, co118, eo118⟩ := Kd.R_slice HO229.out; subst eo118; obtain ⟨Ao119, co119, eo119⟩ := Kd.R_slice HO232.out; subst eo119; obtain ⟨Ao120, co120, eo120⟩ := Kd.R_slice HO235.out; subst eo120; obtain ⟨Ao121, co121, eo121⟩ := Kd.R_slice HO238.out; subst eo121; obtain ⟨Ao122, co122, eo122⟩ := Kd.R_slice HO241.out; subst eo122) | ((with_reducible refine gate_dst (N := 37) rfl ?_); (try (refine gate_guard (by rfl) ?_; dsimp only)); refine Kd.N_lit (Kd.slice 3 (Kd.int .i64)) _ 32 ?hg (N' := 37) ?hd (xs := ([y227, y230, y233, y236, y239] : List (List Int))) (inner := [.slice Ao118 y227.length co118, .slice Ao119 y230.length co119, .slice Ao120 y233.length co120, .slice Ao121 y236.length co121, .slice Ao122 y239.length co122]) (ok := (fun k_ => some k_ ≠ (.slice Ao106 t220.length co106 : Value).ownBlock ∧ some k_ ≠ (v225 : Value).ownBlock)) (okp := (fun k_ => some k_ ≠ (.slice Ao106 t220.length co106 : Value).ownBlock ∧ some k_ ≠ (v225 : Value).ownBlock)) ?hr ?hp (fun _ hk => hk) ((show ∀ k_, w116.heap.size ≤ k_ → (fun k_ => some k_ ≠ (.slice Ao106 t220.length co106 : Value).ownBlock ∧ some k_ ≠ (v225 : Value).ownBlock) k_ from fun k_ hk => ⟨Kd.fresh' (Kd.N_lt (by (with_reducible repeat (first | apply Kd.N_alloc | apply Kd.N_drewN | apply Kd.N_drew)); exact HO222.out)) k_ hk, Kd.fresh' (Kd.R_lt (by (repeat apply rl1); exact HO226.out)) k_ hk⟩) _ (Nat.le_refl _)) (Below.refl _ _) (Nat.le_refl _) (by simp) ?_; (case hd => rfl); (case hg => rfl); (case hr => first | (go_simp; done) | (go_simp; rfl)); (case hp => exact (Reps.one (show Kd.FK (Kd.slice 3 (Kd.int .i64)) _ _ y227 [.slice Ao118 y227.length co118] from (Kd.FK_slice_mk (Kd.R_reads' (Kd.R_mono (ok' := (fun k_ => some k_ ≠ (.slice Ao106 t220.length co106 : Value).ownBlock ∧ some k_ ≠ (v225 : Value).ownBlock)) (Kd.R_apart' (HO229.out) (Kd.N_typed HO222.out) (by decide)) (fun k_ hk => ⟨hk.2, hk.1.1.1.1.1.2⟩))).2.1 (Kd.R_F (Kd.R_mono (ok' := (fun k_ => some k_ ≠ (.slice Ao106 t220.length co106 : Value).ownBlock ∧ some k_ ≠ (v225 : Value).ownBlock)) (Kd.R_apart' (HO229.out) (Kd.N_typed HO222.out) (by decide)) (fun k_ hk => ⟨hk.2, hk.1.1.1.1.1.2⟩))))) (Reps.one (show Kd.FK (Kd.slice 3 (Kd.int .i64)) _ _ y230 [.slice Ao119 y230.length co119] from (Kd.FK_slice_mk (Kd.R_reads' (Kd.R_mono (ok' := (fun k_ => some k_ ≠ (.slice Ao106 t220.length co106 : Value).ownBlock ∧ some k_ ≠ (v225 : Value).ownBlock)) (Kd.R_apart' (HO232.out) (Kd.N_typed HO222.out) (by decide)) (fun k_ hk => ⟨hk.2, hk.1.1.1.1.1.2⟩))).2.1 (Kd.R_F (Kd.R_mono (ok' := (fun k_ => some k_ ≠ (.slice Ao106 t220.length co106 : Value).ownBlock ∧ some k_ ≠ (v225 : Value).ownBlock)) (Kd.R_apart' (HO232.out) (Kd.N_typed HO222.out) (by decide)) (fun k_ hk => ⟨hk.2, hk.1.1.1.1.1.2⟩))))) (Reps.one (show Kd.FK (Kd.slice 3 (Kd.int .i64)) _ _ y233 [.slice Ao120 y233.length co120] from (Kd.FK_slice_mk (Kd.R_reads' (Kd.R_mono (ok' := (fun k_ => some k_ ≠ (.slice Ao106 t220.length co106 : Value).ownBlock ∧ some k_ ≠ (v225 : Value).ownBlock)) (Kd.R_apart' (HO235.out) (Kd.N_typed HO222.out) (by decide)) (fun k_ hk => ⟨hk.2, hk.1.1.1.1.1.2⟩))).2.1 (Kd.R_F (Kd.R_mono (ok' := (fun k_ => some k_ ≠ (.slice Ao106 t220.length co106 : Value).ownBlock ∧ some k_ ≠ (v225 : Value).ownBlock)) (Kd.R_apart' (HO235.out) (Kd.N_typed HO222.out) (by decide)) (fun k_ hk => ⟨hk.2, hk.1.1.1.1.1.2⟩))))) (Reps.one (show Kd.FK (Kd.slice 3 (Kd.int .i64)) _ _ y236 [.slice Ao121 y236.length co121] from (Kd.FK_slice_mk (Kd.R_reads' (Kd.R_mono (ok' := (fun k_ => some k_ ≠ (.slice Ao106 t220.length co106 : Value).ownBlock ∧ some k_ ≠ (v225 : Value).ownBlock)) (Kd.R_apart' (HO238.out) (Kd.N_typed HO222.out) (by decide)) (fun k_ hk => ⟨hk.2, hk.1.1.1.1.1.2⟩))).2.1 (Kd.R_F (Kd.R_mono (ok' := (fun k_ => some k_ ≠ (.slice Ao106 t220.length co106 : Value).ownBlock ∧ some k_ ≠ (v225 : Value).ownBlock)) (Kd.R_apart' (HO238.out) (Kd.N_typed HO222.out) (by decide)) (fun k_ hk => ⟨hk.2, hk.1.1.1.1.1.2⟩))))) (Reps.one (show Kd.FK (Kd.slice 3 (Kd.int .i64)) _ _ y239 [.slice Ao122 y239.length co122] from (Kd.FK_slice_mk (Kd.R_reads' (Kd.R_mono (ok' := (fun k_ => some k_ ≠ (.slice Ao106 t220.length co106 : Value).ownBlock ∧ some k_ ≠ (v225 : Value).ownBlock)) (Kd.R_apart' (HO241.out) (Kd.N_typed HO222.out) (by decide)) (fun k_ hk => ⟨hk.2, hk.1.1.1.1.1.2⟩))).2.1 (Kd.R_F (Kd.R_mono (ok' := (fun k_ => some k_ ≠ (.slice Ao106 t220.length co106 : Value).ownBlock ∧ some k_ ≠ (v225 : Value).ownBlock)) (Kd.R_apart' (HO241.out) (Kd.N_typed HO222.out) (by decide)) (fun k_ hk => ⟨hk.2, hk.1.1.1.1.1.2⟩))))) (Reps.none _ _))))))); intro v243 w123 ho124 hb hg_ hnew_; clear hg_ hnew_; (first | rw [← Ny242.out] at ho124 | (simp only [Int.reduceToNat] at ho124; rw [← Ny242.out] at ho124)); have n0_ := Aside0.mk (Kd.N_elder' (by (with_reducible repeat (first | apply Kd.N_alloc | apply Kd.N_drewN | apply Kd.N_drew)); exact HO222.out) (Kd.N_base ho124) hb); have n1_ := Aside0.mk (Kd.R_below (rl HO226.out) hb); have n2_ := Aside0.mk (Kd.N_lower ho124 (below_size (bl HB.out))); have n3_ := Aside0.mk (below_step (bl HB.out) hb); clear HO222; clear HO226; clear HB; clear HO229; clear HO232; clear HO235; clear HO238; clear HO241; have HO222 := n0_; have HO226 := n1_; have HO244 := n2_; have HB := n3_; clear n0_ n1_ n2_ n3_; clear hb ho124; obtain ⟨Ao125, co125, eo125⟩ := Kd.N_slice HO244.out; subst eo125) | (go_at_call 21; (with_reducible refine (impl_Events20.calls k _ _ y242 0 4 t245 false _ ?side1 ?side2 A7.out).mono ?_); (case side1 => repeat (first | exact (Kd.N_reads' HO244.out).2.2 | (with_reducible refine Kd.C_alloc ?_ _) | (with_reducible refine Kd.C_drewN ?_ _) | (with_reducible refine Kd.C_drew ?_))); (case side2 => exact (Kd.N_reads' HO244.out).2.1); rintro e w126 ⟨v247, rfl, ho0, hb⟩; have n0_ := Aside0.mk (Kd.N_elder' (by (with_reducible repeat (first | apply Kd.N_alloc | apply Kd.N_drewN | apply Kd.N_drew)); exact HO222.out) (Kd.R_base ho0) hb); have n1_ := Aside0.mk (Kd.R_elder' (rl HO226.out) (Kd.R_base ho0) hb); have n2_ := Aside0.mk (Kd.N_elder' (by (with_reducible repeat (first | apply Kd.N_alloc | apply Kd.N_drewN | apply Kd.N_drew)); exact HO244.out) (Kd.R_base ho0) hb); have n3_ := Aside0.mk (Kd.R_lower (Kd.R_new' ho0 (Kd.R_lt (by (repeat apply rl1); exact HO226.out))) (below_size (bl HB.out))); have n4_ := Aside0.mk (below_step (bl HB.out) hb); clear HO222; clear HO226; clear HO244; clear HB; have HO222 := n0_; have HO226 := n1_; have HO244 := n2_; have HO248 := n3_; have HB := n4_; clear n0_ n1_ n2_ n3_ n4_; (try clear hb); (try clear hb2); (try clear hk); (try clear hi); (try clear ho0)))
     go_ret
     exact ⟨by first | rfl | (simp [errW_none, errW_some] <;> rfl) | (simp [*, errW_none, errW_some] <;> rfl), bl HB.out⟩
  ·
   rw [if_neg c5] at H
   have c5b0 : ((t220.length : Int) == 0) = false := beq_eq_false_iff_ne.mpr c5
   have c5b1 : ((t220.length : Int) != 0) = true := bne_iff_ne.mpr c5
   have c5b2 : ¬ (t220 = []) := fun h_ => c5 (by rw [h_]; rfl)
   replace H := Option.bind_eq_some_iff.mp H
   obtain ⟨t251, A1270, H⟩ := H
   replace H : (if 0 < (t220.length : Int) then (if ((rd_L2 t220 0).length : Int) = 0 then (none) else ((laws_at.f l0 2).bind fun t253 => ((impl_Column.f k t220 (Int.tmod t251 ((rd_L2 t220 0).length : Int))).bind fun bt254 => ((impl_Events20.f k t220 (Int.tmod t251 ((rd_L2 t220 0).length : Int)) (wrap64 (t253 - 128))).bind fun bt258 => ((impl_Column.f k t220 ((rd_L2 t220 0).length : Int)).bind fun bt263 => (if bt254.2 = true then (if bt258.2 = true then (if bt263.2 = true then (laws_FnColumns.j0 k t220 (Int.tmod t251 ((rd_L2 t220 0).length : Int)) (wrap64 (t253 - 128)) bt254.1 bt258.1 true) else (laws_FnColumns.j0 k t220 (Int.tmod t251 ((rd_L2 t220 0).length : Int)) (wrap64 (t253 - 128)) bt254.1 bt258.1 ((bt254.1.length : Int) != (t220.length : Int)))) else (laws_FnColumns.j0 k t220 (Int.tmod t251 ((rd_L2 t220 0).length : Int)) (wrap64 (t253 - 128)) bt254.1 bt258.1 true)) else (laws_FnColumns.j0 k t220 (Int.tmod t251 ((rd_L2 t220 0).length : Int)) (wrap64 (t253 - 128)) bt254.1 bt258.1 true))))))) else (none)) = some r := H
   have A127 := Aside0.mk A1270
   clear A1270
   by_cases c128 : 0 < (t220.length : Int)
   ·
    rw [if_pos c128] at H
    have c128b0 : decide (0 < (t220.length : Int)) = true := decide_eq_true c128
    have c128b1 : decide (0 < t220.length) = true := decide_eq_true (by omega)
    clear c128
    by_cases c129 : ((rd_L2 t220 0).length : Int) = 0
    ·
     rw [if_pos c129] at H
     exact absurd H (by simp)
    ·
     rw [if_neg c129] at H
     have c129b0 : (((rd_L2 t220 0).length : Int) == 0) = false := beq_eq_false_iff_ne.mpr c129
     have c129b1 : (((rd_L2 t220 0).length : Int) != 0) = true := bne_iff_ne.mpr c129
     have c129b2 : ¬ ((rd_L2 t220 0) = []) := fun h_ => c129 (by rw [h_]; rfl)
     replace H := Option.bind_eq_some_iff.mp H
     obtain ⟨t253, A1300, H⟩ := H
     replace H : ((impl_Column.f k t220 (Int.tmod t251 ((rd_L2 t220 0).length : Int))).bind fun bt254 => ((impl_Events20.f k t220 (Int.tmod t251 ((rd_L2 t220 0).length : Int)) (wrap64 (t253 - 128))).bind fun bt258 => ((impl_Column.f k t220 ((rd_L2 t220 0).length : Int)).bind fun bt263 => (if bt254.2 = true then (if bt258.2 = true then (if bt263.2 = true then (laws_FnColumns.j0 k t220 (Int.tmod t251 ((rd_L2 t220 0).length : Int)) (wrap64 (t253 - 128)) bt254.1 bt258.1 true) else (laws_FnColumns.j0 k t220 (Int.tmod t251 ((rd_L2 t220 0).length : Int)) (wrap64 (t253 - 128)) bt254.1 bt258.1 ((bt254.1.length : Int) != (t220.length : Int)))) else (laws_FnColumns.j0 k t220 (Int.tmod t251 ((rd_L2 t220 0).length : Int)) (wrap64 (t253 - 128)) bt254.1 bt258.1 true)) else (laws_FnColumns.j0 k t220 (Int.tmod t251 ((rd_L2 t220 0).length : Int)) (wrap64 (t253 - 128)) bt254.1 bt258.1 true))))) = some r := H
     have A130 := Aside0.mk A1300
     clear A1300
     replace H := Option.bind_eq_some_iff.mp H
     obtain ⟨⟨t254, t255⟩, A1310, H⟩ := H
     replace H : ((impl_Events20.f k t220 (Int.tmod t251 ((rd_L2 t220 0).length : Int)) (wrap64 (t253 - 128))).bind fun bt258 => ((impl_Column.f k t220 ((rd_L2 t220 0).length : Int)).bind fun bt263 => (if t255 = true then (if bt258.2 = true then (if bt263.2 = true then (laws_FnColumns.j0 k t220 (Int.tmod t251 ((rd_L2 t220 0).length : Int)) (wrap64 (t253 - 128)) t254 bt258.1 true) else (laws_FnColumns.j0 k t220 (Int.tmod t251 ((rd_L2 t220 0).length : Int)) (wrap64 (t253 - 128)) t254 bt258.1 ((t254.length : Int) != (t220.length : Int)))) else (laws_FnColumns.j0 k t220 (Int.tmod t251 ((rd_L2 t220 0).length : Int)) (wrap64 (t253 - 128)) t254 bt258.1 true)) else (laws_FnColumns.j0 k t220 (Int.tmod t251 ((rd_L2 t220 0).length : Int)) (wrap64 (t253 - 128)) t254 bt258.1 true)))) = some r := H
     have A131 := Aside0.mk A1310
     clear A1310
     replace H := Option.bind_eq_some_iff.mp H
     obtain ⟨⟨t258, t259⟩, A1320, H⟩ := H
     replace H : ((impl_Column.f k t220 ((rd_L2 t220 0).length : Int)).bind fun bt263 => (if t255 = true then (if t259 = true then (if bt263.2 = true then (laws_FnColumns.j0 k t220 (Int.tmod t251 ((rd_L2 t220 0).length : Int)) (wrap64 (t253 - 128)) t254 t258 true) else (laws_FnColumns.j0 k t220 (Int.tmod t251 ((rd_L2 t220 0).length : Int)) (wrap64 (t253 - 128)) t254 t258 ((t254.length : Int) != (t220.length : Int)))) else (laws_FnColumns.j0 k t220 (Int.tmod t251 ((rd_L2 t220 0).length : Int)) (wrap64 (t253 - 128)) t254 t258 true)) else (laws_FnColumns.j0 k t220 (Int.tmod t251 ((rd_L2 t220 0).length : Int)) (wrap64 (t253 - 128)) t254 t258 true))) = some r := H
     have A132 := Aside0.mk A1320
     clear A1320
     replace H := Option.bind_eq_some_iff.mp H
     obtain ⟨⟨t263, t264⟩, A1330, H⟩ := H
     replace H : (if t255 = true then (if t259 = true then (if t264 = true then (laws_FnColumns.j0 k t220 (Int.tmod t251 ((rd_L2 t220 0).length : Int)) (wrap64 (t253 - 128)) t254 t258 true) else (laws_FnColumns.j0 k t220 (Int.tmod t251 ((rd_L2 t220 0).length : Int)) (wrap64 (t253 - 128)) t254 t258 ((t254.length : Int) != (t220.length : Int)))) else (laws_FnColumns.j0 k t220 (Int.tmod t251 ((rd_L2 t220 0).length : Int)) (wrap64 (t253 - 128)) t254 t258 true)) else (laws_FnColumns.j0 k t220 (Int.tmod t251 ((rd_L2 t220 0).length : Int)) (wrap64 (t253 - 128)) t254 t258 true)) = some r := H
     have A133 := Aside0.mk A1330
     clear A1330
     have HC134 := Aside0.mk H
     clear H
     go_enter Try.func5, Try.ntmps5
     go_upto_region 12 with (first | (go_at_call 18; (with_reducible refine (laws_big.calls _ _ l0 false _ ?side1 ?side2 A2.out).mono ?_); (case side1 => exact rc HR0.out); (case side2 => exact HC0.out); rintro e w' ⟨rfl, ⟨nd, rfl⟩⟩; (try first | exact ⟨rfl, _, World.drewN_drewN _ _ _⟩ | exact ⟨rfl, _, Eq.trans (World.drewN_drewN _ _ _) (congrArg (World.drewN _) (Nat.add_assoc _ _ _))⟩)) | (go_at_call 19; (with_reducible refine (spec_DrawRecord.calls k _ _ l0 t220 _ ?side1 ?side2 A4.out).mono ?_); (case side1 => exact rc HR0.out); (case side2 => exact HC0.out); rintro e w135 ⟨v221, rfl, ho0, hb⟩; have n0_ := Aside0.mk (Kd.N_lower (Kd.N_mono (ok' := fun k_ => True) (Kd.S_N (Kd.S_bound ho0)) (fun k_ hk_ => trivial)) (below_size (bl HB.out))); have n1_ := Aside0.mk (below_step (bl HB.out) hb); clear HB; have HO222 := n0_; have HB := n1_; clear n0_ n1_; (try clear hb); (try clear hb2); (try clear hk); (try clear hi); (try clear ho0); obtain ⟨Ao136, co136, eo136⟩ := Kd.N_slice HO222.out; subst eo136))
     have p252 : 0 ≤ (0 : Int) := (by omega); have q252 : 0 < (t220.length : Int) := of_decide_eq_true (by first | (with_reducible assumption) | assumption); obtain ⟨ad252, A252_0, c252_0, e252, hx252_0, hl252_0, hi252_0⟩ := at_L2 (Kd.N_reads' HO222.out).2.2 0 p252 q252; cases e252; obtain ⟨ce252, hce252, hMe252, hcc252⟩ := Kd.N_get HO222.out [] 0 p252 (by first | exact q252 | exact of_decide_eq_true (by first | (with_reducible assumption) | assumption) | (have e_ := (Kd.N_reads' HO222.out).1; omega)); obtain ⟨ua252_0, uc252_0, rfl, ul252_0, ge252_0⟩ := Kd.FK_slice_open hMe252; have hv252_0 := hcc252 0 _ rfl; rw [Nat.add_zero, show ((Kd.slice 3 (Kd.int .i64))).sz = 1 from rfl, Nat.mul_one] at hv252_0; replace hv252_0 := Option.some.inj (hv252_0.symm.trans hx252_0); injection hv252_0 with hva_ hvn_ hvc_; rw [hva_] at ge252_0; rw [hvc_] at ul252_0; have HL252_0 := Aside0.mk (show Kd.V (Kd.int .i64) 3 _ w.heap.size _ _ (rd_L2 t220 0) from Kd.V_mk ul252_0 ge252_0); clear hva_ hvn_ hvc_ ge252_0 ul252_0; clear hcc252 hce252; have qi252 : (0 < t220.length) = True := eq_true (by omega); (try rw [show ((0 : Int)).toNat = 0 from rfl] at hx252_0); (try rw [Addr.add_zero'] at hx252_0); have HR252_0 := Aside0.mk hi252_0; have HC252_0 := Aside0.mk hl252_0; clear hi252_0 hl252_0; replace p252 := eq_true p252; replace q252 := eq_true q252
     repeat (go_quiet (first | (go_at_call 22; (with_reducible refine (laws_at.calls _ _ l0 1 t251 _ ?side1 ?side2 A127.out).mono ?_); (case side1 => exact rc (Kd.C_below HR0.out HB.out)); (case side2 => exact HC0.out); rintro e w' ⟨rfl, ⟨nd, rfl⟩⟩; (try first | exact ⟨rfl, _, World.drewN_drewN _ _ _⟩ | exact ⟨rfl, _, Eq.trans (World.drewN_drewN _ _ _) (congrArg (World.drewN _) (Nat.add_assoc _ _ _))⟩)) | (go_at_call 22; (with_reducible refine (laws_at.calls _ _ l0 2 t253 _ ?side1 ?side2 A130.out).mono ?_); (case side1 => repeat (first | exact (Kd.C_below HR0.out (bl HB.out)) | (with_reducible refine Kd.C_alloc ?_ _) | (with_reducible refine Kd.C_drewN ?_ _) | (with_reducible refine Kd.C_drew ?_))); (case side2 => exact HC0.out); rintro e w' ⟨rfl, ⟨nd, rfl⟩⟩; (try first | exact ⟨rfl, _, World.drewN_drewN _ _ _⟩ | exact ⟨rfl, _, Eq.trans (World.drewN_drewN _ _ _) (congrArg (World.drewN _) (Nat.add_assoc _ _ _))⟩))); go_upto_region 12 with (first | (go_at_call 20; (with_reducible refine (impl_Column.calls k _ _ t220 (Int.tmod t251 ((rd_L2 t220 0).length : Int)) t254 t255 _ ?side1 ?side2 A131.out).mono ?_); (case side1 => repeat (first | exact (Kd.N_reads' HO222.out).2.2 | (with_reducible refine Kd.C_alloc ?_ _) | (with_reducible refine Kd.C_drewN ?_ _) | (with_reducible refine Kd.C_drew ?_))); (case side2 => exact (Kd.N_reads' HO222.out).2.1); rintro e w137 ⟨v256, rfl, ho0, hb⟩; have n0_ := Aside0.mk (Kd.N_elder' (by (with_reducible repeat (first | apply Kd.N_alloc | apply Kd.N_drewN | apply Kd.N_drew)); exact HO222.out) (Kd.R_base ho0) hb); have n1_ := Aside0.mk (Kd.V_elder' (by (with_reducible repeat (first | apply Kd.V_alloc | apply Kd.V_drewN | apply Kd.V_drew)); exact HL252_0.out) (Kd.R_base ho0) hb); have n2_ := Aside0.mk (Kd.R_lower ho0 (below_size (bl HB.out))); have n3_ := Aside0.mk (Kd.C_below (by repeat (first | (with_reducible exact HR252_0.out) | (with_reducible refine Kd.C_alloc ?_ _) | (with_reducible refine Kd.C_drewN ?_ _) | (with_reducible refine Kd.C_drew ?_) | exact HR252_0.out)) hb); have n4_ := Aside0.mk (below_step (bl HB.out) hb); clear HO222; clear HL252_0; clear HR252_0; clear HB; have HO222 := n0_; have HL252_0 := n1_; have HO257 := n2_; have HR252_0 := n3_; have HB := n4_; clear n0_ n1_ n2_ n3_ n4_; (try clear hb); (try clear hb2); (try clear hk); (try clear hi); (try clear ho0)) | (go_at_call 21; (with_reducible refine (impl_Events20.calls k _ _ t220 (Int.tmod t251 ((rd_L2 t220 0).length : Int)) (wrap64 (t253 - 128)) t258 t259 _ ?side1 ?side2 A132.out).mono ?_); (case side1 => repeat (first | exact (Kd.N_reads' HO222.out).2.2 | (with_reducible refine Kd.C_alloc ?_ _) | (with_reducible refine Kd.C_drewN ?_ _) | (with_reducible refine Kd.C_drew ?_))); (case side2 => exact (Kd.N_reads' HO222.out).2.1); rintro e w138 ⟨v260, rfl, ho0, hb⟩; have n0_ := Aside0.mk (Kd.N_elder' (by (with_reducible repeat (first | apply Kd.N_alloc | apply Kd.N_drewN | apply Kd.N_drew)); exact HO222.out) (Kd.R_base ho0) hb); have n1_ := Aside0.mk (Kd.V_elder' (by (with_reducible repeat (first | apply Kd.V_alloc | apply Kd.V_drewN | apply Kd.V_drew)); exact HL252_0.out) (Kd.R_base ho0) hb); have n2_ := Aside0.mk (Kd.R_elder' (rl HO257.out) (Kd.R_base ho0) hb); have n3_ := Aside0.mk (Kd.R_lower (Kd.R_new' ho0 (Kd.R_lt (by (repeat apply rl1); exact HO257.out))) (below_size (bl HB.out))); have n4_ := Aside0.mk (Kd.C_below (by repeat (first | (with_reducible exact HR252_0.out) | (with_reducible refine Kd.C_alloc ?_ _) | (with_reducible refine Kd.C_drewN ?_ _) | (with_reducible refine Kd.C_drew ?_) | exact HR252_0.out)) hb); have n5_ := Aside0.mk (below_step (bl HB.out) hb); clear HO222; clear HL252_0; clear HO257; clear HR252_0; clear HB; have HO222 := n0_; have HL252_0 := n1_; have HO257 := n2_; have HO261 := n3_; have HR252_0 := n4_; have HB := n5_; clear n0_ n1_ n2_ n3_ n4_ n5_; (try clear hb); (try clear hb2); (try clear hk); (try clear hi); (try clear ho0); have p262 : 0 ≤ (0 : Int) := (by omega); have q262 : 0 < (t220.length : Int) := of_decide_eq_true (by first | (with_reducible assumption) | assumption); obtain ⟨ad262, A262_0, c262_0, e262, hx262_0, hl262_0, hi262_0⟩ := at_L2 (Kd.N_reads' HO222.out).2.2 0 p262 q262; obtain rfl : ad252 = ad262 := (by injection e262); obtain ⟨ce262, hce262, hMe262, hcc262⟩ := Kd.N_get HO222.out [] 0 p262 (by first | exact q262 | exact of_decide_eq_true (by first | (with_reducible assumption) | assumption) | (have e_ := (Kd.N_reads' HO222.out).1; omega)); obtain ⟨ua262_0, uc262_0, rfl, ul262_0, ge262_0⟩ := Kd.FK_slice_open hMe262; have hv262_0 := hcc262 0 _ rfl; rw [Nat.add_zero, show ((Kd.slice 3 (Kd.int .i64))).sz = 1 from rfl, Nat.mul_one] at hv262_0; replace hv262_0 := Option.some.inj (hv262_0.symm.trans hx262_0); injection hv262_0 with hva_ hvn_ hvc_; rw [hva_] at ge262_0; rw [hvc_] at ul262_0; have HL262_0 := Aside0.mk (show Kd.V (Kd.int .i64) 3 _ w.heap.size _ _ (rd_L2 t220 0) from Kd.V_mk ul262_0 ge262_0); clear hva_ hvn_ hvc_ ge262_0 ul262_0; clear hcc262 hce262; have qi262 : (0 < t220.length) = True := eq_true (by omega); (try rw [show ((0 : Int)).toNat = 0 from rfl] at hx262_0); (try rw [Addr.add_zero'] at hx262_0); have HR262_0 := Aside0.mk hi262_0; have HC262_0 := Aside0.mk hl262_0; clear hi262_0 hl262_0; replace p262 := eq_true p262; replace q262 := eq_true q262) | (go_at_call 20; (with_reducible refine (impl_Column.calls k _ _ t220 ((rd_L2 t220 0).length : Int) t263 t264 _ ?side1 ?side2 A133.out).mono ?_); (case side1 => repeat (first | exact (Kd.N_reads' HO222.out).2.2 | (with_reducible refine Kd.C_alloc ?_ _) | (with_reducible refine Kd.C_drewN ?_ _) | (with_reducible refine Kd.C_drew ?_))); (case side2 => exact (Kd.N_reads' HO222.out).2.1); rintro e w139 ⟨v265, rfl, ho0, hb⟩; have n0_ := Aside0.mk (Kd.N_elder' (by (with_reducible repeat (first | apply Kd.N_alloc | apply Kd.N_drewN | apply Kd.N_drew)); exact HO222.out) (Kd.R_base ho0) hb); have n1_ := Aside0.mk (Kd.V_elder' (by (with_reducible repeat (first | apply Kd.V_alloc | apply Kd.V_drewN | apply Kd.V_drew)); exact HL252_0.out) (Kd.R_base ho0) hb); have n2_ := Aside0.mk (Kd.R_elder' (rl HO257.out) (Kd.R_base ho0) hb); have n3_ := Aside0.mk (Kd.R_elder' (rl HO261.out) (Kd.R_base ho0) hb); have n4_ := Aside0.mk (Kd.V_elder' (by (with_reducible repeat (first | apply Kd.V_alloc | apply Kd.V_drewN | apply Kd.V_drew)); exact HL262_0.out) (Kd.R_base ho0) hb); have n5_ := Aside0.mk (Kd.R_lower (Kd.R_new' (Kd.R_new' ho0 (Kd.R_lt (by (repeat apply rl1); exact HO257.out))) (Kd.R_lt (by (repeat apply rl1); exact HO261.out))) (below_size (bl HB.out))); have n6_ := Aside0.mk (Kd.C_below (by repeat (first | (with_reducible exact HR252_0.out) | (with_reducible refine Kd.C_alloc ?_ _) | (with_reducible refine Kd.C_drewN ?_ _) | (with_reducible refine Kd.C_drew ?_) | exact HR252_0.out)) hb); have n7_ := Aside0.mk (Kd.C_below (by repeat (first | (with_reducible exact HR262_0.out) | (with_reducible refine Kd.C_alloc ?_ _) | (with_reducible refine Kd.C_drewN ?_ _) | (with_reducible refine Kd.C_drew ?_) | exact HR262_0.out)) hb); have n8_ := Aside0.mk (below_step (bl HB.out) hb); clear HO222; clear HL252_0; clear HO257; clear HO261; clear HL262_0; clear HR252_0; clear HR262_0; clear HB; have HO222 := n0_; have HL252_0 := n1_; have HO257 := n2_; have HO261 := n3_; have HL262_0 := n4_; have HO266 := n5_; have HR252_0 := n6_; have HR262_0 := n7_; have HB := n8_; clear n0_ n1_ n2_ n3_ n4_ n5_ n6_ n7_ n8_; (try clear hb); (try clear hb2); (try clear hk); (try clear hi); (try clear ho0))))
     (try simp only [Act.put, List.setIfInBounds_toArray, List.set_cons_zero, List.set_cons_succ])
     go_cut [110] (fun v110 wc => ∃ (kq : Nat) (x110_133 : Bool), v110 = .bool x110_133 ∧ Aside0 (laws_FnColumns.j0 kq t220 (Int.tmod t251 ((rd_L2 t220 0).length : Int)) (wrap64 (t253 - 128)) t254 t258 x110_133 = some r) ∧ Aside0 (kq ≤ k) ∧ Aside0 (Kd.N (Kd.slice 3 (Kd.int .i64)) 32 wc w.heap.size (fun k_ => some k_ ≠ (v256 : Value).ownBlock ∧ some k_ ≠ (v260 : Value).ownBlock) (.slice (some ad252) t220.length co136) t220) ∧ Aside0 (Kd.R (Kd.int .i64) 3 wc w.heap.size (fun k_ => some k_ ≠ (v260 : Value).ownBlock) v256 t254) ∧ Aside0 (Kd.R (Kd.int .i64) 3 wc w.heap.size (fun k_ => some k_ ≠ (v256 : Value).ownBlock) v260 t258) ∧ Aside0 (Kd.C (Kd.int .i64) wc A252_0 (rd_L2 t220 0).length (rd_L2 t220 0)) ∧ Aside0 (Kd.C (Kd.int .i64) wc A262_0 (rd_L2 t220 0).length (rd_L2 t220 0)) ∧ Aside0 (Below w.heap.size w wc))
     case first =>
      have H := HC134.out
      clear HC134
      by_cases c140 : t255 = true
      ·
       subst c140
       have H1 : (if t259 = true then (if t264 = true then (laws_FnColumns.j0 k t220 (Int.tmod t251 ((rd_L2 t220 0).length : Int)) (wrap64 (t253 - 128)) t254 t258 true) else (laws_FnColumns.j0 k t220 (Int.tmod t251 ((rd_L2 t220 0).length : Int)) (wrap64 (t253 - 128)) t254 t258 ((t254.length : Int) != (t220.length : Int)))) else (laws_FnColumns.j0 k t220 (Int.tmod t251 ((rd_L2 t220 0).length : Int)) (wrap64 (t253 - 128)) t254 t258 true)) = some r := by rw [if_pos rfl] at H; exact H
       clear H
       have H := H1
       clear H1
       by_cases c141 : t259 = true
       ·
        subst c141
        have H1 : (if t264 = true then (laws_FnColumns.j0 k t220 (Int.tmod t251 ((rd_L2 t220 0).length : Int)) (wrap64 (t253 - 128)) t254 t258 true) else (laws_FnColumns.j0 k t220 (Int.tmod t251 ((rd_L2 t220 0).length : Int)) (wrap64 (t253 - 128)) t254 t258 ((t254.length : Int) != (t220.length : Int)))) = some r := by rw [if_pos rfl] at H; exact H
        clear H
        have H := H1
        clear H1
        by_cases c142 : t264 = true
        ·
         subst c142
         have H1 : (laws_FnColumns.j0 k t220 (Int.tmod t251 ((rd_L2 t220 0).length : Int)) (wrap64 (t253 - 128)) t254 t258 true) = some r := by rw [if_pos rfl] at H; exact H
         clear H
         have H := H1
         clear H1
         have H' := Aside0.mk H
         clear H
         go_wp2
         repeat (go_quiet (fail); try go_wp2)
         go_meet
         case rel => exact ⟨_, (true), (by first | rfl | (simp; done) | (simp [*]; done)), H', ⟨by first | omega | exact Nat.le_refl _⟩, ⟨by (with_reducible repeat (first | apply Kd.N_alloc | apply Kd.N_drewN | apply Kd.N_drew)); exact Kd.N_mono HO222.out (fun _ hk => ⟨hk.1.1.2, hk.1.2⟩)⟩, ⟨by (repeat apply rl1); exact Kd.R_mono HO257.out (fun _ hk => hk.1.2)⟩, ⟨by (repeat apply rl1); exact Kd.R_mono HO261.out (fun _ hk => hk.1.2)⟩, ⟨by repeat (first | (with_reducible exact HR252_0.out) | (with_reducible refine Kd.C_alloc ?_ _) | (with_reducible refine Kd.C_drewN ?_ _) | (with_reducible refine Kd.C_drew ?_) | exact HR252_0.out)⟩, ⟨by repeat (first | (with_reducible exact HR262_0.out) | (with_reducible refine Kd.C_alloc ?_ _) | (with_reducible refine Kd.C_drewN ?_ _) | (with_reducible refine Kd.C_drew ?_) | exact HR262_0.out)⟩, ⟨bl HB.out⟩⟩
        ·
         replace c142 := Bool.eq_false_iff.mpr c142
         subst c142
         have H1 : (laws_FnColumns.j0 k t220 (Int.tmod t251 ((rd_L2 t220 0).length : Int)) (wrap64 (t253 - 128)) t254 t258 ((t254.length : Int) != (t220.length : Int))) = some r := by rw [if_neg (show ¬ (false = true) by decide)] at H; exact H
         clear H
         have H := H1
         clear H1
         have H' := Aside0.mk H
         clear H
         obtain ⟨Ao143, co143, eo143⟩ := Kd.R_slice HO257.out
         subst eo143
         go_wp2
         repeat (go_quiet (fail); try go_wp2)
         go_meet
         case rel => exact ⟨_, (((t254.length : Int) != (t220.length : Int))), (by first | rfl | (simp; done) | (simp [*]; done)), H', ⟨by first | omega | exact Nat.le_refl _⟩, ⟨by (with_reducible repeat (first | apply Kd.N_alloc | apply Kd.N_drewN | apply Kd.N_drew)); exact Kd.N_mono HO222.out (fun _ hk => ⟨hk.1.1.2, hk.1.2⟩)⟩, ⟨by (repeat apply rl1); exact Kd.R_mono HO257.out (fun _ hk => hk.1.2)⟩, ⟨by (repeat apply rl1); exact Kd.R_mono HO261.out (fun _ hk => hk.1.2)⟩, ⟨by repeat (first | (with_reducible exact HR252_0.out) | (with_reducible refine Kd.C_alloc ?_ _) | (with_reducible refine Kd.C_drewN ?_ _) | (with_reducible refine Kd.C_drew ?_) | exact HR252_0.out)⟩, ⟨by repeat (first | (with_reducible exact HR262_0.out) | (with_reducible refine Kd.C_alloc ?_ _) | (with_reducible refine Kd.C_drewN ?_ _) | (with_reducible refine Kd.C_drew ?_) | exact HR262_0.out)⟩, ⟨bl HB.out⟩⟩
       ·
        replace c141 := Bool.eq_false_iff.mpr c141
        subst c141
        have H1 : (laws_FnColumns.j0 k t220 (Int.tmod t251 ((rd_L2 t220 0).length : Int)) (wrap64 (t253 - 128)) t254 t258 true) = some r := by rw [if_neg (show ¬ (false = true) by decide)] at H; exact H
        clear H
        have H := H1
        clear H1
        have H' := Aside0.mk H
        clear H
        go_wp2
        repeat (go_quiet (fail); try go_wp2)
        go_meet
        case rel => exact ⟨_, (true), (by first | rfl | (simp; done) | (simp [*]; done)), H', ⟨by first | omega | exact Nat.le_refl _⟩, ⟨by (with_reducible repeat (first | apply Kd.N_alloc | apply Kd.N_drewN | apply Kd.N_drew)); exact Kd.N_mono HO222.out (fun _ hk => ⟨hk.1.1.2, hk.1.2⟩)⟩, ⟨by (repeat apply rl1); exact Kd.R_mono HO257.out (fun _ hk => hk.1.2)⟩, ⟨by (repeat apply rl1); exact Kd.R_mono HO261.out (fun _ hk => hk.1.2)⟩, ⟨by repeat (first | (with_reducible exact HR252_0.out) | (with_reducible refine Kd.C_alloc ?_ _) | (with_reducible refine Kd.C_drewN ?_ _) | (with_reducible refine Kd.C_drew ?_) | exact HR252_0.out)⟩, ⟨by repeat (first | (with_reducible exact HR262_0.out) | (with_reducible refine Kd.C_alloc ?_ _) | (with_reducible refine Kd.C_drewN ?_ _) | (with_reducible refine Kd.C_drew ?_) | exact HR262_0.out)⟩, ⟨bl HB.out⟩⟩
      ·
       replace c140 := Bool.eq_false_iff.mpr c140
       subst c140
       have H1 : (laws_FnColumns.j0 k t220 (Int.tmod t251 ((rd_L2 t220 0).length : Int)) (wrap64 (t253 - 128)) t254 t258 true) = some r := by rw [if_neg (show ¬ (false = true) by decide)] at H; exact H
       clear H
       have H := H1
       clear H1
       have H' := Aside0.mk H
       clear H
       go_wp2
       repeat (go_quiet (fail); try go_wp2)
       go_meet
       case rel => exact ⟨_, (true), (by first | rfl | (simp; done) | (simp [*]; done)), H', ⟨by first | omega | exact Nat.le_refl _⟩, ⟨by (with_reducible repeat (first | apply Kd.N_alloc | apply Kd.N_drewN | apply Kd.N_drew)); exact Kd.N_mono HO222.out (fun _ hk => ⟨hk.1.1.2, hk.1.2⟩)⟩, ⟨by (repeat apply rl1); exact Kd.R_mono HO257.out (fun _ hk => hk.1.2)⟩, ⟨by (repeat apply rl1); exact Kd.R_mono HO261.out (fun _ hk => hk.1.2)⟩, ⟨by repeat (first | (with_reducible exact HR252_0.out) | (with_reducible refine Kd.C_alloc ?_ _) | (with_reducible refine Kd.C_drewN ?_ _) | (with_reducible refine Kd.C_drew ?_) | exact HR252_0.out)⟩, ⟨by repeat (first | (with_reducible exact HR262_0.out) | (with_reducible refine Kd.C_alloc ?_ _) | (with_reducible refine Kd.C_drewN ?_ _) | (with_reducible refine Kd.C_drew ?_) | exact HR262_0.out)⟩, ⟨bl HB.out⟩⟩
     case rest =>
      clear HC134
      try clear c1
      try clear c2
      try clear p2
      try clear q2
      try clear hx2
      try clear qi2
      try clear c3
      try clear c5
      try clear c5b0
      try clear c5b1
      try clear c5b2
      try clear p6
      try clear c8
      try clear c12
      try clear c14
      try clear p24
      try clear q24
      try clear hx24
      try clear qi24
      try clear c25
      try clear p25
      try clear q25
      try clear hx25
      try clear qi25
      try clear c26
      try clear p26
      try clear q26
      try clear hx26
      try clear qi26
      try clear c31
      try clear c32
      try clear c32b0
      try clear c32b1
      try clear c33
      try clear c33b0
      try clear c33b1
      try clear c34
      try clear c34b0
      try clear c34b1
      try clear c35
      try clear c35b0
      try clear c35b1
      try clear p64
      try clear c128
      try clear c128b0
      try clear c128b1
      try clear c129
      try clear c129b0
      try clear c129b1
      try clear c129b2
      try clear c140
      try clear c141
      try clear c142
      try clear hx249_0
      try clear hx250_0
      try clear hx252_0
      try clear hx262_0
      try clear p249
      try clear p250
      try clear p252
      try clear p262
      try clear q249
      try clear q250
      try clear q252
      try clear q262
      obtain ⟨kq, x110_133, rfl, HA, HJ133, HO_3, HO_10, HO_12, HR252_0, HR262_0, HB⟩ := hcut
      cases kq with
      | zero => exact absurd HA.out (by simp [laws_FnColumns.j0])
      | succ kj133 =>
       have H := HA.out
       clear HA
       simp only [laws_FnColumns.j0] at H
       by_cases c144 : x110_133 = true
       ·
        subst c144
        have H1 : (some false) = some r := by rw [if_pos rfl] at H; exact H
        clear H
        have H := H1
        clear H1
        obtain rfl := Option.some.inj H
        go_wp2
        repeat (go_quiet (fail); try go_wp2)
        go_ret
        exact ⟨by first | rfl | (simp [errW_none, errW_some] <;> rfl) | (simp [*, errW_none, errW_some] <;> rfl), bl HB.out⟩
       ·
        replace c144 := Bool.eq_false_iff.mpr c144
        subst c144
        have H1 : (laws_FnColumns.l0 kj133 t220 (Int.tmod t251 ((rd_L2 t220 0).length : Int)) (wrap64 (t253 - 128)) t254 t258 0) = some r := by rw [if_neg (show ¬ (false = true) by decide)] at H; exact H
        clear H
        have H := H1
        clear H1
        have H' := Aside0.mk H
        clear H
        go_wp2
        repeat (go_quiet (fail); try go_wp2)
        go_loopg [16] kj133 (fun kq v16 w' => ∃ (x16_2 : Int), v16 = .int .i64 x16_2 ∧ Aside0 (laws_FnColumns.l0 kq t220 (Int.tmod t251 ((rd_L2 t220 0).length : Int)) (wrap64 (t253 - 128)) t254 t258 x16_2 = some r) ∧ Aside0 (kq ≤ kj133) ∧ Aside0 (Kd.N (Kd.slice 3 (Kd.int .i64)) 32 w' w.heap.size (fun k_ => some k_ ≠ (v256 : Value).ownBlock ∧ some k_ ≠ (v260 : Value).ownBlock) (.slice (some ad252) t220.length co136) t220) ∧ Aside0 (Kd.R (Kd.int .i64) 3 w' w.heap.size (fun k_ => some k_ ≠ (v260 : Value).ownBlock) v256 t254) ∧ Aside0 (Kd.R (Kd.int .i64) 3 w' w.heap.size (fun k_ => some k_ ≠ (v256 : Value).ownBlock) v260 t258) ∧ Aside0 (Kd.C (Kd.int .i64) w' A252_0 (rd_L2 t220 0).length (rd_L2 t220 0)) ∧ Aside0 (Kd.C (Kd.int .i64) w' A262_0 (rd_L2 t220 0).length (rd_L2 t220 0)) ∧ Aside0 (Below w.heap.size w w'))
        case atStart => exact ⟨(0), (by first | rfl | (simp; done) | (simp [*]; done)), H', ⟨Nat.le_refl _⟩, ⟨by (with_reducible repeat (first | apply Kd.N_alloc | apply Kd.N_drewN | apply Kd.N_drew)); exact HO_3.out⟩, ⟨rl HO_10.out⟩, ⟨rl HO_12.out⟩, ⟨by repeat (first | (with_reducible exact HR252_0.out) | (with_reducible refine Kd.C_alloc ?_ _) | (with_reducible refine Kd.C_drewN ?_ _) | (with_reducible refine Kd.C_drew ?_) | exact HR252_0.out)⟩, ⟨by repeat (first | (with_reducible exact HR262_0.out) | (with_reducible refine Kd.C_alloc ?_ _) | (with_reducible refine Kd.C_drewN ?_ _) | (with_reducible refine Kd.C_drew ?_) | exact HR262_0.out)⟩, ⟨bl HB.out⟩⟩
        case round =>
         clear H'
         try clear c1
         try clear c2
         try clear p2
         try clear q2
         try clear hx2
         try clear qi2
         try clear c3
         try clear c5
         try clear c5b0
         try clear c5b1
         try clear c5b2
         try clear p6
         try clear c8
         try clear c12
         try clear c14
         try clear p24
         try clear q24
         try clear hx24
         try clear qi24
         try clear c25
         try clear p25
         try clear q25
         try clear hx25
         try clear qi25
         try clear c26
         try clear p26
         try clear q26
         try clear hx26
         try clear qi26
         try clear c31
         try clear c32
         try clear c32b0
         try clear c32b1
         try clear c33
         try clear c33b0
         try clear c33b1
         try clear c34
         try clear c34b0
         try clear c34b1
         try clear c35
         try clear c35b0
         try clear c35b1
         try clear p64
         try clear c128
         try clear c128b0
         try clear c128b1
         try clear c129
         try clear c129b0
         try clear c129b1
         try clear c129b2
         try clear c140
         try clear c141
         try clear c142
         try clear c144
         try clear hx249_0
         try clear hx250_0
         try clear hx252_0
         try clear hx262_0
         try clear p2
         try clear p24
         try clear p249
         try clear p25
         try clear p250
         try clear p252
         try clear p26
         try clear p262
         try clear p6
         try clear p64
         try clear q2
         try clear q24
         try clear q249
         try clear q25
         try clear q250
         try clear q252
         try clear q26
         try clear q262
         obtain ⟨x16_2, rfl, HA, HK2, HO_3, HO_10, HO_12, HR252_0, HR262_0, HB⟩ := hrel
         cases gk with
         | zero => exact absurd HA.out (by simp [laws_FnColumns.l0])
         | succ k2 =>
          have H := HA.out
          clear HA
          simp only [laws_FnColumns.l0] at H
          by_cases c145 : x16_2 < (t254.length : Int)
          ·
           rw [if_pos c145] at H
           have c145b0 : decide (x16_2 < (t254.length : Int)) = true := decide_eq_true c145
           clear c145
           by_cases c146 : 0 ≤ x16_2
           ·
            rw [if_pos c146] at H
            have c146b0 : decide (0 ≤ x16_2) = true := decide_eq_true c146
            clear c146
            by_cases c147 : (rd t254 x16_2) > (wrap64 (t253 - 128))
            ·
             rw [if_pos c147] at H
             have c147b0 : decide ((wrap64 (t253 - 128)) < (rd t254 x16_2)) = true := decide_eq_true c147
             clear c147
             by_cases c148 : x16_2 = 0
             ·
              rw [if_pos c148] at H
              have c148b0 : (x16_2 == 0) = true := beq_iff_eq.mpr c148
              have c148b1 : (x16_2 != 0) = false := bne_eq_false_iff_eq.mpr c148
              clear c148
              by_cases c149 : x16_2 < (t220.length : Int)
              ·
               rw [if_pos c149] at H
               have c149b0 : decide (x16_2 < (t220.length : Int)) = true := decide_eq_true c149
               clear c149
               obtain ⟨ji150, hji150⟩ : ∃ j_ : Int, (Int.tmod t251 ((rd_L2 t220 0).length : Int)) = j_ := ⟨_, rfl⟩
               replace H : (if 0 ≤ (ji150) then (if (ji150) < ((rd_L2 t220 x16_2).length : Int) then (if (rd t254 x16_2) = (rd (rd_L2 t220 x16_2) (ji150)) then ((laws_within.f k2 t258 x16_2).bind fun t271 => (if (true != t271) = true then (some false) else (laws_FnColumns.l0 k2 t220 (ji150) (wrap64 (t253 - 128)) t254 t258 (wrap64 (x16_2 + 1))))) else (some false)) else (none)) else (none)) = some r := by first | (rw [hji150] at H; exact H) | (simp only [hji150] at H ⊢; exact H)
               by_cases c151 : 0 ≤ (ji150)
               ·
                rw [if_pos c151] at H
                have c151b0 : decide (0 ≤ (ji150)) = true := decide_eq_true c151
                clear c151
                by_cases c152 : (ji150) < ((rd_L2 t220 x16_2).length : Int)
                ·
                 rw [if_pos c152] at H
                 have c152b0 : decide ((ji150) < ((rd_L2 t220 x16_2).length : Int)) = true := decide_eq_true c152
                 clear c152
                 by_cases c153 : (rd t254 x16_2) = (rd (rd_L2 t220 x16_2) (ji150))
                 ·
                  rw [if_pos c153] at H
                  have c153b0 : ((rd t254 x16_2) == (rd (rd_L2 t220 x16_2) (ji150))) = true := beq_iff_eq.mpr c153
                  have c153b1 : ((rd t254 x16_2) != (rd (rd_L2 t220 x16_2) (ji150))) = false := bne_eq_false_iff_eq.mpr c153
                  clear c153
                  replace H := Option.bind_eq_some_iff.mp H
                  obtain ⟨t271, A1540, H⟩ := H
                  replace H : (if (true != t271) = true then (some false) else (laws_FnColumns.l0 k2 t220 (ji150) (wrap64 (t253 - 128)) t254 t258 (wrap64 (x16_2 + 1)))) = some r := H
                  have A154 := Aside0.mk A1540
                  clear A1540
                  by_cases c155 : (true != t271) = true
                  ·
                   rw [if_pos c155] at H
                   have c155b0 : (true != t271) = true := c155
                   (try (have c155b1 : decide (true = t271) = false := by simpa using c155))
                   (try (have c155b2 : (true == t271) = false := by simpa using c155))
                   (try (have c155b3 : ¬ (true = t271) := by simpa using c155))
                   clear c155
                   obtain rfl := Option.some.inj H
                   obtain ⟨Ao156, co156, eo156⟩ := Kd.R_slice HO_10.out
                   subst eo156
                   have p267 : 0 ≤ (x16_2 : Int) := of_decide_eq_true (by first | (with_reducible assumption) | assumption)
                   have q267 : x16_2 < (t254.length : Int) := of_decide_eq_true (by first | (with_reducible assumption) | assumption)
                   obtain ⟨ad267, e267, hx267_0⟩ := Kd.at_int (Kd.R_reads' HO_10.out).2.2 x16_2 p267 q267
                   cases e267
                   replace p267 := eq_true p267
                   replace q267 := eq_true q267
                   have p268 : 0 ≤ (x16_2 : Int) := of_decide_eq_true (by first | (with_reducible assumption) | assumption)
                   have q268 : x16_2 < (t254.length : Int) := of_decide_eq_true (by first | (with_reducible assumption) | assumption)
                   obtain ⟨ad268, e268, hx268_0⟩ := Kd.at_int (Kd.R_reads' HO_10.out).2.2 x16_2 p268 q268
                   obtain rfl : ad267 = ad268 := (by injection e268)
                   replace p268 := eq_true p268
                   replace q268 := eq_true q268
                   have p269 : 0 ≤ (x16_2 : Int) := of_decide_eq_true (by first | (with_reducible assumption) | assumption)
                   have q269 : x16_2 < (t220.length : Int) := of_decide_eq_true (by first | (with_reducible assumption) | assumption)
                   obtain ⟨ad269, A269_0, c269_0, e269, hx269_0, hl269_0, hi269_0⟩ := at_L2 (Kd.N_reads' HO_3.out).2.2 x16_2 p269 q269
                   obtain rfl : ad252 = ad269 := (by injection e269)
                   obtain ⟨ce269, hce269, hMe269, hcc269⟩ := Kd.N_get HO_3.out [] x16_2 p269 (by first | exact q269 | exact of_decide_eq_true (by first | (with_reducible assumption) | assumption) | (have e_ := (Kd.N_reads' HO_3.out).1; omega))
                   obtain ⟨ua269_0, uc269_0, rfl, ul269_0, ge269_0⟩ := Kd.FK_slice_open hMe269
                   have hv269_0 := hcc269 0 _ rfl
                   rw [Nat.add_zero, show ((Kd.slice 3 (Kd.int .i64))).sz = 1 from rfl, Nat.mul_one] at hv269_0
                   replace hv269_0 := Option.some.inj (hv269_0.symm.trans hx269_0)
                   injection hv269_0 with hva_ hvn_ hvc_
                   rw [hva_] at ge269_0
                   rw [hvc_] at ul269_0
                   have HL269_0 := Aside0.mk (show Kd.V (Kd.int .i64) 3 _ w.heap.size _ _ (rd_L2 t220 x16_2) from Kd.V_mk ul269_0 ge269_0)
                   clear hva_ hvn_ hvc_ ge269_0 ul269_0
                   clear hcc269 hce269
                   have HR269_0 := Aside0.mk hi269_0
                   have HC269_0 := Aside0.mk hl269_0
                   clear hi269_0 hl269_0
                   replace p269 := eq_true p269
                   replace q269 := eq_true q269
                   have p270 : 0 ≤ ((ji150) : Int) := of_decide_eq_true (by first | (with_reducible assumption) | assumption)
                   have q270 : (ji150) < ((rd_L2 t220 x16_2).length : Int) := of_decide_eq_true (by first | (with_reducible assumption) | assumption)
                   obtain ⟨ad270, e270, hx270_0⟩ := Kd.at_int (by repeat (first | (with_reducible exact HR269_0.out) | (with_reducible refine Kd.C_alloc ?_ _) | (with_reducible refine Kd.C_drewN ?_ _) | (with_reducible refine Kd.C_drew ?_) | exact HR269_0.out)) (ji150) p270 q270
                   cases e270
                   replace p270 := eq_true p270
                   replace q270 := eq_true q270
                   obtain ⟨Ao157, co157, eo157⟩ := Kd.R_slice HO_12.out
                   subst eo157
                   go_wp2_with (first | (go_at_call 23; (with_reducible refine (laws_within.calls k2 _ _ t258 x16_2 t271 _ ?side1 ?side2 A154.out).mono ?_); (case side1 => exact rc (Kd.R_reads' HO_12.out).2.2); (case side2 => exact (Kd.R_reads' HO_12.out).2.1); rintro e w' ⟨rfl, ⟨nd, rfl⟩⟩; (try first | exact ⟨rfl, _, World.drewN_drewN _ _ _⟩ | exact ⟨rfl, _, Eq.trans (World.drewN_drewN _ _ _) (congrArg (World.drewN _) (Nat.add_assoc _ _ _))⟩)))
                   repeat (go_quiet (first | (go_at_call 23; (with_reducible refine (laws_within.calls k2 _ _ t258 x16_2 t271 _ ?side1 ?side2 A154.out).mono ?_); (case side1 => exact rc (Kd.R_reads' HO_12.out).2.2); (case side2 => exact (Kd.R_reads' HO_12.out).2.1); rintro e w' ⟨rfl, ⟨nd, rfl⟩⟩; (try first | exact ⟨rfl, _, World.drewN_drewN _ _ _⟩ | exact ⟨rfl, _, Eq.trans (World.drewN_drewN _ _ _) (congrArg (World.drewN _) (Nat.add_assoc _ _ _))⟩))); try go_wp2_with (first | (go_at_call 23; (with_reducible refine (laws_within.calls k2 _ _ t258 x16_2 t271 _ ?side1 ?side2 A154.out).mono ?_); (case side1 => exact rc (Kd.R_reads' HO_12.out).2.2); (case side2 => exact (Kd.R_reads' HO_12.out).2.1); rintro e w' ⟨rfl, ⟨nd, rfl⟩⟩; (try first | exact ⟨rfl, _, World.drewN_drewN _ _ _⟩ | exact ⟨rfl, _, Eq.trans (World.drewN_drewN _ _ _) (congrArg (World.drewN _) (Nat.add_assoc _ _ _))⟩))))
                   go_ret
                   exact ⟨by first | rfl | (simp [errW_none, errW_some] <;> rfl) | (simp only [← hji150]; first | rfl | (simp [errW_none, errW_some] <;> rfl)) | (simp [*, errW_none, errW_some] <;> rfl), bl HB.out⟩
                  ·
                   rw [if_neg c155] at H
                   have c155b0 : (true != t271) = false := by simpa using c155
                   (try (have c155b1 : decide (true = t271) = true := by simpa using c155))
                   (try (have c155b2 : (true == t271) = true := by simpa using c155))
                   clear c155
                   have H' := Aside0.mk H
                   clear H
                   obtain ⟨Ao158, co158, eo158⟩ := Kd.R_slice HO_10.out
                   subst eo158
                   have p267 : 0 ≤ (x16_2 : Int) := of_decide_eq_true (by first | (with_reducible assumption) | assumption)
                   have q267 : x16_2 < (t254.length : Int) := of_decide_eq_true (by first | (with_reducible assumption) | assumption)
                   obtain ⟨ad267, e267, hx267_0⟩ := Kd.at_int (Kd.R_reads' HO_10.out).2.2 x16_2 p267 q267
                   cases e267
                   replace p267 := eq_true p267
                   replace q267 := eq_true q267
                   have p268 : 0 ≤ (x16_2 : Int) := of_decide_eq_true (by first | (with_reducible assumption) | assumption)
                   have q268 : x16_2 < (t254.length : Int) := of_decide_eq_true (by first | (with_reducible assumption) | assumption)
                   obtain ⟨ad268, e268, hx268_0⟩ := Kd.at_int (Kd.R_reads' HO_10.out).2.2 x16_2 p268 q268
                   obtain rfl : ad267 = ad268 := (by injection e268)
                   replace p268 := eq_true p268
                   replace q268 := eq_true q268
                   have p269 : 0 ≤ (x16_2 : Int) := of_decide_eq_true (by first | (with_reducible assumption) | assumption)
                   have q269 : x16_2 < (t220.length : Int) := of_decide_eq_true (by first | (with_reducible assumption) | assumption)
                   obtain ⟨ad269, A269_0, c269_0, e269, hx269_0, hl269_0, hi269_0⟩ := at_L2 (Kd.N_reads' HO_3.out).2.2 x16_2 p269 q269
                   obtain rfl : ad252 = ad269 := (by injection e269)
                   obtain ⟨ce269, hce269, hMe269, hcc269⟩ := Kd.N_get HO_3.out [] x16_2 p269 (by first | exact q269 | exact of_decide_eq_true (by first | (with_reducible assumption) | assumption) | (have e_ := (Kd.N_reads' HO_3.out).1; omega))
                   obtain ⟨ua269_0, uc269_0, rfl, ul269_0, ge269_0⟩ := Kd.FK_slice_open hMe269
                   have hv269_0 := hcc269 0 _ rfl
                   rw [Nat.add_zero, show ((Kd.slice 3 (Kd.int .i64))).sz = 1 from rfl, Nat.mul_one] at hv269_0
                   replace hv269_0 := Option.some.inj (hv269_0.symm.trans hx269_0)
                   injection hv269_0 with hva_ hvn_ hvc_
                   rw [hva_] at ge269_0
                   rw [hvc_] at ul269_0
                   have HL269_0 := Aside0.mk (show Kd.V (Kd.int .i64) 3 _ w.heap.size _ _ (rd_L2 t220 x16_2) from Kd.V_mk ul269_0 ge269_0)
                   clear hva_ hvn_ hvc_ ge269_0 ul269_0
                   clear hcc269 hce269
                   have HR269_0 := Aside0.mk hi269_0
                   have HC269_0 := Aside0.mk hl269_0
                   clear hi269_0 hl269_0
                   replace p269 := eq_true p269
                   replace q269 := eq_true q269
                   have p270 : 0 ≤ ((ji150) : Int) := of_decide_eq_true (by first | (with_reducible assumption) | assumption)
                   have q270 : (ji150) < ((rd_L2 t220 x16_2).length : Int) := of_decide_eq_true (by first | (with_reducible assumption) | assumption)
                   obtain ⟨ad270, e270, hx270_0⟩ := Kd.at_int (by repeat (first | (with_reducible exact HR269_0.out) | (with_reducible refine Kd.C_alloc ?_ _) | (with_reducible refine Kd.C_drewN ?_ _) | (with_reducible refine Kd.C_drew ?_) | exact HR269_0.out)) (ji150) p270 q270
                   cases e270
                   replace p270 := eq_true p270
                   replace q270 := eq_true q270
                   obtain ⟨Ao159, co159, eo159⟩ := Kd.R_slice HO_12.out
                   subst eo159
                   go_wp2_with (first | (go_at_call 23; (with_reducible refine (laws_within.calls k2 _ _ t258 x16_2 t271 _ ?side1 ?side2 A154.out).mono ?_); (case side1 => exact rc (Kd.R_reads' HO_12.out).2.2); (case side2 => exact (Kd.R_reads' HO_12.out).2.1); rintro e w' ⟨rfl, ⟨nd, rfl⟩⟩; (try first | exact ⟨rfl, _, World.drewN_drewN _ _ _⟩ | exact ⟨rfl, _, Eq.trans (World.drewN_drewN _ _ _) (congrArg (World.drewN _) (Nat.add_assoc _ _ _))⟩)))
                   repeat (go_quiet (first | (go_at_call 23; (with_reducible refine (laws_within.calls k2 _ _ t258 x16_2 t271 _ ?side1 ?side2 A154.out).mono ?_); (case side1 => exact rc (Kd.R_reads' HO_12.out).2.2); (case side2 => exact (Kd.R_reads' HO_12.out).2.1); rintro e w' ⟨rfl, ⟨nd, rfl⟩⟩; (try first | exact ⟨rfl, _, World.drewN_drewN _ _ _⟩ | exact ⟨rfl, _, Eq.trans (World.drewN_drewN _ _ _) (congrArg (World.drewN _) (Nat.add_assoc _ _ _))⟩))); try go_wp2_with (first | (go_at_call 23; (with_reducible refine (laws_within.calls k2 _ _ t258 x16_2 t271 _ ?side1 ?side2 A154.out).mono ?_); (case side1 => exact rc (Kd.R_reads' HO_12.out).2.2); (case side2 => exact (Kd.R_reads' HO_12.out).2.1); rintro e w' ⟨rfl, ⟨nd, rfl⟩⟩; (try first | exact ⟨rfl, _, World.drewN_drewN _ _ _⟩ | exact ⟨rfl, _, Eq.trans (World.drewN_drewN _ _ _) (congrArg (World.drewN _) (Nat.add_assoc _ _ _))⟩))))
                   (try subst hji150)
                   go_roundg k2
                   case measure => have := HJ133.out; have := HK2.out; omega
                   case rel => exact ⟨(wrap64 (x16_2 + 1)), (by first | rfl | (simp; done) | (simp [*]; done)), H', ⟨by have := HJ133.out; have := HK2.out; omega⟩, ⟨by (with_reducible repeat (first | apply Kd.N_alloc | apply Kd.N_drewN | apply Kd.N_drew)); exact HO_3.out⟩, ⟨rl HO_10.out⟩, ⟨rl HO_12.out⟩, ⟨by repeat (first | (with_reducible exact HR252_0.out) | (with_reducible refine Kd.C_alloc ?_ _) | (with_reducible refine Kd.C_drewN ?_ _) | (with_reducible refine Kd.C_drew ?_) | exact HR252_0.out)⟩, ⟨by repeat (first | (with_reducible exact HR262_0.out) | (with_reducible refine Kd.C_alloc ?_ _) | (with_reducible refine Kd.C_drewN ?_ _) | (with_reducible refine Kd.C_drew ?_) | exact HR262_0.out)⟩, ⟨bl HB.out⟩⟩
                 ·
                  rw [if_neg c153] at H
                  have c153b0 : ((rd t254 x16_2) == (rd (rd_L2 t220 x16_2) (ji150))) = false := beq_eq_false_iff_ne.mpr c153
                  have c153b1 : ((rd t254 x16_2) != (rd (rd_L2 t220 x16_2) (ji150))) = true := bne_iff_ne.mpr c153
                  obtain rfl := Option.some.inj H
                  obtain ⟨Ao160, co160, eo160⟩ := Kd.R_slice HO_10.out
                  subst eo160
                  have p267 : 0 ≤ (x16_2 : Int) := of_decide_eq_true (by first | (with_reducible assumption) | assumption)
                  have q267 : x16_2 < (t254.length : Int) := of_decide_eq_true (by first | (with_reducible assumption) | assumption)
                  obtain ⟨ad267, e267, hx267_0⟩ := Kd.at_int (Kd.R_reads' HO_10.out).2.2 x16_2 p267 q267
                  cases e267
                  replace p267 := eq_true p267
                  replace q267 := eq_true q267
                  have p268 : 0 ≤ (x16_2 : Int) := of_decide_eq_true (by first | (with_reducible assumption) | assumption)
                  have q268 : x16_2 < (t254.length : Int) := of_decide_eq_true (by first | (with_reducible assumption) | assumption)
                  obtain ⟨ad268, e268, hx268_0⟩ := Kd.at_int (Kd.R_reads' HO_10.out).2.2 x16_2 p268 q268
                  obtain rfl : ad267 = ad268 := (by injection e268)
                  replace p268 := eq_true p268
                  replace q268 := eq_true q268
                  have p269 : 0 ≤ (x16_2 : Int) := of_decide_eq_true (by first | (with_reducible assumption) | assumption)
                  have q269 : x16_2 < (t220.length : Int) := of_decide_eq_true (by first | (with_reducible assumption) | assumption)
                  obtain ⟨ad269, A269_0, c269_0, e269, hx269_0, hl269_0, hi269_0⟩ := at_L2 (Kd.N_reads' HO_3.out).2.2 x16_2 p269 q269
                  obtain rfl : ad252 = ad269 := (by injection e269)
                  obtain ⟨ce269, hce269, hMe269, hcc269⟩ := Kd.N_get HO_3.out [] x16_2 p269 (by first | exact q269 | exact of_decide_eq_true (by first | (with_reducible assumption) | assumption) | (have e_ := (Kd.N_reads' HO_3.out).1; omega))
                  obtain ⟨ua269_0, uc269_0, rfl, ul269_0, ge269_0⟩ := Kd.FK_slice_open hMe269
                  have hv269_0 := hcc269 0 _ rfl
                  rw [Nat.add_zero, show ((Kd.slice 3 (Kd.int .i64))).sz = 1 from rfl, Nat.mul_one] at hv269_0
                  replace hv269_0 := Option.some.inj (hv269_0.symm.trans hx269_0)
                  injection hv269_0 with hva_ hvn_ hvc_
                  rw [hva_] at ge269_0
                  rw [hvc_] at ul269_0
                  have HL269_0 := Aside0.mk (show Kd.V (Kd.int .i64) 3 _ w.heap.size _ _ (rd_L2 t220 x16_2) from Kd.V_mk ul269_0 ge269_0)
                  clear hva_ hvn_ hvc_ ge269_0 ul269_0
                  clear hcc269 hce269
                  have HR269_0 := Aside0.mk hi269_0
                  have HC269_0 := Aside0.mk hl269_0
                  clear hi269_0 hl269_0
                  replace p269 := eq_true p269
                  replace q269 := eq_true q269
                  have p270 : 0 ≤ ((ji150) : Int) := of_decide_eq_true (by first | (with_reducible assumption) | assumption)
                  have q270 : (ji150) < ((rd_L2 t220 x16_2).length : Int) := of_decide_eq_true (by first | (with_reducible assumption) | assumption)
                  obtain ⟨ad270, e270, hx270_0⟩ := Kd.at_int (by repeat (first | (with_reducible exact HR269_0.out) | (with_reducible refine Kd.C_alloc ?_ _) | (with_reducible refine Kd.C_drewN ?_ _) | (with_reducible refine Kd.C_drew ?_) | exact HR269_0.out)) (ji150) p270 q270
                  cases e270
                  replace p270 := eq_true p270
                  replace q270 := eq_true q270
                  go_wp2
                  repeat (go_quiet (fail); try go_wp2)
                  go_ret
                  exact ⟨by first | rfl | (simp [errW_none, errW_some] <;> rfl) | (simp only [← hji150]; first | rfl | (simp [errW_none, errW_some] <;> rfl)) | (simp [*, errW_none, errW_some] <;> rfl), bl HB.out⟩
                ·
                 rw [if_neg c152] at H
                 exact absurd H (by simp)
               ·
                rw [if_neg c151] at H
                exact absurd H (by simp)
              ·
               rw [if_neg c149] at H
               exact absurd H (by simp)
             ·
              rw [if_neg c148] at H
              have c148b0 : (x16_2 == 0) = false := beq_eq_false_iff_ne.mpr c148
              have c148b1 : (x16_2 != 0) = true := bne_iff_ne.mpr c148
              obtain ⟨ji161, hji161⟩ : ∃ j_ : Int, (wrap64 (x16_2 - 1)) = j_ := ⟨_, rfl⟩
              replace H : (if 0 ≤ (ji161) then (if (ji161) < (t254.length : Int) then (if x16_2 < (t220.length : Int) then (if 0 ≤ (Int.tmod t251 ((rd_L2 t220 0).length : Int)) then (if (Int.tmod t251 ((rd_L2 t220 0).length : Int)) < ((rd_L2 t220 x16_2).length : Int) then (if (rd t254 x16_2) = (rd (rd_L2 t220 x16_2) (Int.tmod t251 ((rd_L2 t220 0).length : Int))) then ((laws_within.f k2 t258 x16_2).bind fun t276 => (if ((decide ((rd t254 (ji161)) ≤ (wrap64 (t253 - 128)))) != t276) = true then (some false) else (laws_FnColumns.l0 k2 t220 (Int.tmod t251 ((rd_L2 t220 0).length : Int)) (wrap64 (t253 - 128)) t254 t258 (wrap64 (x16_2 + 1))))) else (some false)) else (none)) else (none)) else (none)) else (none)) else (none)) = some r := by first | (rw [hji161] at H; exact H) | (simp only [hji161] at H ⊢; exact H)
              have hji161w : (IntKind.i64.wrap (x16_2 - 1)) = ji161 := (i64_w _).trans hji161
              by_cases c162 : 0 ≤ (ji161)
              ·
               rw [if_pos c162] at H
               have c162b0 : decide (0 ≤ (ji161)) = true := decide_eq_true c162
               clear c162
               by_cases c163 : (ji161) < (t254.length : Int)
               ·
                rw [if_pos c163] at H
                have c163b0 : decide ((ji161) < (t254.length : Int)) = true := decide_eq_true c163
                clear c163
                by_cases c164 : x16_2 < (t220.length : Int)
                ·
                 rw [if_pos c164] at H
                 have c164b0 : decide (x16_2 < (t220.length : Int)) = true := decide_eq_true c164
                 clear c164
                 obtain ⟨ji165, hji165⟩ : ∃ j_ : Int, (Int.tmod t251 ((rd_L2 t220 0).length : Int)) = j_ := ⟨_, rfl⟩
                 replace H : (if 0 ≤ (ji165) then (if (ji165) < ((rd_L2 t220 x16_2).length : Int) then (if (rd t254 x16_2) = (rd (rd_L2 t220 x16_2) (ji165)) then ((laws_within.f k2 t258 x16_2).bind fun t276 => (if ((decide ((rd t254 (ji161)) ≤ (wrap64 (t253 - 128)))) != t276) = true then (some false) else (laws_FnColumns.l0 k2 t220 (ji165) (wrap64 (t253 - 128)) t254 t258 (wrap64 (x16_2 + 1))))) else (some false)) else (none)) else (none)) = some r := by first | (rw [hji165] at H; exact H) | (simp only [hji165] at H ⊢; exact H)
                 by_cases c166 : 0 ≤ (ji165)
                 ·
                  rw [if_pos c166] at H
                  have c166b0 : decide (0 ≤ (ji165)) = true := decide_eq_true c166
                  clear c166
                  by_cases c167 : (ji165) < ((rd_L2 t220 x16_2).length : Int)
                  ·
                   rw [if_pos c167] at H
                   have c167b0 : decide ((ji165) < ((rd_L2 t220 x16_2).length : Int)) = true := decide_eq_true c167
                   clear c167
                   by_cases c168 : (rd t254 x16_2) = (rd (rd_L2 t220 x16_2) (ji165))
                   ·
                    rw [if_pos c168] at H
                    have c168b0 : ((rd t254 x16_2) == (rd (rd_L2 t220 x16_2) (ji165))) = true := beq_iff_eq.mpr c168
                    have c168b1 : ((rd t254 x16_2) != (rd (rd_L2 t220 x16_2) (ji165))) = false := bne_eq_false_iff_eq.mpr c168
                    clear c168
                    replace H := Option.bind_eq_some_iff.mp H
                    obtain ⟨t276, A1690, H⟩ := H
                    replace H : (if ((decide ((rd t254 (ji161)) ≤ (wrap64 (t253 - 128)))) != t276) = true then (some false) else (laws_FnColumns.l0 k2 t220 (ji165) (wrap64 (t253 - 128)) t254 t258 (wrap64 (x16_2 + 1)))) = some r := H
                    have A169 := Aside0.mk A1690
                    clear A1690
                    by_cases c170 : ((decide ((rd t254 (ji161)) ≤ (wrap64 (t253 - 128)))) != t276) = true
                    ·
                     rw [if_pos c170] at H
                     have c170b0 : ((decide ((rd t254 (ji161)) ≤ (wrap64 (t253 - 128)))) != t276) = true := c170
                     (try (have c170b1 : decide ((decide ((rd t254 (ji161)) ≤ (wrap64 (t253 - 128)))) = t276) = false := by simpa using c170))
                     (try (have c170b2 : ((decide ((rd t254 (ji161)) ≤ (wrap64 (t253 - 128)))) == t276) = false := by simpa using c170))
                     (try (have c170b3 : ¬ ((decide ((rd t254 (ji161)) ≤ (wrap64 (t253 - 128)))) = t276) := by simpa using c170))
                     clear c170
                     obtain rfl := Option.some.inj H
                     obtain ⟨Ao171, co171, eo171⟩ := Kd.R_slice HO_10.out
                     subst eo171
                     have p267 : 0 ≤ (x16_2 : Int) := of_decide_eq_true (by first | (with_reducible assumption) | assumption)
                     have q267 : x16_2 < (t254.length : Int) := of_decide_eq_true (by first | (with_reducible assumption) | assumption)
                     obtain ⟨ad267, e267, hx267_0⟩ := Kd.at_int (Kd.R_reads' HO_10.out).2.2 x16_2 p267 q267
                     cases e267
                     replace p267 := eq_true p267
                     replace q267 := eq_true q267
                     have p272 : 0 ≤ ((ji161) : Int) := of_decide_eq_true (by first | (with_reducible assumption) | assumption)
                     have q272 : (ji161) < (t254.length : Int) := of_decide_eq_true (by first | (with_reducible assumption) | assumption)
                     obtain ⟨ad272, e272, hx272_0⟩ := Kd.at_int (Kd.R_reads' HO_10.out).2.2 (ji161) p272 q272
                     obtain rfl : ad267 = ad272 := (by injection e272)
                     replace p272 := eq_true p272
                     replace q272 := eq_true q272
                     have p273 : 0 ≤ (x16_2 : Int) := of_decide_eq_true (by first | (with_reducible assumption) | assumption)
                     have q273 : x16_2 < (t254.length : Int) := of_decide_eq_true (by first | (with_reducible assumption) | assumption)
                     obtain ⟨ad273, e273, hx273_0⟩ := Kd.at_int (Kd.R_reads' HO_10.out).2.2 x16_2 p273 q273
                     obtain rfl : ad267 = ad273 := (by injection e273)
                     replace p273 := eq_true p273
                     replace q273 := eq_true q273
                     have p274 : 0 ≤ (x16_2 : Int) := of_decide_eq_true (by first | (with_reducible assumption) | assumption)
                     have q274 : x16_2 < (t220.length : Int) := of_decide_eq_true (by first | (with_reducible assumption) | assumption)
                     obtain ⟨ad274, A274_0, c274_0, e274, hx274_0, hl274_0, hi274_0⟩ := at_L2 (Kd.N_reads' HO_3.out).2.2 x16_2 p274 q274
                     obtain rfl : ad252 = ad274 := (by injection e274)
                     obtain ⟨ce274, hce274, hMe274, hcc274⟩ := Kd.N_get HO_3.out [] x16_2 p274 (by first | exact q274 | exact of_decide_eq_true (by first | (with_reducible assumption) | assumption) | (have e_ := (Kd.N_reads' HO_3.out).1; omega))
                     obtain ⟨ua274_0, uc274_0, rfl, ul274_0, ge274_0⟩ := Kd.FK_slice_open hMe274
                     have hv274_0 := hcc274 0 _ rfl
                     rw [Nat.add_zero, show ((Kd.slice 3 (Kd.int .i64))).sz = 1 from rfl, Nat.mul_one] at hv274_0
                     replace hv274_0 := Option.some.inj (hv274_0.symm.trans hx274_0)
                     injection hv274_0 with hva_ hvn_ hvc_
                     rw [hva_] at ge274_0
                     rw [hvc_] at ul274_0
                     have HL274_0 := Aside0.mk (show Kd.V (Kd.int .i64) 3 _ w.heap.size _ _ (rd_L2 t220 x16_2) from Kd.V_mk ul274_0 ge274_0)
                     clear hva_ hvn_ hvc_ ge274_0 ul274_0
                     clear hcc274 hce274
                     have HR274_0 := Aside0.mk hi274_0
                     have HC274_0 := Aside0.mk hl274_0
                     clear hi274_0 hl274_0
                     replace p274 := eq_true p274
                     replace q274 := eq_true q274
                     have p275 : 0 ≤ ((ji165) : Int) := of_decide_eq_true (by first | (with_reducible assumption) | assumption)
                     have q275 : (ji165) < ((rd_L2 t220 x16_2).length : Int) := of_decide_eq_true (by first | (with_reducible assumption) | assumption)
                     obtain ⟨ad275, e275, hx275_0⟩ := Kd.at_int (by repeat (first | (with_reducible exact HR274_0.out) | (with_reducible refine Kd.C_alloc ?_ _) | (with_reducible refine Kd.C_drewN ?_ _) | (with_reducible refine Kd.C_drew ?_) | exact HR274_0.out)) (ji165) p275 q275
                     cases e275
                     replace p275 := eq_true p275
                     replace q275 := eq_true q275
                     obtain ⟨Ao172, co172, eo172⟩ := Kd.R_slice HO_12.out
                     subst eo172
                     go_wp2_with (first | (go_at_call 23; (with_reducible refine (laws_within.calls k2 _ _ t258 x16_2 t276 _ ?side1 ?side2 A169.out).mono ?_); (case side1 => exact rc (Kd.R_reads' HO_12.out).2.2); (case side2 => exact (Kd.R_reads' HO_12.out).2.1); rintro e w' ⟨rfl, ⟨nd, rfl⟩⟩; (try first | exact ⟨rfl, _, World.drewN_drewN _ _ _⟩ | exact ⟨rfl, _, Eq.trans (World.drewN_drewN _ _ _) (congrArg (World.drewN _) (Nat.add_assoc _ _ _))⟩)))
                     repeat (go_quiet (first | (go_at_call 23; (with_reducible refine (laws_within.calls k2 _ _ t258 x16_2 t276 _ ?side1 ?side2 A169.out).mono ?_); (case side1 => exact rc (Kd.R_reads' HO_12.out).2.2); (case side2 => exact (Kd.R_reads' HO_12.out).2.1); rintro e w' ⟨rfl, ⟨nd, rfl⟩⟩; (try first | exact ⟨rfl, _, World.drewN_drewN _ _ _⟩ | exact ⟨rfl, _, Eq.trans (World.drewN_drewN _ _ _) (congrArg (World.drewN _) (Nat.add_assoc _ _ _))⟩))); try go_wp2_with (first | (go_at_call 23; (with_reducible refine (laws_within.calls k2 _ _ t258 x16_2 t276 _ ?side1 ?side2 A169.out).mono ?_); (case side1 => exact rc (Kd.R_reads' HO_12.out).2.2); (case side2 => exact (Kd.R_reads' HO_12.out).2.1); rintro e w' ⟨rfl, ⟨nd, rfl⟩⟩; (try first | exact ⟨rfl, _, World.drewN_drewN _ _ _⟩ | exact ⟨rfl, _, Eq.trans (World.drewN_drewN _ _ _) (congrArg (World.drewN _) (Nat.add_assoc _ _ _))⟩))))
                     go_ret
                     exact ⟨by first | rfl | (simp [errW_none, errW_some] <;> rfl) | (simp only [← hji161, ← hji165]; first | rfl | (simp [errW_none, errW_some] <;> rfl)) | (simp [*, errW_none, errW_some] <;> rfl), bl HB.out⟩
                    ·
                     rw [if_neg c170] at H
                     have c170b0 : ((decide ((rd t254 (ji161)) ≤ (wrap64 (t253 - 128)))) != t276) = false := by simpa using c170
                     (try (have c170b1 : decide ((decide ((rd t254 (ji161)) ≤ (wrap64 (t253 - 128)))) = t276) = true := by simpa using c170))
                     (try (have c170b2 : ((decide ((rd t254 (ji161)) ≤ (wrap64 (t253 - 128)))) == t276) = true := by simpa using c170))
                     clear c170
                     have H' := Aside0.mk H
                     clear H
                     obtain ⟨Ao173, co173, eo173⟩ := Kd.R_slice HO_10.out
                     subst eo173
                     have p267 : 0 ≤ (x16_2 : Int) := of_decide_eq_true (by first | (with_reducible assumption) | assumption)
                     have q267 : x16_2 < (t254.length : Int) := of_decide_eq_true (by first | (with_reducible assumption) | assumption)
                     obtain ⟨ad267, e267, hx267_0⟩ := Kd.at_int (Kd.R_reads' HO_10.out).2.2 x16_2 p267 q267
                     cases e267
                     replace p267 := eq_true p267
                     replace q267 := eq_true q267
                     have p272 : 0 ≤ ((ji161) : Int) := of_decide_eq_true (by first | (with_reducible assumption) | assumption)
                     have q272 : (ji161) < (t254.length : Int) := of_decide_eq_true (by first | (with_reducible assumption) | assumption)
                     obtain ⟨ad272, e272, hx272_0⟩ := Kd.at_int (Kd.R_reads' HO_10.out).2.2 (ji161) p272 q272
                     obtain rfl : ad267 = ad272 := (by injection e272)
                     replace p272 := eq_true p272
                     replace q272 := eq_true q272
                     have p273 : 0 ≤ (x16_2 : Int) := of_decide_eq_true (by first | (with_reducible assumption) | assumption)
                     have q273 : x16_2 < (t254.length : Int) := of_decide_eq_true (by first | (with_reducible assumption) | assumption)
                     obtain ⟨ad273, e273, hx273_0⟩ := Kd.at_int (Kd.R_reads' HO_10.out).2.2 x16_2 p273 q273
                     obtain rfl : ad267 = ad273 := (by injection e273)
                     replace p273 := eq_true p273
                     replace q273 := eq_true q273
                     have p274 : 0 ≤ (x16_2 : Int) := of_decide_eq_true (by first | (with_reducible assumption) | assumption)
                     have q274 : x16_2 < (t220.length : Int) := of_decide_eq_true (by first | (with_reducible assumption) | assumption)
                     obtain ⟨ad274, A274_0, c274_0, e274, hx274_0, hl274_0, hi274_0⟩ := at_L2 (Kd.N_reads' HO_3.out).2.2 x16_2 p274 q274
                     obtain rfl : ad252 = ad274 := (by injection e274)
                     obtain ⟨ce274, hce274, hMe274, hcc274⟩ := Kd.N_get HO_3.out [] x16_2 p274 (by first | exact q274 | exact of_decide_eq_true (by first | (with_reducible assumption) | assumption) | (have e_ := (Kd.N_reads' HO_3.out).1; omega))
                     obtain ⟨ua274_0, uc274_0, rfl, ul274_0, ge274_0⟩ := Kd.FK_slice_open hMe274
                     have hv274_0 := hcc274 0 _ rfl
                     rw [Nat.add_zero, show ((Kd.slice 3 (Kd.int .i64))).sz = 1 from rfl, Nat.mul_one] at hv274_0
                     replace hv274_0 := Option.some.inj (hv274_0.symm.trans hx274_0)
                     injection hv274_0 with hva_ hvn_ hvc_
                     rw [hva_] at ge274_0
                     rw [hvc_] at ul274_0
                     have HL274_0 := Aside0.mk (show Kd.V (Kd.int .i64) 3 _ w.heap.size _ _ (rd_L2 t220 x16_2) from Kd.V_mk ul274_0 ge274_0)
                     clear hva_ hvn_ hvc_ ge274_0 ul274_0
                     clear hcc274 hce274
                     have HR274_0 := Aside0.mk hi274_0
                     have HC274_0 := Aside0.mk hl274_0
                     clear hi274_0 hl274_0
                     replace p274 := eq_true p274
                     replace q274 := eq_true q274
                     have p275 : 0 ≤ ((ji165) : Int) := of_decide_eq_true (by first | (with_reducible assumption) | assumption)
                     have q275 : (ji165) < ((rd_L2 t220 x16_2).length : Int) := of_decide_eq_true (by first | (with_reducible assumption) | assumption)
                     obtain ⟨ad275, e275, hx275_0⟩ := Kd.at_int (by repeat (first | (with_reducible exact HR274_0.out) | (with_reducible refine Kd.C_alloc ?_ _) | (with_reducible refine Kd.C_drewN ?_ _) | (with_reducible refine Kd.C_drew ?_) | exact HR274_0.out)) (ji165) p275 q275
                     cases e275
                     replace p275 := eq_true p275
                     replace q275 := eq_true q275
                     obtain ⟨Ao174, co174, eo174⟩ := Kd.R_slice HO_12.out
                     subst eo174
                     go_wp2_with (first | (go_at_call 23; (with_reducible refine (laws_within.calls k2 _ _ t258 x16_2 t276 _ ?side1 ?side2 A169.out).mono ?_); (case side1 => exact rc (Kd.R_reads' HO_12.out).2.2); (case side2 => exact (Kd.R_reads' HO_12.out).2.1); rintro e w' ⟨rfl, ⟨nd, rfl⟩⟩; (try first | exact ⟨rfl, _, World.drewN_drewN _ _ _⟩ | exact ⟨rfl, _, Eq.trans (World.drewN_drewN _ _ _) (congrArg (World.drewN _) (Nat.add_assoc _ _ _))⟩)))
                     repeat (go_quiet (first | (go_at_call 23; (with_reducible refine (laws_within.calls k2 _ _ t258 x16_2 t276 _ ?side1 ?side2 A169.out).mono ?_); (case side1 => exact rc (Kd.R_reads' HO_12.out).2.2); (case side2 => exact (Kd.R_reads' HO_12.out).2.1); rintro e w' ⟨rfl, ⟨nd, rfl⟩⟩; (try first | exact ⟨rfl, _, World.drewN_drewN _ _ _⟩ | exact ⟨rfl, _, Eq.trans (World.drewN_drewN _ _ _) (congrArg (World.drewN _) (Nat.add_assoc _ _ _))⟩))); try go_wp2_with (first | (go_at_call 23; (with_reducible refine (laws_within.calls k2 _ _ t258 x16_2 t276 _ ?side1 ?side2 A169.out).mono ?_); (case side1 => exact rc (Kd.R_reads' HO_12.out).2.2); (case side2 => exact (Kd.R_reads' HO_12.out).2.1); rintro e w' ⟨rfl, ⟨nd, rfl⟩⟩; (try first | exact ⟨rfl, _, World.drewN_drewN _ _ _⟩ | exact ⟨rfl, _, Eq.trans (World.drewN_drewN _ _ _) (congrArg (World.drewN _) (Nat.add_assoc _ _ _))⟩))))
                     (try subst hji165)
                     (try subst hji161)
                     go_roundg k2
                     case measure => have := HJ133.out; have := HK2.out; omega
                     case rel => exact ⟨(wrap64 (x16_2 + 1)), (by first | rfl | (simp; done) | (simp [*]; done)), H', ⟨by have := HJ133.out; have := HK2.out; omega⟩, ⟨by (with_reducible repeat (first | apply Kd.N_alloc | apply Kd.N_drewN | apply Kd.N_drew)); exact HO_3.out⟩, ⟨rl HO_10.out⟩, ⟨rl HO_12.out⟩, ⟨by repeat (first | (with_reducible exact HR252_0.out) | (with_reducible refine Kd.C_alloc ?_ _) | (with_reducible refine Kd.C_drewN ?_ _) | (with_reducible refine Kd.C_drew ?_) | exact HR252_0.out)⟩, ⟨by repeat (first | (with_reducible exact HR262_0.out) | (with_reducible refine Kd.C_alloc ?_ _) | (with_reducible refine Kd.C_drewN ?_ _) | (with_reducible refine Kd.C_drew ?_) | exact HR262_0.out)⟩, ⟨bl HB.out⟩⟩
                   ·
                    rw [if_neg c168] at H
                    have c168b0 : ((rd t254 x16_2) == (rd (rd_L2 t220 x16_2) (ji165))) = false := beq_eq_false_iff_ne.mpr c168
                    have c168b1 : ((rd t254 x16_2) != (rd (rd_L2 t220 x16_2) (ji165))) = true := bne_iff_ne.mpr c168
                    obtain rfl := Option.some.inj H
                    obtain ⟨Ao175, co175, eo175⟩ := Kd.R_slice HO_10.out
                    subst eo175
                    have p267 : 0 ≤ (x16_2 : Int) := of_decide_eq_true (by first | (with_reducible assumption) | assumption)
                    have q267 : x16_2 < (t254.length : Int) := of_decide_eq_true (by first | (with_reducible assumption) | assumption)
                    obtain ⟨ad267, e267, hx267_0⟩ := Kd.at_int (Kd.R_reads' HO_10.out).2.2 x16_2 p267 q267
                    cases e267
                    replace p267 := eq_true p267
                    replace q267 := eq_true q267
                    have p272 : 0 ≤ ((ji161) : Int) := of_decide_eq_true (by first | (with_reducible assumption) | assumption)
                    have q272 : (ji161) < (t254.length : Int) := of_decide_eq_true (by first | (with_reducible assumption) | assumption)
                    obtain ⟨ad272, e272, hx272_0⟩ := Kd.at_int (Kd.R_reads' HO_10.out).2.2 (ji161) p272 q272
                    obtain rfl : ad267 = ad272 := (by injection e272)
                    replace p272 := eq_true p272
                    replace q272 := eq_true q272
                    have p273 : 0 ≤ (x16_2 : Int) := of_decide_eq_true (by first | (with_reducible assumption) | assumption)
                    have q273 : x16_2 < (t254.length : Int) := of_decide_eq_true (by first | (with_reducible assumption) | assumption)
                    obtain ⟨ad273, e273, hx273_0⟩ := Kd.at_int (Kd.R_reads' HO_10.out).2.2 x16_2 p273 q273
                    obtain rfl : ad267 = ad273 := (by injection e273)
                    replace p273 := eq_true p273
                    replace q273 := eq_true q273
                    have p274 : 0 ≤ (x16_2 : Int) := of_decide_eq_true (by first | (with_reducible assumption) | assumption)
                    have q274 : x16_2 < (t220.length : Int) := of_decide_eq_true (by first | (with_reducible assumption) | assumption)
                    obtain ⟨ad274, A274_0, c274_0, e274, hx274_0, hl274_0, hi274_0⟩ := at_L2 (Kd.N_reads' HO_3.out).2.2 x16_2 p274 q274
                    obtain rfl : ad252 = ad274 := (by injection e274)
                    obtain ⟨ce274, hce274, hMe274, hcc274⟩ := Kd.N_get HO_3.out [] x16_2 p274 (by first | exact q274 | exact of_decide_eq_true (by first | (with_reducible assumption) | assumption) | (have e_ := (Kd.N_reads' HO_3.out).1; omega))
                    obtain ⟨ua274_0, uc274_0, rfl, ul274_0, ge274_0⟩ := Kd.FK_slice_open hMe274
                    have hv274_0 := hcc274 0 _ rfl
                    rw [Nat.add_zero, show ((Kd.slice 3 (Kd.int .i64))).sz = 1 from rfl, Nat.mul_one] at hv274_0
                    replace hv274_0 := Option.some.inj (hv274_0.symm.trans hx274_0)
                    injection hv274_0 with hva_ hvn_ hvc_
                    rw [hva_] at ge274_0
                    rw [hvc_] at ul274_0
                    have HL274_0 := Aside0.mk (show Kd.V (Kd.int .i64) 3 _ w.heap.size _ _ (rd_L2 t220 x16_2) from Kd.V_mk ul274_0 ge274_0)
                    clear hva_ hvn_ hvc_ ge274_0 ul274_0
                    clear hcc274 hce274
                    have HR274_0 := Aside0.mk hi274_0
                    have HC274_0 := Aside0.mk hl274_0
                    clear hi274_0 hl274_0
                    replace p274 := eq_true p274
                    replace q274 := eq_true q274
                    have p275 : 0 ≤ ((ji165) : Int) := of_decide_eq_true (by first | (with_reducible assumption) | assumption)
                    have q275 : (ji165) < ((rd_L2 t220 x16_2).length : Int) := of_decide_eq_true (by first | (with_reducible assumption) | assumption)
                    obtain ⟨ad275, e275, hx275_0⟩ := Kd.at_int (by repeat (first | (with_reducible exact HR274_0.out) | (with_reducible refine Kd.C_alloc ?_ _) | (with_reducible refine Kd.C_drewN ?_ _) | (with_reducible refine Kd.C_drew ?_) | exact HR274_0.out)) (ji165) p275 q275
                    cases e275
                    replace p275 := eq_true p275
                    replace q275 := eq_true q275
                    go_wp2
                    repeat (go_quiet (fail); try go_wp2)
                    go_ret
                    exact ⟨by first | rfl | (simp [errW_none, errW_some] <;> rfl) | (simp only [← hji161, ← hji165]; first | rfl | (simp [errW_none, errW_some] <;> rfl)) | (simp [*, errW_none, errW_some] <;> rfl), bl HB.out⟩
                  ·
                   rw [if_neg c167] at H
                   exact absurd H (by simp)
                 ·
                  rw [if_neg c166] at H
                  exact absurd H (by simp)
                ·
                 rw [if_neg c164] at H
                 exact absurd H (by simp)
               ·
                rw [if_neg c163] at H
                exact absurd H (by simp)
              ·
               rw [if_neg c162] at H
               exact absurd H (by simp)
            ·
             rw [if_neg c147] at H
             have c147b0 : decide ((wrap64 (t253 - 128)) < (rd t254 x16_2)) = false := decide_eq_false c147
             clear c147
             by_cases c176 : x16_2 < (t220.length : Int)
             ·
              rw [if_pos c176] at H
              have c176b0 : decide (x16_2 < (t220.length : Int)) = true := decide_eq_true c176
              clear c176
              obtain ⟨ji177, hji177⟩ : ∃ j_ : Int, (Int.tmod t251 ((rd_L2 t220 0).length : Int)) = j_ := ⟨_, rfl⟩
              replace H : (if 0 ≤ (ji177) then (if (ji177) < ((rd_L2 t220 x16_2).length : Int) then (if (rd t254 x16_2) = (rd (rd_L2 t220 x16_2) (ji177)) then ((laws_within.f k2 t258 x16_2).bind fun t280 => (if (false != t280) = true then (some false) else (laws_FnColumns.l0 k2 t220 (ji177) (wrap64 (t253 - 128)) t254 t258 (wrap64 (x16_2 + 1))))) else (some false)) else (none)) else (none)) = some r := by first | (rw [hji177] at H; exact H) | (simp only [hji177] at H ⊢; exact H)
              by_cases c178 : 0 ≤ (ji177)
              ·
               rw [if_pos c178] at H
               have c178b0 : decide (0 ≤ (ji177)) = true := decide_eq_true c178
               clear c178
               by_cases c179 : (ji177) < ((rd_L2 t220 x16_2).length : Int)
               ·
                rw [if_pos c179] at H
                have c179b0 : decide ((ji177) < ((rd_L2 t220 x16_2).length : Int)) = true := decide_eq_true c179
                clear c179
                by_cases c180 : (rd t254 x16_2) = (rd (rd_L2 t220 x16_2) (ji177))
                ·
                 rw [if_pos c180] at H
                 have c180b0 : ((rd t254 x16_2) == (rd (rd_L2 t220 x16_2) (ji177))) = true := beq_iff_eq.mpr c180
                 have c180b1 : ((rd t254 x16_2) != (rd (rd_L2 t220 x16_2) (ji177))) = false := bne_eq_false_iff_eq.mpr c180
                 clear c180
                 replace H := Option.bind_eq_some_iff.mp H
                 obtain ⟨t280, A1810, H⟩ := H
                 replace H : (if (false != t280) = true then (some false) else (laws_FnColumns.l0 k2 t220 (ji177) (wrap64 (t253 - 128)) t254 t258 (wrap64 (x16_2 + 1)))) = some r := H
                 have A181 := Aside0.mk A1810
                 clear A1810
                 by_cases c182 : (false != t280) = true
                 ·
                  rw [if_pos c182] at H
                  have c182b0 : (false != t280) = true := c182
                  (try (have c182b1 : decide (false = t280) = false := by simpa using c182))
                  (try (have c182b2 : (false == t280) = false := by simpa using c182))
                  (try (have c182b3 : ¬ (false = t280) := by simpa using c182))
                  clear c182
                  obtain rfl := Option.some.inj H
                  obtain ⟨Ao183, co183, eo183⟩ := Kd.R_slice HO_10.out
                  subst eo183
                  have p267 : 0 ≤ (x16_2 : Int) := of_decide_eq_true (by first | (with_reducible assumption) | assumption)
                  have q267 : x16_2 < (t254.length : Int) := of_decide_eq_true (by first | (with_reducible assumption) | assumption)
                  obtain ⟨ad267, e267, hx267_0⟩ := Kd.at_int (Kd.R_reads' HO_10.out).2.2 x16_2 p267 q267
                  cases e267
                  replace p267 := eq_true p267
                  replace q267 := eq_true q267
                  have p277 : 0 ≤ (x16_2 : Int) := of_decide_eq_true (by first | (with_reducible assumption) | assumption)
                  have q277 : x16_2 < (t254.length : Int) := of_decide_eq_true (by first | (with_reducible assumption) | assumption)
                  obtain ⟨ad277, e277, hx277_0⟩ := Kd.at_int (Kd.R_reads' HO_10.out).2.2 x16_2 p277 q277
                  obtain rfl : ad267 = ad277 := (by injection e277)
                  replace p277 := eq_true p277
                  replace q277 := eq_true q277
                  have p278 : 0 ≤ (x16_2 : Int) := of_decide_eq_true (by first | (with_reducible assumption) | assumption)
                  have q278 : x16_2 < (t220.length : Int) := of_decide_eq_true (by first | (with_reducible assumption) | assumption)
                  obtain ⟨ad278, A278_0, c278_0, e278, hx278_0, hl278_0, hi278_0⟩ := at_L2 (Kd.N_reads' HO_3.out).2.2 x16_2 p278 q278
                  obtain rfl : ad252 = ad278 := (by injection e278)
                  obtain ⟨ce278, hce278, hMe278, hcc278⟩ := Kd.N_get HO_3.out [] x16_2 p278 (by first | exact q278 | exact of_decide_eq_true (by first | (with_reducible assumption) | assumption) | (have e_ := (Kd.N_reads' HO_3.out).1; omega))
                  obtain ⟨ua278_0, uc278_0, rfl, ul278_0, ge278_0⟩ := Kd.FK_slice_open hMe278
                  have hv278_0 := hcc278 0 _ rfl
                  rw [Nat.add_zero, show ((Kd.slice 3 (Kd.int .i64))).sz = 1 from rfl, Nat.mul_one] at hv278_0
                  replace hv278_0 := Option.some.inj (hv278_0.symm.trans hx278_0)
                  injection hv278_0 with hva_ hvn_ hvc_
                  rw [hva_] at ge278_0
                  rw [hvc_] at ul278_0
                  have HL278_0 := Aside0.mk (show Kd.V (Kd.int .i64) 3 _ w.heap.size _ _ (rd_L2 t220 x16_2) from Kd.V_mk ul278_0 ge278_0)
                  clear hva_ hvn_ hvc_ ge278_0 ul278_0
                  clear hcc278 hce278
                  have HR278_0 := Aside0.mk hi278_0
                  have HC278_0 := Aside0.mk hl278_0
                  clear hi278_0 hl278_0
                  replace p278 := eq_true p278
                  replace q278 := eq_true q278
                  have p279 : 0 ≤ ((ji177) : Int) := of_decide_eq_true (by first | (with_reducible assumption) | assumption)
                  have q279 : (ji177) < ((rd_L2 t220 x16_2).length : Int) := of_decide_eq_true (by first | (with_reducible assumption) | assumption)
                  obtain ⟨ad279, e279, hx279_0⟩ := Kd.at_int (by repeat (first | (with_reducible exact HR278_0.out) | (with_reducible refine Kd.C_alloc ?_ _) | (with_reducible refine Kd.C_drewN ?_ _) | (with_reducible refine Kd.C_drew ?_) | exact HR278_0.out)) (ji177) p279 q279
                  cases e279
                  replace p279 := eq_true p279
                  replace q279 := eq_true q279
                  obtain ⟨Ao184, co184, eo184⟩ := Kd.R_slice HO_12.out
                  subst eo184
                  go_wp2_with (first | (go_at_call 23; (with_reducible refine (laws_within.calls k2 _ _ t258 x16_2 t280 _ ?side1 ?side2 A181.out).mono ?_); (case side1 => exact rc (Kd.R_reads' HO_12.out).2.2); (case side2 => exact (Kd.R_reads' HO_12.out).2.1); rintro e w' ⟨rfl, ⟨nd, rfl⟩⟩; (try first | exact ⟨rfl, _, World.drewN_drewN _ _ _⟩ | exact ⟨rfl, _, Eq.trans (World.drewN_drewN _ _ _) (congrArg (World.drewN _) (Nat.add_assoc _ _ _))⟩)))
                  repeat (go_quiet (first | (go_at_call 23; (with_reducible refine (laws_within.calls k2 _ _ t258 x16_2 t280 _ ?side1 ?side2 A181.out).mono ?_); (case side1 => exact rc (Kd.R_reads' HO_12.out).2.2); (case side2 => exact (Kd.R_reads' HO_12.out).2.1); rintro e w' ⟨rfl, ⟨nd, rfl⟩⟩; (try first | exact ⟨rfl, _, World.drewN_drewN _ _ _⟩ | exact ⟨rfl, _, Eq.trans (World.drewN_drewN _ _ _) (congrArg (World.drewN _) (Nat.add_assoc _ _ _))⟩))); try go_wp2_with (first | (go_at_call 23; (with_reducible refine (laws_within.calls k2 _ _ t258 x16_2 t280 _ ?side1 ?side2 A181.out).mono ?_); (case side1 => exact rc (Kd.R_reads' HO_12.out).2.2); (case side2 => exact (Kd.R_reads' HO_12.out).2.1); rintro e w' ⟨rfl, ⟨nd, rfl⟩⟩; (try first | exact ⟨rfl, _, World.drewN_drewN _ _ _⟩ | exact ⟨rfl, _, Eq.trans (World.drewN_drewN _ _ _) (congrArg (World.drewN _) (Nat.add_assoc _ _ _))⟩))))
                  go_ret
                  exact ⟨by first | rfl | (simp [errW_none, errW_some] <;> rfl) | (simp only [← hji177]; first | rfl | (simp [errW_none, errW_some] <;> rfl)) | (simp [*, errW_none, errW_some] <;> rfl), bl HB.out⟩
                 ·
                  rw [if_neg c182] at H
                  have c182b0 : (false != t280) = false := by simpa using c182
                  (try (have c182b1 : decide (false = t280) = true := by simpa using c182))
                  (try (have c182b2 : (false == t280) = true := by simpa using c182))
                  clear c182
                  have H' := Aside0.mk H
                  clear H
                  obtain ⟨Ao185, co185, eo185⟩ := Kd.R_slice HO_10.out
                  subst eo185
                  have p267 : 0 ≤ (x16_2 : Int) := of_decide_eq_true (by first | (with_reducible assumption) | assumption)
                  have q267 : x16_2 < (t254.length : Int) := of_decide_eq_true (by first | (with_reducible assumption) | assumption)
                  obtain ⟨ad267, e267, hx267_0⟩ := Kd.at_int (Kd.R_reads' HO_10.out).2.2 x16_2 p267 q267
                  cases e267
                  replace p267 := eq_true p267
                  replace q267 := eq_true q267
                  have p277 : 0 ≤ (x16_2 : Int) := of_decide_eq_true (by first | (with_reducible assumption) | assumption)
                  have q277 : x16_2 < (t254.length : Int) := of_decide_eq_true (by first | (with_reducible assumption) | assumption)
                  obtain ⟨ad277, e277, hx277_0⟩ := Kd.at_int (Kd.R_reads' HO_10.out).2.2 x16_2 p277 q277
                  obtain rfl : ad267 = ad277 := (by injection e277)
                  replace p277 := eq_true p277
                  replace q277 := eq_true q277
                  have p278 : 0 ≤ (x16_2 : Int) := of_decide_eq_true (by first | (with_reducible assumption) | assumption)
                  have q278 : x16_2 < (t220.length : Int) := of_decide_eq_true (by first | (with_reducible assumption) | assumption)
                  obtain ⟨ad278, A278_0, c278_0, e278, hx278_0, hl278_0, hi278_0⟩ := at_L2 (Kd.N_reads' HO_3.out).2.2 x16_2 p278 q278
                  obtain rfl : ad252 = ad278 := (by injection e278)
                  obtain ⟨ce278, hce278, hMe278, hcc278⟩ := Kd.N_get HO_3.out [] x16_2 p278 (by first | exact q278 | exact of_decide_eq_true (by first | (with_reducible assumption) | assumption) | (have e_ := (Kd.N_reads' HO_3.out).1; omega))
                  obtain ⟨ua278_0, uc278_0, rfl, ul278_0, ge278_0⟩ := Kd.FK_slice_open hMe278
                  have hv278_0 := hcc278 0 _ rfl
                  rw [Nat.add_zero, show ((Kd.slice 3 (Kd.int .i64))).sz = 1 from rfl, Nat.mul_one] at hv278_0
                  replace hv278_0 := Option.some.inj (hv278_0.symm.trans hx278_0)
                  injection hv278_0 with hva_ hvn_ hvc_
                  rw [hva_] at ge278_0
                  rw [hvc_] at ul278_0
                  have HL278_0 := Aside0.mk (show Kd.V (Kd.int .i64) 3 _ w.heap.size _ _ (rd_L2 t220 x16_2) from Kd.V_mk ul278_0 ge278_0)
                  clear hva_ hvn_ hvc_ ge278_0 ul278_0
                  clear hcc278 hce278
                  have HR278_0 := Aside0.mk hi278_0
                  have HC278_0 := Aside0.mk hl278_0
                  clear hi278_0 hl278_0
                  replace p278 := eq_true p278
                  replace q278 := eq_true q278
                  have p279 : 0 ≤ ((ji177) : Int) := of_decide_eq_true (by first | (with_reducible assumption) | assumption)
                  have q279 : (ji177) < ((rd_L2 t220 x16_2).length : Int) := of_decide_eq_true (by first | (with_reducible assumption) | assumption)
                  obtain ⟨ad279, e279, hx279_0⟩ := Kd.at_int (by repeat (first | (with_reducible exact HR278_0.out) | (with_reducible refine Kd.C_alloc ?_ _) | (with_reducible refine Kd.C_drewN ?_ _) | (with_reducible refine Kd.C_drew ?_) | exact HR278_0.out)) (ji177) p279 q279
                  cases e279
                  replace p279 := eq_true p279
                  replace q279 := eq_true q279
                  obtain ⟨Ao186, co186, eo186⟩ := Kd.R_slice HO_12.out
                  subst eo186
                  go_wp2_with (first | (go_at_call 23; (with_reducible refine (laws_within.calls k2 _ _ t258 x16_2 t280 _ ?side1 ?side2 A181.out).mono ?_); (case side1 => exact rc (Kd.R_reads' HO_12.out).2.2); (case side2 => exact (Kd.R_reads' HO_12.out).2.1); rintro e w' ⟨rfl, ⟨nd, rfl⟩⟩; (try first | exact ⟨rfl, _, World.drewN_drewN _ _ _⟩ | exact ⟨rfl, _, Eq.trans (World.drewN_drewN _ _ _) (congrArg (World.drewN _) (Nat.add_assoc _ _ _))⟩)))
                  repeat (go_quiet (first | (go_at_call 23; (with_reducible refine (laws_within.calls k2 _ _ t258 x16_2 t280 _ ?side1 ?side2 A181.out).mono ?_); (case side1 => exact rc (Kd.R_reads' HO_12.out).2.2); (case side2 => exact (Kd.R_reads' HO_12.out).2.1); rintro e w' ⟨rfl, ⟨nd, rfl⟩⟩; (try first | exact ⟨rfl, _, World.drewN_drewN _ _ _⟩ | exact ⟨rfl, _, Eq.trans (World.drewN_drewN _ _ _) (congrArg (World.drewN _) (Nat.add_assoc _ _ _))⟩))); try go_wp2_with (first | (go_at_call 23; (with_reducible refine (laws_within.calls k2 _ _ t258 x16_2 t280 _ ?side1 ?side2 A181.out).mono ?_); (case side1 => exact rc (Kd.R_reads' HO_12.out).2.2); (case side2 => exact (Kd.R_reads' HO_12.out).2.1); rintro e w' ⟨rfl, ⟨nd, rfl⟩⟩; (try first | exact ⟨rfl, _, World.drewN_drewN _ _ _⟩ | exact ⟨rfl, _, Eq.trans (World.drewN_drewN _ _ _) (congrArg (World.drewN _) (Nat.add_assoc _ _ _))⟩))))
                  (try subst hji177)
                  go_roundg k2
                  case measure => have := HJ133.out; have := HK2.out; omega
                  case rel => exact ⟨(wrap64 (x16_2 + 1)), (by first | rfl | (simp; done) | (simp [*]; done)), H', ⟨by have := HJ133.out; have := HK2.out; omega⟩, ⟨by (with_reducible repeat (first | apply Kd.N_alloc | apply Kd.N_drewN | apply Kd.N_drew)); exact HO_3.out⟩, ⟨rl HO_10.out⟩, ⟨rl HO_12.out⟩, ⟨by repeat (first | (with_reducible exact HR252_0.out) | (with_reducible refine Kd.C_alloc ?_ _) | (with_reducible refine Kd.C_drewN ?_ _) | (with_reducible refine Kd.C_drew ?_) | exact HR252_0.out)⟩, ⟨by repeat (first | (with_reducible exact HR262_0.out) | (with_reducible refine Kd.C_alloc ?_ _) | (with_reducible refine Kd.C_drewN ?_ _) | (with_reducible refine Kd.C_drew ?_) | exact HR262_0.out)⟩, ⟨bl HB.out⟩⟩
                ·
                 rw [if_neg c180] at H
                 have c180b0 : ((rd t254 x16_2) == (rd (rd_L2 t220 x16_2) (ji177))) = false := beq_eq_false_iff_ne.mpr c180
                 have c180b1 : ((rd t254 x16_2) != (rd (rd_L2 t220 x16_2) (ji177))) = true := bne_iff_ne.mpr c180
                 obtain rfl := Option.some.inj H
                 obtain ⟨Ao187, co187, eo187⟩ := Kd.R_slice HO_10.out
                 subst eo187
                 have p267 : 0 ≤ (x16_2 : Int) := of_decide_eq_true (by first | (with_reducible assumption) | assumption)
                 have q267 : x16_2 < (t254.length : Int) := of_decide_eq_true (by first | (with_reducible assumption) | assumption)
                 obtain ⟨ad267, e267, hx267_0⟩ := Kd.at_int (Kd.R_reads' HO_10.out).2.2 x16_2 p267 q267
                 cases e267
                 replace p267 := eq_true p267
                 replace q267 := eq_true q267
                 have p277 : 0 ≤ (x16_2 : Int) := of_decide_eq_true (by first | (with_reducible assumption) | assumption)
                 have q277 : x16_2 < (t254.length : Int) := of_decide_eq_true (by first | (with_reducible assumption) | assumption)
                 obtain ⟨ad277, e277, hx277_0⟩ := Kd.at_int (Kd.R_reads' HO_10.out).2.2 x16_2 p277 q277
                 obtain rfl : ad267 = ad277 := (by injection e277)
                 replace p277 := eq_true p277
                 replace q277 := eq_true q277
                 have p278 : 0 ≤ (x16_2 : Int) := of_decide_eq_true (by first | (with_reducible assumption) | assumption)
                 have q278 : x16_2 < (t220.length : Int) := of_decide_eq_true (by first | (with_reducible assumption) | assumption)
                 obtain ⟨ad278, A278_0, c278_0, e278, hx278_0, hl278_0, hi278_0⟩ := at_L2 (Kd.N_reads' HO_3.out).2.2 x16_2 p278 q278
                 obtain rfl : ad252 = ad278 := (by injection e278)
                 obtain ⟨ce278, hce278, hMe278, hcc278⟩ := Kd.N_get HO_3.out [] x16_2 p278 (by first | exact q278 | exact of_decide_eq_true (by first | (with_reducible assumption) | assumption) | (have e_ := (Kd.N_reads' HO_3.out).1; omega))
                 obtain ⟨ua278_0, uc278_0, rfl, ul278_0, ge278_0⟩ := Kd.FK_slice_open hMe278
                 have hv278_0 := hcc278 0 _ rfl
                 rw [Nat.add_zero, show ((Kd.slice 3 (Kd.int .i64))).sz = 1 from rfl, Nat.mul_one] at hv278_0
                 replace hv278_0 := Option.some.inj (hv278_0.symm.trans hx278_0)
                 injection hv278_0 with hva_ hvn_ hvc_
                 rw [hva_] at ge278_0
                 rw [hvc_] at ul278_0
                 have HL278_0 := Aside0.mk (show Kd.V (Kd.int .i64) 3 _ w.heap.size _ _ (rd_L2 t220 x16_2) from Kd.V_mk ul278_0 ge278_0)
                 clear hva_ hvn_ hvc_ ge278_0 ul278_0
                 clear hcc278 hce278
                 have HR278_0 := Aside0.mk hi278_0
                 have HC278_0 := Aside0.mk hl278_0
                 clear hi278_0 hl278_0
                 replace p278 := eq_true p278
                 replace q278 := eq_true q278
                 have p279 : 0 ≤ ((ji177) : Int) := of_decide_eq_true (by first | (with_reducible assumption) | assumption)
                 have q279 : (ji177) < ((rd_L2 t220 x16_2).length : Int) := of_decide_eq_true (by first | (with_reducible assumption) | assumption)
                 obtain ⟨ad279, e279, hx279_0⟩ := Kd.at_int (by repeat (first | (with_reducible exact HR278_0.out) | (with_reducible refine Kd.C_alloc ?_ _) | (with_reducible refine Kd.C_drewN ?_ _) | (with_reducible refine Kd.C_drew ?_) | exact HR278_0.out)) (ji177) p279 q279
                 cases e279
                 replace p279 := eq_true p279
                 replace q279 := eq_true q279
                 go_wp2
                 repeat (go_quiet (fail); try go_wp2)
                 go_ret
                 exact ⟨by first | rfl | (simp [errW_none, errW_some] <;> rfl) | (simp only [← hji177]; first | rfl | (simp [errW_none, errW_some] <;> rfl)) | (simp [*, errW_none, errW_some] <;> rfl), bl HB.out⟩
               ·
                rw [if_neg c179] at H
                exact absurd H (by simp)
              ·
               rw [if_neg c178] at H
               exact absurd H (by simp)
             ·
              rw [if_neg c176] at H
              exact absurd H (by simp)
           ·
            rw [if_neg c146] at H
            exact absurd H (by simp)
          ·
           rw [if_neg c145] at H
           have c145b0 : decide (x16_2 < (t254.length : Int)) = false := decide_eq_false c145
           clear c145
           have H' := Aside0.mk H
           clear H
           obtain ⟨Ao188, co188, eo188⟩ := Kd.R_slice HO_10.out
           subst eo188
           go_wp2
           repeat (go_quiet (fail); try go_wp2)
           go_loopg [18] k2 (fun kq v18 w' => ∃ (x18_3 : Int), v18 = .int .i64 x18_3 ∧ Aside0 (laws_FnColumns.l1 kq t258 x18_3 = some r) ∧ Aside0 (kq ≤ k2) ∧ Aside0 (Kd.R (Kd.int .i64) 3 w' w.heap.size (fun _ => True) v260 t258) ∧ Aside0 (Kd.C (Kd.int .i64) w' A252_0 (rd_L2 t220 0).length (rd_L2 t220 0)) ∧ Aside0 (Kd.C (Kd.int .i64) w' A262_0 (rd_L2 t220 0).length (rd_L2 t220 0)) ∧ Aside0 (Below w.heap.size w w'))
           case atStart => exact ⟨(1), (by first | rfl | (simp; done) | (simp [*]; done)), H', ⟨Nat.le_refl _⟩, ⟨by (repeat apply rl1); exact Kd.R_mono HO_12.out (fun _ hk => trivial)⟩, ⟨by repeat (first | (with_reducible exact HR252_0.out) | (with_reducible refine Kd.C_alloc ?_ _) | (with_reducible refine Kd.C_drewN ?_ _) | (with_reducible refine Kd.C_drew ?_) | exact HR252_0.out)⟩, ⟨by repeat (first | (with_reducible exact HR262_0.out) | (with_reducible refine Kd.C_alloc ?_ _) | (with_reducible refine Kd.C_drewN ?_ _) | (with_reducible refine Kd.C_drew ?_) | exact HR262_0.out)⟩, ⟨bl HB.out⟩⟩
           case round =>
            clear H'
            try clear c1
            try clear c2
            try clear p2
            try clear q2
            try clear hx2
            try clear p6
            try clear c14
            try clear c15
            try clear c16
            try clear c17
            try clear c18
            try clear c26
            try clear p26
            try clear q26
            try clear hx26
            try clear c27
            try clear p27
            try clear q27
            try clear hx27
            try clear p64
            try clear c145
            try clear c145b0
            try clear c146
            try clear c147
            try clear c147b0
            try clear c148
            try clear c148b0
            try clear c148b1
            try clear c149
            try clear c151
            try clear c152
            try clear c152b0
            try clear c153
            try clear c153b0
            try clear c153b1
            try clear c155
            try clear c155b0
            try clear c155b1
            try clear c155b2
            try clear c162
            try clear c162b0
            try clear c163
            try clear c163b0
            try clear c164
            try clear c164b0
            try clear c166
            try clear c166b0
            try clear c167
            try clear c167b0
            try clear c168
            try clear c168b0
            try clear c168b1
            try clear c170
            try clear c170b0
            try clear c170b1
            try clear c170b2
            try clear c176
            try clear c176b0
            try clear c178
            try clear c178b0
            try clear c179
            try clear c179b0
            try clear c180
            try clear c180b0
            try clear c180b1
            try clear c182
            try clear c182b0
            try clear c182b1
            try clear c182b2
            try clear hx267_0
            try clear hx268_0
            try clear hx269_0
            try clear hx270_0
            try clear hx272_0
            try clear hx273_0
            try clear hx274_0
            try clear hx275_0
            try clear hx277_0
            try clear hx278_0
            try clear hx279_0
            try clear p267
            try clear p268
            try clear p269
            try clear p270
            try clear p272
            try clear p273
            try clear p274
            try clear p275
            try clear p277
            try clear p278
            try clear p279
            try clear q267
            try clear q268
            try clear q269
            try clear q270
            try clear q272
            try clear q273
            try clear q274
            try clear q275
            try clear q277
            try clear q278
            try clear q279
            obtain ⟨x18_3, rfl, HA, HK3, HO_12, HR252_0, HR262_0, HB⟩ := hrel
            cases gk with
            | zero => exact absurd HA.out (by simp [laws_FnColumns.l1])
            | succ k3 =>
             have H := HA.out
             clear HA
             simp only [laws_FnColumns.l1] at H
             by_cases c189 : x18_3 < (t258.length : Int)
             ·
              rw [if_pos c189] at H
              have c189b0 : decide (x18_3 < (t258.length : Int)) = true := decide_eq_true c189
              clear c189
              obtain ⟨ji190, hji190⟩ : ∃ j_ : Int, (wrap64 (x18_3 - 1)) = j_ := ⟨_, rfl⟩
              replace H : (if 0 ≤ (ji190) then (if (ji190) < (t258.length : Int) then (if 0 ≤ x18_3 then (if (rd t258 (ji190)) ≥ (rd t258 x18_3) then (some false) else (laws_FnColumns.l1 k3 t258 (wrap64 (x18_3 + 1)))) else (none)) else (none)) else (none)) = some r := by first | (rw [hji190] at H; exact H) | (simp only [hji190] at H ⊢; exact H)
              have hji190w : (IntKind.i64.wrap (x18_3 - 1)) = ji190 := (i64_w _).trans hji190
              by_cases c191 : 0 ≤ (ji190)
              ·
               rw [if_pos c191] at H
               have c191b0 : decide (0 ≤ (ji190)) = true := decide_eq_true c191
               clear c191
               by_cases c192 : (ji190) < (t258.length : Int)
               ·
                rw [if_pos c192] at H
                have c192b0 : decide ((ji190) < (t258.length : Int)) = true := decide_eq_true c192
                clear c192
                by_cases c193 : 0 ≤ x18_3
                ·
                 rw [if_pos c193] at H
                 have c193b0 : decide (0 ≤ x18_3) = true := decide_eq_true c193
                 clear c193
                 by_cases c194 : (rd t258 (ji190)) ≥ (rd t258 x18_3)
                 ·
                  rw [if_pos c194] at H
                  have c194b0 : decide ((rd t258 x18_3) ≤ (rd t258 (ji190))) = true := decide_eq_true c194
                  clear c194
                  obtain rfl := Option.some.inj H
                  obtain ⟨Ao195, co195, eo195⟩ := Kd.R_slice HO_12.out
                  subst eo195
                  have p281 : 0 ≤ ((ji190) : Int) := of_decide_eq_true (by first | (with_reducible assumption) | assumption)
                  have q281 : (ji190) < (t258.length : Int) := of_decide_eq_true (by first | (with_reducible assumption) | assumption)
                  obtain ⟨ad281, e281, hx281_0⟩ := Kd.at_int (Kd.R_reads' HO_12.out).2.2 (ji190) p281 q281
                  cases e281
                  replace p281 := eq_true p281
                  replace q281 := eq_true q281
                  have p282 : 0 ≤ (x18_3 : Int) := of_decide_eq_true (by first | (with_reducible assumption) | assumption)
                  have q282 : x18_3 < (t258.length : Int) := of_decide_eq_true (by first | (with_reducible assumption) | assumption)
                  obtain ⟨ad282, e282, hx282_0⟩ := Kd.at_int (Kd.R_reads' HO_12.out).2.2 x18_3 p282 q282
                  obtain rfl : ad281 = ad282 := (by injection e282)
                  replace p282 := eq_true p282
                  replace q282 := eq_true q282
                  go_wp2
                  repeat (go_quiet (fail); try go_wp2)
                  go_ret
                  exact ⟨by first | rfl | (simp [errW_none, errW_some] <;> rfl) | (simp only [← hji190]; first | rfl | (simp [errW_none, errW_some] <;> rfl)) | (simp [*, errW_none, errW_some] <;> rfl), bl HB.out⟩
                 ·
                  rw [if_neg c194] at H
                  have c194b0 : decide ((rd t258 x18_3) ≤ (rd t258 (ji190))) = false := decide_eq_false c194
                  clear c194
                  have H' := Aside0.mk H
                  clear H
                  obtain ⟨Ao196, co196, eo196⟩ := Kd.R_slice HO_12.out
                  subst eo196
                  have p281 : 0 ≤ ((ji190) : Int) := of_decide_eq_true (by first | (with_reducible assumption) | assumption)
                  have q281 : (ji190) < (t258.length : Int) := of_decide_eq_true (by first | (with_reducible assumption) | assumption)
                  obtain ⟨ad281, e281, hx281_0⟩ := Kd.at_int (Kd.R_reads' HO_12.out).2.2 (ji190) p281 q281
                  cases e281
                  replace p281 := eq_true p281
                  replace q281 := eq_true q281
                  have p282 : 0 ≤ (x18_3 : Int) := of_decide_eq_true (by first | (with_reducible assumption) | assumption)
                  have q282 : x18_3 < (t258.length : Int) := of_decide_eq_true (by first | (with_reducible assumption) | assumption)
                  obtain ⟨ad282, e282, hx282_0⟩ := Kd.at_int (Kd.R_reads' HO_12.out).2.2 x18_3 p282 q282
                  obtain rfl : ad281 = ad282 := (by injection e282)
                  replace p282 := eq_true p282
                  replace q282 := eq_true q282
                  go_wp2
                  repeat (go_quiet (fail); try go_wp2)
                  (try subst hji190)
                  go_roundg k3
                  case measure => have := HJ133.out; have := HK2.out; have := HK3.out; omega
                  case rel => exact ⟨(wrap64 (x18_3 + 1)), (by first | rfl | (simp; done) | (simp [*]; done)), H', ⟨by have := HJ133.out; have := HK2.out; have := HK3.out; omega⟩, ⟨rl HO_12.out⟩, ⟨by repeat (first | (with_reducible exact HR252_0.out) | (with_reducible refine Kd.C_alloc ?_ _) | (with_reducible refine Kd.C_drewN ?_ _) | (with_reducible refine Kd.C_drew ?_) | exact HR252_0.out)⟩, ⟨by repeat (first | (with_reducible exact HR262_0.out) | (with_reducible refine Kd.C_alloc ?_ _) | (with_reducible refine Kd.C_drewN ?_ _) | (with_reducible refine Kd.C_drew ?_) | exact HR262_0.out)⟩, ⟨bl HB.out⟩⟩
                ·
                 rw [if_neg c193] at H
                 exact absurd H (by simp)
               ·
                rw [if_neg c192] at H
                exact absurd H (by simp)
              ·
               rw [if_neg c191] at H
               exact absurd H (by simp)
             ·
              rw [if_neg c189] at H
              have c189b0 : decide (x18_3 < (t258.length : Int)) = false := decide_eq_false c189
              clear c189
              obtain rfl := Option.some.inj H
              obtain ⟨Ao197, co197, eo197⟩ := Kd.R_slice HO_12.out
              subst eo197
              go_wp2
              repeat (go_quiet (fail); try go_wp2)
              go_ret
              exact ⟨by first | rfl | (simp [errW_none, errW_some] <;> rfl) | (simp [*, errW_none, errW_some] <;> rfl), bl HB.out⟩
   ·
    rw [if_neg c128] at H
    exact absurd H (by simp)

/-- THE ONE PURE STATEMENT of laws_FnColumns: yours. -/
def laws_FnColumns.Pure : Prop := ∀ (l0 : List Int), l0.length ≤ maxLen → l0.length * 1 ≤ 140737488351232 → (∀ x ∈ l0, (Lit.int .u8 x).wf = true) → ∃ k, laws_FnColumns.f k l0 = some true
theorem laws_FnColumns.walk (P : laws_FnColumns.Pure) (a0 : Option Addr) (len0 cap0 : Nat) (z0 : List Int) (w : World) (w0 : (a0 = none ∧ len0 = 0 ∧ cap0 = 0 ∧ z0 = []) ∨ ∃ x, a0 = some x ∧ len0 ≤ cap0 ∧ cap0 ≤ maxLen ∧ z0.length = cap0 ∧ (∀ i, i < z0.length → w.cell? (x.add i) = some (.int .u8 (z0.getD i 0))) ∧ ∀ n ∈ z0, (Lit.int .u8 n).wf = true) (y0 : len0 * 1 ≤ 140737488351232) :
  Calls Try.prog 5 #[.slice a0 len0 cap0] w fun e w' => e = .returned (.bool true) ∧ Below w.heap.size w w' := by
 obtain ⟨l0, rfl, hr0, hm0, hw0, hc0⟩ := ReadsInt.ofRowC w0
 obtain ⟨k, h⟩ := P l0 hm0 y0 hw0
 refine (laws_FnColumns.calls k _ _ l0 true w (Kd.C_of_reads (d := (0 : Int)) (h1 := fun _ => rfl) hr0) hc0 h).mono ?_
 rintro e w' ⟨rfl, hd⟩
 exact ⟨rfl, hd⟩

end Go.Proofs.Ytaaelkbkmgnciaa.PFnColumns
