-- Written by a program of this session (wip/xprint.py) out of the translation; Lean checks it.
import Derived.Test.YtdimdlifjdbgnaaPFnKeptx0
import Derived.Test.YtdimdlifjdbgnaaPFnKeptx1
import Derived.Test.YtdimdlifjdbgnaaPFnKeptx2
import Derived.Test.YtdimdlifjdbgnaaPFnKeptx3
import Derived.Test.YtdimdlifjdbgnaaPFnKeptx4
import Derived.Test.YtdimdlifjdbgnaaPFnKeptx5
import Derived.Test.YtdimdlifjdbgnaaPFnKeptx6
import Derived.Test.YtdimdlifjdbgnaaPFnKeptx7
import Derived.Test.YtdimdlifjdbgnaaPFnKeptx8
import Derived.Test.YtdimdlifjdbgnaaPFnKeptx9
import Derived.Test.YtdimdlifjdbgnaaPFnKeptx10
import Derived.Test.YtdimdlifjdbgnaaPFnKeptx11
import Derived.Test.YtdimdlifjdbgnaaPFnKeptx12
import Derived.Test.YtdimdlifjdbgnaaPFnKeptx13
import Derived.Test.YtdimdlifjdbgnaaPFnKeptx14
import Derived.Test.YtdimdlifjdbgnaaPFnKeptx15
namespace Go.Proofs.Ytdimdlifjdbgnaa.PFnKept
open Go.RowKit Go.Proofs.YtdimdlifjdbgnaaW.PrintWords Go.Proofs.YtdimdlifjdbgnaaW.PrintLast Go.Proofs.YtdimdlifjdbgnaaW.PrintMore Go.Proofs.Ytdimdlifjdbgnaa.Sq
attribute [local go_sem] max2_int min2_int max_two min_two max_three min_three max_four min_four   -- for this text's walks alone
set_option linter.unusedVariables false
set_option linter.unusedSimpArgs false

/-! ### laws_FnKept: function 4 -/
mutual
def laws_FnKept.l0 : Nat → List Int → List (List Int) → Int → Int → Option (Bool)
 | 0, _, _, _, _ => none
 | k + 1, x0, x3, x4, x5 => if x5 < (x3.length : Int) then (laws_FnKept.l1 k x0 x3 x4 x5 0) else ((impl_Pack20.f k x3).bind fun bt539 => ((spec_DrawFleet.f k x0).bind fun bt543 => (laws_FnKept.l2 k x3 x4 bt539.1 bt539.2 bt543.2.2.2.2.2.2 0 0 bt543.1 bt543.2.1 bt543.2.2.1 bt543.2.2.2.1 bt543.2.2.2.2.1 bt543.2.2.2.2.2.1)))
def laws_FnKept.l1 : Nat → List Int → List (List Int) → Int → Int → Int → Option (Bool)
 | 0, _, _, _, _, _ => none
 | k + 1, x0, x3, x4, x5, x6 => if 0 ≤ x5 then (if x5 < (x3.length : Int) then (if x6 < ((rd_L13 x3 x5).length : Int) then (if 0 ≤ x6 then (laws_FnKept.l1 k x0 x3 (wrap64 ((wrap64 (x4 * 31)) + (rd (rd_L13 x3 x5) x6))) x5 (wrap64 (x6 + 1))) else (none)) else (laws_FnKept.l0 k x0 x3 x4 (wrap64 (x5 + 1)))) else (none)) else (none)
def laws_FnKept.l2 : Nat → List (List Int) → Int → List Int → Bool → List (S42) → Int → Int → List (S44) → List (S84) → List (S57) → Int → Int → Int → Option (Bool)
 | 0, _, _, _, _, _, _, _, _, _, _, _, _, _ => none
 | k + 1, x3, x4, x7, x8, x10, x11, x12, x559000, x559001, x559002, x559003, x559004, x559005 => if x12 < (x559002.length : Int) then (if 0 ≤ x12 then (laws_FnKept.l2 k x3 x4 x7 x8 x10 (wrap64 ((wrap64 (x11 * 31)) + ((rd_T57 x559002 x12).f1))) (wrap64 (x12 + 1)) x559000 x559001 x559002 x559003 x559004 x559005) else (none)) else ((impl_RunWork.f k x559000 x559001 x559002 x559003 x559004 x559005 x10).bind fun bt560 => (laws_FnKept.l3 k x3 x4 x7 x8 x10 x11 bt560.2.2.2.2.2.2 0 0 0 x559000 x559001 x559002 x559003 x559004 x559005))
def laws_FnKept.l3 : Nat → List (List Int) → Int → List Int → Bool → List (S42) → Int → List Bool → Int → Int → Int → List (S44) → List (S84) → List (S57) → Int → Int → Int → Option (Bool)
 | 0, _, _, _, _, _, _, _, _, _, _, _, _, _, _, _, _ => none
 | k + 1, x3, x4, x7, x8, x10, x11, x14, x15, x16, x17, x559000, x559001, x559002, x559003, x559004, x559005 => if x17 < (x3.length : Int) then (laws_FnKept.l4 k x3 x4 x7 x8 x10 x11 x14 x15 x16 x17 0 x559000 x559001 x559002 x559003 x559004 x559005) else (laws_FnKept.l5 k x4 x7 x8 x10 x11 x14 x15 x16 0 x559000 x559001 x559002 x559003 x559004 x559005)
def laws_FnKept.l4 : Nat → List (List Int) → Int → List Int → Bool → List (S42) → Int → List Bool → Int → Int → Int → Int → List (S44) → List (S84) → List (S57) → Int → Int → Int → Option (Bool)
 | 0, _, _, _, _, _, _, _, _, _, _, _, _, _, _, _, _, _ => none
 | k + 1, x3, x4, x7, x8, x10, x11, x14, x15, x16, x17, x18, x559000, x559001, x559002, x559003, x559004, x559005 => if 0 ≤ x17 then (if x17 < (x3.length : Int) then (if x18 < ((rd_L13 x3 x17).length : Int) then (if 0 ≤ x18 then (laws_FnKept.l4 k x3 x4 x7 x8 x10 x11 x14 (wrap64 ((wrap64 (x15 * 31)) + (rd (rd_L13 x3 x17) x18))) x16 x17 (wrap64 (x18 + 1)) x559000 x559001 x559002 x559003 x559004 x559005) else (none)) else (laws_FnKept.l3 k x3 x4 x7 x8 x10 x11 x14 x15 x16 (wrap64 (x17 + 1)) x559000 x559001 x559002 x559003 x559004 x559005)) else (none)) else (none)
def laws_FnKept.l5 : Nat → Int → List Int → Bool → List (S42) → Int → List Bool → Int → Int → Int → List (S44) → List (S84) → List (S57) → Int → Int → Int → Option (Bool)
 | 0, _, _, _, _, _, _, _, _, _, _, _, _, _, _, _ => none
 | k + 1, x4, x7, x8, x10, x11, x14, x15, x16, x19, x559000, x559001, x559002, x559003, x559004, x559005 => if x19 < (x559002.length : Int) then (if 0 ≤ x19 then (laws_FnKept.l5 k x4 x7 x8 x10 x11 x14 x15 (wrap64 ((wrap64 (x16 * 31)) + ((rd_T57 x559002 x19).f1))) (wrap64 (x19 + 1)) x559000 x559001 x559002 x559003 x559004 x559005) else (none)) else (if x8 = true then (if (x7.length : Int) > 1 then (if x4 = x15 then (if x11 = x16 then (some ((x14.length : Int) == (x10.length : Int))) else (some false)) else (some false)) else (some false)) else (some false))
end
def laws_FnKept.f (k : Nat) (l0 : List Int) : Option (Bool) := (laws_big.f l0).bind fun t532 => (if t532 = true then (some true) else ((spec_DrawRecord.f k l0).bind fun t533 => (laws_FnKept.l0 k l0 t533 0 0)))
theorem laws_FnKept.mono_l : ∀ k, (∀ y0 y1 y2 y3, LeO (laws_FnKept.l0 k y0 y1 y2 y3) (laws_FnKept.l0 (k + 1) y0 y1 y2 y3)) ∧ (∀ y0 y1 y2 y3 y4, LeO (laws_FnKept.l1 k y0 y1 y2 y3 y4) (laws_FnKept.l1 (k + 1) y0 y1 y2 y3 y4)) ∧ (∀ y0 y1 y2 y3 y4 y5 y6 y7 y8 y9 y10 y11 y12, LeO (laws_FnKept.l2 k y0 y1 y2 y3 y4 y5 y6 y7 y8 y9 y10 y11 y12) (laws_FnKept.l2 (k + 1) y0 y1 y2 y3 y4 y5 y6 y7 y8 y9 y10 y11 y12)) ∧ (∀ y0 y1 y2 y3 y4 y5 y6 y7 y8 y9 y10 y11 y12 y13 y14 y15, LeO (laws_FnKept.l3 k y0 y1 y2 y3 y4 y5 y6 y7 y8 y9 y10 y11 y12 y13 y14 y15) (laws_FnKept.l3 (k + 1) y0 y1 y2 y3 y4 y5 y6 y7 y8 y9 y10 y11 y12 y13 y14 y15)) ∧ (∀ y0 y1 y2 y3 y4 y5 y6 y7 y8 y9 y10 y11 y12 y13 y14 y15 y16, LeO (laws_FnKept.l4 k y0 y1 y2 y3 y4 y5 y6 y7 y8 y9 y10 y11 y12 y13 y14 y15 y16) (laws_FnKept.l4 (k + 1) y0 y1 y2 y3 y4 y5 y6 y7 y8 y9 y10 y11 y12 y13 y14 y15 y16)) ∧ (∀ y0 y1 y2 y3 y4 y5 y6 y7 y8 y9 y10 y11 y12 y13 y14, LeO (laws_FnKept.l5 k y0 y1 y2 y3 y4 y5 y6 y7 y8 y9 y10 y11 y12 y13 y14) (laws_FnKept.l5 (k + 1) y0 y1 y2 y3 y4 y5 y6 y7 y8 y9 y10 y11 y12 y13 y14))
 | 0 => ⟨fun _ _ _ _ r h => by simp [laws_FnKept.l0] at h, fun _ _ _ _ _ r h => by simp [laws_FnKept.l1] at h, fun _ _ _ _ _ _ _ _ _ _ _ _ _ r h => by simp [laws_FnKept.l2] at h, fun _ _ _ _ _ _ _ _ _ _ _ _ _ _ _ _ r h => by simp [laws_FnKept.l3] at h, fun _ _ _ _ _ _ _ _ _ _ _ _ _ _ _ _ _ r h => by simp [laws_FnKept.l4] at h, fun _ _ _ _ _ _ _ _ _ _ _ _ _ _ _ r h => by simp [laws_FnKept.l5] at h⟩
 | k + 1 => by
  obtain ⟨ih0, ih1, ih2, ih3, ih4, ih5⟩ := laws_FnKept.mono_l k
  refine ⟨?_, ?_, ?_, ?_, ?_, ?_⟩
  ·
   intro y0 y1 y2 y3
   unfold laws_FnKept.l0
   repeat' first
   | (with_reducible exact ih0 _ _ _ _)
   | (with_reducible exact ih1 _ _ _ _ _)
   | (with_reducible exact ih2 _ _ _ _ _ _ _ _ _ _ _ _ _)
   | (with_reducible exact ih3 _ _ _ _ _ _ _ _ _ _ _ _ _ _ _ _)
   | (with_reducible exact ih4 _ _ _ _ _ _ _ _ _ _ _ _ _ _ _ _ _)
   | (with_reducible exact ih5 _ _ _ _ _ _ _ _ _ _ _ _ _ _ _)
   | (with_reducible exact impl_Pack20.mono _ _)
   | (with_reducible exact impl_RunWork.mono _ _ _ _ _ _ _ _)
   | (with_reducible exact spec_DrawFleet.mono _ _)
   | (with_reducible exact spec_DrawRecord.mono _ _)
   | (with_reducible exact LeO.refl _)
   | (with_reducible exact LeO.none _)
   | (with_reducible refine LeO.ite ?_ ?_)
   | (with_reducible refine LeO.bind ?_ (fun _ => ?_))
   | exact ih0 _ _ _ _
   | exact ih1 _ _ _ _ _
   | exact ih2 _ _ _ _ _ _ _ _ _ _ _ _ _
   | exact ih3 _ _ _ _ _ _ _ _ _ _ _ _ _ _ _ _
   | exact ih4 _ _ _ _ _ _ _ _ _ _ _ _ _ _ _ _ _
   | exact ih5 _ _ _ _ _ _ _ _ _ _ _ _ _ _ _
   | exact impl_Pack20.mono _ _
   | exact impl_RunWork.mono _ _ _ _ _ _ _ _
   | exact spec_DrawFleet.mono _ _
   | exact spec_DrawRecord.mono _ _
   | exact LeO.none _
   | refine LeO.ite ?_ ?_
   | refine LeO.bind ?_ (fun _ => ?_)
  ·
   intro y0 y1 y2 y3 y4
   unfold laws_FnKept.l1
   repeat' first
   | (with_reducible exact ih0 _ _ _ _)
   | (with_reducible exact ih1 _ _ _ _ _)
   | (with_reducible exact ih2 _ _ _ _ _ _ _ _ _ _ _ _ _)
   | (with_reducible exact ih3 _ _ _ _ _ _ _ _ _ _ _ _ _ _ _ _)
   | (with_reducible exact ih4 _ _ _ _ _ _ _ _ _ _ _ _ _ _ _ _ _)
   | (with_reducible exact ih5 _ _ _ _ _ _ _ _ _ _ _ _ _ _ _)
   | (with_reducible exact impl_Pack20.mono _ _)
   | (with_reducible exact impl_RunWork.mono _ _ _ _ _ _ _ _)
   | (with_reducible exact spec_DrawFleet.mono _ _)
   | (with_reducible exact spec_DrawRecord.mono _ _)
   | (with_reducible exact LeO.refl _)
   | (with_reducible exact LeO.none _)
   | (with_reducible refine LeO.ite ?_ ?_)
   | (with_reducible refine LeO.bind ?_ (fun _ => ?_))
   | exact ih0 _ _ _ _
   | exact ih1 _ _ _ _ _
   | exact ih2 _ _ _ _ _ _ _ _ _ _ _ _ _
   | exact ih3 _ _ _ _ _ _ _ _ _ _ _ _ _ _ _ _
   | exact ih4 _ _ _ _ _ _ _ _ _ _ _ _ _ _ _ _ _
   | exact ih5 _ _ _ _ _ _ _ _ _ _ _ _ _ _ _
   | exact impl_Pack20.mono _ _
   | exact impl_RunWork.mono _ _ _ _ _ _ _ _
   | exact spec_DrawFleet.mono _ _
   | exact spec_DrawRecord.mono _ _
   | exact LeO.none _
   | refine LeO.ite ?_ ?_
   | refine LeO.bind ?_ (fun _ => ?_)
  ·
   intro y0 y1 y2 y3 y4 y5 y6 y7 y8 y9 y10 y11 y12
   unfold laws_FnKept.l2
   repeat' first
   | (with_reducible exact ih0 _ _ _ _)
   | (with_reducible exact ih1 _ _ _ _ _)
   | (with_reducible exact ih2 _ _ _ _ _ _ _ _ _ _ _ _ _)
   | (with_reducible exact ih3 _ _ _ _ _ _ _ _ _ _ _ _ _ _ _ _)
   | (with_reducible exact ih4 _ _ _ _ _ _ _ _ _ _ _ _ _ _ _ _ _)
   | (with_reducible exact ih5 _ _ _ _ _ _ _ _ _ _ _ _ _ _ _)
   | (with_reducible exact impl_Pack20.mono _ _)
   | (with_reducible exact impl_RunWork.mono _ _ _ _ _ _ _ _)
   | (with_reducible exact spec_DrawFleet.mono _ _)
   | (with_reducible exact spec_DrawRecord.mono _ _)
   | (with_reducible exact LeO.refl _)
   | (with_reducible exact LeO.none _)
   | (with_reducible refine LeO.ite ?_ ?_)
   | (with_reducible refine LeO.bind ?_ (fun _ => ?_))
   | exact ih0 _ _ _ _
   | exact ih1 _ _ _ _ _
   | exact ih2 _ _ _ _ _ _ _ _ _ _ _ _ _
   | exact ih3 _ _ _ _ _ _ _ _ _ _ _ _ _ _ _ _
   | exact ih4 _ _ _ _ _ _ _ _ _ _ _ _ _ _ _ _ _
   | exact ih5 _ _ _ _ _ _ _ _ _ _ _ _ _ _ _
   | exact impl_Pack20.mono _ _
   | exact impl_RunWork.mono _ _ _ _ _ _ _ _
   | exact spec_DrawFleet.mono _ _
   | exact spec_DrawRecord.mono _ _
   | exact LeO.none _
   | refine LeO.ite ?_ ?_
   | refine LeO.bind ?_ (fun _ => ?_)
  ·
   intro y0 y1 y2 y3 y4 y5 y6 y7 y8 y9 y10 y11 y12 y13 y14 y15
   unfold laws_FnKept.l3
   repeat' first
   | (with_reducible exact ih0 _ _ _ _)
   | (with_reducible exact ih1 _ _ _ _ _)
   | (with_reducible exact ih2 _ _ _ _ _ _ _ _ _ _ _ _ _)
   | (with_reducible exact ih3 _ _ _ _ _ _ _ _ _ _ _ _ _ _ _ _)
   | (with_reducible exact ih4 _ _ _ _ _ _ _ _ _ _ _ _ _ _ _ _ _)
   | (with_reducible exact ih5 _ _ _ _ _ _ _ _ _ _ _ _ _ _ _)
   | (with_reducible exact impl_Pack20.mono _ _)
   | (with_reducible exact impl_RunWork.mono _ _ _ _ _ _ _ _)
   | (with_reducible exact spec_DrawFleet.mono _ _)
   | (with_reducible exact spec_DrawRecord.mono _ _)
   | (with_reducible exact LeO.refl _)
   | (with_reducible exact LeO.none _)
   | (with_reducible refine LeO.ite ?_ ?_)
   | (with_reducible refine LeO.bind ?_ (fun _ => ?_))
   | exact ih0 _ _ _ _
   | exact ih1 _ _ _ _ _
   | exact ih2 _ _ _ _ _ _ _ _ _ _ _ _ _
   | exact ih3 _ _ _ _ _ _ _ _ _ _ _ _ _ _ _ _
   | exact ih4 _ _ _ _ _ _ _ _ _ _ _ _ _ _ _ _ _
   | exact ih5 _ _ _ _ _ _ _ _ _ _ _ _ _ _ _
   | exact impl_Pack20.mono _ _
   | exact impl_RunWork.mono _ _ _ _ _ _ _ _
   | exact spec_DrawFleet.mono _ _
   | exact spec_DrawRecord.mono _ _
   | exact LeO.none _
   | refine LeO.ite ?_ ?_
   | refine LeO.bind ?_ (fun _ => ?_)
  ·
   intro y0 y1 y2 y3 y4 y5 y6 y7 y8 y9 y10 y11 y12 y13 y14 y15 y16
   unfold laws_FnKept.l4
   repeat' first
   | (with_reducible exact ih0 _ _ _ _)
   | (with_reducible exact ih1 _ _ _ _ _)
   | (with_reducible exact ih2 _ _ _ _ _ _ _ _ _ _ _ _ _)
   | (with_reducible exact ih3 _ _ _ _ _ _ _ _ _ _ _ _ _ _ _ _)
   | (with_reducible exact ih4 _ _ _ _ _ _ _ _ _ _ _ _ _ _ _ _ _)
   | (with_reducible exact ih5 _ _ _ _ _ _ _ _ _ _ _ _ _ _ _)
   | (with_reducible exact impl_Pack20.mono _ _)
   | (with_reducible exact impl_RunWork.mono _ _ _ _ _ _ _ _)
   | (with_reducible exact spec_DrawFleet.mono _ _)
   | (with_reducible exact spec_DrawRecord.mono _ _)
   | (with_reducible exact LeO.refl _)
   | (with_reducible exact LeO.none _)
   | (with_reducible refine LeO.ite ?_ ?_)
   | (with_reducible refine LeO.bind ?_ (fun _ => ?_))
   | exact ih0 _ _ _ _
   | exact ih1 _ _ _ _ _
   | exact ih2 _ _ _ _ _ _ _ _ _ _ _ _ _
   | exact ih3 _ _ _ _ _ _ _ _ _ _ _ _ _ _ _ _
   | exact ih4 _ _ _ _ _ _ _ _ _ _ _ _ _ _ _ _ _
   | exact ih5 _ _ _ _ _ _ _ _ _ _ _ _ _ _ _
   | exact impl_Pack20.mono _ _
   | exact impl_RunWork.mono _ _ _ _ _ _ _ _
   | exact spec_DrawFleet.mono _ _
   | exact spec_DrawRecord.mono _ _
   | exact LeO.none _
   | refine LeO.ite ?_ ?_
   | refine LeO.bind ?_ (fun _ => ?_)
  ·
   intro y0 y1 y2 y3 y4 y5 y6 y7 y8 y9 y10 y11 y12 y13 y14
   unfold laws_FnKept.l5
   repeat' first
   | (with_reducible exact ih0 _ _ _ _)
   | (with_reducible exact ih1 _ _ _ _ _)
   | (with_reducible exact ih2 _ _ _ _ _ _ _ _ _ _ _ _ _)
   | (with_reducible exact ih3 _ _ _ _ _ _ _ _ _ _ _ _ _ _ _ _)
   | (with_reducible exact ih4 _ _ _ _ _ _ _ _ _ _ _ _ _ _ _ _ _)
   | (with_reducible exact ih5 _ _ _ _ _ _ _ _ _ _ _ _ _ _ _)
   | (with_reducible exact impl_Pack20.mono _ _)
   | (with_reducible exact impl_RunWork.mono _ _ _ _ _ _ _ _)
   | (with_reducible exact spec_DrawFleet.mono _ _)
   | (with_reducible exact spec_DrawRecord.mono _ _)
   | (with_reducible exact LeO.refl _)
   | (with_reducible exact LeO.none _)
   | (with_reducible refine LeO.ite ?_ ?_)
   | (with_reducible refine LeO.bind ?_ (fun _ => ?_))
   | exact ih0 _ _ _ _
   | exact ih1 _ _ _ _ _
   | exact ih2 _ _ _ _ _ _ _ _ _ _ _ _ _
   | exact ih3 _ _ _ _ _ _ _ _ _ _ _ _ _ _ _ _
   | exact ih4 _ _ _ _ _ _ _ _ _ _ _ _ _ _ _ _ _
   | exact ih5 _ _ _ _ _ _ _ _ _ _ _ _ _ _ _
   | exact impl_Pack20.mono _ _
   | exact impl_RunWork.mono _ _ _ _ _ _ _ _
   | exact spec_DrawFleet.mono _ _
   | exact spec_DrawRecord.mono _ _
   | exact LeO.none _
   | refine LeO.ite ?_ ?_
   | refine LeO.bind ?_ (fun _ => ?_)
theorem laws_FnKept.mono : ∀ a0 k, LeO (laws_FnKept.f k a0) (laws_FnKept.f (k + 1) a0) := by
 intro a0 k
 obtain ⟨ih0, ih1, ih2, ih3, ih4, ih5⟩ := laws_FnKept.mono_l k
 unfold laws_FnKept.f
 repeat' first
   | (with_reducible exact ih0 _ _ _ _)
   | (with_reducible exact ih1 _ _ _ _ _)
   | (with_reducible exact ih2 _ _ _ _ _ _ _ _ _ _ _ _ _)
   | (with_reducible exact ih3 _ _ _ _ _ _ _ _ _ _ _ _ _ _ _ _)
   | (with_reducible exact ih4 _ _ _ _ _ _ _ _ _ _ _ _ _ _ _ _ _)
   | (with_reducible exact ih5 _ _ _ _ _ _ _ _ _ _ _ _ _ _ _)
   | (with_reducible exact impl_Pack20.mono _ _)
   | (with_reducible exact impl_RunWork.mono _ _ _ _ _ _ _ _)
   | (with_reducible exact spec_DrawFleet.mono _ _)
   | (with_reducible exact spec_DrawRecord.mono _ _)
   | (with_reducible exact LeO.refl _)
   | (with_reducible exact LeO.none _)
   | (with_reducible refine LeO.ite ?_ ?_)
   | (with_reducible refine LeO.bind ?_ (fun _ => ?_))
   | exact ih0 _ _ _ _
   | exact ih1 _ _ _ _ _
   | exact ih2 _ _ _ _ _ _ _ _ _ _ _ _ _
   | exact ih3 _ _ _ _ _ _ _ _ _ _ _ _ _ _ _ _
   | exact ih4 _ _ _ _ _ _ _ _ _ _ _ _ _ _ _ _ _
   | exact ih5 _ _ _ _ _ _ _ _ _ _ _ _ _ _ _
   | exact impl_Pack20.mono _ _
   | exact impl_RunWork.mono _ _ _ _ _ _ _ _
   | exact spec_DrawFleet.mono _ _
   | exact spec_DrawRecord.mono _ _
   | exact LeO.none _
   | refine LeO.ite ?_ ?_
   | refine LeO.bind ?_ (fun _ => ?_)
set_option maxHeartbeats 8000000 in
set_option maxRecDepth 100000 in
theorem laws_FnKept.calls (k : Nat) (A0 : Option Addr) (c0 : Nat) (l0 : List Int) (r : Bool) (hr_ : r = true) (w : World) (hr0 : Kd.C (Kd.int .u8) w A0 l0.length l0) (hc0 : l0.length ≤ c0) (h : laws_FnKept.f k l0 = some r) :
  Calls Try.prog 4 #[.slice A0 l0.length c0] w fun e w' => e = .returned (.bool r) ∧ Below w.heap.size w w' := by
 have hu30 := Try.underlying30
 have HR0 := Aside0.mk hr0
 have HC0 := Aside0.mk hc0
 clear hr0 hc0
 have HB := Aside0.mk (Below.refl w.heap.size w)
 have H : ((laws_big.f l0).bind fun t532 => (if t532 = true then (some true) else ((spec_DrawRecord.f k l0).bind fun t533 => (laws_FnKept.l0 k l0 t533 0 0)))) = some r := h
 clear h
 replace H := Option.bind_eq_some_iff.mp H
 obtain ⟨t532, A20, H⟩ := H
 replace H : (if t532 = true then (some true) else ((spec_DrawRecord.f k l0).bind fun t533 => (laws_FnKept.l0 k l0 t533 0 0))) = some r := H
 have A2 := Aside0.mk A20
 clear A20
 have HC3 := Aside0.mk H
 clear H
 go_enter Try.func4, Try.ntmps4
 go_upto_if 21 with (first | ((with_reducible refine gate_callee (f := 6) rfl ?_); refine goesL_ (some 21) rfl rfl Try.func6 (by kernel_rfl) rfl #[.slice A0 l0.length c0] rfl (by (try simp only [am_]); first | done | rfl) ?_; (with_reducible refine (laws_big.calls _ _ l0 t532 _ ?side1 ?side2 A2.out).mono ?_); (case side1 => exact rc HR0.out); (case side2 => exact HC0.out); rintro e w' ⟨rfl, ⟨nd, rfl⟩⟩; refine ⟨_, rfl, ?_⟩))
 have H := HC3.out
 clear HC3
 by_cases c4 : t532 = true
 ·
  subst c4
  have H1 : (some true) = some r := by rw [if_pos rfl] at H; exact H
  clear H
  have H := H1
  clear H1
  obtain rfl := Option.some.inj H
  go_wp2
  go_ret
  exact ⟨by first | rfl | (simp [errW_none, errW_some] <;> rfl) | (simp [*, errW_none, errW_some] <;> rfl), bl HB.out⟩
 ·
  replace c4 := Bool.eq_false_iff.mpr c4
  subst c4
  have H1 : ((spec_DrawRecord.f k l0).bind fun t533 => (laws_FnKept.l0 k l0 t533 0 0)) = some r := by rw [if_neg (show ¬ (false = true) by decide)] at H; exact H
  clear H
  have H := H1
  clear H1
  replace H := Option.bind_eq_some_iff.mp H
  obtain ⟨t533, A50, H⟩ := H
  replace H : (laws_FnKept.l0 k l0 t533 0 0) = some r := H
  have A5 := Aside0.mk A50
  clear A50
  have H' := Aside0.mk H
  clear H
  go_wp2_with (first | ((with_reducible refine gate_callee (f := 16) rfl ?_); refine goesL_ (some 23) rfl rfl Try.func16 (by kernel_rfl) rfl #[.slice A0 l0.length c0] rfl (by (try simp only [am_]); first | done | rfl) ?_; (with_reducible refine (spec_DrawRecord.calls k _ _ l0 t533 _ ?side1 ?side2 A5.out).mono ?_); (case side1 => exact rc (Kd.C_below HR0.out HB.out)); (case side2 => exact HC0.out); rintro e w6 ⟨v534, rfl, ho0, hb⟩; refine ⟨_, rfl, ?_⟩; have HO535 := Aside0.mk (Kd.S_lower ho0 (below_size (bl HB.out))); replace HB := Aside0.mk (below_step (bl HB.out) hb); (try clear hb); (try clear hb2); (try clear hk); (try clear hi); (try clear ho0)))
  go_loopg [4, 5] k (fun kq v4 v5 w' => ∃ (x4_1 : Int) (x5_1 : Int), v4 = .int .i64 x4_1 ∧ v5 = .int .i64 x5_1 ∧ Aside0 (laws_FnKept.l0 kq l0 t533 x4_1 x5_1 = some r) ∧ Aside0 (kq ≤ k) ∧ Aside0 (Kd.S (Kd.slice 3 (Kd.int .i64)) 53 w' w.heap.size (fun _ => True) v534 t533) ∧ Aside0 (Below w.heap.size w w'))
  case atStart => exact ⟨(0), (0), (by first | rfl | (simp; done) | (simp [*]; done)), (by first | rfl | (simp; done) | (simp [*]; done)), H', ⟨Nat.le_refl _⟩, ⟨sl HO535.out⟩, ⟨bl HB.out⟩⟩
  case round =>
   clear H'
   try clear c1
   try clear p2
   try clear c4
   try clear c6
   obtain ⟨x4_1, x5_1, rfl, rfl, HA, HK1, HO_3, HB⟩ := hrel
   cases gk with
   | zero => exact absurd HA.out (by simp [laws_FnKept.l0])
   | succ k1 =>
    have H := HA.out
    clear HA
    simp only [laws_FnKept.l0] at H
    by_cases c7 : x5_1 < (t533.length : Int)
    ·
     rw [if_pos c7] at H
     have c7b0 : decide (x5_1 < (t533.length : Int)) = true := decide_eq_true c7
     clear c7
     (first | rw [c7b0] | (simp only [i64_w, i32_w]; rw [c7b0]) | skip)
     have H' := Aside0.mk H
     clear H
     obtain ⟨Ao8, co8, eo8⟩ := Kd.S_slice HO_3.out
     subst eo8
     go_wp2
     go_loopg [4, 6] k1 (fun kq v4 v6 w' => ∃ (x4_2 : Int) (x6_2 : Int), v4 = .int .i64 x4_2 ∧ v6 = .int .i64 x6_2 ∧ Aside0 (laws_FnKept.l1 kq l0 t533 x4_2 x5_1 x6_2 = some r) ∧ Aside0 (kq ≤ k1) ∧ Aside0 (Kd.S (Kd.slice 3 (Kd.int .i64)) 53 w' w.heap.size (fun _ => True) (.slice Ao8 t533.length co8) t533) ∧ Aside0 (Below w.heap.size w w'))
     case atStart => exact ⟨(x4_1), (0), (by first | rfl | (simp; done) | (simp [*]; done)), (by first | rfl | (simp; done) | (simp [*]; done)), H', ⟨Nat.le_refl _⟩, ⟨sl HO_3.out⟩, ⟨bl HB.out⟩⟩
     case round =>
      clear H'
      try clear c1
      try clear p2
      try clear c4
      try clear c6
      try clear c7
      try clear c7b0
      try clear p2
      obtain ⟨x4_2, x6_2, rfl, rfl, HA, HK2, HO_3, HB⟩ := hrel
      cases gk with
      | zero => exact absurd HA.out (by simp [laws_FnKept.l1])
      | succ k2 =>
       have H := HA.out
       clear HA
       simp only [laws_FnKept.l1] at H
       by_cases c9 : 0 ≤ x5_1
       ·
        rw [if_pos c9] at H
        have c9b0 : decide (0 ≤ x5_1) = true := decide_eq_true c9
        clear c9
        by_cases c10 : x5_1 < (t533.length : Int)
        ·
         rw [if_pos c10] at H
         have c10b0 : decide (x5_1 < (t533.length : Int)) = true := decide_eq_true c10
         clear c10
         by_cases c11 : x6_2 < ((rd_L13 t533 x5_1).length : Int)
         ·
          rw [if_pos c11] at H
          have c11b0 : decide (x6_2 < ((rd_L13 t533 x5_1).length : Int)) = true := decide_eq_true c11
          clear c11
          by_cases c12 : 0 ≤ x6_2
          ·
           rw [if_pos c12] at H
           have c12b0 : decide (0 ≤ x6_2) = true := decide_eq_true c12
           clear c12
           have H' := Aside0.mk H
           clear H
           have p536 : 0 ≤ (x5_1 : Int) := of_decide_eq_true (by first | (with_reducible assumption) | assumption)
           have q536 : x5_1 < (t533.length : Int) := of_decide_eq_true (by first | (with_reducible assumption) | assumption)
           obtain ⟨ad536, A536_0, c536_0, e536, hx536_0, hl536_0, hi536_0⟩ := at_L13 (Kd.S_reads' HO_3.out).2.2 x5_1 p536 q536
           cases e536
           obtain ⟨ce536, hce536, hMe536, hcc536⟩ := Kd.S_get HO_3.out [] x5_1 p536 (by first | exact q536 | exact of_decide_eq_true (by first | (with_reducible assumption) | assumption) | (have e_ := (Kd.S_reads' HO_3.out).1; omega))
           obtain ⟨ve536_0, rfl, ge536_0⟩ := hMe536
           have hv536_0 := hcc536 0 _ rfl
           rw [Nat.add_zero, show ((Kd.slice 3 (Kd.int .i64))).sz = 1 from rfl, Nat.mul_one] at hv536_0
           replace hv536_0 := Option.some.inj (hv536_0.symm.trans hx536_0)
           rw [hv536_0] at ge536_0
           have HL536_0 := Aside0.mk (show Kd.R (Kd.int .i64) 3 _ _ _ _ (rd_L13 t533 x5_1) from ge536_0)
           clear hv536_0 ge536_0
           clear hcc536 hce536
           have HR536_0 := Aside0.mk hi536_0
           have HC536_0 := Aside0.mk hl536_0
           clear hi536_0 hl536_0
           replace p536 := eq_true p536
           replace q536 := eq_true q536
           have p537 : 0 ≤ (x5_1 : Int) := of_decide_eq_true (by first | (with_reducible assumption) | assumption)
           have q537 : x5_1 < (t533.length : Int) := of_decide_eq_true (by first | (with_reducible assumption) | assumption)
           obtain ⟨ad537, A537_0, c537_0, e537, hx537_0, hl537_0, hi537_0⟩ := at_L13 (Kd.S_reads' HO_3.out).2.2 x5_1 p537 q537
           obtain rfl : ad536 = ad537 := (by injection e537)
           obtain ⟨ce537, hce537, hMe537, hcc537⟩ := Kd.S_get HO_3.out [] x5_1 p537 (by first | exact q537 | exact of_decide_eq_true (by first | (with_reducible assumption) | assumption) | (have e_ := (Kd.S_reads' HO_3.out).1; omega))
           obtain ⟨ve537_0, rfl, ge537_0⟩ := hMe537
           have hv537_0 := hcc537 0 _ rfl
           rw [Nat.add_zero, show ((Kd.slice 3 (Kd.int .i64))).sz = 1 from rfl, Nat.mul_one] at hv537_0
           replace hv537_0 := Option.some.inj (hv537_0.symm.trans hx537_0)
           rw [hv537_0] at ge537_0
           have HL537_0 := Aside0.mk (show Kd.R (Kd.int .i64) 3 _ _ _ _ (rd_L13 t533 x5_1) from ge537_0)
           clear hv537_0 ge537_0
           clear hcc537 hce537
           have HR537_0 := Aside0.mk hi537_0
           have HC537_0 := Aside0.mk hl537_0
           clear hi537_0 hl537_0
           replace p537 := eq_true p537
           replace q537 := eq_true q537
           have ea_ := Option.some.inj (hx536_0.symm.trans hx537_0)
           injection ea_ with ea_ en_ ec_
           subst ea_
           subst ec_
           clear en_
           have p538 : 0 ≤ (x6_2 : Int) := of_decide_eq_true (by first | (with_reducible assumption) | assumption)
           have q538 : x6_2 < ((rd_L13 t533 x5_1).length : Int) := of_decide_eq_true (by first | (with_reducible assumption) | assumption)
           obtain ⟨ad538, e538, hx538_0⟩ := Kd.at_int (by repeat (first | (with_reducible exact HR537_0.out) | (with_reducible refine Kd.C_alloc ?_ _) | (with_reducible refine Kd.C_drewN ?_ _) | (with_reducible refine Kd.C_drew ?_) | exact HR537_0.out)) x6_2 p538 q538
           cases e538
           replace p538 := eq_true p538
           replace q538 := eq_true q538
           go_wp2
           go_roundg k2
           case measure => have := HK1.out; have := HK2.out; omega
           case rel => exact ⟨(wrap64 ((wrap64 (x4_2 * 31)) + (rd (rd_L13 t533 x5_1) x6_2))), (wrap64 (x6_2 + 1)), (by first | rfl | (simp; done) | (simp [*]; done)), (by first | rfl | (simp; done) | (simp [*]; done)), H', ⟨by have := HK1.out; have := HK2.out; omega⟩, ⟨sl HO_3.out⟩, ⟨bl HB.out⟩⟩
          ·
           rw [if_neg c12] at H
           exact absurd H (by simp)
         ·
          rw [if_neg c11] at H
          have c11b0 : decide (x6_2 < ((rd_L13 t533 x5_1).length : Int)) = false := decide_eq_false c11
          clear c11
          have H' := Aside0.mk H
          clear H
          have p536 : 0 ≤ (x5_1 : Int) := of_decide_eq_true (by first | (with_reducible assumption) | assumption)
          have q536 : x5_1 < (t533.length : Int) := of_decide_eq_true (by first | (with_reducible assumption) | assumption)
          obtain ⟨ad536, A536_0, c536_0, e536, hx536_0, hl536_0, hi536_0⟩ := at_L13 (Kd.S_reads' HO_3.out).2.2 x5_1 p536 q536
          cases e536
          obtain ⟨ce536, hce536, hMe536, hcc536⟩ := Kd.S_get HO_3.out [] x5_1 p536 (by first | exact q536 | exact of_decide_eq_true (by first | (with_reducible assumption) | assumption) | (have e_ := (Kd.S_reads' HO_3.out).1; omega))
          obtain ⟨ve536_0, rfl, ge536_0⟩ := hMe536
          have hv536_0 := hcc536 0 _ rfl
          rw [Nat.add_zero, show ((Kd.slice 3 (Kd.int .i64))).sz = 1 from rfl, Nat.mul_one] at hv536_0
          replace hv536_0 := Option.some.inj (hv536_0.symm.trans hx536_0)
          rw [hv536_0] at ge536_0
          have HL536_0 := Aside0.mk (show Kd.R (Kd.int .i64) 3 _ _ _ _ (rd_L13 t533 x5_1) from ge536_0)
          clear hv536_0 ge536_0
          clear hcc536 hce536
          have HR536_0 := Aside0.mk hi536_0
          have HC536_0 := Aside0.mk hl536_0
          clear hi536_0 hl536_0
          replace p536 := eq_true p536
          replace q536 := eq_true q536
          go_wp2
          go_roundg k2
          case measure => have := HK1.out; have := HK2.out; omega
          case rel => exact ⟨(x4_2), (wrap64 (x5_1 + 1)), (by first | rfl | (simp; done) | (simp [*]; done)), (by first | rfl | (simp; done) | (simp [*]; done)), H', ⟨by have := HK1.out; have := HK2.out; omega⟩, ⟨sl HO_3.out⟩, ⟨bl HB.out⟩⟩
        ·
         rw [if_neg c10] at H
         exact absurd H (by simp)
       ·
        rw [if_neg c9] at H
        exact absurd H (by simp)
    ·
     rw [if_neg c7] at H
     have c7b0 : decide (x5_1 < (t533.length : Int)) = false := decide_eq_false c7
     clear c7
     (first | rw [c7b0] | (simp only [i64_w, i32_w]; rw [c7b0]) | skip)
     replace H := Option.bind_eq_some_iff.mp H
     obtain ⟨⟨t539, t540⟩, A130, H⟩ := H
     replace H : ((spec_DrawFleet.f k1 l0).bind fun bt543 => (laws_FnKept.l2 k1 t533 x4_1 t539 t540 bt543.2.2.2.2.2.2 0 0 bt543.1 bt543.2.1 bt543.2.2.1 bt543.2.2.2.1 bt543.2.2.2.2.1 bt543.2.2.2.2.2.1)) = some r := H
     have A13 := Aside0.mk A130
     clear A130
     replace H := Option.bind_eq_some_iff.mp H
     obtain ⟨⟨t543, t546, t549, t552, t553, t554, t555⟩, A140, H⟩ := H
     replace H : (laws_FnKept.l2 k1 t533 x4_1 t539 t540 t555 0 0 t543 t546 t549 t552 t553 t554) = some r := H
     have A14 := Aside0.mk A140
     clear A140
     have H' := Aside0.mk H
     clear H
     obtain ⟨Ao15, co15, eo15⟩ := Kd.S_slice HO_3.out
     subst eo15
     go_wp2_with (first | ((with_reducible refine gate_callee (f := 17) rfl ?_); refine goesL_ (some 51) rfl rfl Try.func17 (by kernel_rfl) rfl #[.slice Ao15 t533.length co15] rfl (by (try simp only [am_]); first | done | rfl) ?_; (with_reducible refine (impl_Pack20.calls k1 _ _ t533 t539 t540 _ ?side1 ?side2 A13.out).mono ?_); (case side1 => exact rc (Kd.S_reads' HO_3.out).2.2); (case side2 => exact (Kd.S_reads' HO_3.out).2.1); rintro e w16 ⟨v541, rfl, ho0, hb⟩; refine ⟨_, rfl, ?_⟩; replace HO_3 := Aside0.mk (Kd.S_below (sl HO_3.out) hb); have HO542 := Aside0.mk (Kd.R_lower ho0 (below_size (bl HB.out))); replace HB := Aside0.mk (below_step (bl HB.out) hb); (try clear hb); (try clear hb2); (try clear hk); (try clear hi); (try clear ho0)) | ((with_reducible refine gate_callee (f := 7) rfl ?_); refine goesL_ (some 56) rfl rfl Try.func7 (by kernel_rfl) rfl #[.slice A0 l0.length c0] rfl (by (try simp only [am_]); first | done | rfl) ?_; (with_reducible refine (spec_DrawFleet.calls k1 _ _ l0 t543 t546 t549 t552 t553 t554 t555 _ ?side1 ?side2 A14.out).mono ?_); (case side1 => exact rc (Kd.C_below HR0.out HB.out)); (case side2 => exact HC0.out); rintro e w17 ⟨v544, v547, v550, v556, rfl, ho0, ho1, ho2, ho3, hb⟩; refine ⟨_, rfl, ?_⟩; replace HO_3 := Aside0.mk (Kd.S_below (sl HO_3.out) hb); replace HO542 := Aside0.mk (Kd.R_below (rl HO542.out) hb); have HO545 := Aside0.mk (Kd.R_lower ho0 (below_size (bl HB.out))); have HO548 := Aside0.mk (Kd.R_lower ho1 (below_size (bl HB.out))); have HO551 := Aside0.mk (Kd.R_lower ho2 (below_size (bl HB.out))); have HO557 := Aside0.mk (Kd.R_lower ho3 (below_size (bl HB.out))); replace HB := Aside0.mk (below_step (bl HB.out) hb); (try clear hb); (try clear hb2); (try clear hk); (try clear hi); (try clear ho0); (try clear ho1); (try clear ho2); (try clear ho3)) | ((with_reducible refine gate_dst (N := 9) rfl ?_); (try (refine gate_guard (by rfl) ?_; dsimp only)); refine box_event ?hg (N := 9) ?hd (cs := #[.slice none 0 0, .slice none 0 0, .slice none 0 0, .int .i64 0, .int .i64 0, .int .i64 0]) (t := 30) ?hr ?_; (case hd => rfl); (case hg => rfl); (case hr => first | (go_simp; done) | (go_simp; rfl)); intro gb558 hg w18 hbox hb; replace HO_3 := Aside0.mk (Kd.S_below (sl HO_3.out) hb); replace HO542 := Aside0.mk (Kd.R_below (rl HO542.out) hb); replace HO545 := Aside0.mk (Kd.R_below (rl HO545.out) hb); replace HO548 := Aside0.mk (Kd.R_below (rl HO548.out) hb); replace HO551 := Aside0.mk (Kd.R_below (rl HO551.out) hb); replace HO557 := Aside0.mk (Kd.R_below (rl HO557.out) hb); have BK558 := Aside0.mk (hbox); have GW558 := Aside0.mk ((by rw [hg]; exact (below_size (bl HB.out)) : w.heap.size ≤ gb558)); have GE558 := GW558; replace HB := Aside0.mk (below_step (bl HB.out) hb); clear hb hbox hg; obtain ⟨Ao19, co19, eo19⟩ := Kd.R_slice HO545.out; subst eo19; obtain ⟨hcz20_0, hcz20_1, hcz20_2, hcz20_3, hcz20_4, hcz20_5⟩ := ck6 BK558.out; obtain ⟨hfz20_0, hfz20_1, hfz20_2, hfz20_3, hfz20_4, hfz20_5⟩ := fz6 BK558.out; obtain ⟨Ao21, co21, eo21⟩ := Kd.R_slice HO548.out; subst eo21; obtain ⟨Ao22, co22, eo22⟩ := Kd.R_slice HO551.out; subst eo22))
     go_loopg [11, 12] k1 (fun kq v11 v12 w' => ∃ (x11_2 : Int) (x12_2 : Int), v11 = .int .i64 x11_2 ∧ v12 = .int .i64 x12_2 ∧ Aside0 (laws_FnKept.l2 kq t533 x4_1 t539 t540 t555 x11_2 x12_2 t543 t546 t549 t552 t553 t554 = some r) ∧ Aside0 (kq ≤ k1) ∧ Aside0 (Kd.S (Kd.slice 3 (Kd.int .i64)) 53 w' w.heap.size (fun _ => True) (.slice Ao15 t533.length co15) t533) ∧ Aside0 (Kd.R (Kd.int .u8) 5 w' w.heap.size (fun _ => True) v541 t539) ∧ Aside0 (Kd.R k42 42 w' w.heap.size (fun _ => True) v556 t555) ∧ Aside0 (Kd.R k44 44 w' w.heap.size (fun _ => True) (.slice Ao19 t543.length co19) t543) ∧ Aside0 (Kd.R k84 84 w' w.heap.size (fun _ => True) (.slice Ao21 t546.length co21) t546) ∧ Aside0 (Kd.R k57 57 w' w.heap.size (fun _ => True) (.slice Ao22 t549.length co22) t549) ∧ Aside0 (w'.heap[gb558]? = some (.cells #[(.slice Ao19 t543.length co19), (.slice Ao21 t546.length co21), (.slice Ao22 t549.length co22), .int .i64 t552, .int .i64 t553, .int .i64 t554] 30 (0, 0))) ∧ Aside0 (Below w.heap.size w w'))
     case atStart => exact ⟨(0), (0), (by first | rfl | (simp; done) | (simp [*]; done)), (by first | rfl | (simp; done) | (simp [*]; done)), H', ⟨Nat.le_refl _⟩, ⟨by (repeat apply sl1); exact Kd.S_mono (Kd.S_far (p := ⟨gb558, 5, none⟩) (Kd.S_far (p := ⟨gb558, 4, none⟩) (Kd.S_far (p := ⟨gb558, 3, none⟩) (Kd.S_far (p := ⟨gb558, 2, none⟩) (Kd.S_far (p := ⟨gb558, 1, none⟩) (Kd.S_far (p := ⟨gb558, 0, none⟩) (Kd.S_types HO_3.out BK558.out (by decide)) (fun _ hk => hk.2) (.slice Ao19 t543.length co19)) (fun _ hk => hk.2) (.slice Ao21 t546.length co21)) (fun _ hk => hk.2) (.slice Ao22 t549.length co22)) (fun _ hk => hk.2) (.int .i64 t552)) (fun _ hk => hk.2) (.int .i64 t553)) (fun _ hk => hk.2) (.int .i64 t554)) (fun _ hk => trivial)⟩, ⟨by (repeat apply rl1); exact Kd.R_mono (Kd.R_far (p := ⟨gb558, 5, none⟩) (Kd.R_far (p := ⟨gb558, 4, none⟩) (Kd.R_far (p := ⟨gb558, 3, none⟩) (Kd.R_far (p := ⟨gb558, 2, none⟩) (Kd.R_far (p := ⟨gb558, 1, none⟩) (Kd.R_far (p := ⟨gb558, 0, none⟩) (Kd.R_types HO542.out BK558.out (by decide)) (fun _ hk => hk.2) (.slice Ao19 t543.length co19)) (fun _ hk => hk.2) (.slice Ao21 t546.length co21)) (fun _ hk => hk.2) (.slice Ao22 t549.length co22)) (fun _ hk => hk.2) (.int .i64 t552)) (fun _ hk => hk.2) (.int .i64 t553)) (fun _ hk => hk.2) (.int .i64 t554)) (fun _ hk => trivial)⟩, ⟨by (repeat apply rl1); exact Kd.R_mono (Kd.R_far (p := ⟨gb558, 5, none⟩) (Kd.R_far (p := ⟨gb558, 4, none⟩) (Kd.R_far (p := ⟨gb558, 3, none⟩) (Kd.R_far (p := ⟨gb558, 2, none⟩) (Kd.R_far (p := ⟨gb558, 1, none⟩) (Kd.R_far (p := ⟨gb558, 0, none⟩) (Kd.R_types HO557.out BK558.out (by decide)) (fun _ hk => hk.2) (.slice Ao19 t543.length co19)) (fun _ hk => hk.2) (.slice Ao21 t546.length co21)) (fun _ hk => hk.2) (.slice Ao22 t549.length co22)) (fun _ hk => hk.2) (.int .i64 t552)) (fun _ hk => hk.2) (.int .i64 t553)) (fun _ hk => hk.2) (.int .i64 t554)) (fun _ hk => trivial)⟩, ⟨by (repeat apply rl1); exact Kd.R_mono (Kd.R_far (p := ⟨gb558, 5, none⟩) (Kd.R_far (p := ⟨gb558, 4, none⟩) (Kd.R_far (p := ⟨gb558, 3, none⟩) (Kd.R_far (p := ⟨gb558, 2, none⟩) (Kd.R_far (p := ⟨gb558, 1, none⟩) (Kd.R_far (p := ⟨gb558, 0, none⟩) (Kd.R_types HO545.out BK558.out (by decide)) (fun _ hk => hk.2) (.slice Ao19 t543.length co19)) (fun _ hk => hk.2) (.slice Ao21 t546.length co21)) (fun _ hk => hk.2) (.slice Ao22 t549.length co22)) (fun _ hk => hk.2) (.int .i64 t552)) (fun _ hk => hk.2) (.int .i64 t553)) (fun _ hk => hk.2) (.int .i64 t554)) (fun _ hk => trivial)⟩, ⟨by (repeat apply rl1); exact Kd.R_mono (Kd.R_far (p := ⟨gb558, 5, none⟩) (Kd.R_far (p := ⟨gb558, 4, none⟩) (Kd.R_far (p := ⟨gb558, 3, none⟩) (Kd.R_far (p := ⟨gb558, 2, none⟩) (Kd.R_far (p := ⟨gb558, 1, none⟩) (Kd.R_far (p := ⟨gb558, 0, none⟩) (Kd.R_types HO548.out BK558.out (by decide)) (fun _ hk => hk.2) (.slice Ao19 t543.length co19)) (fun _ hk => hk.2) (.slice Ao21 t546.length co21)) (fun _ hk => hk.2) (.slice Ao22 t549.length co22)) (fun _ hk => hk.2) (.int .i64 t552)) (fun _ hk => hk.2) (.int .i64 t553)) (fun _ hk => hk.2) (.int .i64 t554)) (fun _ hk => trivial)⟩, ⟨by (repeat apply rl1); exact Kd.R_mono (Kd.R_far (p := ⟨gb558, 5, none⟩) (Kd.R_far (p := ⟨gb558, 4, none⟩) (Kd.R_far (p := ⟨gb558, 3, none⟩) (Kd.R_far (p := ⟨gb558, 2, none⟩) (Kd.R_far (p := ⟨gb558, 1, none⟩) (Kd.R_far (p := ⟨gb558, 0, none⟩) (Kd.R_types HO551.out BK558.out (by decide)) (fun _ hk => hk.2) (.slice Ao19 t543.length co19)) (fun _ hk => hk.2) (.slice Ao21 t546.length co21)) (fun _ hk => hk.2) (.slice Ao22 t549.length co22)) (fun _ hk => hk.2) (.int .i64 t552)) (fun _ hk => hk.2) (.int .i64 t553)) (fun _ hk => hk.2) (.int .i64 t554)) (fun _ hk => trivial)⟩, ⟨by (repeat refine bk1 ?_); refine blk_put (cs := #[.slice Ao19 t543.length co19, .slice Ao21 t546.length co21, .slice Ao22 t549.length co22, .int .i64 t552, .int .i64 t553, .int .i64 0]) ?_ 5 _ rfl; (repeat refine bk1 ?_); refine blk_put (cs := #[.slice Ao19 t543.length co19, .slice Ao21 t546.length co21, .slice Ao22 t549.length co22, .int .i64 t552, .int .i64 0, .int .i64 0]) ?_ 4 _ rfl; (repeat refine bk1 ?_); refine blk_put (cs := #[.slice Ao19 t543.length co19, .slice Ao21 t546.length co21, .slice Ao22 t549.length co22, .int .i64 0, .int .i64 0, .int .i64 0]) ?_ 3 _ rfl; (repeat refine bk1 ?_); refine blk_put (cs := #[.slice Ao19 t543.length co19, .slice Ao21 t546.length co21, .slice none 0 0, .int .i64 0, .int .i64 0, .int .i64 0]) ?_ 2 _ rfl; (repeat refine bk1 ?_); refine blk_put (cs := #[.slice Ao19 t543.length co19, .slice none 0 0, .slice none 0 0, .int .i64 0, .int .i64 0, .int .i64 0]) ?_ 1 _ rfl; (repeat refine bk1 ?_); refine blk_put (cs := #[.slice none 0 0, .slice none 0 0, .slice none 0 0, .int .i64 0, .int .i64 0, .int .i64 0]) ?_ 0 _ rfl; (repeat refine bk1 ?_); exact BK558.out⟩, ⟨by repeat with_reducible first | exact bl HB.out | refine below_set ?_ GE558.out | refine bq ?_⟩⟩
     case round =>
      clear H'
      try clear c1
      try clear p2
      try clear c4
      try clear c5
      try clear p5
      try clear q5
      try clear hx5
      try clear c6
      try clear p6
      try clear c7
      try clear c7b0
      try clear c9
      try clear c9b0
      try clear c10
      try clear c10b0
      try clear c11
      try clear c11b0
      try clear c12
      try clear c12b0
      try clear c16
      try clear c17
      try clear hcz20_0 hcz20_1 hcz20_2 hcz20_3 hcz20_4 hcz20_5 hfz20_0 hfz20_1 hfz20_2 hfz20_3 hfz20_4 hfz20_5
      try clear hx536_0
      try clear hx537_0
      try clear hx538_0
      try clear p2
      try clear p536
      try clear p537
      try clear p538
      try clear q536
      try clear q537
      try clear q538
      obtain ⟨x11_2, x12_2, rfl, rfl, HA, HK2, HO_3, HO_7, HO_10, HO_559000, HO_559001, HO_559002, BK558, HB⟩ := hrel
      cases gk with
      | zero => exact absurd HA.out (by simp [laws_FnKept.l2])
      | succ k2 =>
       have H := HA.out
       clear HA
       simp only [laws_FnKept.l2] at H
       by_cases c23 : x12_2 < (t549.length : Int)
       ·
        rw [if_pos c23] at H
        have c23b0 : decide (x12_2 < (t549.length : Int)) = true := decide_eq_true c23
        clear c23
        by_cases c24 : 0 ≤ x12_2
        ·
         rw [if_pos c24] at H
         have c24b0 : decide (0 ≤ x12_2) = true := decide_eq_true c24
         clear c24
         have H' := Aside0.mk H
         clear H
         obtain ⟨hcz25_0, hcz25_1, hcz25_2, hcz25_3, hcz25_4, hcz25_5⟩ := ck6 BK558.out
         obtain ⟨hfz25_0, hfz25_1, hfz25_2, hfz25_3, hfz25_4, hfz25_5⟩ := fz6 BK558.out
         have p559 : 0 ≤ (x12_2 : Int) := of_decide_eq_true (by first | (with_reducible assumption) | assumption)
         have q559 : x12_2 < (t549.length : Int) := of_decide_eq_true (by first | (with_reducible assumption) | assumption)
         obtain ⟨ad559, e559, hx559_0, hx559_1, hx559_2⟩ := at_T57 (Kd.R_reads' HO_559002.out).2.2 x12_2 p559 q559
         cases e559
         replace p559 := eq_true p559
         replace q559 := eq_true q559
         go_wp2
         go_roundg k2
         case measure => have := HK1.out; have := HK2.out; omega
         case rel => exact ⟨(wrap64 ((wrap64 (x11_2 * 31)) + ((rd_T57 t549 x12_2).f1))), (wrap64 (x12_2 + 1)), (by first | rfl | (simp; done) | (simp [*]; done)), (by first | rfl | (simp; done) | (simp [*]; done)), H', ⟨by have := HK1.out; have := HK2.out; omega⟩, ⟨sl HO_3.out⟩, ⟨rl HO_7.out⟩, ⟨rl HO_10.out⟩, ⟨rl HO_559000.out⟩, ⟨rl HO_559001.out⟩, ⟨rl HO_559002.out⟩, ⟨bk BK558.out⟩, ⟨by repeat with_reducible first | exact bl HB.out | refine below_set ?_ GE558.out | refine bq ?_⟩⟩
        ·
         rw [if_neg c24] at H
         exact absurd H (by simp)
       ·
        rw [if_neg c23] at H
        have c23b0 : decide (x12_2 < (t549.length : Int)) = false := decide_eq_false c23
        clear c23
        replace H := Option.bind_eq_some_iff.mp H
        obtain ⟨⟨t560, t563, t566, t569, t570, t571, t572⟩, A260, H⟩ := H
        replace H : (laws_FnKept.l3 k2 t533 x4_1 t539 t540 t555 x11_2 t572 0 0 0 t543 t546 t549 t552 t553 t554) = some r := H
        have A26 := Aside0.mk A260
        clear A260
        have H' := Aside0.mk H
        clear H
        obtain ⟨hcz27_0, hcz27_1, hcz27_2, hcz27_3, hcz27_4, hcz27_5⟩ := ck6 BK558.out
        obtain ⟨hfz27_0, hfz27_1, hfz27_2, hfz27_3, hfz27_4, hfz27_5⟩ := fz6 BK558.out
        obtain ⟨Ao28, co28, eo28⟩ := Kd.R_slice HO_10.out
        subst eo28
        go_wp2_with (first | ((with_reducible refine gate_callee (f := 15) rfl ?_); refine goesL_ (some 78) rfl rfl Try.func15 (by kernel_rfl) rfl #[.agg #[.slice Ao19 t543.length co19, .slice Ao21 t546.length co21, .slice Ao22 t549.length co22, .int .i64 t552, .int .i64 t553, .int .i64 t554], .slice Ao28 t555.length co28] rfl (by (try simp only [am_]); first | done | rfl) ?_; (with_reducible refine (impl_RunWork.calls k2 _ _ t543 _ _ t546 _ _ t549 t552 t553 t554 _ _ t555 t560 t563 t566 t569 t570 t571 t572 _ ?side1 ?side2 ?side3 ?side4 ?side5 ?side6 ?side7 ?side8 A26.out).mono ?_); (case side1 => exact rc (Kd.R_reads' HO_559000.out).2.2); (case side2 => exact (Kd.R_reads' HO_559000.out).2.1); (case side3 => exact rc (Kd.R_reads' HO_559001.out).2.2); (case side4 => exact (Kd.R_reads' HO_559001.out).2.1); (case side5 => exact rc (Kd.R_reads' HO_559002.out).2.2); (case side6 => exact (Kd.R_reads' HO_559002.out).2.1); (case side7 => exact rc (Kd.R_reads' HO_10.out).2.2); (case side8 => exact (Kd.R_reads' HO_10.out).2.1); rintro e w29 ⟨v561, v564, v567, v573, rfl, ho0, ho1, ho2, ho3, hb⟩; refine ⟨_, rfl, ?_⟩; replace HO_3 := Aside0.mk (Kd.S_below (sl HO_3.out) hb); replace HO_7 := Aside0.mk (Kd.R_below (rl HO_7.out) hb); replace HO_10 := Aside0.mk (Kd.R_below (rl HO_10.out) hb); have HO562 := Aside0.mk (Kd.R_lower (Kd.R_new' ho0 (Kd.R_lt (by (repeat apply rl1); exact HO_559000.out))) (below_size (by repeat with_reducible first | exact bl HB.out | refine below_set ?_ GE558.out | refine bq ?_))); replace HO_559000 := Aside0.mk (Kd.R_elder' (rl HO_559000.out) (Kd.R_base ho0) hb); have HO565 := Aside0.mk (Kd.R_lower (Kd.R_new' ho1 (Kd.R_lt (by (repeat apply rl1); exact HO_559001.out))) (below_size (by repeat with_reducible first | exact bl HB.out | refine below_set ?_ GE558.out | refine bq ?_))); replace HO_559001 := Aside0.mk (Kd.R_elder' (rl HO_559001.out) (Kd.R_base ho1) hb); have HO568 := Aside0.mk (Kd.R_lower (Kd.R_new' ho2 (Kd.R_lt (by (repeat apply rl1); exact HO_559002.out))) (below_size (by repeat with_reducible first | exact bl HB.out | refine below_set ?_ GE558.out | refine bq ?_))); replace HO_559002 := Aside0.mk (Kd.R_elder' (rl HO_559002.out) (Kd.R_base ho2) hb); have HO574 := Aside0.mk (Kd.R_lower ho3 (below_size (by repeat with_reducible first | exact bl HB.out | refine below_set ?_ GE558.out | refine bq ?_))); replace BK558 := Aside0.mk (blk_below (bk BK558.out) hb); replace HB := Aside0.mk (below_step (by repeat with_reducible first | exact bl HB.out | refine below_set ?_ GE558.out | refine bq ?_) hb); (try clear hb); (try clear hb2); (try clear hk); (try clear hi); (try clear ho0); (try clear ho1); (try clear ho2); (try clear ho3)) | ((with_reducible refine gate_dst (N := 13) rfl ?_); (try (refine gate_guard (by rfl) ?_; dsimp only)); refine box_event ?hg (N := 13) ?hd (cs := #[.slice none 0 0, .slice none 0 0, .slice none 0 0, .int .i64 0, .int .i64 0, .int .i64 0]) (t := 30) ?hr ?_; (case hd => rfl); (case hg => rfl); (case hr => first | (go_simp; done) | (go_simp; rfl)); intro gb575 hg w30 hbox hb; replace HO_3 := Aside0.mk (Kd.S_below (sl HO_3.out) hb); replace HO_7 := Aside0.mk (Kd.R_below (rl HO_7.out) hb); replace HO_10 := Aside0.mk (Kd.R_below (rl HO_10.out) hb); replace HO_559000 := Aside0.mk (Kd.R_below (rl HO_559000.out) hb); replace HO_559001 := Aside0.mk (Kd.R_below (rl HO_559001.out) hb); replace HO_559002 := Aside0.mk (Kd.R_below (rl HO_559002.out) hb); replace HO562 := Aside0.mk (Kd.R_below (rl HO562.out) hb); replace HO565 := Aside0.mk (Kd.R_below (rl HO565.out) hb); replace HO568 := Aside0.mk (Kd.R_below (rl HO568.out) hb); replace HO574 := Aside0.mk (Kd.R_below (rl HO574.out) hb); have BK575 := Aside0.mk (hbox); have GW575 := Aside0.mk ((by rw [hg]; exact (below_size (by repeat with_reducible first | exact bl HB.out | refine below_set ?_ GE558.out | refine bq ?_)) : w.heap.size ≤ gb575)); have GE575 := GW575; replace HB := Aside0.mk (below_step (by repeat with_reducible first | exact bl HB.out | refine below_set ?_ GE558.out | refine bq ?_) hb); have NB558_575 := nb_ hg BK558.out; have NB575_558 := Aside0.mk NB558_575.out.symm; replace BK558 := Aside0.mk (blk_below (bk BK558.out) hb); clear hb hbox hg; obtain ⟨Ao31, co31, eo31⟩ := Kd.R_slice HO562.out; subst eo31; have hnb32 := NB575_558.out; have hnc32 := NB558_575.out; obtain ⟨hcz33_0, hcz33_1, hcz33_2, hcz33_3, hcz33_4, hcz33_5⟩ := ck6 BK575.out; obtain ⟨hfz33_0, hfz33_1, hfz33_2, hfz33_3, hfz33_4, hfz33_5⟩ := fz6 BK575.out; obtain ⟨Ao34, co34, eo34⟩ := Kd.R_slice HO565.out; subst eo34; obtain ⟨Ao35, co35, eo35⟩ := Kd.R_slice HO568.out; subst eo35))
        go_loopg [15, 17] k2 (fun kq v15 v17 w' => ∃ (x15_3 : Int) (x17_3 : Int), v15 = .int .i64 x15_3 ∧ v17 = .int .i64 x17_3 ∧ Aside0 (laws_FnKept.l3 kq t533 x4_1 t539 t540 t555 x11_2 t572 x15_3 0 x17_3 t543 t546 t549 t552 t553 t554 = some r) ∧ Aside0 (kq ≤ k2) ∧ Aside0 (Kd.S (Kd.slice 3 (Kd.int .i64)) 53 w' w.heap.size (fun _ => True) (.slice Ao15 t533.length co15) t533) ∧ Aside0 (Kd.R (Kd.int .u8) 5 w' w.heap.size (fun _ => True) v541 t539) ∧ Aside0 (Kd.R k42 42 w' w.heap.size (fun _ => True) (.slice Ao28 t555.length co28) t555) ∧ Aside0 (Kd.R Kd.bool 4 w' w.heap.size (fun _ => True) v573 t572) ∧ Aside0 (Kd.R k44 44 w' w.heap.size (fun k_ => some k_ ≠ ((.slice Ao31 t560.length co31) : Value).ownBlock) (.slice Ao19 t543.length co19) t543) ∧ Aside0 (Kd.R k84 84 w' w.heap.size (fun k_ => some k_ ≠ ((.slice Ao34 t563.length co34) : Value).ownBlock) (.slice Ao21 t546.length co21) t546) ∧ Aside0 (Kd.R k57 57 w' w.heap.size (fun k_ => some k_ ≠ ((.slice Ao35 t566.length co35) : Value).ownBlock) (.slice Ao22 t549.length co22) t549) ∧ Aside0 (Kd.R k44 44 w' w.heap.size (fun k_ => some k_ ≠ ((.slice Ao19 t543.length co19) : Value).ownBlock) (.slice Ao31 t560.length co31) t560) ∧ Aside0 (Kd.R k84 84 w' w.heap.size (fun k_ => some k_ ≠ ((.slice Ao21 t546.length co21) : Value).ownBlock) (.slice Ao34 t563.length co34) t563) ∧ Aside0 (Kd.R k57 57 w' w.heap.size (fun k_ => some k_ ≠ ((.slice Ao22 t549.length co22) : Value).ownBlock) (.slice Ao35 t566.length co35) t566) ∧ Aside0 (w'.heap[gb558]? = some (.cells #[(.slice Ao19 t543.length co19), (.slice Ao21 t546.length co21), (.slice Ao22 t549.length co22), .int .i64 t552, .int .i64 t553, .int .i64 t554] 30 (0, 0))) ∧ Aside0 (w'.heap[gb575]? = some (.cells #[(.slice Ao31 t560.length co31), (.slice Ao34 t563.length co34), (.slice Ao35 t566.length co35), .int .i64 t569, .int .i64 t570, .int .i64 t571] 30 (0, 0))) ∧ Aside0 (Below w.heap.size w w'))
        case atStart => exact ⟨(0), (0), (by first | rfl | (simp; done) | (simp [*]; done)), (by first | rfl | (simp; done) | (simp [*]; done)), H', ⟨Nat.le_refl _⟩, ⟨by (repeat apply sl1); exact Kd.S_mono (Kd.S_far (p := ⟨gb575, 5, none⟩) (Kd.S_far (p := ⟨gb575, 4, none⟩) (Kd.S_far (p := ⟨gb575, 3, none⟩) (Kd.S_far (p := ⟨gb575, 2, none⟩) (Kd.S_far (p := ⟨gb575, 1, none⟩) (Kd.S_far (p := ⟨gb575, 0, none⟩) (Kd.S_types HO_3.out BK575.out (by decide)) (fun _ hk => hk.2) (.slice Ao31 t560.length co31)) (fun _ hk => hk.2) (.slice Ao34 t563.length co34)) (fun _ hk => hk.2) (.slice Ao35 t566.length co35)) (fun _ hk => hk.2) (.int .i64 t569)) (fun _ hk => hk.2) (.int .i64 t570)) (fun _ hk => hk.2) (.int .i64 t571)) (fun _ hk => trivial)⟩, ⟨by (repeat apply rl1); exact Kd.R_mono (Kd.R_far (p := ⟨gb575, 5, none⟩) (Kd.R_far (p := ⟨gb575, 4, none⟩) (Kd.R_far (p := ⟨gb575, 3, none⟩) (Kd.R_far (p := ⟨gb575, 2, none⟩) (Kd.R_far (p := ⟨gb575, 1, none⟩) (Kd.R_far (p := ⟨gb575, 0, none⟩) (Kd.R_types HO_7.out BK575.out (by decide)) (fun _ hk => hk.2) (.slice Ao31 t560.length co31)) (fun _ hk => hk.2) (.slice Ao34 t563.length co34)) (fun _ hk => hk.2) (.slice Ao35 t566.length co35)) (fun _ hk => hk.2) (.int .i64 t569)) (fun _ hk => hk.2) (.int .i64 t570)) (fun _ hk => hk.2) (.int .i64 t571)) (fun _ hk => trivial)⟩, ⟨by (repeat apply rl1); exact Kd.R_mono (Kd.R_far (p := ⟨gb575, 5, none⟩) (Kd.R_far (p := ⟨gb575, 4, none⟩) (Kd.R_far (p := ⟨gb575, 3, none⟩) (Kd.R_far (p := ⟨gb575, 2, none⟩) (Kd.R_far (p := ⟨gb575, 1, none⟩) (Kd.R_far (p := ⟨gb575, 0, none⟩) (Kd.R_types HO_10.out BK575.out (by decide)) (fun _ hk => hk.2) (.slice Ao31 t560.length co31)) (fun _ hk => hk.2) (.slice Ao34 t563.length co34)) (fun _ hk => hk.2) (.slice Ao35 t566.length co35)) (fun _ hk => hk.2) (.int .i64 t569)) (fun _ hk => hk.2) (.int .i64 t570)) (fun _ hk => hk.2) (.int .i64 t571)) (fun _ hk => trivial)⟩, ⟨by (repeat apply rl1); exact Kd.R_mono (Kd.R_far (p := ⟨gb575, 5, none⟩) (Kd.R_far (p := ⟨gb575, 4, none⟩) (Kd.R_far (p := ⟨gb575, 3, none⟩) (Kd.R_far (p := ⟨gb575, 2, none⟩) (Kd.R_far (p := ⟨gb575, 1, none⟩) (Kd.R_far (p := ⟨gb575, 0, none⟩) (Kd.R_types HO574.out BK575.out (by decide)) (fun _ hk => hk.2) (.slice Ao31 t560.length co31)) (fun _ hk => hk.2) (.slice Ao34 t563.length co34)) (fun _ hk => hk.2) (.slice Ao35 t566.length co35)) (fun _ hk => hk.2) (.int .i64 t569)) (fun _ hk => hk.2) (.int .i64 t570)) (fun _ hk => hk.2) (.int .i64 t571)) (fun _ hk => trivial)⟩, ⟨by (repeat apply rl1); exact Kd.R_mono (Kd.R_far (p := ⟨gb575, 5, none⟩) (Kd.R_far (p := ⟨gb575, 4, none⟩) (Kd.R_far (p := ⟨gb575, 3, none⟩) (Kd.R_far (p := ⟨gb575, 2, none⟩) (Kd.R_far (p := ⟨gb575, 1, none⟩) (Kd.R_far (p := ⟨gb575, 0, none⟩) (Kd.R_types HO_559000.out BK575.out (by decide)) (fun _ hk => hk.2) (.slice Ao31 t560.length co31)) (fun _ hk => hk.2) (.slice Ao34 t563.length co34)) (fun _ hk => hk.2) (.slice Ao35 t566.length co35)) (fun _ hk => hk.2) (.int .i64 t569)) (fun _ hk => hk.2) (.int .i64 t570)) (fun _ hk => hk.2) (.int .i64 t571)) (fun _ hk => hk.1.2)⟩, ⟨by (repeat apply rl1); exact Kd.R_mono (Kd.R_far (p := ⟨gb575, 5, none⟩) (Kd.R_far (p := ⟨gb575, 4, none⟩) (Kd.R_far (p := ⟨gb575, 3, none⟩) (Kd.R_far (p := ⟨gb575, 2, none⟩) (Kd.R_far (p := ⟨gb575, 1, none⟩) (Kd.R_far (p := ⟨gb575, 0, none⟩) (Kd.R_types HO_559001.out BK575.out (by decide)) (fun _ hk => hk.2) (.slice Ao31 t560.length co31)) (fun _ hk => hk.2) (.slice Ao34 t563.length co34)) (fun _ hk => hk.2) (.slice Ao35 t566.length co35)) (fun _ hk => hk.2) (.int .i64 t569)) (fun _ hk => hk.2) (.int .i64 t570)) (fun _ hk => hk.2) (.int .i64 t571)) (fun _ hk => hk.1.2)⟩, ⟨by (repeat apply rl1); exact Kd.R_mono (Kd.R_far (p := ⟨gb575, 5, none⟩) (Kd.R_far (p := ⟨gb575, 4, none⟩) (Kd.R_far (p := ⟨gb575, 3, none⟩) (Kd.R_far (p := ⟨gb575, 2, none⟩) (Kd.R_far (p := ⟨gb575, 1, none⟩) (Kd.R_far (p := ⟨gb575, 0, none⟩) (Kd.R_types HO_559002.out BK575.out (by decide)) (fun _ hk => hk.2) (.slice Ao31 t560.length co31)) (fun _ hk => hk.2) (.slice Ao34 t563.length co34)) (fun _ hk => hk.2) (.slice Ao35 t566.length co35)) (fun _ hk => hk.2) (.int .i64 t569)) (fun _ hk => hk.2) (.int .i64 t570)) (fun _ hk => hk.2) (.int .i64 t571)) (fun _ hk => hk.1.2)⟩, ⟨by (repeat apply rl1); exact Kd.R_mono (Kd.R_far (p := ⟨gb575, 5, none⟩) (Kd.R_far (p := ⟨gb575, 4, none⟩) (Kd.R_far (p := ⟨gb575, 3, none⟩) (Kd.R_far (p := ⟨gb575, 2, none⟩) (Kd.R_far (p := ⟨gb575, 1, none⟩) (Kd.R_far (p := ⟨gb575, 0, none⟩) (Kd.R_types HO562.out BK575.out (by decide)) (fun _ hk => hk.2) (.slice Ao31 t560.length co31)) (fun _ hk => hk.2) (.slice Ao34 t563.length co34)) (fun _ hk => hk.2) (.slice Ao35 t566.length co35)) (fun _ hk => hk.2) (.int .i64 t569)) (fun _ hk => hk.2) (.int .i64 t570)) (fun _ hk => hk.2) (.int .i64 t571)) (fun _ hk => hk.1.2)⟩, ⟨by (repeat apply rl1); exact Kd.R_mono (Kd.R_far (p := ⟨gb575, 5, none⟩) (Kd.R_far (p := ⟨gb575, 4, none⟩) (Kd.R_far (p := ⟨gb575, 3, none⟩) (Kd.R_far (p := ⟨gb575, 2, none⟩) (Kd.R_far (p := ⟨gb575, 1, none⟩) (Kd.R_far (p := ⟨gb575, 0, none⟩) (Kd.R_types HO565.out BK575.out (by decide)) (fun _ hk => hk.2) (.slice Ao31 t560.length co31)) (fun _ hk => hk.2) (.slice Ao34 t563.length co34)) (fun _ hk => hk.2) (.slice Ao35 t566.length co35)) (fun _ hk => hk.2) (.int .i64 t569)) (fun _ hk => hk.2) (.int .i64 t570)) (fun _ hk => hk.2) (.int .i64 t571)) (fun _ hk => hk.1.2)⟩, ⟨by (repeat apply rl1); exact Kd.R_mono (Kd.R_far (p := ⟨gb575, 5, none⟩) (Kd.R_far (p := ⟨gb575, 4, none⟩) (Kd.R_far (p := ⟨gb575, 3, none⟩) (Kd.R_far (p := ⟨gb575, 2, none⟩) (Kd.R_far (p := ⟨gb575, 1, none⟩) (Kd.R_far (p := ⟨gb575, 0, none⟩) (Kd.R_types HO568.out BK575.out (by decide)) (fun _ hk => hk.2) (.slice Ao31 t560.length co31)) (fun _ hk => hk.2) (.slice Ao34 t563.length co34)) (fun _ hk => hk.2) (.slice Ao35 t566.length co35)) (fun _ hk => hk.2) (.int .i64 t569)) (fun _ hk => hk.2) (.int .i64 t570)) (fun _ hk => hk.2) (.int .i64 t571)) (fun _ hk => hk.1.2)⟩, ⟨by (repeat refine bk1 ?_); refine blk_far ?_ NB558_575.out _; (repeat refine bk1 ?_); refine blk_far ?_ NB558_575.out _; (repeat refine bk1 ?_); refine blk_far ?_ NB558_575.out _; (repeat refine bk1 ?_); refine blk_far ?_ NB558_575.out _; (repeat refine bk1 ?_); refine blk_far ?_ NB558_575.out _; (repeat refine bk1 ?_); refine blk_far ?_ NB558_575.out _; (repeat refine bk1 ?_); exact BK558.out⟩, ⟨by (repeat refine bk1 ?_); refine blk_put (cs := #[.slice Ao31 t560.length co31, .slice Ao34 t563.length co34, .slice Ao35 t566.length co35, .int .i64 t569, .int .i64 t570, .int .i64 0]) ?_ 5 _ rfl; (repeat refine bk1 ?_); refine blk_put (cs := #[.slice Ao31 t560.length co31, .slice Ao34 t563.length co34, .slice Ao35 t566.length co35, .int .i64 t569, .int .i64 0, .int .i64 0]) ?_ 4 _ rfl; (repeat refine bk1 ?_); refine blk_put (cs := #[.slice Ao31 t560.length co31, .slice Ao34 t563.length co34, .slice Ao35 t566.length co35, .int .i64 0, .int .i64 0, .int .i64 0]) ?_ 3 _ rfl; (repeat refine bk1 ?_); refine blk_put (cs := #[.slice Ao31 t560.length co31, .slice Ao34 t563.length co34, .slice none 0 0, .int .i64 0, .int .i64 0, .int .i64 0]) ?_ 2 _ rfl; (repeat refine bk1 ?_); refine blk_put (cs := #[.slice Ao31 t560.length co31, .slice none 0 0, .slice none 0 0, .int .i64 0, .int .i64 0, .int .i64 0]) ?_ 1 _ rfl; (repeat refine bk1 ?_); refine blk_put (cs := #[.slice none 0 0, .slice none 0 0, .slice none 0 0, .int .i64 0, .int .i64 0, .int .i64 0]) ?_ 0 _ rfl; (repeat refine bk1 ?_); exact BK575.out⟩, ⟨by repeat with_reducible first | exact bl HB.out | refine below_set ?_ GE558.out | refine below_set ?_ GE575.out | refine bq ?_⟩⟩
        case round =>
         clear H'
         try clear c1
         try clear c2
         try clear p2
         try clear c3
         try clear c4
         try clear c5
         try clear p5
         try clear q5
         try clear hx5
         try clear c6
         try clear p6
         try clear c7
         try clear c7b0
         try clear c9
         try clear c9b0
         try clear c10
         try clear c10b0
         try clear c11
         try clear c11b0
         try clear c12
         try clear c12b0
         try clear c15
         try clear c16
         try clear c17
         try clear c23
         try clear c23b0
         try clear c24
         try clear c24b0
         try clear c32
         try clear hcz20_0 hcz20_1 hcz20_2 hcz20_3 hcz20_4 hcz20_5 hfz20_0 hfz20_1 hfz20_2 hfz20_3 hfz20_4 hfz20_5
         try clear hcz25_0 hcz25_1 hcz25_2 hcz25_3 hcz25_4 hcz25_5 hfz25_0 hfz25_1 hfz25_2 hfz25_3 hfz25_4 hfz25_5
         try clear hcz27_0 hcz27_1 hcz27_2 hcz27_3 hcz27_4 hcz27_5 hfz27_0 hfz27_1 hfz27_2 hfz27_3 hfz27_4 hfz27_5
         try clear hcz33_0 hcz33_1 hcz33_2 hcz33_3 hcz33_4 hcz33_5 hfz33_0 hfz33_1 hfz33_2 hfz33_3 hfz33_4 hfz33_5
         try clear hx536_0
         try clear hx537_0
         try clear hx538_0
         try clear hx559_0
         try clear hx559_1
         try clear hx559_2
         try clear p2
         try clear p5
         try clear p536
         try clear p537
         try clear p538
         try clear p559
         try clear p6
         try clear q5
         try clear q536
         try clear q537
         try clear q538
         try clear q559
         obtain ⟨x15_3, x17_3, rfl, rfl, HA, HK3, HO_3, HO_7, HO_10, HO_14, HO_559000, HO_559001, HO_559002, HO_576000, HO_576001, HO_576002, BK558, BK575, HB⟩ := hrel
         cases gk with
         | zero => exact absurd HA.out (by simp [laws_FnKept.l3])
         | succ k3 =>
          have H := HA.out
          clear HA
          simp only [laws_FnKept.l3] at H
          by_cases c36 : x17_3 < (t533.length : Int)
          ·
           rw [if_pos c36] at H
           have c36b0 : decide (x17_3 < (t533.length : Int)) = true := decide_eq_true c36
           clear c36
           have H' := Aside0.mk H
           clear H
           go_wp2
           go_loopg [15, 18] k3 (fun kq v15 v18 w' => ∃ (x15_4 : Int) (x18_4 : Int), v15 = .int .i64 x15_4 ∧ v18 = .int .i64 x18_4 ∧ Aside0 (laws_FnKept.l4 kq t533 x4_1 t539 t540 t555 x11_2 t572 x15_4 0 x17_3 x18_4 t543 t546 t549 t552 t553 t554 = some r) ∧ Aside0 (kq ≤ k3) ∧ Aside0 (Kd.S (Kd.slice 3 (Kd.int .i64)) 53 w' w.heap.size (fun _ => True) (.slice Ao15 t533.length co15) t533) ∧ Aside0 (Kd.R (Kd.int .u8) 5 w' w.heap.size (fun _ => True) v541 t539) ∧ Aside0 (Kd.R k42 42 w' w.heap.size (fun _ => True) (.slice Ao28 t555.length co28) t555) ∧ Aside0 (Kd.R Kd.bool 4 w' w.heap.size (fun _ => True) v573 t572) ∧ Aside0 (Kd.R k44 44 w' w.heap.size (fun k_ => some k_ ≠ ((.slice Ao31 t560.length co31) : Value).ownBlock) (.slice Ao19 t543.length co19) t543) ∧ Aside0 (Kd.R k84 84 w' w.heap.size (fun k_ => some k_ ≠ ((.slice Ao34 t563.length co34) : Value).ownBlock) (.slice Ao21 t546.length co21) t546) ∧ Aside0 (Kd.R k57 57 w' w.heap.size (fun k_ => some k_ ≠ ((.slice Ao35 t566.length co35) : Value).ownBlock) (.slice Ao22 t549.length co22) t549) ∧ Aside0 (Kd.R k44 44 w' w.heap.size (fun k_ => some k_ ≠ ((.slice Ao19 t543.length co19) : Value).ownBlock) (.slice Ao31 t560.length co31) t560) ∧ Aside0 (Kd.R k84 84 w' w.heap.size (fun k_ => some k_ ≠ ((.slice Ao21 t546.length co21) : Value).ownBlock) (.slice Ao34 t563.length co34) t563) ∧ Aside0 (Kd.R k57 57 w' w.heap.size (fun k_ => some k_ ≠ ((.slice Ao22 t549.length co22) : Value).ownBlock) (.slice Ao35 t566.length co35) t566) ∧ Aside0 (w'.heap[gb558]? = some (.cells #[(.slice Ao19 t543.length co19), (.slice Ao21 t546.length co21), (.slice Ao22 t549.length co22), .int .i64 t552, .int .i64 t553, .int .i64 t554] 30 (0, 0))) ∧ Aside0 (w'.heap[gb575]? = some (.cells #[(.slice Ao31 t560.length co31), (.slice Ao34 t563.length co34), (.slice Ao35 t566.length co35), .int .i64 t569, .int .i64 t570, .int .i64 t571] 30 (0, 0))) ∧ Aside0 (Below w.heap.size w w'))
           case atStart => exact ⟨(x15_3), (0), (by first | rfl | (simp; done) | (simp [*]; done)), (by first | rfl | (simp; done) | (simp [*]; done)), H', ⟨Nat.le_refl _⟩, ⟨sl HO_3.out⟩, ⟨rl HO_7.out⟩, ⟨rl HO_10.out⟩, ⟨rl HO_14.out⟩, ⟨rl HO_559000.out⟩, ⟨rl HO_559001.out⟩, ⟨rl HO_559002.out⟩, ⟨rl HO_576000.out⟩, ⟨rl HO_576001.out⟩, ⟨rl HO_576002.out⟩, ⟨bk BK558.out⟩, ⟨bk BK575.out⟩, ⟨by repeat with_reducible first | exact bl HB.out | refine below_set ?_ GE558.out | refine below_set ?_ GE575.out | refine bq ?_⟩⟩
           case round =>
            clear H'
            try clear c1
            try clear c2
            try clear p2
            try clear c3
            try clear c4
            try clear c5
            try clear p5
            try clear q5
            try clear hx5
            try clear c6
            try clear p6
            try clear c7
            try clear c7b0
            try clear c9
            try clear c9b0
            try clear c10
            try clear c10b0
            try clear c11
            try clear c11b0
            try clear c12
            try clear c12b0
            try clear c15
            try clear c16
            try clear c17
            try clear c23
            try clear c23b0
            try clear c24
            try clear c24b0
            try clear c32
            try clear c36
            try clear c36b0
            try clear hcz20_0 hcz20_1 hcz20_2 hcz20_3 hcz20_4 hcz20_5 hfz20_0 hfz20_1 hfz20_2 hfz20_3 hfz20_4 hfz20_5
            try clear hcz25_0 hcz25_1 hcz25_2 hcz25_3 hcz25_4 hcz25_5 hfz25_0 hfz25_1 hfz25_2 hfz25_3 hfz25_4 hfz25_5
            try clear hcz27_0 hcz27_1 hcz27_2 hcz27_3 hcz27_4 hcz27_5 hfz27_0 hfz27_1 hfz27_2 hfz27_3 hfz27_4 hfz27_5
            try clear hcz33_0 hcz33_1 hcz33_2 hcz33_3 hcz33_4 hcz33_5 hfz33_0 hfz33_1 hfz33_2 hfz33_3 hfz33_4 hfz33_5
            try clear hx536_0
            try clear hx537_0
            try clear hx538_0
            try clear hx559_0
            try clear hx559_1
            try clear hx559_2
            try clear p2
            try clear p5
            try clear p536
            try clear p537
            try clear p538
            try clear p559
            try clear p6
            try clear q5
            try clear q536
            try clear q537
            try clear q538
            try clear q559
            obtain ⟨x15_4, x18_4, rfl, rfl, HA, HK4, HO_3, HO_7, HO_10, HO_14, HO_559000, HO_559001, HO_559002, HO_576000, HO_576001, HO_576002, BK558, BK575, HB⟩ := hrel
            cases gk with
            | zero => exact absurd HA.out (by simp [laws_FnKept.l4])
            | succ k4 =>
             have H := HA.out
             clear HA
             simp only [laws_FnKept.l4] at H
             by_cases c37 : 0 ≤ x17_3
             ·
              rw [if_pos c37] at H
              have c37b0 : decide (0 ≤ x17_3) = true := decide_eq_true c37
              clear c37
              by_cases c38 : x17_3 < (t533.length : Int)
              ·
               rw [if_pos c38] at H
               have c38b0 : decide (x17_3 < (t533.length : Int)) = true := decide_eq_true c38
               clear c38
               by_cases c39 : x18_4 < ((rd_L13 t533 x17_3).length : Int)
               ·
                rw [if_pos c39] at H
                have c39b0 : decide (x18_4 < ((rd_L13 t533 x17_3).length : Int)) = true := decide_eq_true c39
                clear c39
                by_cases c40 : 0 ≤ x18_4
                ·
                 rw [if_pos c40] at H
                 have c40b0 : decide (0 ≤ x18_4) = true := decide_eq_true c40
                 clear c40
                 have H' := Aside0.mk H
                 clear H
                 have p576 : 0 ≤ (x17_3 : Int) := of_decide_eq_true (by first | (with_reducible assumption) | assumption)
                 have q576 : x17_3 < (t533.length : Int) := of_decide_eq_true (by first | (with_reducible assumption) | assumption)
                 obtain ⟨ad576, A576_0, c576_0, e576, hx576_0, hl576_0, hi576_0⟩ := at_L13 (Kd.S_reads' HO_3.out).2.2 x17_3 p576 q576
                 cases e576
                 obtain ⟨ce576, hce576, hMe576, hcc576⟩ := Kd.S_get HO_3.out [] x17_3 p576 (by first | exact q576 | exact of_decide_eq_true (by first | (with_reducible assumption) | assumption) | (have e_ := (Kd.S_reads' HO_3.out).1; omega))
                 obtain ⟨ve576_0, rfl, ge576_0⟩ := hMe576
                 have hv576_0 := hcc576 0 _ rfl
                 rw [Nat.add_zero, show ((Kd.slice 3 (Kd.int .i64))).sz = 1 from rfl, Nat.mul_one] at hv576_0
                 replace hv576_0 := Option.some.inj (hv576_0.symm.trans hx576_0)
                 rw [hv576_0] at ge576_0
                 have HL576_0 := Aside0.mk (show Kd.R (Kd.int .i64) 3 _ _ _ _ (rd_L13 t533 x17_3) from ge576_0)
                 clear hv576_0 ge576_0
                 clear hcc576 hce576
                 have HR576_0 := Aside0.mk hi576_0
                 have HC576_0 := Aside0.mk hl576_0
                 clear hi576_0 hl576_0
                 replace p576 := eq_true p576
                 replace q576 := eq_true q576
                 have p577 : 0 ≤ (x17_3 : Int) := of_decide_eq_true (by first | (with_reducible assumption) | assumption)
                 have q577 : x17_3 < (t533.length : Int) := of_decide_eq_true (by first | (with_reducible assumption) | assumption)
                 obtain ⟨ad577, A577_0, c577_0, e577, hx577_0, hl577_0, hi577_0⟩ := at_L13 (Kd.S_reads' HO_3.out).2.2 x17_3 p577 q577
                 obtain rfl : ad576 = ad577 := (by injection e577)
                 obtain ⟨ce577, hce577, hMe577, hcc577⟩ := Kd.S_get HO_3.out [] x17_3 p577 (by first | exact q577 | exact of_decide_eq_true (by first | (with_reducible assumption) | assumption) | (have e_ := (Kd.S_reads' HO_3.out).1; omega))
                 obtain ⟨ve577_0, rfl, ge577_0⟩ := hMe577
                 have hv577_0 := hcc577 0 _ rfl
                 rw [Nat.add_zero, show ((Kd.slice 3 (Kd.int .i64))).sz = 1 from rfl, Nat.mul_one] at hv577_0
                 replace hv577_0 := Option.some.inj (hv577_0.symm.trans hx577_0)
                 rw [hv577_0] at ge577_0
                 have HL577_0 := Aside0.mk (show Kd.R (Kd.int .i64) 3 _ _ _ _ (rd_L13 t533 x17_3) from ge577_0)
                 clear hv577_0 ge577_0
                 clear hcc577 hce577
                 have HR577_0 := Aside0.mk hi577_0
                 have HC577_0 := Aside0.mk hl577_0
                 clear hi577_0 hl577_0
                 replace p577 := eq_true p577
                 replace q577 := eq_true q577
                 have ea_ := Option.some.inj (hx576_0.symm.trans hx577_0)
                 injection ea_ with ea_ en_ ec_
                 subst ea_
                 subst ec_
                 clear en_
                 have p578 : 0 ≤ (x18_4 : Int) := of_decide_eq_true (by first | (with_reducible assumption) | assumption)
                 have q578 : x18_4 < ((rd_L13 t533 x17_3).length : Int) := of_decide_eq_true (by first | (with_reducible assumption) | assumption)
                 obtain ⟨ad578, e578, hx578_0⟩ := Kd.at_int (by repeat (first | (with_reducible exact HR577_0.out) | (with_reducible refine Kd.C_alloc ?_ _) | (with_reducible refine Kd.C_drewN ?_ _) | (with_reducible refine Kd.C_drew ?_) | exact HR577_0.out)) x18_4 p578 q578
                 cases e578
                 replace p578 := eq_true p578
                 replace q578 := eq_true q578
                 go_wp2
                 go_roundg k4
                 case measure => have := HK1.out; have := HK2.out; have := HK3.out; have := HK4.out; omega
                 case rel => exact ⟨(wrap64 ((wrap64 (x15_4 * 31)) + (rd (rd_L13 t533 x17_3) x18_4))), (wrap64 (x18_4 + 1)), (by first | rfl | (simp; done) | (simp [*]; done)), (by first | rfl | (simp; done) | (simp [*]; done)), H', ⟨by have := HK1.out; have := HK2.out; have := HK3.out; have := HK4.out; omega⟩, ⟨sl HO_3.out⟩, ⟨rl HO_7.out⟩, ⟨rl HO_10.out⟩, ⟨rl HO_14.out⟩, ⟨rl HO_559000.out⟩, ⟨rl HO_559001.out⟩, ⟨rl HO_559002.out⟩, ⟨rl HO_576000.out⟩, ⟨rl HO_576001.out⟩, ⟨rl HO_576002.out⟩, ⟨bk BK558.out⟩, ⟨bk BK575.out⟩, ⟨by repeat with_reducible first | exact bl HB.out | refine below_set ?_ GE558.out | refine below_set ?_ GE575.out | refine bq ?_⟩⟩
                ·
                 rw [if_neg c40] at H
                 exact absurd H (by simp)
               ·
                rw [if_neg c39] at H
                have c39b0 : decide (x18_4 < ((rd_L13 t533 x17_3).length : Int)) = false := decide_eq_false c39
                clear c39
                have H' := Aside0.mk H
                clear H
                have p576 : 0 ≤ (x17_3 : Int) := of_decide_eq_true (by first | (with_reducible assumption) | assumption)
                have q576 : x17_3 < (t533.length : Int) := of_decide_eq_true (by first | (with_reducible assumption) | assumption)
                obtain ⟨ad576, A576_0, c576_0, e576, hx576_0, hl576_0, hi576_0⟩ := at_L13 (Kd.S_reads' HO_3.out).2.2 x17_3 p576 q576
                cases e576
                obtain ⟨ce576, hce576, hMe576, hcc576⟩ := Kd.S_get HO_3.out [] x17_3 p576 (by first | exact q576 | exact of_decide_eq_true (by first | (with_reducible assumption) | assumption) | (have e_ := (Kd.S_reads' HO_3.out).1; omega))
                obtain ⟨ve576_0, rfl, ge576_0⟩ := hMe576
                have hv576_0 := hcc576 0 _ rfl
                rw [Nat.add_zero, show ((Kd.slice 3 (Kd.int .i64))).sz = 1 from rfl, Nat.mul_one] at hv576_0
                replace hv576_0 := Option.some.inj (hv576_0.symm.trans hx576_0)
                rw [hv576_0] at ge576_0
                have HL576_0 := Aside0.mk (show Kd.R (Kd.int .i64) 3 _ _ _ _ (rd_L13 t533 x17_3) from ge576_0)
                clear hv576_0 ge576_0
                clear hcc576 hce576
                have HR576_0 := Aside0.mk hi576_0
                have HC576_0 := Aside0.mk hl576_0
                clear hi576_0 hl576_0
                replace p576 := eq_true p576
                replace q576 := eq_true q576
                go_wp2
                go_roundg k4
                case measure => have := HK1.out; have := HK2.out; have := HK3.out; have := HK4.out; omega
                case rel => exact ⟨(x15_4), (wrap64 (x17_3 + 1)), (by first | rfl | (simp; done) | (simp [*]; done)), (by first | rfl | (simp; done) | (simp [*]; done)), H', ⟨by have := HK1.out; have := HK2.out; have := HK3.out; have := HK4.out; omega⟩, ⟨sl HO_3.out⟩, ⟨rl HO_7.out⟩, ⟨rl HO_10.out⟩, ⟨rl HO_14.out⟩, ⟨rl HO_559000.out⟩, ⟨rl HO_559001.out⟩, ⟨rl HO_559002.out⟩, ⟨rl HO_576000.out⟩, ⟨rl HO_576001.out⟩, ⟨rl HO_576002.out⟩, ⟨bk BK558.out⟩, ⟨bk BK575.out⟩, ⟨by repeat with_reducible first | exact bl HB.out | refine below_set ?_ GE558.out | refine below_set ?_ GE575.out | refine bq ?_⟩⟩
              ·
               rw [if_neg c38] at H
               exact absurd H (by simp)
             ·
              rw [if_neg c37] at H
              exact absurd H (by simp)
          ·
           rw [if_neg c36] at H
           have c36b0 : decide (x17_3 < (t533.length : Int)) = false := decide_eq_false c36
           clear c36
           have H' := Aside0.mk H
           clear H
           go_wp2
           go_loopg [16, 19] k3 (fun kq v16 v19 w' => ∃ (x16_4 : Int) (x19_4 : Int), v16 = .int .i64 x16_4 ∧ v19 = .int .i64 x19_4 ∧ Aside0 (laws_FnKept.l5 kq x4_1 t539 t540 t555 x11_2 t572 x15_3 x16_4 x19_4 t543 t546 t549 t552 t553 t554 = some r) ∧ Aside0 (kq ≤ k3) ∧ Aside0 (Kd.R (Kd.int .u8) 5 w' w.heap.size (fun _ => True) v541 t539) ∧ Aside0 (Kd.R k42 42 w' w.heap.size (fun _ => True) (.slice Ao28 t555.length co28) t555) ∧ Aside0 (Kd.R Kd.bool 4 w' w.heap.size (fun _ => True) v573 t572) ∧ Aside0 (Kd.R k44 44 w' w.heap.size (fun k_ => some k_ ≠ ((.slice Ao31 t560.length co31) : Value).ownBlock) (.slice Ao19 t543.length co19) t543) ∧ Aside0 (Kd.R k84 84 w' w.heap.size (fun k_ => some k_ ≠ ((.slice Ao34 t563.length co34) : Value).ownBlock) (.slice Ao21 t546.length co21) t546) ∧ Aside0 (Kd.R k57 57 w' w.heap.size (fun k_ => some k_ ≠ ((.slice Ao35 t566.length co35) : Value).ownBlock) (.slice Ao22 t549.length co22) t549) ∧ Aside0 (Kd.R k44 44 w' w.heap.size (fun k_ => some k_ ≠ ((.slice Ao19 t543.length co19) : Value).ownBlock) (.slice Ao31 t560.length co31) t560) ∧ Aside0 (Kd.R k84 84 w' w.heap.size (fun k_ => some k_ ≠ ((.slice Ao21 t546.length co21) : Value).ownBlock) (.slice Ao34 t563.length co34) t563) ∧ Aside0 (Kd.R k57 57 w' w.heap.size (fun k_ => some k_ ≠ ((.slice Ao22 t549.length co22) : Value).ownBlock) (.slice Ao35 t566.length co35) t566) ∧ Aside0 (w'.heap[gb558]? = some (.cells #[(.slice Ao19 t543.length co19), (.slice Ao21 t546.length co21), (.slice Ao22 t549.length co22), .int .i64 t552, .int .i64 t553, .int .i64 t554] 30 (0, 0))) ∧ Aside0 (w'.heap[gb575]? = some (.cells #[(.slice Ao31 t560.length co31), (.slice Ao34 t563.length co34), (.slice Ao35 t566.length co35), .int .i64 t569, .int .i64 t570, .int .i64 t571] 30 (0, 0))) ∧ Aside0 (Below w.heap.size w w'))
           case atStart => exact ⟨(0), (0), (by first | rfl | (simp; done) | (simp [*]; done)), (by first | rfl | (simp; done) | (simp [*]; done)), H', ⟨Nat.le_refl _⟩, ⟨rl HO_7.out⟩, ⟨rl HO_10.out⟩, ⟨rl HO_14.out⟩, ⟨rl HO_559000.out⟩, ⟨rl HO_559001.out⟩, ⟨rl HO_559002.out⟩, ⟨rl HO_576000.out⟩, ⟨rl HO_576001.out⟩, ⟨rl HO_576002.out⟩, ⟨bk BK558.out⟩, ⟨bk BK575.out⟩, ⟨by repeat with_reducible first | exact bl HB.out | refine below_set ?_ GE558.out | refine below_set ?_ GE575.out | refine bq ?_⟩⟩
           case round =>
            clear H'
            try clear c1
            try clear c2
            try clear p2
            try clear c3
            try clear c4
            try clear c5
            try clear p5
            try clear q5
            try clear hx5
            try clear c6
            try clear p6
            try clear c7
            try clear c7b0
            try clear c9
            try clear c9b0
            try clear c10
            try clear c10b0
            try clear c11
            try clear c11b0
            try clear c12
            try clear c12b0
            try clear c15
            try clear c16
            try clear c17
            try clear c23
            try clear c23b0
            try clear c24
            try clear c24b0
            try clear c32
            try clear c36
            try clear c36b0
            try clear c37
            try clear c37b0
            try clear c38
            try clear c38b0
            try clear c39
            try clear c39b0
            try clear c40
            try clear c40b0
            try clear hcz20_0 hcz20_1 hcz20_2 hcz20_3 hcz20_4 hcz20_5 hfz20_0 hfz20_1 hfz20_2 hfz20_3 hfz20_4 hfz20_5
            try clear hcz25_0 hcz25_1 hcz25_2 hcz25_3 hcz25_4 hcz25_5 hfz25_0 hfz25_1 hfz25_2 hfz25_3 hfz25_4 hfz25_5
            try clear hcz27_0 hcz27_1 hcz27_2 hcz27_3 hcz27_4 hcz27_5 hfz27_0 hfz27_1 hfz27_2 hfz27_3 hfz27_4 hfz27_5
            try clear hcz33_0 hcz33_1 hcz33_2 hcz33_3 hcz33_4 hcz33_5 hfz33_0 hfz33_1 hfz33_2 hfz33_3 hfz33_4 hfz33_5
            try clear hx536_0
            try clear hx537_0
            try clear hx538_0
            try clear hx559_0
            try clear hx559_1
            try clear hx559_2
            try clear hx576_0
            try clear hx577_0
            try clear hx578_0
            try clear p2
            try clear p5
            try clear p536
            try clear p537
            try clear p538
            try clear p559
            try clear p576
            try clear p577
            try clear p578
            try clear p6
            try clear q5
            try clear q536
            try clear q537
            try clear q538
            try clear q559
            try clear q576
            try clear q577
            try clear q578
            obtain ⟨x16_4, x19_4, rfl, rfl, HA, HK4, HO_7, HO_10, HO_14, HO_559000, HO_559001, HO_559002, HO_576000, HO_576001, HO_576002, BK558, BK575, HB⟩ := hrel
            cases gk with
            | zero => exact absurd HA.out (by simp [laws_FnKept.l5])
            | succ k4 =>
             have H := HA.out
             clear HA
             simp only [laws_FnKept.l5] at H
             by_cases c41 : x19_4 < (t549.length : Int)
             ·
              rw [if_pos c41] at H
              have c41b0 : decide (x19_4 < (t549.length : Int)) = true := decide_eq_true c41
              clear c41
              by_cases c42 : 0 ≤ x19_4
              ·
               rw [if_pos c42] at H
               have c42b0 : decide (0 ≤ x19_4) = true := decide_eq_true c42
               clear c42
               have H' := Aside0.mk H
               clear H
               have hnb43 := NB558_575.out
               have hnc43 := NB575_558.out
               obtain ⟨hcz44_0, hcz44_1, hcz44_2, hcz44_3, hcz44_4, hcz44_5⟩ := ck6 BK558.out
               obtain ⟨hfz44_0, hfz44_1, hfz44_2, hfz44_3, hfz44_4, hfz44_5⟩ := fz6 BK558.out
               have p579 : 0 ≤ (x19_4 : Int) := of_decide_eq_true (by first | (with_reducible assumption) | assumption)
               have q579 : x19_4 < (t549.length : Int) := of_decide_eq_true (by first | (with_reducible assumption) | assumption)
               obtain ⟨ad579, e579, hx579_0, hx579_1, hx579_2⟩ := at_T57 (Kd.R_reads' HO_559002.out).2.2 x19_4 p579 q579
               cases e579
               replace p579 := eq_true p579
               replace q579 := eq_true q579
               go_wp2
               go_roundg k4
               case measure => have := HK1.out; have := HK2.out; have := HK3.out; have := HK4.out; omega
               case rel => exact ⟨(wrap64 ((wrap64 (x16_4 * 31)) + ((rd_T57 t549 x19_4).f1))), (wrap64 (x19_4 + 1)), (by first | rfl | (simp; done) | (simp [*]; done)), (by first | rfl | (simp; done) | (simp [*]; done)), H', ⟨by have := HK1.out; have := HK2.out; have := HK3.out; have := HK4.out; omega⟩, ⟨rl HO_7.out⟩, ⟨rl HO_10.out⟩, ⟨rl HO_14.out⟩, ⟨rl HO_559000.out⟩, ⟨rl HO_559001.out⟩, ⟨rl HO_559002.out⟩, ⟨rl HO_576000.out⟩, ⟨rl HO_576001.out⟩, ⟨rl HO_576002.out⟩, ⟨bk BK558.out⟩, ⟨bk BK575.out⟩, ⟨by repeat with_reducible first | exact bl HB.out | refine below_set ?_ GE558.out | refine below_set ?_ GE575.out | refine bq ?_⟩⟩
              ·
               rw [if_neg c42] at H
               exact absurd H (by simp)
             ·
              rw [if_neg c41] at H
              have c41b0 : decide (x19_4 < (t549.length : Int)) = false := decide_eq_false c41
              clear c41
              by_cases c45 : t540 = true
              ·
               subst c45
               have H1 : (if (t539.length : Int) > 1 then (if x4_1 = x15_3 then (if x11_2 = x16_4 then (some ((t572.length : Int) == (t555.length : Int))) else (some false)) else (some false)) else (some false)) = some r := by rw [if_pos rfl] at H; exact H
               clear H
               have H := H1
               clear H1
               by_cases c46 : (t539.length : Int) > 1
               ·
                rw [if_pos c46] at H
                have c46b0 : decide (1 < (t539.length : Int)) = true := decide_eq_true c46
                have c46b1 : decide (1 < t539.length) = true := decide_eq_true (by omega)
                clear c46
                by_cases c47 : x4_1 = x15_3
                ·
                 rw [if_pos c47] at H
                 have c47b0 : (x4_1 == x15_3) = true := beq_iff_eq.mpr c47
                 have c47b1 : (x4_1 != x15_3) = false := bne_eq_false_iff_eq.mpr c47
                 clear c47
                 by_cases c48 : x11_2 = x16_4
                 ·
                  rw [if_pos c48] at H
                  have c48b0 : (x11_2 == x16_4) = true := beq_iff_eq.mpr c48
                  have c48b1 : (x11_2 != x16_4) = false := bne_eq_false_iff_eq.mpr c48
                  clear c48
                  obtain rfl := Option.some.inj H
                  have hnb49 := NB558_575.out
                  have hnc49 := NB575_558.out
                  obtain ⟨hcz50_0, hcz50_1, hcz50_2, hcz50_3, hcz50_4, hcz50_5⟩ := ck6 BK558.out
                  obtain ⟨hfz50_0, hfz50_1, hfz50_2, hfz50_3, hfz50_4, hfz50_5⟩ := fz6 BK558.out
                  obtain ⟨Ao51, co51, eo51⟩ := Kd.R_slice HO_7.out
                  subst eo51
                  obtain ⟨Ao52, co52, eo52⟩ := Kd.R_slice HO_14.out
                  subst eo52
                  go_wp2
                  go_ret
                  exact ⟨by first | rfl | (simp [errW_none, errW_some] <;> rfl) | (simp [*, errW_none, errW_some] <;> rfl), by repeat with_reducible first | exact bl HB.out | refine below_set ?_ GE558.out | refine below_set ?_ GE575.out | refine bq ?_⟩
                 ·
                  rw [if_neg c48] at H
                  have c48b0 : (x11_2 == x16_4) = false := beq_eq_false_iff_ne.mpr c48
                  have c48b1 : (x11_2 != x16_4) = true := bne_iff_ne.mpr c48
                  cases H.trans (congrArg some hr_)
                ·
                 rw [if_neg c47] at H
                 have c47b0 : (x4_1 == x15_3) = false := beq_eq_false_iff_ne.mpr c47
                 have c47b1 : (x4_1 != x15_3) = true := bne_iff_ne.mpr c47
                 cases H.trans (congrArg some hr_)
               ·
                rw [if_neg c46] at H
                have c46b0 : decide (1 < (t539.length : Int)) = false := decide_eq_false c46
                have c46b1 : decide (1 < t539.length) = false := decide_eq_false (by omega)
                clear c46
                cases H.trans (congrArg some hr_)
              ·
               replace c45 := Bool.eq_false_iff.mpr c45
               subst c45
               have H1 : (some false) = some r := by rw [if_neg (show ¬ (false = true) by decide)] at H; exact H
               clear H
               have H := H1
               clear H1
               cases H.trans (congrArg some hr_)
/-- THE ONE PURE STATEMENT of laws_FnKept: yours. -/
def laws_FnKept.Pure : Prop := ∀ (l0 : List Int), l0.length ≤ maxLen → l0.length * 1 ≤ 140737488351232 → (∀ x ∈ l0, (Lit.int .u8 x).wf = true) → ∃ k, laws_FnKept.f k l0 = some true
theorem laws_FnKept.walk (P : laws_FnKept.Pure) (a0 : Option Addr) (len0 cap0 : Nat) (z0 : List Int) (w : World) (w0 : (a0 = none ∧ len0 = 0 ∧ cap0 = 0 ∧ z0 = []) ∨ ∃ x, a0 = some x ∧ len0 ≤ cap0 ∧ cap0 ≤ maxLen ∧ z0.length = cap0 ∧ (∀ i, i < z0.length → w.cell? (x.add i) = some (.int .u8 (z0.getD i 0))) ∧ ∀ n ∈ z0, (Lit.int .u8 n).wf = true) (y0 : len0 * 1 ≤ 140737488351232) :
  Calls Try.prog 4 #[.slice a0 len0 cap0] w fun e w' => e = .returned (.bool true) ∧ Below w.heap.size w w' := by
 obtain ⟨l0, rfl, hr0, hm0, hw0, hc0⟩ := ReadsInt.ofRowC w0
 obtain ⟨k, h⟩ := P l0 hm0 y0 hw0
 refine (laws_FnKept.calls k _ _ l0 true rfl w (Kd.C_of_reads (d := (0 : Int)) (h1 := fun _ => rfl) hr0) hc0 h).mono ?_
 rintro e w' ⟨rfl, hd⟩
 exact ⟨rfl, hd⟩

end Go.Proofs.Ytdimdlifjdbgnaa.PFnKept
