-- Written by a program of this session (wip/xprint.py) out of the translation; Lean checks it.
import Derived.Test.YtbgdibbgngpggaaPFnCarriedx0
import Derived.Test.YtbgdibbgngpggaaPFnCarriedx1
import Derived.Test.YtbgdibbgngpggaaPFnCarriedx2
import Derived.Test.YtbgdibbgngpggaaPFnCarriedx3
import Derived.Test.YtbgdibbgngpggaaPFnCarriedx4
import Derived.Test.YtbgdibbgngpggaaPFnCarriedx5
import Derived.Test.YtbgdibbgngpggaaPFnCarriedx6
import Derived.Test.YtbgdibbgngpggaaPFnCarriedx7
import Derived.Test.YtbgdibbgngpggaaPFnCarriedx8
import Derived.Test.YtbgdibbgngpggaaPFnCarriedx9
import Derived.Test.YtbgdibbgngpggaaPFnCarriedx10
import Derived.Test.YtbgdibbgngpggaaPFnCarriedx11
import Derived.Test.YtbgdibbgngpggaaPFnCarriedx12
import Derived.Test.YtbgdibbgngpggaaPFnCarriedx13
import Derived.Test.YtbgdibbgngpggaaPFnCarriedx14
namespace Go.Proofs.Ytbgdibbgngpggaa.PFnCarried
open Go.RowKit Go.Proofs.YtbgdibbgngpggaaW.PrintWords Go.Proofs.YtbgdibbgngpggaaW.PrintLast Go.Proofs.YtbgdibbgngpggaaW.PrintMore Go.Proofs.Ytbgdibbgngpggaa.Sq
attribute [local go_sem] max2_int min2_int max_two min_two max_three min_three max_four min_four   -- for this text's walks alone
set_option linter.unusedVariables false
set_option linter.unusedSimpArgs false

/-! ### laws_FnCarried: function 10 -/
mutual
def laws_FnCarried.j0 : Nat → Int → Bool → List (S33) → List (S70) → List (S72) → Int → Int → Int → Option (Bool)
 | 0, _, _, _, _, _, _, _, _ => none
 | k + 1, x5, x43, x436000, x436001, x436002, x436003, x436004, x436005 => if x43 = true then (some false) else ((impl_NextDue.f k x436000 x436001 x436002 x436003 x436004 x436005).bind fun bt440 => (laws_FnCarried.l0 k x5 bt440.1 bt440.2.1 bt440.2.2 0 x436000 x436001 x436002 x436003 x436004 x436005))
def laws_FnCarried.l0 : Nat → Int → ByteArray → Int → Bool → Int → List (S33) → List (S70) → List (S72) → Int → Int → Int → Option (Bool)
 | 0, _, _, _, _, _, _, _, _, _, _, _ => none
 | k + 1, x5, x9, x10, x11, x12, x436000, x436001, x436002, x436003, x436004, x436005 => if x12 < (x436000.length : Int) then (if 0 ≤ x12 then ((impl_Due19.f k ((rd_T33 x436000 x12).f0) ((rd_T33 x436000 x12).f1) ((rd_T33 x436000 x12).f2) ((rd_T33 x436000 x12).f3) ((rd_T33 x436000 x12).f4.f0) ((rd_T33 x436000 x12).f4.f1) ((rd_T33 x436000 x12).f4.f2) x436003 x436004 x436005).bind fun bt444 => (if bt444.2.2.2.2 = true then (if bt444.1 = true then (laws_FnCarried.j2 k x5 x9 x10 x11 x12 bt444.1 (x5 == 0) x436000 x436001 x436002 x436003 x436004 x436005 bt444.2.1 bt444.2.2.1 bt444.2.2.2.1) else (laws_FnCarried.j2 k x5 x9 x10 x11 x12 bt444.1 false x436000 x436001 x436002 x436003 x436004 x436005 bt444.2.1 bt444.2.2.1 bt444.2.2.2.1)) else (laws_FnCarried.j2 k x5 x9 x10 x11 x12 bt444.1 true x436000 x436001 x436002 x436003 x436004 x436005 bt444.2.1 bt444.2.2.1 bt444.2.2.2.1))) else (none)) else (laws_FnCarried.l1 k x5 x9 x11 0 x436000 x436001 x436002 x436003 x436004 x436005)
def laws_FnCarried.j2 : Nat → Int → ByteArray → Int → Bool → Int → Bool → Bool → List (S33) → List (S70) → List (S72) → Int → Int → Int → Int → Int → Int → Option (Bool)
 | 0, _, _, _, _, _, _, _, _, _, _, _, _, _, _, _, _ => none
 | k + 1, x5, x9, x10, x11, x12, x13, x77, x436000, x436001, x436002, x436003, x436004, x436005, x450000, x450001, x450002 => if x77 = true then (some false) else (if 0 ≤ x12 then (if x12 < (x436000.length : Int) then (if ((rd_T33 x436000 x12).f0).toList = x9.toList then (if x11 = true then (if x13 = true then (laws_FnCarried.j3 k x5 x9 x10 x11 x12 x13 true x436000 x436001 x436002 x436003 x436004 x436005 x450000 x450001 x450002) else (laws_FnCarried.j3 k x5 x9 x10 x11 x12 x13 (x450001 != x10) x436000 x436001 x436002 x436003 x436004 x436005 x450000 x450001 x450002)) else (laws_FnCarried.j3 k x5 x9 x10 x11 x12 x13 true x436000 x436001 x436002 x436003 x436004 x436005 x450000 x450001 x450002)) else (laws_FnCarried.j3 k x5 x9 x10 x11 x12 x13 false x436000 x436001 x436002 x436003 x436004 x436005 x450000 x450001 x450002)) else (none)) else (none))
def laws_FnCarried.j3 : Nat → Int → ByteArray → Int → Bool → Int → Bool → Bool → List (S33) → List (S70) → List (S72) → Int → Int → Int → Int → Int → Int → Option (Bool)
 | 0, _, _, _, _, _, _, _, _, _, _, _, _, _, _, _, _ => none
 | k + 1, x5, x9, x10, x11, x12, x13, x98, x436000, x436001, x436002, x436003, x436004, x436005, x450000, x450001, x450002 => if x98 = true then (some false) else (if x11 = true then (if x13 = true then (laws_FnCarried.j4 k x5 x9 x10 x11 x12 false x436000 x436001 x436002 x436003 x436004 x436005) else (if 0 ≤ x12 then (if x12 < (x436000.length : Int) then (if ((rd_T33 x436000 x12).f2) > 0 then (laws_FnCarried.j4 k x5 x9 x10 x11 x12 (decide (x450001 < x10)) x436000 x436001 x436002 x436003 x436004 x436005) else (laws_FnCarried.j4 k x5 x9 x10 x11 x12 false x436000 x436001 x436002 x436003 x436004 x436005)) else (none)) else (none))) else (laws_FnCarried.j4 k x5 x9 x10 x11 x12 false x436000 x436001 x436002 x436003 x436004 x436005))
def laws_FnCarried.j4 : Nat → Int → ByteArray → Int → Bool → Int → Bool → List (S33) → List (S70) → List (S72) → Int → Int → Int → Option (Bool)
 | 0, _, _, _, _, _, _, _, _, _, _, _, _ => none
 | k + 1, x5, x9, x10, x11, x12, x118, x436000, x436001, x436002, x436003, x436004, x436005 => if x118 = true then (some false) else (laws_FnCarried.l0 k x5 x9 x10 x11 (wrap64 (x12 + 1)) x436000 x436001 x436002 x436003 x436004 x436005)
def laws_FnCarried.l1 : Nat → Int → ByteArray → Bool → Int → List (S33) → List (S70) → List (S72) → Int → Int → Int → Option (Bool)
 | 0, _, _, _, _, _, _, _, _, _, _ => none
 | k + 1, x5, x9, x11, x16, x436000, x436001, x436002, x436003, x436004, x436005 => if x16 < (x436002.length : Int) then (laws_FnCarried.j6 k x5 x9 x11 x16 (x5 == 0) x436000 x436001 x436002 x436003 x436004 x436005) else (laws_FnCarried.j6 k x5 x9 x11 x16 false x436000 x436001 x436002 x436003 x436004 x436005)
def laws_FnCarried.j6 : Nat → Int → ByteArray → Bool → Int → Bool → List (S33) → List (S70) → List (S72) → Int → Int → Int → Option (Bool)
 | 0, _, _, _, _, _, _, _, _, _, _, _ => none
 | k + 1, x5, x9, x11, x16, x127, x436000, x436001, x436002, x436003, x436004, x436005 => if x127 = true then (laws_FnCarried.l2 k x5 x9 x11 x16 false 0 x436000 x436001 x436002 x436003 x436004 x436005) else (some (x11 == (x9.toList != ([] : List UInt8))))
def laws_FnCarried.l2 : Nat → Int → ByteArray → Bool → Int → Bool → Int → List (S33) → List (S70) → List (S72) → Int → Int → Int → Option (Bool)
 | 0, _, _, _, _, _, _, _, _, _, _, _, _ => none
 | k + 1, x5, x9, x11, x16, x17, x18, x436000, x436001, x436002, x436003, x436004, x436005 => if x18 < (x436001.length : Int) then (if x17 = true then (laws_FnCarried.l2 k x5 x9 x11 x16 true (wrap64 (x18 + 1)) x436000 x436001 x436002 x436003 x436004 x436005) else (if 0 ≤ x18 then (if 0 ≤ x16 then (if x16 < (x436002.length : Int) then (if ((rd_T70 x436001 x18).f0).toList = ((rd_T72 x436002 x16).f0).toList then (laws_FnCarried.l2 k x5 x9 x11 x16 (decide ((wrap64 (x436005 - ((rd_T72 x436002 x16).f2))) ≤ ((rd_T70 x436001 x18).f2))) (wrap64 (x18 + 1)) x436000 x436001 x436002 x436003 x436004 x436005) else (laws_FnCarried.l2 k x5 x9 x11 x16 false (wrap64 (x18 + 1)) x436000 x436001 x436002 x436003 x436004 x436005)) else (none)) else (none)) else (none))) else (if x17 = true then (laws_FnCarried.l1 k x5 x9 x11 (wrap64 (x16 + 1)) x436000 x436001 x436002 x436003 x436004 x436005) else (some false))
end
def laws_FnCarried.f (k : Nat) (l0 : List Int) : Option (Bool) := (laws_big.f l0).bind fun t419 => (if t419 = true then (some true) else ((spec_DrawFleet.f k l0).bind fun bt420 => ((impl_Release.f bt420.1 bt420.2.1 bt420.2.2.1 bt420.2.2.2.1 bt420.2.2.2.2.1 bt420.2.2.2.2.2.1).bind fun bt436 => ((spec_Release.f bt420.1 bt420.2.1 bt420.2.2.1 bt420.2.2.2.1 bt420.2.2.2.2.1 bt420.2.2.2.2.2.1).bind fun bt438 => (if bt436.1 = bt438.1 then (laws_FnCarried.j0 k bt436.1 (bt436.2.toList != bt438.2.toList) bt420.1 bt420.2.1 bt420.2.2.1 bt420.2.2.2.1 bt420.2.2.2.2.1 bt420.2.2.2.2.2.1) else (laws_FnCarried.j0 k bt436.1 true bt420.1 bt420.2.1 bt420.2.2.1 bt420.2.2.2.1 bt420.2.2.2.2.1 bt420.2.2.2.2.2.1))))))
theorem laws_FnCarried.mono_l : ∀ k, (∀ y0 y1 y2 y3 y4 y5 y6 y7, LeO (laws_FnCarried.j0 k y0 y1 y2 y3 y4 y5 y6 y7) (laws_FnCarried.j0 (k + 1) y0 y1 y2 y3 y4 y5 y6 y7)) ∧ (∀ y0 y1 y2 y3 y4 y5 y6 y7 y8 y9 y10, LeO (laws_FnCarried.l0 k y0 y1 y2 y3 y4 y5 y6 y7 y8 y9 y10) (laws_FnCarried.l0 (k + 1) y0 y1 y2 y3 y4 y5 y6 y7 y8 y9 y10)) ∧ (∀ y0 y1 y2 y3 y4 y5 y6 y7 y8 y9 y10 y11 y12 y13 y14 y15, LeO (laws_FnCarried.j2 k y0 y1 y2 y3 y4 y5 y6 y7 y8 y9 y10 y11 y12 y13 y14 y15) (laws_FnCarried.j2 (k + 1) y0 y1 y2 y3 y4 y5 y6 y7 y8 y9 y10 y11 y12 y13 y14 y15)) ∧ (∀ y0 y1 y2 y3 y4 y5 y6 y7 y8 y9 y10 y11 y12 y13 y14 y15, LeO (laws_FnCarried.j3 k y0 y1 y2 y3 y4 y5 y6 y7 y8 y9 y10 y11 y12 y13 y14 y15) (laws_FnCarried.j3 (k + 1) y0 y1 y2 y3 y4 y5 y6 y7 y8 y9 y10 y11 y12 y13 y14 y15)) ∧ (∀ y0 y1 y2 y3 y4 y5 y6 y7 y8 y9 y10 y11, LeO (laws_FnCarried.j4 k y0 y1 y2 y3 y4 y5 y6 y7 y8 y9 y10 y11) (laws_FnCarried.j4 (k + 1) y0 y1 y2 y3 y4 y5 y6 y7 y8 y9 y10 y11)) ∧ (∀ y0 y1 y2 y3 y4 y5 y6 y7 y8 y9, LeO (laws_FnCarried.l1 k y0 y1 y2 y3 y4 y5 y6 y7 y8 y9) (laws_FnCarried.l1 (k + 1) y0 y1 y2 y3 y4 y5 y6 y7 y8 y9)) ∧ (∀ y0 y1 y2 y3 y4 y5 y6 y7 y8 y9 y10, LeO (laws_FnCarried.j6 k y0 y1 y2 y3 y4 y5 y6 y7 y8 y9 y10) (laws_FnCarried.j6 (k + 1) y0 y1 y2 y3 y4 y5 y6 y7 y8 y9 y10)) ∧ (∀ y0 y1 y2 y3 y4 y5 y6 y7 y8 y9 y10 y11, LeO (laws_FnCarried.l2 k y0 y1 y2 y3 y4 y5 y6 y7 y8 y9 y10 y11) (laws_FnCarried.l2 (k + 1) y0 y1 y2 y3 y4 y5 y6 y7 y8 y9 y10 y11))
 | 0 => ⟨fun _ _ _ _ _ _ _ _ r h => by simp [laws_FnCarried.j0] at h, fun _ _ _ _ _ _ _ _ _ _ _ r h => by simp [laws_FnCarried.l0] at h, fun _ _ _ _ _ _ _ _ _ _ _ _ _ _ _ _ r h => by simp [laws_FnCarried.j2] at h, fun _ _ _ _ _ _ _ _ _ _ _ _ _ _ _ _ r h => by simp [laws_FnCarried.j3] at h, fun _ _ _ _ _ _ _ _ _ _ _ _ r h => by simp [laws_FnCarried.j4] at h, fun _ _ _ _ _ _ _ _ _ _ r h => by simp [laws_FnCarried.l1] at h, fun _ _ _ _ _ _ _ _ _ _ _ r h => by simp [laws_FnCarried.j6] at h, fun _ _ _ _ _ _ _ _ _ _ _ _ r h => by simp [laws_FnCarried.l2] at h⟩
 | k + 1 => by
  obtain ⟨ih0, ih1, ih2, ih3, ih4, ih5, ih6, ih7⟩ := laws_FnCarried.mono_l k
  refine ⟨?_, ?_, ?_, ?_, ?_, ?_, ?_, ?_⟩
  ·
   intro y0 y1 y2 y3 y4 y5 y6 y7
   unfold laws_FnCarried.j0
   repeat' first
   | (with_reducible exact ih0 _ _ _ _ _ _ _ _)
   | (with_reducible exact ih1 _ _ _ _ _ _ _ _ _ _ _)
   | (with_reducible exact ih2 _ _ _ _ _ _ _ _ _ _ _ _ _ _ _ _)
   | (with_reducible exact ih3 _ _ _ _ _ _ _ _ _ _ _ _ _ _ _ _)
   | (with_reducible exact ih4 _ _ _ _ _ _ _ _ _ _ _ _)
   | (with_reducible exact ih5 _ _ _ _ _ _ _ _ _ _)
   | (with_reducible exact ih6 _ _ _ _ _ _ _ _ _ _ _)
   | (with_reducible exact ih7 _ _ _ _ _ _ _ _ _ _ _ _)
   | (with_reducible exact impl_Due19.mono _ _ _ _ _ _ _ _ _ _ _)
   | (with_reducible exact impl_NextDue.mono _ _ _ _ _ _ _)
   | (with_reducible exact spec_DrawFleet.mono _ _)
   | (with_reducible exact LeO.refl _)
   | (with_reducible exact LeO.none _)
   | (with_reducible refine LeO.ite ?_ ?_)
   | (with_reducible refine LeO.bind ?_ (fun _ => ?_))
   | exact ih0 _ _ _ _ _ _ _ _
   | exact ih1 _ _ _ _ _ _ _ _ _ _ _
   | exact ih2 _ _ _ _ _ _ _ _ _ _ _ _ _ _ _ _
   | exact ih3 _ _ _ _ _ _ _ _ _ _ _ _ _ _ _ _
   | exact ih4 _ _ _ _ _ _ _ _ _ _ _ _
   | exact ih5 _ _ _ _ _ _ _ _ _ _
   | exact ih6 _ _ _ _ _ _ _ _ _ _ _
   | exact ih7 _ _ _ _ _ _ _ _ _ _ _ _
   | exact impl_Due19.mono _ _ _ _ _ _ _ _ _ _ _
   | exact impl_NextDue.mono _ _ _ _ _ _ _
   | exact spec_DrawFleet.mono _ _
   | exact LeO.none _
   | refine LeO.ite ?_ ?_
   | refine LeO.bind ?_ (fun _ => ?_)
  ·
   intro y0 y1 y2 y3 y4 y5 y6 y7 y8 y9 y10
   unfold laws_FnCarried.l0
   repeat' first
   | (with_reducible exact ih0 _ _ _ _ _ _ _ _)
   | (with_reducible exact ih1 _ _ _ _ _ _ _ _ _ _ _)
   | (with_reducible exact ih2 _ _ _ _ _ _ _ _ _ _ _ _ _ _ _ _)
   | (with_reducible exact ih3 _ _ _ _ _ _ _ _ _ _ _ _ _ _ _ _)
   | (with_reducible exact ih4 _ _ _ _ _ _ _ _ _ _ _ _)
   | (with_reducible exact ih5 _ _ _ _ _ _ _ _ _ _)
   | (with_reducible exact ih6 _ _ _ _ _ _ _ _ _ _ _)
   | (with_reducible exact ih7 _ _ _ _ _ _ _ _ _ _ _ _)
   | (with_reducible exact impl_Due19.mono _ _ _ _ _ _ _ _ _ _ _)
   | (with_reducible exact impl_NextDue.mono _ _ _ _ _ _ _)
   | (with_reducible exact spec_DrawFleet.mono _ _)
   | (with_reducible exact LeO.refl _)
   | (with_reducible exact LeO.none _)
   | (with_reducible refine LeO.ite ?_ ?_)
   | (with_reducible refine LeO.bind ?_ (fun _ => ?_))
   | exact ih0 _ _ _ _ _ _ _ _
   | exact ih1 _ _ _ _ _ _ _ _ _ _ _
   | exact ih2 _ _ _ _ _ _ _ _ _ _ _ _ _ _ _ _
   | exact ih3 _ _ _ _ _ _ _ _ _ _ _ _ _ _ _ _
   | exact ih4 _ _ _ _ _ _ _ _ _ _ _ _
   | exact ih5 _ _ _ _ _ _ _ _ _ _
   | exact ih6 _ _ _ _ _ _ _ _ _ _ _
   | exact ih7 _ _ _ _ _ _ _ _ _ _ _ _
   | exact impl_Due19.mono _ _ _ _ _ _ _ _ _ _ _
   | exact impl_NextDue.mono _ _ _ _ _ _ _
   | exact spec_DrawFleet.mono _ _
   | exact LeO.none _
   | refine LeO.ite ?_ ?_
   | refine LeO.bind ?_ (fun _ => ?_)
  ·
   intro y0 y1 y2 y3 y4 y5 y6 y7 y8 y9 y10 y11 y12 y13 y14 y15
   unfold laws_FnCarried.j2
   repeat' first
   | (with_reducible exact ih0 _ _ _ _ _ _ _ _)
   | (with_reducible exact ih1 _ _ _ _ _ _ _ _ _ _ _)
   | (with_reducible exact ih2 _ _ _ _ _ _ _ _ _ _ _ _ _ _ _ _)
   | (with_reducible exact ih3 _ _ _ _ _ _ _ _ _ _ _ _ _ _ _ _)
   | (with_reducible exact ih4 _ _ _ _ _ _ _ _ _ _ _ _)
   | (with_reducible exact ih5 _ _ _ _ _ _ _ _ _ _)
   | (with_reducible exact ih6 _ _ _ _ _ _ _ _ _ _ _)
   | (with_reducible exact ih7 _ _ _ _ _ _ _ _ _ _ _ _)
   | (with_reducible exact impl_Due19.mono _ _ _ _ _ _ _ _ _ _ _)
   | (with_reducible exact impl_NextDue.mono _ _ _ _ _ _ _)
   | (with_reducible exact spec_DrawFleet.mono _ _)
   | (with_reducible exact LeO.refl _)
   | (with_reducible exact LeO.none _)
   | (with_reducible refine LeO.ite ?_ ?_)
   | (with_reducible refine LeO.bind ?_ (fun _ => ?_))
   | exact ih0 _ _ _ _ _ _ _ _
   | exact ih1 _ _ _ _ _ _ _ _ _ _ _
   | exact ih2 _ _ _ _ _ _ _ _ _ _ _ _ _ _ _ _
   | exact ih3 _ _ _ _ _ _ _ _ _ _ _ _ _ _ _ _
   | exact ih4 _ _ _ _ _ _ _ _ _ _ _ _
   | exact ih5 _ _ _ _ _ _ _ _ _ _
   | exact ih6 _ _ _ _ _ _ _ _ _ _ _
   | exact ih7 _ _ _ _ _ _ _ _ _ _ _ _
   | exact impl_Due19.mono _ _ _ _ _ _ _ _ _ _ _
   | exact impl_NextDue.mono _ _ _ _ _ _ _
   | exact spec_DrawFleet.mono _ _
   | exact LeO.none _
   | refine LeO.ite ?_ ?_
   | refine LeO.bind ?_ (fun _ => ?_)
  ·
   intro y0 y1 y2 y3 y4 y5 y6 y7 y8 y9 y10 y11 y12 y13 y14 y15
   unfold laws_FnCarried.j3
   repeat' first
   | (with_reducible exact ih0 _ _ _ _ _ _ _ _)
   | (with_reducible exact ih1 _ _ _ _ _ _ _ _ _ _ _)
   | (with_reducible exact ih2 _ _ _ _ _ _ _ _ _ _ _ _ _ _ _ _)
   | (with_reducible exact ih3 _ _ _ _ _ _ _ _ _ _ _ _ _ _ _ _)
   | (with_reducible exact ih4 _ _ _ _ _ _ _ _ _ _ _ _)
   | (with_reducible exact ih5 _ _ _ _ _ _ _ _ _ _)
   | (with_reducible exact ih6 _ _ _ _ _ _ _ _ _ _ _)
   | (with_reducible exact ih7 _ _ _ _ _ _ _ _ _ _ _ _)
   | (with_reducible exact impl_Due19.mono _ _ _ _ _ _ _ _ _ _ _)
   | (with_reducible exact impl_NextDue.mono _ _ _ _ _ _ _)
   | (with_reducible exact spec_DrawFleet.mono _ _)
   | (with_reducible exact LeO.refl _)
   | (with_reducible exact LeO.none _)
   | (with_reducible refine LeO.ite ?_ ?_)
   | (with_reducible refine LeO.bind ?_ (fun _ => ?_))
   | exact ih0 _ _ _ _ _ _ _ _
   | exact ih1 _ _ _ _ _ _ _ _ _ _ _
   | exact ih2 _ _ _ _ _ _ _ _ _ _ _ _ _ _ _ _
   | exact ih3 _ _ _ _ _ _ _ _ _ _ _ _ _ _ _ _
   | exact ih4 _ _ _ _ _ _ _ _ _ _ _ _
   | exact ih5 _ _ _ _ _ _ _ _ _ _
   | exact ih6 _ _ _ _ _ _ _ _ _ _ _
   | exact ih7 _ _ _ _ _ _ _ _ _ _ _ _
   | exact impl_Due19.mono _ _ _ _ _ _ _ _ _ _ _
   | exact impl_NextDue.mono _ _ _ _ _ _ _
   | exact spec_DrawFleet.mono _ _
   | exact LeO.none _
   | refine LeO.ite ?_ ?_
   | refine LeO.bind ?_ (fun _ => ?_)
  ·
   intro y0 y1 y2 y3 y4 y5 y6 y7 y8 y9 y10 y11
   unfold laws_FnCarried.j4
   repeat' first
   | (with_reducible exact ih0 _ _ _ _ _ _ _ _)
   | (with_reducible exact ih1 _ _ _ _ _ _ _ _ _ _ _)
   | (with_reducible exact ih2 _ _ _ _ _ _ _ _ _ _ _ _ _ _ _ _)
   | (with_reducible exact ih3 _ _ _ _ _ _ _ _ _ _ _ _ _ _ _ _)
   | (with_reducible exact ih4 _ _ _ _ _ _ _ _ _ _ _ _)
   | (with_reducible exact ih5 _ _ _ _ _ _ _ _ _ _)
   | (with_reducible exact ih6 _ _ _ _ _ _ _ _ _ _ _)
   | (with_reducible exact ih7 _ _ _ _ _ _ _ _ _ _ _ _)
   | (with_reducible exact impl_Due19.mono _ _ _ _ _ _ _ _ _ _ _)
   | (with_reducible exact impl_NextDue.mono _ _ _ _ _ _ _)
   | (with_reducible exact spec_DrawFleet.mono _ _)
   | (with_reducible exact LeO.refl _)
   | (with_reducible exact LeO.none _)
   | (with_reducible refine LeO.ite ?_ ?_)
   | (with_reducible refine LeO.bind ?_ (fun _ => ?_))
   | exact ih0 _ _ _ _ _ _ _ _
   | exact ih1 _ _ _ _ _ _ _ _ _ _ _
   | exact ih2 _ _ _ _ _ _ _ _ _ _ _ _ _ _ _ _
   | exact ih3 _ _ _ _ _ _ _ _ _ _ _ _ _ _ _ _
   | exact ih4 _ _ _ _ _ _ _ _ _ _ _ _
   | exact ih5 _ _ _ _ _ _ _ _ _ _
   | exact ih6 _ _ _ _ _ _ _ _ _ _ _
   | exact ih7 _ _ _ _ _ _ _ _ _ _ _ _
   | exact impl_Due19.mono _ _ _ _ _ _ _ _ _ _ _
   | exact impl_NextDue.mono _ _ _ _ _ _ _
   | exact spec_DrawFleet.mono _ _
   | exact LeO.none _
   | refine LeO.ite ?_ ?_
   | refine LeO.bind ?_ (fun _ => ?_)
  ·
   intro y0 y1 y2 y3 y4 y5 y6 y7 y8 y9
   unfold laws_FnCarried.l1
   repeat' first
   | (with_reducible exact ih0 _ _ _ _ _ _ _ _)
   | (with_reducible exact ih1 _ _ _ _ _ _ _ _ _ _ _)
   | (with_reducible exact ih2 _ _ _ _ _ _ _ _ _ _ _ _ _ _ _ _)
   | (with_reducible exact ih3 _ _ _ _ _ _ _ _ _ _ _ _ _ _ _ _)
   | (with_reducible exact ih4 _ _ _ _ _ _ _ _ _ _ _ _)
   | (with_reducible exact ih5 _ _ _ _ _ _ _ _ _ _)
   | (with_reducible exact ih6 _ _ _ _ _ _ _ _ _ _ _)
   | (with_reducible exact ih7 _ _ _ _ _ _ _ _ _ _ _ _)
   | (with_reducible exact impl_Due19.mono _ _ _ _ _ _ _ _ _ _ _)
   | (with_reducible exact impl_NextDue.mono _ _ _ _ _ _ _)
   | (with_reducible exact spec_DrawFleet.mono _ _)
   | (with_reducible exact LeO.refl _)
   | (with_reducible exact LeO.none _)
   | (with_reducible refine LeO.ite ?_ ?_)
   | (with_reducible refine LeO.bind ?_ (fun _ => ?_))
   | exact ih0 _ _ _ _ _ _ _ _
   | exact ih1 _ _ _ _ _ _ _ _ _ _ _
   | exact ih2 _ _ _ _ _ _ _ _ _ _ _ _ _ _ _ _
   | exact ih3 _ _ _ _ _ _ _ _ _ _ _ _ _ _ _ _
   | exact ih4 _ _ _ _ _ _ _ _ _ _ _ _
   | exact ih5 _ _ _ _ _ _ _ _ _ _
   | exact ih6 _ _ _ _ _ _ _ _ _ _ _
   | exact ih7 _ _ _ _ _ _ _ _ _ _ _ _
   | exact impl_Due19.mono _ _ _ _ _ _ _ _ _ _ _
   | exact impl_NextDue.mono _ _ _ _ _ _ _
   | exact spec_DrawFleet.mono _ _
   | exact LeO.none _
   | refine LeO.ite ?_ ?_
   | refine LeO.bind ?_ (fun _ => ?_)
  ·
   intro y0 y1 y2 y3 y4 y5 y6 y7 y8 y9 y10
   unfold laws_FnCarried.j6
   repeat' first
   | (with_reducible exact ih0 _ _ _ _ _ _ _ _)
   | (with_reducible exact ih1 _ _ _ _ _ _ _ _ _ _ _)
   | (with_reducible exact ih2 _ _ _ _ _ _ _ _ _ _ _ _ _ _ _ _)
   | (with_reducible exact ih3 _ _ _ _ _ _ _ _ _ _ _ _ _ _ _ _)
   | (with_reducible exact ih4 _ _ _ _ _ _ _ _ _ _ _ _)
   | (with_reducible exact ih5 _ _ _ _ _ _ _ _ _ _)
   | (with_reducible exact ih6 _ _ _ _ _ _ _ _ _ _ _)
   | (with_reducible exact ih7 _ _ _ _ _ _ _ _ _ _ _ _)
   | (with_reducible exact impl_Due19.mono _ _ _ _ _ _ _ _ _ _ _)
   | (with_reducible exact impl_NextDue.mono _ _ _ _ _ _ _)
   | (with_reducible exact spec_DrawFleet.mono _ _)
   | (with_reducible exact LeO.refl _)
   | (with_reducible exact LeO.none _)
   | (with_reducible refine LeO.ite ?_ ?_)
   | (with_reducible refine LeO.bind ?_ (fun _ => ?_))
   | exact ih0 _ _ _ _ _ _ _ _
   | exact ih1 _ _ _ _ _ _ _ _ _ _ _
   | exact ih2 _ _ _ _ _ _ _ _ _ _ _ _ _ _ _ _
   | exact ih3 _ _ _ _ _ _ _ _ _ _ _ _ _ _ _ _
   | exact ih4 _ _ _ _ _ _ _ _ _ _ _ _
   | exact ih5 _ _ _ _ _ _ _ _ _ _
   | exact ih6 _ _ _ _ _ _ _ _ _ _ _
   | exact ih7 _ _ _ _ _ _ _ _ _ _ _ _
   | exact impl_Due19.mono _ _ _ _ _ _ _ _ _ _ _
   | exact impl_NextDue.mono _ _ _ _ _ _ _
   | exact spec_DrawFleet.mono _ _
   | exact LeO.none _
   | refine LeO.ite ?_ ?_
   | refine LeO.bind ?_ (fun _ => ?_)
  ·
   intro y0 y1 y2 y3 y4 y5 y6 y7 y8 y9 y10 y11
   unfold laws_FnCarried.l2
   repeat' first
   | (with_reducible exact ih0 _ _ _ _ _ _ _ _)
   | (with_reducible exact ih1 _ _ _ _ _ _ _ _ _ _ _)
   | (with_reducible exact ih2 _ _ _ _ _ _ _ _ _ _ _ _ _ _ _ _)
   | (with_reducible exact ih3 _ _ _ _ _ _ _ _ _ _ _ _ _ _ _ _)
   | (with_reducible exact ih4 _ _ _ _ _ _ _ _ _ _ _ _)
   | (with_reducible exact ih5 _ _ _ _ _ _ _ _ _ _)
   | (with_reducible exact ih6 _ _ _ _ _ _ _ _ _ _ _)
   | (with_reducible exact ih7 _ _ _ _ _ _ _ _ _ _ _ _)
   | (with_reducible exact impl_Due19.mono _ _ _ _ _ _ _ _ _ _ _)
   | (with_reducible exact impl_NextDue.mono _ _ _ _ _ _ _)
   | (with_reducible exact spec_DrawFleet.mono _ _)
   | (with_reducible exact LeO.refl _)
   | (with_reducible exact LeO.none _)
   | (with_reducible refine LeO.ite ?_ ?_)
   | (with_reducible refine LeO.bind ?_ (fun _ => ?_))
   | exact ih0 _ _ _ _ _ _ _ _
   | exact ih1 _ _ _ _ _ _ _ _ _ _ _
   | exact ih2 _ _ _ _ _ _ _ _ _ _ _ _ _ _ _ _
   | exact ih3 _ _ _ _ _ _ _ _ _ _ _ _ _ _ _ _
   | exact ih4 _ _ _ _ _ _ _ _ _ _ _ _
   | exact ih5 _ _ _ _ _ _ _ _ _ _
   | exact ih6 _ _ _ _ _ _ _ _ _ _ _
   | exact ih7 _ _ _ _ _ _ _ _ _ _ _ _
   | exact impl_Due19.mono _ _ _ _ _ _ _ _ _ _ _
   | exact impl_NextDue.mono _ _ _ _ _ _ _
   | exact spec_DrawFleet.mono _ _
   | exact LeO.none _
   | refine LeO.ite ?_ ?_
   | refine LeO.bind ?_ (fun _ => ?_)
theorem laws_FnCarried.mono : ∀ a0 k, LeO (laws_FnCarried.f k a0) (laws_FnCarried.f (k + 1) a0) := by
 intro a0 k
 obtain ⟨ih0, ih1, ih2, ih3, ih4, ih5, ih6, ih7⟩ := laws_FnCarried.mono_l k
 unfold laws_FnCarried.f
 repeat' first
   | (with_reducible exact ih0 _ _ _ _ _ _ _ _)
   | (with_reducible exact ih1 _ _ _ _ _ _ _ _ _ _ _)
   | (with_reducible exact ih2 _ _ _ _ _ _ _ _ _ _ _ _ _ _ _ _)
   | (with_reducible exact ih3 _ _ _ _ _ _ _ _ _ _ _ _ _ _ _ _)
   | (with_reducible exact ih4 _ _ _ _ _ _ _ _ _ _ _ _)
   | (with_reducible exact ih5 _ _ _ _ _ _ _ _ _ _)
   | (with_reducible exact ih6 _ _ _ _ _ _ _ _ _ _ _)
   | (with_reducible exact ih7 _ _ _ _ _ _ _ _ _ _ _ _)
   | (with_reducible exact impl_Due19.mono _ _ _ _ _ _ _ _ _ _ _)
   | (with_reducible exact impl_NextDue.mono _ _ _ _ _ _ _)
   | (with_reducible exact spec_DrawFleet.mono _ _)
   | (with_reducible exact LeO.refl _)
   | (with_reducible exact LeO.none _)
   | (with_reducible refine LeO.ite ?_ ?_)
   | (with_reducible refine LeO.bind ?_ (fun _ => ?_))
   | exact ih0 _ _ _ _ _ _ _ _
   | exact ih1 _ _ _ _ _ _ _ _ _ _ _
   | exact ih2 _ _ _ _ _ _ _ _ _ _ _ _ _ _ _ _
   | exact ih3 _ _ _ _ _ _ _ _ _ _ _ _ _ _ _ _
   | exact ih4 _ _ _ _ _ _ _ _ _ _ _ _
   | exact ih5 _ _ _ _ _ _ _ _ _ _
   | exact ih6 _ _ _ _ _ _ _ _ _ _ _
   | exact ih7 _ _ _ _ _ _ _ _ _ _ _ _
   | exact impl_Due19.mono _ _ _ _ _ _ _ _ _ _ _
   | exact impl_NextDue.mono _ _ _ _ _ _ _
   | exact spec_DrawFleet.mono _ _
   | exact LeO.none _
   | refine LeO.ite ?_ ?_
   | refine LeO.bind ?_ (fun _ => ?_)
def laws_FnCarried.T12 : Bool × List (List Nat × List Nat) := (true, [([], []), ([0], [0]), ([], []), ([1, 2], [1, 2]), ([3], [3]), ([], []), ([5], [5]), ([4, 6], [4, 6]), ([7], [7]), ([8], [8]), ([8], [8]), ([8], [8]), ([], []), ([9, 7, 0, 1, 2, 3, 4, 5, 6, 7, 8, 9, 12], [9]), ([12, 10, 13, 0, 1, 2, 3, 4, 5, 6, 7, 8, 9, 10, 12, 13], [10, 12]), ([11, 14, 0, 1, 2, 3, 4, 5, 6, 7, 8, 9, 10, 11, 12, 13, 14], [11])])
def laws_FnCarried.B12 : List Nat := [0, 1, 0, 7, 15, 0, 32, 127, 255, 511, 511, 511, 0, 5119, 14335, 32767]
theorem laws_FnCarried.tab12 : rtab .any (opsOf Try.f10 12) = laws_FnCarried.T12 := by kernel_rfl
theorem laws_FnCarried.bits12 : waitsOk laws_FnCarried.T12.2 laws_FnCarried.B12 = true := by kernel_rfl
def laws_FnCarried.T26 : Bool × List (List Nat × List Nat) := (true, [([], []), ([0], [0]), ([1], [1]), ([2, 1], [1, 2]), ([1], [1]), ([3, 4, 1], [1, 3, 4]), ([5, 1], [1, 5]), ([6, 1], [1, 6]), ([1], [1]), ([8, 1], [1, 8]), ([1], [1]), ([9, 10, 1], [1, 9, 10]), ([11, 1], [1, 11]), ([12, 1], [1, 12]), ([7, 13, 1], [1, 7, 13]), ([14, 1, 1], [1, 14]), ([15], [15]), ([16, 15], [15, 16]), ([17, 15], [15, 17]), ([15], [15]), ([19, 15], [15, 19]), ([15], [15]), ([20, 21, 15], [15, 20, 21]), ([22, 15], [15, 22]), ([23, 15], [15, 23]), ([18, 24, 15], [15, 18, 24]), ([15], [15]), ([26, 15], [15, 26]), ([15], [15]), ([27, 28, 15], [15, 27, 28]), ([29, 15], [15, 29]), ([30, 15], [15, 30]), ([25, 31, 15], [15, 25, 31]), ([15, 32, 1], [1, 15, 32]), ([1, 33], [1, 33]), ([34, 15, 0, 1, 2, 3, 4, 5, 6, 7, 8, 9, 10, 11, 12, 13, 14, 15, 16, 17, 18, 19, 20, 21, 22, 23, 24, 25, 26, 27, 28, 29, 30, 31, 32, 33, 34], [0, 34])])
def laws_FnCarried.B26 : List Nat := [0, 1, 3, 7, 3, 31, 63, 127, 3, 259, 3, 1795, 3843, 7939, 16383, 32767, 65535, 131071, 262143, 65535, 589823, 65535, 3735551, 7929855, 16318463, 33554431, 65535, 67174399, 65535, 469827583, 1006698495, 2080440319, 4294967295, 8589934591, 17179869183, 34359738367]
theorem laws_FnCarried.tab26 : rtab .any (opsOf Try.f10 26) = laws_FnCarried.T26 := by kernel_rfl
theorem laws_FnCarried.bits26 : waitsOk laws_FnCarried.T26.2 laws_FnCarried.B26 = true := by kernel_rfl
set_option maxHeartbeats 8000000 in
set_option maxRecDepth 100000 in
theorem laws_FnCarried.calls (k : Nat) (A0 : Option Addr) (c0 : Nat) (l0 : List Int) (r : Bool) (hr_ : r = true) (w : World) (hr0 : Kd.C (Kd.int .u8) w A0 l0.length l0) (hc0 : l0.length ≤ c0) (h : laws_FnCarried.f k l0 = some r) :
  Calls Try.prog 10 #[.slice A0 l0.length c0] w fun e w' => e = .returned (.bool r) ∧ Below w.heap.size w w' := by
 have hu56 := Try.underlying56
 have hu33 := Try.underlying33
 have hu25 := Try.underlying25
 have HR0 := Aside0.mk hr0
 have HC0 := Aside0.mk hc0
 clear hr0 hc0
 have HB := Aside0.mk (Below.refl w.heap.size w)
 have H : ((laws_big.f l0).bind fun t419 => (if t419 = true then (some true) else ((spec_DrawFleet.f k l0).bind fun bt420 => ((impl_Release.f bt420.1 bt420.2.1 bt420.2.2.1 bt420.2.2.2.1 bt420.2.2.2.2.1 bt420.2.2.2.2.2.1).bind fun bt436 => ((spec_Release.f bt420.1 bt420.2.1 bt420.2.2.1 bt420.2.2.2.1 bt420.2.2.2.2.1 bt420.2.2.2.2.2.1).bind fun bt438 => (if bt436.1 = bt438.1 then (laws_FnCarried.j0 k bt436.1 (bt436.2.toList != bt438.2.toList) bt420.1 bt420.2.1 bt420.2.2.1 bt420.2.2.2.1 bt420.2.2.2.2.1 bt420.2.2.2.2.2.1) else (laws_FnCarried.j0 k bt436.1 true bt420.1 bt420.2.1 bt420.2.2.1 bt420.2.2.2.1 bt420.2.2.2.2.1 bt420.2.2.2.2.2.1))))))) = some r := h
 clear h
 replace H := Option.bind_eq_some_iff.mp H
 obtain ⟨t419, A20, H⟩ := H
 replace H : (if t419 = true then (some true) else ((spec_DrawFleet.f k l0).bind fun bt420 => ((impl_Release.f bt420.1 bt420.2.1 bt420.2.2.1 bt420.2.2.2.1 bt420.2.2.2.2.1 bt420.2.2.2.2.2.1).bind fun bt436 => ((spec_Release.f bt420.1 bt420.2.1 bt420.2.2.1 bt420.2.2.2.1 bt420.2.2.2.2.1 bt420.2.2.2.2.2.1).bind fun bt438 => (if bt436.1 = bt438.1 then (laws_FnCarried.j0 k bt436.1 (bt436.2.toList != bt438.2.toList) bt420.1 bt420.2.1 bt420.2.2.1 bt420.2.2.2.1 bt420.2.2.2.2.1 bt420.2.2.2.2.2.1) else (laws_FnCarried.j0 k bt436.1 true bt420.1 bt420.2.1 bt420.2.2.1 bt420.2.2.2.1 bt420.2.2.2.2.1 bt420.2.2.2.2.2.1)))))) = some r := H
 have A2 := Aside0.mk A20
 clear A20
 have HC3 := Aside0.mk H
 clear H
 go_enter Try.func10, Try.ntmps10
 go_upto_if 20 with (first | ((with_reducible refine gate_callee (f := 37) rfl ?_); refine goesL_ (some 20) rfl rfl Try.func37 (by kernel_rfl) rfl #[.slice A0 l0.length c0] rfl (by (try simp only [am_]); first | done | rfl) ?_; (with_reducible refine (laws_big.calls _ _ l0 t419 _ ?side1 ?side2 A2.out).mono ?_); (case side1 => exact rc HR0.out); (case side2 => exact HC0.out); rintro e w' ⟨rfl, ⟨nd, rfl⟩⟩; refine ⟨_, rfl, ?_⟩))
 have H := HC3.out
 clear HC3
 by_cases c4 : t419 = true
 ·
  subst c4
  have H1 : (some true) = some r := by rw [if_pos rfl] at H; exact H
  clear H
  have H := H1
  clear H1
  obtain rfl := Option.some.inj H
  go_wp2
  go_ret
  exact ⟨by first | rfl | (simp [errW_none, errW_some] <;> rfl) | (simp [*, errW_none, errW_some] <;> rfl), bl HB.out⟩
 ·
  replace c4 := Bool.eq_false_iff.mpr c4
  subst c4
  have H1 : ((spec_DrawFleet.f k l0).bind fun bt420 => ((impl_Release.f bt420.1 bt420.2.1 bt420.2.2.1 bt420.2.2.2.1 bt420.2.2.2.2.1 bt420.2.2.2.2.2.1).bind fun bt436 => ((spec_Release.f bt420.1 bt420.2.1 bt420.2.2.1 bt420.2.2.2.1 bt420.2.2.2.2.1 bt420.2.2.2.2.2.1).bind fun bt438 => (if bt436.1 = bt438.1 then (laws_FnCarried.j0 k bt436.1 (bt436.2.toList != bt438.2.toList) bt420.1 bt420.2.1 bt420.2.2.1 bt420.2.2.2.1 bt420.2.2.2.2.1 bt420.2.2.2.2.2.1) else (laws_FnCarried.j0 k bt436.1 true bt420.1 bt420.2.1 bt420.2.2.1 bt420.2.2.2.1 bt420.2.2.2.2.1 bt420.2.2.2.2.2.1))))) = some r := by rw [if_neg (show ¬ (false = true) by decide)] at H; exact H
  clear H
  have H := H1
  clear H1
  replace H := Option.bind_eq_some_iff.mp H
  obtain ⟨⟨t420, t423, t426, t429, t430, t431, t432⟩, A50, H⟩ := H
  replace H : ((impl_Release.f t420 t423 t426 t429 t430 t431).bind fun bt436 => ((spec_Release.f t420 t423 t426 t429 t430 t431).bind fun bt438 => (if bt436.1 = bt438.1 then (laws_FnCarried.j0 k bt436.1 (bt436.2.toList != bt438.2.toList) t420 t423 t426 t429 t430 t431) else (laws_FnCarried.j0 k bt436.1 true t420 t423 t426 t429 t430 t431)))) = some r := H
  have A5 := Aside0.mk A50
  clear A50
  replace H := Option.bind_eq_some_iff.mp H
  obtain ⟨⟨t436, t437⟩, A60, H⟩ := H
  replace H : ((spec_Release.f t420 t423 t426 t429 t430 t431).bind fun bt438 => (if t436 = bt438.1 then (laws_FnCarried.j0 k t436 (t437.toList != bt438.2.toList) t420 t423 t426 t429 t430 t431) else (laws_FnCarried.j0 k t436 true t420 t423 t426 t429 t430 t431))) = some r := H
  have A6 := Aside0.mk A60
  clear A60
  replace H := Option.bind_eq_some_iff.mp H
  obtain ⟨⟨t438, t439⟩, A70, H⟩ := H
  replace H : (if t436 = t438 then (laws_FnCarried.j0 k t436 (t437.toList != t439.toList) t420 t423 t426 t429 t430 t431) else (laws_FnCarried.j0 k t436 true t420 t423 t426 t429 t430 t431)) = some r := H
  have A7 := Aside0.mk A70
  clear A70
  have HC8 := Aside0.mk H
  clear H
  go_upto_region 6 with (first | ((with_reducible refine gate_callee (f := 38) rfl ?_); refine goesL_ (some 23) rfl rfl Try.func38 (by kernel_rfl) rfl #[.slice A0 l0.length c0] rfl (by (try simp only [am_]); first | done | rfl) ?_; (with_reducible refine (spec_DrawFleet.calls k _ _ l0 t420 t423 t426 t429 t430 t431 t432 _ ?side1 ?side2 A5.out).mono ?_); (case side1 => exact rc (Kd.C_below HR0.out HB.out)); (case side2 => exact HC0.out); rintro e w9 ⟨v421, v424, v427, v433, rfl, ho0, ho1, ho2, ho3, hb⟩; refine ⟨_, rfl, ?_⟩; have HO422 := Aside0.mk (Kd.R_lower ho0 (below_size (bl HB.out))); have HO425 := Aside0.mk (Kd.R_lower ho1 (below_size (bl HB.out))); have HO428 := Aside0.mk (Kd.R_lower ho2 (below_size (bl HB.out))); have HO434 := Aside0.mk (Kd.R_lower ho3 (below_size (bl HB.out))); replace HB := Aside0.mk (below_step (bl HB.out) hb); (try clear hb); (try clear hb2); (try clear hk); (try clear hi); (try clear ho0); (try clear ho1); (try clear ho2); (try clear ho3)) | ((with_reducible refine gate_dst (N := 3) rfl ?_); refine box_event ?hg (N := 3) ?hd (cs := #[.slice none 0 0, .slice none 0 0, .slice none 0 0, .int .i64 0, .int .i64 0, .int .i64 0]) (t := 56) ?hr ?_; (case hd => rfl); (case hg => rfl); (case hr => first | (go_simp; done) | (go_simp; rfl)); intro gb435 hg w10 hbox hb; replace HO422 := Aside0.mk (Kd.R_below (rl HO422.out) hb); replace HO425 := Aside0.mk (Kd.R_below (rl HO425.out) hb); replace HO428 := Aside0.mk (Kd.R_below (rl HO428.out) hb); replace HO434 := Aside0.mk (Kd.R_below (rl HO434.out) hb); have BK435 := Aside0.mk (hbox); have GW435 := Aside0.mk ((by rw [hg]; exact (below_size (bl HB.out)) : w.heap.size ≤ gb435)); have GE435 := GW435; replace HB := Aside0.mk (below_step (bl HB.out) hb); clear hb hbox hg; obtain ⟨Ao11, co11, eo11⟩ := Kd.R_slice HO422.out; subst eo11; obtain ⟨hcz12_0, hcz12_1, hcz12_2, hcz12_3, hcz12_4, hcz12_5⟩ := ck6 BK435.out; obtain ⟨hfz12_0, hfz12_1, hfz12_2, hfz12_3, hfz12_4, hfz12_5⟩ := fz6 BK435.out; obtain ⟨Ao13, co13, eo13⟩ := Kd.R_slice HO425.out; subst eo13; obtain ⟨Ao14, co14, eo14⟩ := Kd.R_slice HO428.out; subst eo14) | ((with_reducible refine gate_callee (f := 36) rfl ?_); refine goesL_ (some 28) rfl rfl Try.func36 (by kernel_rfl) rfl #[.agg #[.slice Ao11 t420.length co11, .slice Ao13 t423.length co13, .slice Ao14 t426.length co14, .int .i64 t429, .int .i64 t430, .int .i64 t431]] rfl (by (try simp only [am_]); first | done | rfl) ?_; (with_reducible refine (impl_Release.calls _ _ t420 _ _ t423 _ _ t426 t429 t430 t431 t436 t437 _ ?side1 ?side2 ?side3 ?side4 ?side5 ?side6 A6.out).mono ?_); (case side1 => refine (Kd.R_reads' (e := 33) (base := w.heap.size) (ok := fun k_ => True) (n := t420.length) (c := co11) ?_).2.2; exact (by (repeat apply rl1); exact (Kd.R_mono (Kd.R_far (p := ⟨gb435, 5, none⟩) (Kd.R_far (p := ⟨gb435, 4, none⟩) (Kd.R_far (p := ⟨gb435, 3, none⟩) (Kd.R_far (p := ⟨gb435, 2, none⟩) (Kd.R_far (p := ⟨gb435, 1, none⟩) (Kd.R_far (p := ⟨gb435, 0, none⟩) (Kd.R_types HO422.out BK435.out (by decide)) (fun _ hk => hk.2) (.slice Ao11 t420.length co11)) (fun _ hk => hk.2) (.slice Ao13 t423.length co13)) (fun _ hk => hk.2) (.slice Ao14 t426.length co14)) (fun _ hk => hk.2) (.int .i64 t429)) (fun _ hk => hk.2) (.int .i64 t430)) (fun _ hk => hk.2) (.int .i64 t431)) (fun _ h_ => h_.1)))); (case side2 => exact (Kd.R_reads' HO422.out).2.1); (case side3 => refine (Kd.R_reads' (e := 70) (base := w.heap.size) (ok := fun k_ => True) (n := t423.length) (c := co13) ?_).2.2; exact (by (repeat apply rl1); exact (Kd.R_mono (Kd.R_far (p := ⟨gb435, 5, none⟩) (Kd.R_far (p := ⟨gb435, 4, none⟩) (Kd.R_far (p := ⟨gb435, 3, none⟩) (Kd.R_far (p := ⟨gb435, 2, none⟩) (Kd.R_far (p := ⟨gb435, 1, none⟩) (Kd.R_far (p := ⟨gb435, 0, none⟩) (Kd.R_types HO425.out BK435.out (by decide)) (fun _ hk => hk.2) (.slice Ao11 t420.length co11)) (fun _ hk => hk.2) (.slice Ao13 t423.length co13)) (fun _ hk => hk.2) (.slice Ao14 t426.length co14)) (fun _ hk => hk.2) (.int .i64 t429)) (fun _ hk => hk.2) (.int .i64 t430)) (fun _ hk => hk.2) (.int .i64 t431)) (fun _ h_ => h_.1)))); (case side4 => exact (Kd.R_reads' HO425.out).2.1); (case side5 => refine (Kd.R_reads' (e := 72) (base := w.heap.size) (ok := fun k_ => True) (n := t426.length) (c := co14) ?_).2.2; exact (by (repeat apply rl1); exact (Kd.R_mono (Kd.R_far (p := ⟨gb435, 5, none⟩) (Kd.R_far (p := ⟨gb435, 4, none⟩) (Kd.R_far (p := ⟨gb435, 3, none⟩) (Kd.R_far (p := ⟨gb435, 2, none⟩) (Kd.R_far (p := ⟨gb435, 1, none⟩) (Kd.R_far (p := ⟨gb435, 0, none⟩) (Kd.R_types HO428.out BK435.out (by decide)) (fun _ hk => hk.2) (.slice Ao11 t420.length co11)) (fun _ hk => hk.2) (.slice Ao13 t423.length co13)) (fun _ hk => hk.2) (.slice Ao14 t426.length co14)) (fun _ hk => hk.2) (.int .i64 t429)) (fun _ hk => hk.2) (.int .i64 t430)) (fun _ hk => hk.2) (.int .i64 t431)) (fun _ h_ => h_.1)))); (case side6 => exact (Kd.R_reads' HO428.out).2.1); rintro e w15 ⟨rfl, hb⟩; refine ⟨_, rfl, ?_⟩; replace HO422 := Aside0.mk (Kd.R_below (by (repeat apply rl1); exact (Kd.R_mono (Kd.R_far (p := ⟨gb435, 5, none⟩) (Kd.R_far (p := ⟨gb435, 4, none⟩) (Kd.R_far (p := ⟨gb435, 3, none⟩) (Kd.R_far (p := ⟨gb435, 2, none⟩) (Kd.R_far (p := ⟨gb435, 1, none⟩) (Kd.R_far (p := ⟨gb435, 0, none⟩) (Kd.R_types HO422.out BK435.out (by decide)) (fun _ hk => hk.2) (.slice Ao11 t420.length co11)) (fun _ hk => hk.2) (.slice Ao13 t423.length co13)) (fun _ hk => hk.2) (.slice Ao14 t426.length co14)) (fun _ hk => hk.2) (.int .i64 t429)) (fun _ hk => hk.2) (.int .i64 t430)) (fun _ hk => hk.2) (.int .i64 t431)) (fun _ h_ => h_.1))) hb); replace HO425 := Aside0.mk (Kd.R_below (by (repeat apply rl1); exact (Kd.R_mono (Kd.R_far (p := ⟨gb435, 5, none⟩) (Kd.R_far (p := ⟨gb435, 4, none⟩) (Kd.R_far (p := ⟨gb435, 3, none⟩) (Kd.R_far (p := ⟨gb435, 2, none⟩) (Kd.R_far (p := ⟨gb435, 1, none⟩) (Kd.R_far (p := ⟨gb435, 0, none⟩) (Kd.R_types HO425.out BK435.out (by decide)) (fun _ hk => hk.2) (.slice Ao11 t420.length co11)) (fun _ hk => hk.2) (.slice Ao13 t423.length co13)) (fun _ hk => hk.2) (.slice Ao14 t426.length co14)) (fun _ hk => hk.2) (.int .i64 t429)) (fun _ hk => hk.2) (.int .i64 t430)) (fun _ hk => hk.2) (.int .i64 t431)) (fun _ h_ => h_.1))) hb); replace HO428 := Aside0.mk (Kd.R_below (by (repeat apply rl1); exact (Kd.R_mono (Kd.R_far (p := ⟨gb435, 5, none⟩) (Kd.R_far (p := ⟨gb435, 4, none⟩) (Kd.R_far (p := ⟨gb435, 3, none⟩) (Kd.R_far (p := ⟨gb435, 2, none⟩) (Kd.R_far (p := ⟨gb435, 1, none⟩) (Kd.R_far (p := ⟨gb435, 0, none⟩) (Kd.R_types HO428.out BK435.out (by decide)) (fun _ hk => hk.2) (.slice Ao11 t420.length co11)) (fun _ hk => hk.2) (.slice Ao13 t423.length co13)) (fun _ hk => hk.2) (.slice Ao14 t426.length co14)) (fun _ hk => hk.2) (.int .i64 t429)) (fun _ hk => hk.2) (.int .i64 t430)) (fun _ hk => hk.2) (.int .i64 t431)) (fun _ h_ => h_.1))) hb); replace HO434 := Aside0.mk (Kd.R_below (by (repeat apply rl1); exact (Kd.R_mono (Kd.R_far (p := ⟨gb435, 5, none⟩) (Kd.R_far (p := ⟨gb435, 4, none⟩) (Kd.R_far (p := ⟨gb435, 3, none⟩) (Kd.R_far (p := ⟨gb435, 2, none⟩) (Kd.R_far (p := ⟨gb435, 1, none⟩) (Kd.R_far (p := ⟨gb435, 0, none⟩) (Kd.R_types HO434.out BK435.out (by decide)) (fun _ hk => hk.2) (.slice Ao11 t420.length co11)) (fun _ hk => hk.2) (.slice Ao13 t423.length co13)) (fun _ hk => hk.2) (.slice Ao14 t426.length co14)) (fun _ hk => hk.2) (.int .i64 t429)) (fun _ hk => hk.2) (.int .i64 t430)) (fun _ hk => hk.2) (.int .i64 t431)) (fun _ h_ => h_.1))) hb); replace BK435 := Aside0.mk (blk_below (g := gb435) (o := .cells #[.slice Ao11 t420.length co11, .slice Ao13 t423.length co13, .slice Ao14 t426.length co14, .int .i64 t429, .int .i64 t430, .int .i64 t431] 56 (0, 0)) (by (repeat refine bk1 ?_); refine blk_put (cs := #[.slice Ao11 t420.length co11, .slice Ao13 t423.length co13, .slice Ao14 t426.length co14, .int .i64 t429, .int .i64 t430, .int .i64 0]) ?_ 5 _ rfl; (repeat refine bk1 ?_); refine blk_put (cs := #[.slice Ao11 t420.length co11, .slice Ao13 t423.length co13, .slice Ao14 t426.length co14, .int .i64 t429, .int .i64 0, .int .i64 0]) ?_ 4 _ rfl; (repeat refine bk1 ?_); refine blk_put (cs := #[.slice Ao11 t420.length co11, .slice Ao13 t423.length co13, .slice Ao14 t426.length co14, .int .i64 0, .int .i64 0, .int .i64 0]) ?_ 3 _ rfl; (repeat refine bk1 ?_); refine blk_put (cs := #[.slice Ao11 t420.length co11, .slice Ao13 t423.length co13, .slice none 0 0, .int .i64 0, .int .i64 0, .int .i64 0]) ?_ 2 _ rfl; (repeat refine bk1 ?_); refine blk_put (cs := #[.slice Ao11 t420.length co11, .slice none 0 0, .slice none 0 0, .int .i64 0, .int .i64 0, .int .i64 0]) ?_ 1 _ rfl; (repeat refine bk1 ?_); refine blk_put (cs := #[.slice none 0 0, .slice none 0 0, .slice none 0 0, .int .i64 0, .int .i64 0, .int .i64 0]) ?_ 0 _ rfl; (repeat refine bk1 ?_); exact BK435.out) hb); replace HB := Aside0.mk (below_step (by repeat with_reducible first | exact bl HB.out | refine below_set ?_ GE435.out | refine bq ?_) hb); (try clear hb); (try clear hb2); (try clear hk); (try clear hi); obtain ⟨hcz16_0, hcz16_1, hcz16_2, hcz16_3, hcz16_4, hcz16_5⟩ := ck6 BK435.out; obtain ⟨hfz16_0, hfz16_1, hfz16_2, hfz16_3, hfz16_4, hfz16_5⟩ := fz6 BK435.out) | ((with_reducible refine gate_callee (f := 35) rfl ?_); refine goesL_ (some 33) rfl rfl Try.func35 (by kernel_rfl) rfl #[.agg #[.slice Ao11 t420.length co11, .slice Ao13 t423.length co13, .slice Ao14 t426.length co14, .int .i64 t429, .int .i64 t430, .int .i64 t431]] rfl (by (try simp only [am_]); first | done | rfl) ?_; (with_reducible refine (spec_Release.calls _ _ t420 _ _ t423 _ _ t426 t429 t430 t431 t438 t439 _ ?side1 ?side2 ?side3 ?side4 ?side5 ?side6 A7.out).mono ?_); (case side1 => exact rc (Kd.R_reads' HO422.out).2.2); (case side2 => exact (Kd.R_reads' HO422.out).2.1); (case side3 => exact rc (Kd.R_reads' HO425.out).2.2); (case side4 => exact (Kd.R_reads' HO425.out).2.1); (case side5 => exact rc (Kd.R_reads' HO428.out).2.2); (case side6 => exact (Kd.R_reads' HO428.out).2.1); rintro e w17 ⟨rfl, hb⟩; refine ⟨_, rfl, ?_⟩; replace HO422 := Aside0.mk (Kd.R_below (rl HO422.out) hb); replace HO425 := Aside0.mk (Kd.R_below (rl HO425.out) hb); replace HO428 := Aside0.mk (Kd.R_below (rl HO428.out) hb); replace HO434 := Aside0.mk (Kd.R_below (rl HO434.out) hb); replace BK435 := Aside0.mk (blk_below (bk BK435.out) hb); replace HB := Aside0.mk (below_step (by repeat with_reducible first | exact bl HB.out | refine below_set ?_ GE435.out | refine bq ?_) hb); (try clear hb); (try clear hb2); (try clear hk); (try clear hi)))
  (try simp only [Act.put, List.setIfInBounds_toArray, List.set_cons_zero, List.set_cons_succ])
  go_cut [43] (fun v43 wc => ∃ (kq : Nat) (x43_7 : Bool), v43 = .bool x43_7 ∧ Aside0 (laws_FnCarried.j0 kq t436 x43_7 t420 t423 t426 t429 t430 t431 = some r) ∧ Aside0 (kq ≤ k) ∧ Aside0 (Kd.R k33 33 wc w.heap.size (fun _ => True) (.slice Ao11 t420.length co11) t420) ∧ Aside0 (Kd.R k70 70 wc w.heap.size (fun _ => True) (.slice Ao13 t423.length co13) t423) ∧ Aside0 (Kd.R k72 72 wc w.heap.size (fun _ => True) (.slice Ao14 t426.length co14) t426) ∧ Aside0 (wc.heap[gb435]? = some (.cells #[(.slice Ao11 t420.length co11), (.slice Ao13 t423.length co13), (.slice Ao14 t426.length co14), .int .i64 t429, .int .i64 t430, .int .i64 t431] 56 (0, 0))) ∧ Aside0 (Below w.heap.size w wc))
  case first =>
   have H := HC8.out
   clear HC8
   by_cases c18 : t436 = t438
   ·
    rw [if_pos c18] at H
    have c18b0 : (t436 == t438) = true := beq_iff_eq.mpr c18
    have c18b1 : (t436 != t438) = false := bne_eq_false_iff_eq.mpr c18
    clear c18
    (first | rw [c18b0] | (simp only [i64_w, i32_w]; rw [c18b0]) | skip)
    have H' := Aside0.mk H
    clear H
    go_wp2
    go_meet
    case rel => exact ⟨_, ((t437.toList != t439.toList)), (by first | rfl | (simp; done) | (simp [*]; done)), H', ⟨by first | omega | exact Nat.le_refl _⟩, ⟨rl HO422.out⟩, ⟨rl HO425.out⟩, ⟨rl HO428.out⟩, ⟨bk BK435.out⟩, ⟨by repeat with_reducible first | exact bl HB.out | refine below_set ?_ GE435.out | refine bq ?_⟩⟩
   ·
    rw [if_neg c18] at H
    have c18b0 : (t436 == t438) = false := beq_eq_false_iff_ne.mpr c18
    have c18b1 : (t436 != t438) = true := bne_iff_ne.mpr c18
    (first | rw [c18b0] | (simp only [i64_w, i32_w]; rw [c18b0]) | skip)
    have H' := Aside0.mk H
    clear H
    go_wp2
    go_meet
    case rel => exact ⟨_, (true), (by first | rfl | (simp; done) | (simp [*]; done)), H', ⟨by first | omega | exact Nat.le_refl _⟩, ⟨rl HO422.out⟩, ⟨rl HO425.out⟩, ⟨rl HO428.out⟩, ⟨bk BK435.out⟩, ⟨by repeat with_reducible first | exact bl HB.out | refine below_set ?_ GE435.out | refine bq ?_⟩⟩
  case rest =>
   clear HC8
   try clear c1
   try clear p2
   try clear c3
   try clear c4
   try clear c10
   try clear c18
   try clear c18b0
   try clear c18b1
   try clear hcz12_0 hcz12_1 hcz12_2 hcz12_3 hcz12_4 hcz12_5 hfz12_0 hfz12_1 hfz12_2 hfz12_3 hfz12_4 hfz12_5
   try clear hcz16_0 hcz16_1 hcz16_2 hcz16_3 hcz16_4 hcz16_5 hfz16_0 hfz16_1 hfz16_2 hfz16_3 hfz16_4 hfz16_5
   obtain ⟨kq, x43_7, rfl, HA, HJ7, HO_436000, HO_436001, HO_436002, BK435, HB⟩ := hcut
   cases kq with
   | zero => exact absurd HA.out (by simp [laws_FnCarried.j0])
   | succ kj7 =>
    have H := HA.out
    clear HA
    simp only [laws_FnCarried.j0] at H
    by_cases c19 : x43_7 = true
    ·
     subst c19
     have H1 : (some false) = some r := by rw [if_pos rfl] at H; exact H
     clear H
     have H := H1
     clear H1
     cases H.trans (congrArg some hr_)
    ·
     replace c19 := Bool.eq_false_iff.mpr c19
     subst c19
     have H1 : ((impl_NextDue.f kj7 t420 t423 t426 t429 t430 t431).bind fun bt440 => (laws_FnCarried.l0 kj7 t436 bt440.1 bt440.2.1 bt440.2.2 0 t420 t423 t426 t429 t430 t431)) = some r := by rw [if_neg (show ¬ (false = true) by decide)] at H; exact H
     clear H
     have H := H1
     clear H1
     replace H := Option.bind_eq_some_iff.mp H
     obtain ⟨⟨t440, t441, t442⟩, A200, H⟩ := H
     replace H : (laws_FnCarried.l0 kj7 t436 t440 t441 t442 0 t420 t423 t426 t429 t430 t431) = some r := H
     have A20 := Aside0.mk A200
     clear A200
     have H' := Aside0.mk H
     clear H
     obtain ⟨hcz21_0, hcz21_1, hcz21_2, hcz21_3, hcz21_4, hcz21_5⟩ := ck6 BK435.out
     obtain ⟨hfz21_0, hfz21_1, hfz21_2, hfz21_3, hfz21_4, hfz21_5⟩ := fz6 BK435.out
     go_wp2_with (first | ((with_reducible refine gate_callee (f := 34) rfl ?_); refine goesL_ (some 46) rfl rfl Try.func34 (by kernel_rfl) rfl #[.agg #[.slice Ao11 t420.length co11, .slice Ao13 t423.length co13, .slice Ao14 t426.length co14, .int .i64 t429, .int .i64 t430, .int .i64 t431]] rfl (by (try simp only [am_]); first | done | rfl) ?_; (with_reducible refine (impl_NextDue.calls kj7 _ _ t420 _ _ t423 _ _ t426 t429 t430 t431 t440 t441 t442 _ ?side1 ?side2 ?side3 ?side4 ?side5 ?side6 A20.out).mono ?_); (case side1 => exact rc (Kd.R_reads' HO_436000.out).2.2); (case side2 => exact (Kd.R_reads' HO_436000.out).2.1); (case side3 => exact rc (Kd.R_reads' HO_436001.out).2.2); (case side4 => exact (Kd.R_reads' HO_436001.out).2.1); (case side5 => exact rc (Kd.R_reads' HO_436002.out).2.2); (case side6 => exact (Kd.R_reads' HO_436002.out).2.1); rintro e w22 ⟨rfl, hb⟩; refine ⟨_, rfl, ?_⟩; replace HO_436000 := Aside0.mk (Kd.R_below (rl HO_436000.out) hb); replace HO_436001 := Aside0.mk (Kd.R_below (rl HO_436001.out) hb); replace HO_436002 := Aside0.mk (Kd.R_below (rl HO_436002.out) hb); replace BK435 := Aside0.mk (blk_below (bk BK435.out) hb); replace HB := Aside0.mk (below_step (by repeat with_reducible first | exact bl HB.out | refine below_set ?_ GE435.out | refine bq ?_) hb); (try clear hb); (try clear hb2); (try clear hk); (try clear hi)))
     go_loopg [12] kj7 (fun kq v12 w' => ∃ (x12_2 : Int), v12 = .int .i64 x12_2 ∧ Aside0 (laws_FnCarried.l0 kq t436 t440 t441 t442 x12_2 t420 t423 t426 t429 t430 t431 = some r) ∧ Aside0 (kq ≤ kj7) ∧ Aside0 (Kd.R k33 33 w' w.heap.size (fun _ => True) (.slice Ao11 t420.length co11) t420) ∧ Aside0 (Kd.R k70 70 w' w.heap.size (fun _ => True) (.slice Ao13 t423.length co13) t423) ∧ Aside0 (Kd.R k72 72 w' w.heap.size (fun _ => True) (.slice Ao14 t426.length co14) t426) ∧ Aside0 (w'.heap[gb435]? = some (.cells #[(.slice Ao11 t420.length co11), (.slice Ao13 t423.length co13), (.slice Ao14 t426.length co14), .int .i64 t429, .int .i64 t430, .int .i64 t431] 56 (0, 0))) ∧ Aside0 (Below w.heap.size w w'))
     case atStart => exact ⟨(0), (by first | rfl | (simp; done) | (simp [*]; done)), H', ⟨Nat.le_refl _⟩, ⟨rl HO_436000.out⟩, ⟨rl HO_436001.out⟩, ⟨rl HO_436002.out⟩, ⟨bk BK435.out⟩, ⟨by repeat with_reducible first | exact bl HB.out | refine below_set ?_ GE435.out | refine bq ?_⟩⟩
     case round =>
      clear H'
      try clear c1
      try clear p2
      try clear c3
      try clear c4
      try clear c10
      try clear c18
      try clear c18b0
      try clear c18b1
      try clear c19
      try clear hcz12_0 hcz12_1 hcz12_2 hcz12_3 hcz12_4 hcz12_5 hfz12_0 hfz12_1 hfz12_2 hfz12_3 hfz12_4 hfz12_5
      try clear hcz16_0 hcz16_1 hcz16_2 hcz16_3 hcz16_4 hcz16_5 hfz16_0 hfz16_1 hfz16_2 hfz16_3 hfz16_4 hfz16_5
      try clear hcz21_0 hcz21_1 hcz21_2 hcz21_3 hcz21_4 hcz21_5 hfz21_0 hfz21_1 hfz21_2 hfz21_3 hfz21_4 hfz21_5
      try clear p2
      obtain ⟨x12_2, rfl, HA, HK2, HO_436000, HO_436001, HO_436002, BK435, HB⟩ := hrel
      cases gk with
      | zero => exact absurd HA.out (by simp [laws_FnCarried.l0])
      | succ k2 =>
       have H := HA.out
       clear HA
       simp only [laws_FnCarried.l0] at H
       by_cases c23 : x12_2 < (t420.length : Int)
       ·
        rw [if_pos c23] at H
        have c23b0 : decide (x12_2 < (t420.length : Int)) = true := decide_eq_true c23
        clear c23
        by_cases c24 : 0 ≤ x12_2
        ·
         rw [if_pos c24] at H
         have c24b0 : decide (0 ≤ x12_2) = true := decide_eq_true c24
         clear c24
         replace H := Option.bind_eq_some_iff.mp H
         obtain ⟨⟨t444, t445, t446, t447, t448⟩, A250, H⟩ := H
         replace H : (if t448 = true then (if t444 = true then (laws_FnCarried.j2 k2 t436 t440 t441 t442 x12_2 t444 (t436 == 0) t420 t423 t426 t429 t430 t431 t445 t446 t447) else (laws_FnCarried.j2 k2 t436 t440 t441 t442 x12_2 t444 false t420 t423 t426 t429 t430 t431 t445 t446 t447)) else (laws_FnCarried.j2 k2 t436 t440 t441 t442 x12_2 t444 true t420 t423 t426 t429 t430 t431 t445 t446 t447)) = some r := H
         have A25 := Aside0.mk A250
         clear A250
         have HC26 := Aside0.mk H
         clear H
         obtain ⟨hcz27_0, hcz27_1, hcz27_2, hcz27_3, hcz27_4, hcz27_5⟩ := ck6 BK435.out
         obtain ⟨hfz27_0, hfz27_1, hfz27_2, hfz27_3, hfz27_4, hfz27_5⟩ := fz6 BK435.out
         try go_wp2
         have n0_ := Aside0.mk (Kd.R_drew HO_436000.out)
         have n1_ := Aside0.mk (Kd.R_drew HO_436001.out)
         have n2_ := Aside0.mk (Kd.R_drew HO_436002.out)
         have n3_ := Aside0.mk (blk_drew BK435.out)
         have n4_ := Aside0.mk (below_drew1 HB.out)
         clear HO_436000
         clear HO_436001
         clear HO_436002
         clear BK435
         clear HB
         have HO_436000 := n0_
         have HO_436001 := n1_
         have HO_436002 := n2_
         have BK435 := n3_
         have HB := n4_
         clear n0_ n1_ n2_ n3_ n4_
         have p443 : 0 ≤ (x12_2 : Int) := of_decide_eq_true (by first | (with_reducible assumption) | assumption)
         have q443 : x12_2 < (t420.length : Int) := of_decide_eq_true (by first | (with_reducible assumption) | assumption)
         obtain ⟨ad443, e443, hx443_0, hx443_1, hx443_2, hx443_3, hx443_4, hx443_5, hx443_6⟩ := at_T33 (Kd.R_reads' HO_436000.out).2.2 x12_2 p443 q443
         cases e443
         replace p443 := eq_true p443
         replace q443 := eq_true q443
         refine start_ (n := 16) (S := fun w' => w'.cell? ⟨gb435, 0, none⟩ = some (.slice (some ad443) t420.length co11) ∧ w'.cell? ⟨gb435, 1, none⟩ = some (.slice Ao13 t423.length co13) ∧ w'.cell? ⟨gb435, 2, none⟩ = some (.slice Ao14 t426.length co14) ∧ w'.cell? ⟨gb435, 3, none⟩ = some (.int .i64 t429) ∧ w'.cell? ⟨gb435, 4, none⟩ = some (.int .i64 t430) ∧ w'.cell? ⟨gb435, 5, none⟩ = some (.int .i64 t431) ∧ w'.cell? (ad443.add ((x12_2).toNat * 7)) = some (.string ((rd_T33 t420 x12_2).f0)) ∧ w'.cell? ⟨(ad443.add ((x12_2).toNat * 7)).block, (ad443.add ((x12_2).toNat * 7)).off + 1, none⟩ = some (.int .i64 ((rd_T33 t420 x12_2).f1)) ∧ w'.cell? ⟨(ad443.add ((x12_2).toNat * 7)).block, (ad443.add ((x12_2).toNat * 7)).off + 2, none⟩ = some (.int .i64 ((rd_T33 t420 x12_2).f2)) ∧ w'.cell? ⟨(ad443.add ((x12_2).toNat * 7)).block, (ad443.add ((x12_2).toNat * 7)).off + 3, none⟩ = some (.int .i64 ((rd_T33 t420 x12_2).f3)) ∧ w'.cell? ⟨(ad443.add ((x12_2).toNat * 7)).block, (ad443.add ((x12_2).toNat * 7)).off + 4, none⟩ = some (.int .i64 ((rd_T33 t420 x12_2).f4.f0)) ∧ w'.cell? ⟨(ad443.add ((x12_2).toNat * 7)).block, (ad443.add ((x12_2).toNat * 7)).off + 5, none⟩ = some (.int .i64 ((rd_T33 t420 x12_2).f4.f1)) ∧ w'.cell? ⟨(ad443.add ((x12_2).toNat * 7)).block, (ad443.add ((x12_2).toNat * 7)).off + 6, none⟩ = some (.int .i64 ((rd_T33 t420 x12_2).f4.f2))) (ds := []) m0_16 (by kernel_rfl) rfl rfl ⟨ck BK435.out 0 rfl, ck BK435.out 1 rfl, ck BK435.out 2 rfl, ck BK435.out 3 rfl, ck BK435.out 4 rfl, ck BK435.out 5 rfl, hx443_0, hx443_1, hx443_2, hx443_3, hx443_4, hx443_5, hx443_6⟩ (fun hHeld => ?_); refine with_tabW laws_FnCarried.tab12 laws_FnCarried.bits12 (fun HT_ HW_ => ?_)
         generalize wr.drew = w28 at HO_436000 HO_436001 HO_436002 BK435 HB hx443_0 hx443_1 hx443_2 hx443_3 hx443_4 hx443_5 hx443_6 hHeld ⊢
         refine pq_ HT_.out 0 58 m1_16 ?_
         refine pq_ HT_.out 2 60 n91 ?_
         refine pq_ HT_.out 5 63 n92 ?_
         refine tk_ HT_.out HW_.out 1 59 n152 rfl rfl (by kernel_rfl) (by rfl) (by rintro w' ⟨s0, s1, s2, s3, s4, s5, s6, s7, s8, s9, s10, s11, s12⟩; go_simp; with_reducible rfl) hHeld (by simp only [sp_]; rfl) (fun _ _ _ h => h) ?_
         refine pq_ HT_.out 3 61 n93 ?_
         refine tk_ HT_.out HW_.out 4 62 m6_16 rfl rfl (by kernel_rfl) (by rfl) (by rintro w' ⟨s0, s1, s2, s3, s4, s5, s6, s7, s8, s9, s10, s11, s12⟩; go_simp; with_reducible rfl) hHeld (by simp only [sp_]; rfl) (fun _ _ _ h => h) ?_
         refine tk_ HT_.out HW_.out 6 64 m7_16 rfl rfl (by kernel_rfl) (by rfl) (by rintro w' ⟨s0, s1, s2, s3, s4, s5, s6, s7, s8, s9, s10, s11, s12⟩; go_simp; with_reducible rfl) hHeld (by simp only [sp_]; rfl) (fun _ _ _ h => h) ?_
         refine join_ (σ := Nat) 3 m13_16 (fun s_ => [(65, .tuple #[.bool t444, .agg #[.int .i64 t445, .int .i64 t446, .int .i64 t447], .bool t448]), (14, .pointer (some ⟨s_, 0, none⟩)), (57, .tuple #[.bool t444, .agg #[.int .i64 t445, .int .i64 t446, .int .i64 t447], .bool t448]), (66, .bool t444), (67, .agg #[.int .i64 t445, .int .i64 t446, .int .i64 t447]), (68, .bool t448)]) (fun s_ w' => (w'.cell? ⟨gb435, 0, none⟩ = some (.slice (some ad443) t420.length co11) ∧ w'.cell? ⟨gb435, 1, none⟩ = some (.slice Ao13 t423.length co13) ∧ w'.cell? ⟨gb435, 2, none⟩ = some (.slice Ao14 t426.length co14) ∧ w'.cell? ⟨gb435, 3, none⟩ = some (.int .i64 t429) ∧ w'.cell? ⟨gb435, 4, none⟩ = some (.int .i64 t430) ∧ w'.cell? ⟨gb435, 5, none⟩ = some (.int .i64 t431) ∧ w'.cell? (ad443.add ((x12_2).toNat * 7)) = some (.string ((rd_T33 t420 x12_2).f0)) ∧ w'.cell? ⟨(ad443.add ((x12_2).toNat * 7)).block, (ad443.add ((x12_2).toNat * 7)).off + 1, none⟩ = some (.int .i64 ((rd_T33 t420 x12_2).f1)) ∧ w'.cell? ⟨(ad443.add ((x12_2).toNat * 7)).block, (ad443.add ((x12_2).toNat * 7)).off + 2, none⟩ = some (.int .i64 ((rd_T33 t420 x12_2).f2)) ∧ w'.cell? ⟨(ad443.add ((x12_2).toNat * 7)).block, (ad443.add ((x12_2).toNat * 7)).off + 3, none⟩ = some (.int .i64 ((rd_T33 t420 x12_2).f3)) ∧ w'.cell? ⟨(ad443.add ((x12_2).toNat * 7)).block, (ad443.add ((x12_2).toNat * 7)).off + 4, none⟩ = some (.int .i64 ((rd_T33 t420 x12_2).f4.f0)) ∧ w'.cell? ⟨(ad443.add ((x12_2).toNat * 7)).block, (ad443.add ((x12_2).toNat * 7)).off + 5, none⟩ = some (.int .i64 ((rd_T33 t420 x12_2).f4.f1)) ∧ w'.cell? ⟨(ad443.add ((x12_2).toNat * 7)).block, (ad443.add ((x12_2).toNat * 7)).off + 6, none⟩ = some (.int .i64 ((rd_T33 t420 x12_2).f4.f2))) ∧ (Kd.R k33 33 w' w.heap.size (fun _ => True) (.slice (some ad443) t420.length co11) t420) ∧ (Kd.R k70 70 w' w.heap.size (fun _ => True) (.slice Ao13 t423.length co13) t423) ∧ (Kd.R k72 72 w' w.heap.size (fun _ => True) (.slice Ao14 t426.length co14) t426) ∧ (w'.heap[gb435]? = some (.cells #[.slice (some ad443) t420.length co11, .slice Ao13 t423.length co13, .slice Ao14 t426.length co14, .int .i64 t429, .int .i64 t430, .int .i64 t431] 56 (0, 0))) ∧ (w'.heap[s_]? = some (.cells #[.int .i64 0, .int .i64 0, .int .i64 0] 25 (0, 0))) ∧ (w.heap.size ≤ s_) ∧ (w.heap.size ≤ s_) ∧ (gb435 ≠ s_) ∧ (s_ ≠ gb435) ∧ (Below w.heap.size w w')) ?_ ?_
         rotate_left
         ·
          intro hCont
          refine two_ (i := 7) (j := 12) (Ni := some 65) (Nj := some 14) m8_16 n162 rfl rfl rfl rfl (two_of HT_.out (by kernel_rfl)) (by decide) (by decide) (fun K hK => ?_) (fun K hK => ?_)
          ·
           skip
           refine goes_ Try.func26 (by kernel_rfl) rfl #[.agg #[.string ((rd_T33 t420 x12_2).f0), .int .i64 ((rd_T33 t420 x12_2).f1), .int .i64 ((rd_T33 t420 x12_2).f2), .int .i64 ((rd_T33 t420 x12_2).f3), .int .i64 ((rd_T33 t420 x12_2).f4.f0), .int .i64 ((rd_T33 t420 x12_2).f4.f1), .int .i64 ((rd_T33 t420 x12_2).f4.f2)], .agg #[.int .i64 t429, .int .i64 t430, .int .i64 t431]] (by rfl) rfl rfl (by (try simp only [am_]); first | done | rfl) ?_
           with_reducible refine (impl_Due19.calls k2 ((rd_T33 t420 x12_2).f0) ((rd_T33 t420 x12_2).f1) ((rd_T33 t420 x12_2).f2) ((rd_T33 t420 x12_2).f3) ((rd_T33 t420 x12_2).f4.f0) ((rd_T33 t420 x12_2).f4.f1) ((rd_T33 t420 x12_2).f4.f2) t429 t430 t431 t444 t445 t446 t447 t448 _ A25.out).mono ?_
           rintro e w29 ⟨rfl, hb⟩
           have HS6_ := (hb.cell (World.block_lt_of_cell? _ _ (hHeld.2.2.2.2.2.2.1))).trans (hHeld.2.2.2.2.2.2.1)
           have HS7_ := (hb.cell (World.block_lt_of_cell? _ _ (hHeld.2.2.2.2.2.2.2.1))).trans (hHeld.2.2.2.2.2.2.2.1)
           have HS8_ := (hb.cell (World.block_lt_of_cell? _ _ (hHeld.2.2.2.2.2.2.2.2.1))).trans (hHeld.2.2.2.2.2.2.2.2.1)
           have HS9_ := (hb.cell (World.block_lt_of_cell? _ _ (hHeld.2.2.2.2.2.2.2.2.2.1))).trans (hHeld.2.2.2.2.2.2.2.2.2.1)
           have HS10_ := (hb.cell (World.block_lt_of_cell? _ _ (hHeld.2.2.2.2.2.2.2.2.2.2.1))).trans (hHeld.2.2.2.2.2.2.2.2.2.2.1)
           have HS11_ := (hb.cell (World.block_lt_of_cell? _ _ (hHeld.2.2.2.2.2.2.2.2.2.2.2.1))).trans (hHeld.2.2.2.2.2.2.2.2.2.2.2.1)
           have HS12_ := (hb.cell (World.block_lt_of_cell? _ _ (hHeld.2.2.2.2.2.2.2.2.2.2.2.2))).trans (hHeld.2.2.2.2.2.2.2.2.2.2.2.2)
           refine ⟨_, rfl, ?_⟩
           have n0_ := Aside0.mk (Kd.R_below (rl HO_436000.out) hb)
           have n1_ := Aside0.mk (Kd.R_below (rl HO_436001.out) hb)
           have n2_ := Aside0.mk (Kd.R_below (rl HO_436002.out) hb)
           have n3_ := Aside0.mk (blk_below (bk BK435.out) hb)
           have n4_ := Aside0.mk (below_step (by repeat with_reducible first | exact bl HB.out | refine below_set ?_ GE435.out | refine bq ?_) hb)
           clear HO_436000
           clear HO_436001
           clear HO_436002
           clear BK435
           clear HB
           have HO_436000 := n0_
           have HO_436001 := n1_
           have HO_436002 := n2_
           have BK435 := n3_
           have HB := n4_
           clear n0_ n1_ n2_ n3_ n4_
           (try clear hb)
           (try clear hb2)
           (try clear hk)
           (try clear hi)
           refine hK.out _ _ ⟨ck BK435.out 0 rfl, ck BK435.out 1 rfl, ck BK435.out 2 rfl, ck BK435.out 3 rfl, ck BK435.out 4 rfl, ck BK435.out 5 rfl, HS6_, HS7_, HS8_, HS9_, HS10_, HS11_, HS12_⟩ (fun hHeld => ?_)
           clear hK K
           refine norm_ (a' := ?_) ?_ ?_
           rotate_left
           ·
            show Act.put _ (some 65) _ = _
            simp only [sp_]
            rfl
           refine pq_ HT_.out 8 57 m9_16 ?_
           refine pq_ HT_.out 9 66 m10_16 ?_
           refine pq_ HT_.out 10 67 m11_16 ?_
           refine pq_ HT_.out 11 68 m12_16 ?_
           refine one_ (i := 12) (N := some 14) m13_16 rfl rfl (one_of HT_.out (by kernel_rfl)) (by decide) (fun K hK => ?_)
           refine box_step ?hg (N := 14) ?hd (cs := #[.int .i64 0, .int .i64 0, .int .i64 0]) (t := 25) ?hr ?_; (case hd => rfl); (case hg => rfl); (case hr => first | (go_simp; done) | (go_simp; rfl))
           intro gb449 hg w30 hbox hb
           have HS6_ := (hb.cell (World.block_lt_of_cell? _ _ (hHeld.2.2.2.2.2.2.1))).trans (hHeld.2.2.2.2.2.2.1)
           have HS7_ := (hb.cell (World.block_lt_of_cell? _ _ (hHeld.2.2.2.2.2.2.2.1))).trans (hHeld.2.2.2.2.2.2.2.1)
           have HS8_ := (hb.cell (World.block_lt_of_cell? _ _ (hHeld.2.2.2.2.2.2.2.2.1))).trans (hHeld.2.2.2.2.2.2.2.2.1)
           have HS9_ := (hb.cell (World.block_lt_of_cell? _ _ (hHeld.2.2.2.2.2.2.2.2.2.1))).trans (hHeld.2.2.2.2.2.2.2.2.2.1)
           have HS10_ := (hb.cell (World.block_lt_of_cell? _ _ (hHeld.2.2.2.2.2.2.2.2.2.2.1))).trans (hHeld.2.2.2.2.2.2.2.2.2.2.1)
           have HS11_ := (hb.cell (World.block_lt_of_cell? _ _ (hHeld.2.2.2.2.2.2.2.2.2.2.2.1))).trans (hHeld.2.2.2.2.2.2.2.2.2.2.2.1)
           have HS12_ := (hb.cell (World.block_lt_of_cell? _ _ (hHeld.2.2.2.2.2.2.2.2.2.2.2.2))).trans (hHeld.2.2.2.2.2.2.2.2.2.2.2.2)
           have n0_ := Aside0.mk (Kd.R_below (rl HO_436000.out) hb)
           have n1_ := Aside0.mk (Kd.R_below (rl HO_436001.out) hb)
           have n2_ := Aside0.mk (Kd.R_below (rl HO_436002.out) hb)
           have n3_ := Aside0.mk (blk_below (bk BK435.out) hb)
           have n4_ := Aside0.mk (below_step (by repeat with_reducible first | exact bl HB.out | refine below_set ?_ GE435.out | refine bq ?_) hb)
           have n5_ := Aside0.mk (hbox)
           have n6_ := Aside0.mk ((by rw [hg]; exact (below_size (by repeat with_reducible first | exact bl HB.out | refine below_set ?_ GE435.out | refine bq ?_)) : w.heap.size ≤ gb449))
           have n7_ := Aside0.mk ((by rw [hg]; exact (below_size (by repeat with_reducible first | exact bl HB.out | refine below_set ?_ GE435.out | refine bq ?_)) : w.heap.size ≤ gb449))
           have n8_ := Aside0.mk ((by rw [hg]; exact Nat.ne_of_lt (blk_lt (g := gb435) (o := .cells #[.slice (some ad443) t420.length co11, .slice Ao13 t423.length co13, .slice Ao14 t426.length co14, .int .i64 t429, .int .i64 t430, .int .i64 t431] 56 (0, 0)) (bk BK435.out)) : gb435 ≠ gb449))
           have n9_ := Aside0.mk ((by rw [hg]; exact Nat.ne_of_gt (blk_lt (g := gb435) (o := .cells #[.slice (some ad443) t420.length co11, .slice Ao13 t423.length co13, .slice Ao14 t426.length co14, .int .i64 t429, .int .i64 t430, .int .i64 t431] 56 (0, 0)) (bk BK435.out)) : gb449 ≠ gb435))
           clear HO_436000
           clear HO_436001
           clear HO_436002
           clear BK435
           clear HB
           have HO_436000 := n0_
           have HO_436001 := n1_
           have HO_436002 := n2_
           have BK435 := n3_
           have HB := n4_
           have BK449 := n5_
           have GW449 := n6_
           have GE449 := n7_
           have NB435_449 := n8_
           have NB449_435 := n9_
           clear n0_ n1_ n2_ n3_ n4_ n5_ n6_ n7_ n8_ n9_
           clear hb hbox hg
           refine hK.out _ _ ⟨ck BK435.out 0 rfl, ck BK435.out 1 rfl, ck BK435.out 2 rfl, ck BK435.out 3 rfl, ck BK435.out 4 rfl, ck BK435.out 5 rfl, HS6_, HS7_, HS8_, HS9_, HS10_, HS11_, HS12_⟩ (fun hHeld => ?_)
           clear hK K
           refine norm_ (a' := ?_) ?_ ?_
           rotate_left
           ·
            show Act.put _ (some 14) _ = _
            simp only [sp_]
            rfl
           exact norm_ (by simp only [putAll, Act.put, List.setIfInBounds_toArray, List.set_cons_zero, List.set_cons_succ]) (hCont (gb449) _ ⟨hHeld, (rl HO_436000.out), (rl HO_436001.out), (rl HO_436002.out), (bk BK435.out), (bk BK449.out), GW449.out, GE449.out, NB435_449.out, NB449_435.out, (by repeat with_reducible first | exact bl HB.out | refine below_set ?_ GE435.out | refine below_set ?_ GE449.out | refine bq ?_)⟩)
          ·
           skip
           refine box_step ?hg (N := 14) ?hd (cs := #[.int .i64 0, .int .i64 0, .int .i64 0]) (t := 25) ?hr ?_; (case hd => rfl); (case hg => rfl); (case hr => first | (go_simp; done) | (go_simp; rfl))
           intro gb449 hg w29 hbox hb
           have HS6_ := (hb.cell (World.block_lt_of_cell? _ _ (hHeld.2.2.2.2.2.2.1))).trans (hHeld.2.2.2.2.2.2.1)
           have HS7_ := (hb.cell (World.block_lt_of_cell? _ _ (hHeld.2.2.2.2.2.2.2.1))).trans (hHeld.2.2.2.2.2.2.2.1)
           have HS8_ := (hb.cell (World.block_lt_of_cell? _ _ (hHeld.2.2.2.2.2.2.2.2.1))).trans (hHeld.2.2.2.2.2.2.2.2.1)
           have HS9_ := (hb.cell (World.block_lt_of_cell? _ _ (hHeld.2.2.2.2.2.2.2.2.2.1))).trans (hHeld.2.2.2.2.2.2.2.2.2.1)
           have HS10_ := (hb.cell (World.block_lt_of_cell? _ _ (hHeld.2.2.2.2.2.2.2.2.2.2.1))).trans (hHeld.2.2.2.2.2.2.2.2.2.2.1)
           have HS11_ := (hb.cell (World.block_lt_of_cell? _ _ (hHeld.2.2.2.2.2.2.2.2.2.2.2.1))).trans (hHeld.2.2.2.2.2.2.2.2.2.2.2.1)
           have HS12_ := (hb.cell (World.block_lt_of_cell? _ _ (hHeld.2.2.2.2.2.2.2.2.2.2.2.2))).trans (hHeld.2.2.2.2.2.2.2.2.2.2.2.2)
           have n0_ := Aside0.mk (Kd.R_below (rl HO_436000.out) hb)
           have n1_ := Aside0.mk (Kd.R_below (rl HO_436001.out) hb)
           have n2_ := Aside0.mk (Kd.R_below (rl HO_436002.out) hb)
           have n3_ := Aside0.mk (blk_below (bk BK435.out) hb)
           have n4_ := Aside0.mk (below_step (by repeat with_reducible first | exact bl HB.out | refine below_set ?_ GE435.out | refine bq ?_) hb)
           have n5_ := Aside0.mk (hbox)
           have n6_ := Aside0.mk ((by rw [hg]; exact (below_size (by repeat with_reducible first | exact bl HB.out | refine below_set ?_ GE435.out | refine bq ?_)) : w.heap.size ≤ gb449))
           have n7_ := Aside0.mk ((by rw [hg]; exact (below_size (by repeat with_reducible first | exact bl HB.out | refine below_set ?_ GE435.out | refine bq ?_)) : w.heap.size ≤ gb449))
           have n8_ := Aside0.mk ((by rw [hg]; exact Nat.ne_of_lt (blk_lt (g := gb435) (o := .cells #[.slice (some ad443) t420.length co11, .slice Ao13 t423.length co13, .slice Ao14 t426.length co14, .int .i64 t429, .int .i64 t430, .int .i64 t431] 56 (0, 0)) (bk BK435.out)) : gb435 ≠ gb449))
           have n9_ := Aside0.mk ((by rw [hg]; exact Nat.ne_of_gt (blk_lt (g := gb435) (o := .cells #[.slice (some ad443) t420.length co11, .slice Ao13 t423.length co13, .slice Ao14 t426.length co14, .int .i64 t429, .int .i64 t430, .int .i64 t431] 56 (0, 0)) (bk BK435.out)) : gb449 ≠ gb435))
           clear HO_436000
           clear HO_436001
           clear HO_436002
           clear BK435
           clear HB
           have HO_436000 := n0_
           have HO_436001 := n1_
           have HO_436002 := n2_
           have BK435 := n3_
           have HB := n4_
           have BK449 := n5_
           have GW449 := n6_
           have GE449 := n7_
           have NB435_449 := n8_
           have NB449_435 := n9_
           clear n0_ n1_ n2_ n3_ n4_ n5_ n6_ n7_ n8_ n9_
           clear hb hbox hg
           refine hK.out _ _ ⟨ck BK435.out 0 rfl, ck BK435.out 1 rfl, ck BK435.out 2 rfl, ck BK435.out 3 rfl, ck BK435.out 4 rfl, ck BK435.out 5 rfl, HS6_, HS7_, HS8_, HS9_, HS10_, HS11_, HS12_⟩ (fun hHeld => ?_)
           clear hK K
           refine norm_ (a' := ?_) ?_ ?_
           rotate_left
           ·
            show Act.put _ (some 14) _ = _
            simp only [sp_]
            rfl
           refine one_ (i := 7) (N := some 65) n163 rfl rfl (one_of HT_.out (by kernel_rfl)) (by decide) (fun K hK => ?_)
           refine goes_ Try.func26 (by kernel_rfl) rfl #[.agg #[.string ((rd_T33 t420 x12_2).f0), .int .i64 ((rd_T33 t420 x12_2).f1), .int .i64 ((rd_T33 t420 x12_2).f2), .int .i64 ((rd_T33 t420 x12_2).f3), .int .i64 ((rd_T33 t420 x12_2).f4.f0), .int .i64 ((rd_T33 t420 x12_2).f4.f1), .int .i64 ((rd_T33 t420 x12_2).f4.f2)], .agg #[.int .i64 t429, .int .i64 t430, .int .i64 t431]] (by rfl) rfl rfl (by (try simp only [am_]); first | done | rfl) ?_
           with_reducible refine (impl_Due19.calls k2 ((rd_T33 t420 x12_2).f0) ((rd_T33 t420 x12_2).f1) ((rd_T33 t420 x12_2).f2) ((rd_T33 t420 x12_2).f3) ((rd_T33 t420 x12_2).f4.f0) ((rd_T33 t420 x12_2).f4.f1) ((rd_T33 t420 x12_2).f4.f2) t429 t430 t431 t444 t445 t446 t447 t448 _ A25.out).mono ?_
           rintro e w30 ⟨rfl, hb⟩
           have HS6_ := (hb.cell (World.block_lt_of_cell? _ _ (hHeld.2.2.2.2.2.2.1))).trans (hHeld.2.2.2.2.2.2.1)
           have HS7_ := (hb.cell (World.block_lt_of_cell? _ _ (hHeld.2.2.2.2.2.2.2.1))).trans (hHeld.2.2.2.2.2.2.2.1)
           have HS8_ := (hb.cell (World.block_lt_of_cell? _ _ (hHeld.2.2.2.2.2.2.2.2.1))).trans (hHeld.2.2.2.2.2.2.2.2.1)
           have HS9_ := (hb.cell (World.block_lt_of_cell? _ _ (hHeld.2.2.2.2.2.2.2.2.2.1))).trans (hHeld.2.2.2.2.2.2.2.2.2.1)
           have HS10_ := (hb.cell (World.block_lt_of_cell? _ _ (hHeld.2.2.2.2.2.2.2.2.2.2.1))).trans (hHeld.2.2.2.2.2.2.2.2.2.2.1)
           have HS11_ := (hb.cell (World.block_lt_of_cell? _ _ (hHeld.2.2.2.2.2.2.2.2.2.2.2.1))).trans (hHeld.2.2.2.2.2.2.2.2.2.2.2.1)
           have HS12_ := (hb.cell (World.block_lt_of_cell? _ _ (hHeld.2.2.2.2.2.2.2.2.2.2.2.2))).trans (hHeld.2.2.2.2.2.2.2.2.2.2.2.2)
           refine ⟨_, rfl, ?_⟩
           have n0_ := Aside0.mk (Kd.R_below (rl HO_436000.out) hb)
           have n1_ := Aside0.mk (Kd.R_below (rl HO_436001.out) hb)
           have n2_ := Aside0.mk (Kd.R_below (rl HO_436002.out) hb)
           have n3_ := Aside0.mk (blk_below (bk BK435.out) hb)
           have n4_ := Aside0.mk (blk_below (bk BK449.out) hb)
           have n5_ := Aside0.mk (below_step (by repeat with_reducible first | exact bl HB.out | refine below_set ?_ GE435.out | refine below_set ?_ GE449.out | refine bq ?_) hb)
           clear HO_436000
           clear HO_436001
           clear HO_436002
           clear BK435
           clear BK449
           clear HB
           have HO_436000 := n0_
           have HO_436001 := n1_
           have HO_436002 := n2_
           have BK435 := n3_
           have BK449 := n4_
           have HB := n5_
           clear n0_ n1_ n2_ n3_ n4_ n5_
           (try clear hb)
           (try clear hb2)
           (try clear hk)
           (try clear hi)
           refine hK.out _ _ ⟨ck BK435.out 0 rfl, ck BK435.out 1 rfl, ck BK435.out 2 rfl, ck BK435.out 3 rfl, ck BK435.out 4 rfl, ck BK435.out 5 rfl, HS6_, HS7_, HS8_, HS9_, HS10_, HS11_, HS12_⟩ (fun hHeld => ?_)
           clear hK K
           refine norm_ (a' := ?_) ?_ ?_
           rotate_left
           ·
            show Act.put _ (some 65) _ = _
            simp only [sp_]
            rfl
           refine pq_ HT_.out 8 57 n98 ?_
           refine pq_ HT_.out 9 66 n99 ?_
           refine pq_ HT_.out 10 67 n100 ?_
           refine pq_ HT_.out 11 68 m13_16 ?_
           exact norm_ (by simp only [putAll, Act.put, List.setIfInBounds_toArray, List.set_cons_zero, List.set_cons_succ]) (hCont (gb449) _ ⟨hHeld, (rl HO_436000.out), (rl HO_436001.out), (rl HO_436002.out), (bk BK435.out), (bk BK449.out), GW449.out, GE449.out, NB435_449.out, NB449_435.out, (by repeat with_reducible first | exact bl HB.out | refine below_set ?_ GE435.out | refine below_set ?_ GE449.out | refine bq ?_)⟩)
         rintro gb449 w31 ⟨hS_, h0_, h1_, h2_, h3_, h4_, h5_, h6_, h7_, h8_, h9_⟩
         have n0_ : Aside0 (Kd.R k33 33 w31 w.heap.size (fun _ => True) (.slice (some ad443) t420.length co11) t420) := ⟨h0_⟩
         have n1_ : Aside0 (Kd.R k70 70 w31 w.heap.size (fun _ => True) (.slice Ao13 t423.length co13) t423) := ⟨h1_⟩
         have n2_ : Aside0 (Kd.R k72 72 w31 w.heap.size (fun _ => True) (.slice Ao14 t426.length co14) t426) := ⟨h2_⟩
         have n3_ : Aside0 (w31.heap[gb435]? = some (.cells #[.slice (some ad443) t420.length co11, .slice Ao13 t423.length co13, .slice Ao14 t426.length co14, .int .i64 t429, .int .i64 t430, .int .i64 t431] 56 (0, 0))) := ⟨h3_⟩
         have n4_ : Aside0 (w31.heap[gb449]? = some (.cells #[.int .i64 0, .int .i64 0, .int .i64 0] 25 (0, 0))) := ⟨h4_⟩
         have n5_ : Aside0 (w.heap.size ≤ gb449) := ⟨h5_⟩
         have n6_ : Aside0 (w.heap.size ≤ gb449) := ⟨h6_⟩
         have n7_ : Aside0 (gb435 ≠ gb449) := ⟨h7_⟩
         have n8_ : Aside0 (gb449 ≠ gb435) := ⟨h8_⟩
         have n9_ : Aside0 (Below w.heap.size w w31) := ⟨h9_⟩
         clear HO_436000
         clear HO_436001
         clear HO_436002
         clear BK435
         clear HB
         clear h0_ h1_ h2_ h3_ h4_ h5_ h6_ h7_ h8_ h9_
         have HO_436000 := n0_
         have HO_436001 := n1_
         have HO_436002 := n2_
         have BK435 := n3_
         have BK449 := n4_
         have GW449 := n5_
         have GE449 := n6_
         have NB435_449 := n7_
         have NB449_435 := n8_
         have HB := n9_
         clear n0_ n1_ n2_ n3_ n4_ n5_ n6_ n7_ n8_ n9_
         have hHeld : w31.cell? ⟨gb435, 0, none⟩ = some (.slice (some ad443) t420.length co11) ∧ w31.cell? ⟨gb435, 1, none⟩ = some (.slice Ao13 t423.length co13) ∧ w31.cell? ⟨gb435, 2, none⟩ = some (.slice Ao14 t426.length co14) ∧ w31.cell? ⟨gb435, 3, none⟩ = some (.int .i64 t429) ∧ w31.cell? ⟨gb435, 4, none⟩ = some (.int .i64 t430) ∧ w31.cell? ⟨gb435, 5, none⟩ = some (.int .i64 t431) ∧ w31.cell? (ad443.add ((x12_2).toNat * 7)) = some (.string ((rd_T33 t420 x12_2).f0)) ∧ w31.cell? ⟨(ad443.add ((x12_2).toNat * 7)).block, (ad443.add ((x12_2).toNat * 7)).off + 1, none⟩ = some (.int .i64 ((rd_T33 t420 x12_2).f1)) ∧ w31.cell? ⟨(ad443.add ((x12_2).toNat * 7)).block, (ad443.add ((x12_2).toNat * 7)).off + 2, none⟩ = some (.int .i64 ((rd_T33 t420 x12_2).f2)) ∧ w31.cell? ⟨(ad443.add ((x12_2).toNat * 7)).block, (ad443.add ((x12_2).toNat * 7)).off + 3, none⟩ = some (.int .i64 ((rd_T33 t420 x12_2).f3)) ∧ w31.cell? ⟨(ad443.add ((x12_2).toNat * 7)).block, (ad443.add ((x12_2).toNat * 7)).off + 4, none⟩ = some (.int .i64 ((rd_T33 t420 x12_2).f4.f0)) ∧ w31.cell? ⟨(ad443.add ((x12_2).toNat * 7)).block, (ad443.add ((x12_2).toNat * 7)).off + 5, none⟩ = some (.int .i64 ((rd_T33 t420 x12_2).f4.f1)) ∧ w31.cell? ⟨(ad443.add ((x12_2).toNat * 7)).block, (ad443.add ((x12_2).toNat * 7)).off + 6, none⟩ = some (.int .i64 ((rd_T33 t420 x12_2).f4.f2)) := hS_
         refine norm_ (a' := ?_) ?_ ?_
         rotate_left
         ·
          simp only [putAll, Act.put, List.setIfInBounds_toArray, List.set_cons_zero, List.set_cons_succ]
          rfl
         refine pq_ HT_.out 13 13 m14_16 ?_
         refine one_ (i := 14) (N := none) m15_16 rfl rfl (one_of HT_.out (by kernel_rfl)) (by decide) (fun K hK => ?_)
         have hs32 : w31.cell? ⟨gb449, 0, none⟩ = some (.int .i64 0) := ck BK449.out 0 rfl
         have hfs32 := blk_frozen BK449.out 0
         have hns32_0 := NB435_449.out
         have hms32_0 := NB449_435.out
         have hs33 : w31.cell? ⟨gb449, 1, none⟩ = some (.int .i64 0) := ck BK449.out 1 rfl
         have hfs33 := blk_frozen BK449.out 1
         have hns33_0 := NB435_449.out
         have hms33_0 := NB449_435.out
         have hs34 : w31.cell? ⟨gb449, 2, none⟩ = some (.int .i64 0) := ck BK449.out 2 rfl
         have hfs34 := blk_frozen BK449.out 2
         have hns34_0 := NB435_449.out
         have hms34_0 := NB449_435.out
         refine skip_ (w1 := ?_) (by rfl) rfl ?_ ?_
         rotate_left
         ·
          go_simp
          rfl
         refine hK.out _ _ ⟨((cell_far (p := ⟨gb449, _, none⟩) NB435_449.out _).trans (((cell_far (p := ⟨gb449, _, none⟩) NB435_449.out _).trans (((cell_far (p := ⟨gb449, _, none⟩) NB435_449.out _).trans (hHeld.1)))))), ((cell_far (p := ⟨gb449, _, none⟩) NB435_449.out _).trans (((cell_far (p := ⟨gb449, _, none⟩) NB435_449.out _).trans (((cell_far (p := ⟨gb449, _, none⟩) NB435_449.out _).trans (hHeld.2.1)))))), ((cell_far (p := ⟨gb449, _, none⟩) NB435_449.out _).trans (((cell_far (p := ⟨gb449, _, none⟩) NB435_449.out _).trans (((cell_far (p := ⟨gb449, _, none⟩) NB435_449.out _).trans (hHeld.2.2.1)))))), ((cell_far (p := ⟨gb449, _, none⟩) NB435_449.out _).trans (((cell_far (p := ⟨gb449, _, none⟩) NB435_449.out _).trans (((cell_far (p := ⟨gb449, _, none⟩) NB435_449.out _).trans (hHeld.2.2.2.1)))))), ((cell_far (p := ⟨gb449, _, none⟩) NB435_449.out _).trans (((cell_far (p := ⟨gb449, _, none⟩) NB435_449.out _).trans (((cell_far (p := ⟨gb449, _, none⟩) NB435_449.out _).trans (hHeld.2.2.2.2.1)))))), ((cell_far (p := ⟨gb449, _, none⟩) NB435_449.out _).trans (((cell_far (p := ⟨gb449, _, none⟩) NB435_449.out _).trans (((cell_far (p := ⟨gb449, _, none⟩) NB435_449.out _).trans (hHeld.2.2.2.2.2.1)))))), ((cell_far (p := ⟨gb449, _, none⟩) (by first | exact Kd.own_blk (Kd.R_ne HO_436000.out BK449.out (by decide)) | (rw [add_block]; exact Kd.own_blk (Kd.R_ne HO_436000.out BK449.out (by decide))) | (show (Addr.add _ _).block ≠ _; rw [add_block]; exact Kd.own_blk (Kd.R_ne HO_436000.out BK449.out (by decide))) | (dsimp only; exact Kd.own_blk (Kd.R_ne HO_436000.out BK449.out (by decide)))) _).trans (((cell_far (p := ⟨gb449, _, none⟩) (by first | exact Kd.own_blk (Kd.R_ne HO_436000.out BK449.out (by decide)) | (rw [add_block]; exact Kd.own_blk (Kd.R_ne HO_436000.out BK449.out (by decide))) | (show (Addr.add _ _).block ≠ _; rw [add_block]; exact Kd.own_blk (Kd.R_ne HO_436000.out BK449.out (by decide))) | (dsimp only; exact Kd.own_blk (Kd.R_ne HO_436000.out BK449.out (by decide)))) _).trans (((cell_far (p := ⟨gb449, _, none⟩) (by first | exact Kd.own_blk (Kd.R_ne HO_436000.out BK449.out (by decide)) | (rw [add_block]; exact Kd.own_blk (Kd.R_ne HO_436000.out BK449.out (by decide))) | (show (Addr.add _ _).block ≠ _; rw [add_block]; exact Kd.own_blk (Kd.R_ne HO_436000.out BK449.out (by decide))) | (dsimp only; exact Kd.own_blk (Kd.R_ne HO_436000.out BK449.out (by decide)))) _).trans (hHeld.2.2.2.2.2.2.1)))))), ((cell_far (p := ⟨gb449, _, none⟩) (by first | exact Kd.own_blk (Kd.R_ne HO_436000.out BK449.out (by decide)) | (rw [add_block]; exact Kd.own_blk (Kd.R_ne HO_436000.out BK449.out (by decide))) | (show (Addr.add _ _).block ≠ _; rw [add_block]; exact Kd.own_blk (Kd.R_ne HO_436000.out BK449.out (by decide))) | (dsimp only; exact Kd.own_blk (Kd.R_ne HO_436000.out BK449.out (by decide)))) _).trans (((cell_far (p := ⟨gb449, _, none⟩) (by first | exact Kd.own_blk (Kd.R_ne HO_436000.out BK449.out (by decide)) | (rw [add_block]; exact Kd.own_blk (Kd.R_ne HO_436000.out BK449.out (by decide))) | (show (Addr.add _ _).block ≠ _; rw [add_block]; exact Kd.own_blk (Kd.R_ne HO_436000.out BK449.out (by decide))) | (dsimp only; exact Kd.own_blk (Kd.R_ne HO_436000.out BK449.out (by decide)))) _).trans (((cell_far (p := ⟨gb449, _, none⟩) (by first | exact Kd.own_blk (Kd.R_ne HO_436000.out BK449.out (by decide)) | (rw [add_block]; exact Kd.own_blk (Kd.R_ne HO_436000.out BK449.out (by decide))) | (show (Addr.add _ _).block ≠ _; rw [add_block]; exact Kd.own_blk (Kd.R_ne HO_436000.out BK449.out (by decide))) | (dsimp only; exact Kd.own_blk (Kd.R_ne HO_436000.out BK449.out (by decide)))) _).trans (hHeld.2.2.2.2.2.2.2.1)))))), ((cell_far (p := ⟨gb449, _, none⟩) (by first | exact Kd.own_blk (Kd.R_ne HO_436000.out BK449.out (by decide)) | (rw [add_block]; exact Kd.own_blk (Kd.R_ne HO_436000.out BK449.out (by decide))) | (show (Addr.add _ _).block ≠ _; rw [add_block]; exact Kd.own_blk (Kd.R_ne HO_436000.out BK449.out (by decide))) | (dsimp only; exact Kd.own_blk (Kd.R_ne HO_436000.out BK449.out (by decide)))) _).trans (((cell_far (p := ⟨gb449, _, none⟩) (by first | exact Kd.own_blk (Kd.R_ne HO_436000.out BK449.out (by decide)) | (rw [add_block]; exact Kd.own_blk (Kd.R_ne HO_436000.out BK449.out (by decide))) | (show (Addr.add _ _).block ≠ _; rw [add_block]; exact Kd.own_blk (Kd.R_ne HO_436000.out BK449.out (by decide))) | (dsimp only; exact Kd.own_blk (Kd.R_ne HO_436000.out BK449.out (by decide)))) _).trans (((cell_far (p := ⟨gb449, _, none⟩) (by first | exact Kd.own_blk (Kd.R_ne HO_436000.out BK449.out (by decide)) | (rw [add_block]; exact Kd.own_blk (Kd.R_ne HO_436000.out BK449.out (by decide))) | (show (Addr.add _ _).block ≠ _; rw [add_block]; exact Kd.own_blk (Kd.R_ne HO_436000.out BK449.out (by decide))) | (dsimp only; exact Kd.own_blk (Kd.R_ne HO_436000.out BK449.out (by decide)))) _).trans (hHeld.2.2.2.2.2.2.2.2.1)))))), ((cell_far (p := ⟨gb449, _, none⟩) (by first | exact Kd.own_blk (Kd.R_ne HO_436000.out BK449.out (by decide)) | (rw [add_block]; exact Kd.own_blk (Kd.R_ne HO_436000.out BK449.out (by decide))) | (show (Addr.add _ _).block ≠ _; rw [add_block]; exact Kd.own_blk (Kd.R_ne HO_436000.out BK449.out (by decide))) | (dsimp only; exact Kd.own_blk (Kd.R_ne HO_436000.out BK449.out (by decide)))) _).trans (((cell_far (p := ⟨gb449, _, none⟩) (by first | exact Kd.own_blk (Kd.R_ne HO_436000.out BK449.out (by decide)) | (rw [add_block]; exact Kd.own_blk (Kd.R_ne HO_436000.out BK449.out (by decide))) | (show (Addr.add _ _).block ≠ _; rw [add_block]; exact Kd.own_blk (Kd.R_ne HO_436000.out BK449.out (by decide))) | (dsimp only; exact Kd.own_blk (Kd.R_ne HO_436000.out BK449.out (by decide)))) _).trans (((cell_far (p := ⟨gb449, _, none⟩) (by first | exact Kd.own_blk (Kd.R_ne HO_436000.out BK449.out (by decide)) | (rw [add_block]; exact Kd.own_blk (Kd.R_ne HO_436000.out BK449.out (by decide))) | (show (Addr.add _ _).block ≠ _; rw [add_block]; exact Kd.own_blk (Kd.R_ne HO_436000.out BK449.out (by decide))) | (dsimp only; exact Kd.own_blk (Kd.R_ne HO_436000.out BK449.out (by decide)))) _).trans (hHeld.2.2.2.2.2.2.2.2.2.1)))))), ((cell_far (p := ⟨gb449, _, none⟩) (by first | exact Kd.own_blk (Kd.R_ne HO_436000.out BK449.out (by decide)) | (rw [add_block]; exact Kd.own_blk (Kd.R_ne HO_436000.out BK449.out (by decide))) | (show (Addr.add _ _).block ≠ _; rw [add_block]; exact Kd.own_blk (Kd.R_ne HO_436000.out BK449.out (by decide))) | (dsimp only; exact Kd.own_blk (Kd.R_ne HO_436000.out BK449.out (by decide)))) _).trans (((cell_far (p := ⟨gb449, _, none⟩) (by first | exact Kd.own_blk (Kd.R_ne HO_436000.out BK449.out (by decide)) | (rw [add_block]; exact Kd.own_blk (Kd.R_ne HO_436000.out BK449.out (by decide))) | (show (Addr.add _ _).block ≠ _; rw [add_block]; exact Kd.own_blk (Kd.R_ne HO_436000.out BK449.out (by decide))) | (dsimp only; exact Kd.own_blk (Kd.R_ne HO_436000.out BK449.out (by decide)))) _).trans (((cell_far (p := ⟨gb449, _, none⟩) (by first | exact Kd.own_blk (Kd.R_ne HO_436000.out BK449.out (by decide)) | (rw [add_block]; exact Kd.own_blk (Kd.R_ne HO_436000.out BK449.out (by decide))) | (show (Addr.add _ _).block ≠ _; rw [add_block]; exact Kd.own_blk (Kd.R_ne HO_436000.out BK449.out (by decide))) | (dsimp only; exact Kd.own_blk (Kd.R_ne HO_436000.out BK449.out (by decide)))) _).trans (hHeld.2.2.2.2.2.2.2.2.2.2.1)))))), ((cell_far (p := ⟨gb449, _, none⟩) (by first | exact Kd.own_blk (Kd.R_ne HO_436000.out BK449.out (by decide)) | (rw [add_block]; exact Kd.own_blk (Kd.R_ne HO_436000.out BK449.out (by decide))) | (show (Addr.add _ _).block ≠ _; rw [add_block]; exact Kd.own_blk (Kd.R_ne HO_436000.out BK449.out (by decide))) | (dsimp only; exact Kd.own_blk (Kd.R_ne HO_436000.out BK449.out (by decide)))) _).trans (((cell_far (p := ⟨gb449, _, none⟩) (by first | exact Kd.own_blk (Kd.R_ne HO_436000.out BK449.out (by decide)) | (rw [add_block]; exact Kd.own_blk (Kd.R_ne HO_436000.out BK449.out (by decide))) | (show (Addr.add _ _).block ≠ _; rw [add_block]; exact Kd.own_blk (Kd.R_ne HO_436000.out BK449.out (by decide))) | (dsimp only; exact Kd.own_blk (Kd.R_ne HO_436000.out BK449.out (by decide)))) _).trans (((cell_far (p := ⟨gb449, _, none⟩) (by first | exact Kd.own_blk (Kd.R_ne HO_436000.out BK449.out (by decide)) | (rw [add_block]; exact Kd.own_blk (Kd.R_ne HO_436000.out BK449.out (by decide))) | (show (Addr.add _ _).block ≠ _; rw [add_block]; exact Kd.own_blk (Kd.R_ne HO_436000.out BK449.out (by decide))) | (dsimp only; exact Kd.own_blk (Kd.R_ne HO_436000.out BK449.out (by decide)))) _).trans (hHeld.2.2.2.2.2.2.2.2.2.2.2.1)))))), ((cell_far (p := ⟨gb449, _, none⟩) (by first | exact Kd.own_blk (Kd.R_ne HO_436000.out BK449.out (by decide)) | (rw [add_block]; exact Kd.own_blk (Kd.R_ne HO_436000.out BK449.out (by decide))) | (show (Addr.add _ _).block ≠ _; rw [add_block]; exact Kd.own_blk (Kd.R_ne HO_436000.out BK449.out (by decide))) | (dsimp only; exact Kd.own_blk (Kd.R_ne HO_436000.out BK449.out (by decide)))) _).trans (((cell_far (p := ⟨gb449, _, none⟩) (by first | exact Kd.own_blk (Kd.R_ne HO_436000.out BK449.out (by decide)) | (rw [add_block]; exact Kd.own_blk (Kd.R_ne HO_436000.out BK449.out (by decide))) | (show (Addr.add _ _).block ≠ _; rw [add_block]; exact Kd.own_blk (Kd.R_ne HO_436000.out BK449.out (by decide))) | (dsimp only; exact Kd.own_blk (Kd.R_ne HO_436000.out BK449.out (by decide)))) _).trans (((cell_far (p := ⟨gb449, _, none⟩) (by first | exact Kd.own_blk (Kd.R_ne HO_436000.out BK449.out (by decide)) | (rw [add_block]; exact Kd.own_blk (Kd.R_ne HO_436000.out BK449.out (by decide))) | (show (Addr.add _ _).block ≠ _; rw [add_block]; exact Kd.own_blk (Kd.R_ne HO_436000.out BK449.out (by decide))) | (dsimp only; exact Kd.own_blk (Kd.R_ne HO_436000.out BK449.out (by decide)))) _).trans (hHeld.2.2.2.2.2.2.2.2.2.2.2.2))))))⟩ (fun hHeld => ?_)
         clear hK K
         refine pq_ HT_.out 15 15 m16_16 ?_
         refine done_ (done_of HT_.out (by kernel_rfl)) ?_
         go_upto_region 13 with (fail)
         go_cut [77] (fun v77 wc => ∃ (kq : Nat) (x77_25 : Bool), v77 = .bool x77_25 ∧ Aside0 (laws_FnCarried.j2 kq t436 t440 t441 t442 x12_2 t444 x77_25 t420 t423 t426 t429 t430 t431 t445 t446 t447 = some r) ∧ Aside0 (kq ≤ k2) ∧ Aside0 (Kd.R k33 33 wc w.heap.size (fun _ => True) (.slice (some ad443) t420.length co11) t420) ∧ Aside0 (Kd.R k70 70 wc w.heap.size (fun _ => True) (.slice Ao13 t423.length co13) t423) ∧ Aside0 (Kd.R k72 72 wc w.heap.size (fun _ => True) (.slice Ao14 t426.length co14) t426) ∧ Aside0 (wc.heap[gb435]? = some (.cells #[(.slice (some ad443) t420.length co11), (.slice Ao13 t423.length co13), (.slice Ao14 t426.length co14), .int .i64 t429, .int .i64 t430, .int .i64 t431] 56 (0, 0))) ∧ Aside0 (wc.heap[gb449]? = some (.cells #[.int .i64 t445, .int .i64 t446, .int .i64 t447] 25 (0, 0))) ∧ Aside0 (Below w.heap.size w wc))
         case first =>
          have H := HC26.out
          clear HC26
          by_cases c35 : t448 = true
          ·
           subst c35
           have H1 : (if t444 = true then (laws_FnCarried.j2 k2 t436 t440 t441 t442 x12_2 t444 (t436 == 0) t420 t423 t426 t429 t430 t431 t445 t446 t447) else (laws_FnCarried.j2 k2 t436 t440 t441 t442 x12_2 t444 false t420 t423 t426 t429 t430 t431 t445 t446 t447)) = some r := by rw [if_pos rfl] at H; exact H
           clear H
           have H := H1
           clear H1
           by_cases c36 : t444 = true
           ·
            subst c36
            have H1 : (laws_FnCarried.j2 k2 t436 t440 t441 t442 x12_2 true (t436 == 0) t420 t423 t426 t429 t430 t431 t445 t446 t447) = some r := by rw [if_pos rfl] at H; exact H
            clear H
            have H := H1
            clear H1
            have H' := Aside0.mk H
            clear H
            go_wp2
            go_meet
            case rel => exact ⟨_, ((t436 == 0)), (by first | rfl | (simp; done) | (simp [*]; done)), H', ⟨by have := HJ7.out; have := HK2.out; first | omega | exact Nat.le_refl _⟩, ⟨by (repeat apply rl1); exact Kd.R_mono (Kd.R_far (p := ⟨gb449, 2, none⟩) (Kd.R_far (p := ⟨gb449, 1, none⟩) (Kd.R_far (p := ⟨gb449, 0, none⟩) (Kd.R_types HO_436000.out BK449.out (by decide)) (fun _ hk => hk.2) (.int .i64 t445)) (fun _ hk => hk.2) (.int .i64 t446)) (fun _ hk => hk.2) (.int .i64 t447)) (fun _ hk => trivial)⟩, ⟨by (repeat apply rl1); exact Kd.R_mono (Kd.R_far (p := ⟨gb449, 2, none⟩) (Kd.R_far (p := ⟨gb449, 1, none⟩) (Kd.R_far (p := ⟨gb449, 0, none⟩) (Kd.R_types HO_436001.out BK449.out (by decide)) (fun _ hk => hk.2) (.int .i64 t445)) (fun _ hk => hk.2) (.int .i64 t446)) (fun _ hk => hk.2) (.int .i64 t447)) (fun _ hk => trivial)⟩, ⟨by (repeat apply rl1); exact Kd.R_mono (Kd.R_far (p := ⟨gb449, 2, none⟩) (Kd.R_far (p := ⟨gb449, 1, none⟩) (Kd.R_far (p := ⟨gb449, 0, none⟩) (Kd.R_types HO_436002.out BK449.out (by decide)) (fun _ hk => hk.2) (.int .i64 t445)) (fun _ hk => hk.2) (.int .i64 t446)) (fun _ hk => hk.2) (.int .i64 t447)) (fun _ hk => trivial)⟩, ⟨by (repeat refine bk1 ?_); refine blk_far ?_ NB435_449.out _; (repeat refine bk1 ?_); refine blk_far ?_ NB435_449.out _; (repeat refine bk1 ?_); refine blk_far ?_ NB435_449.out _; (repeat refine bk1 ?_); exact BK435.out⟩, ⟨by (repeat refine bk1 ?_); refine blk_put (cs := #[.int .i64 t445, .int .i64 t446, .int .i64 0]) ?_ 2 _ rfl; (repeat refine bk1 ?_); refine blk_put (cs := #[.int .i64 t445, .int .i64 0, .int .i64 0]) ?_ 1 _ rfl; (repeat refine bk1 ?_); refine blk_put (cs := #[.int .i64 0, .int .i64 0, .int .i64 0]) ?_ 0 _ rfl; (repeat refine bk1 ?_); exact BK449.out⟩, ⟨by repeat with_reducible first | exact bl HB.out | refine below_set ?_ GE435.out | refine below_set ?_ GE449.out | refine bq ?_⟩⟩
           ·
            replace c36 := Bool.eq_false_iff.mpr c36
            subst c36
            have H1 : (laws_FnCarried.j2 k2 t436 t440 t441 t442 x12_2 false false t420 t423 t426 t429 t430 t431 t445 t446 t447) = some r := by rw [if_neg (show ¬ (false = true) by decide)] at H; exact H
            clear H
            have H := H1
            clear H1
            have H' := Aside0.mk H
            clear H
            go_wp2
            go_meet
            case rel => exact ⟨_, (false), (by first | rfl | (simp; done) | (simp [*]; done)), H', ⟨by have := HJ7.out; have := HK2.out; first | omega | exact Nat.le_refl _⟩, ⟨by (repeat apply rl1); exact Kd.R_mono (Kd.R_far (p := ⟨gb449, 2, none⟩) (Kd.R_far (p := ⟨gb449, 1, none⟩) (Kd.R_far (p := ⟨gb449, 0, none⟩) (Kd.R_types HO_436000.out BK449.out (by decide)) (fun _ hk => hk.2) (.int .i64 t445)) (fun _ hk => hk.2) (.int .i64 t446)) (fun _ hk => hk.2) (.int .i64 t447)) (fun _ hk => trivial)⟩, ⟨by (repeat apply rl1); exact Kd.R_mono (Kd.R_far (p := ⟨gb449, 2, none⟩) (Kd.R_far (p := ⟨gb449, 1, none⟩) (Kd.R_far (p := ⟨gb449, 0, none⟩) (Kd.R_types HO_436001.out BK449.out (by decide)) (fun _ hk => hk.2) (.int .i64 t445)) (fun _ hk => hk.2) (.int .i64 t446)) (fun _ hk => hk.2) (.int .i64 t447)) (fun _ hk => trivial)⟩, ⟨by (repeat apply rl1); exact Kd.R_mono (Kd.R_far (p := ⟨gb449, 2, none⟩) (Kd.R_far (p := ⟨gb449, 1, none⟩) (Kd.R_far (p := ⟨gb449, 0, none⟩) (Kd.R_types HO_436002.out BK449.out (by decide)) (fun _ hk => hk.2) (.int .i64 t445)) (fun _ hk => hk.2) (.int .i64 t446)) (fun _ hk => hk.2) (.int .i64 t447)) (fun _ hk => trivial)⟩, ⟨by (repeat refine bk1 ?_); refine blk_far ?_ NB435_449.out _; (repeat refine bk1 ?_); refine blk_far ?_ NB435_449.out _; (repeat refine bk1 ?_); refine blk_far ?_ NB435_449.out _; (repeat refine bk1 ?_); exact BK435.out⟩, ⟨by (repeat refine bk1 ?_); refine blk_put (cs := #[.int .i64 t445, .int .i64 t446, .int .i64 0]) ?_ 2 _ rfl; (repeat refine bk1 ?_); refine blk_put (cs := #[.int .i64 t445, .int .i64 0, .int .i64 0]) ?_ 1 _ rfl; (repeat refine bk1 ?_); refine blk_put (cs := #[.int .i64 0, .int .i64 0, .int .i64 0]) ?_ 0 _ rfl; (repeat refine bk1 ?_); exact BK449.out⟩, ⟨by repeat with_reducible first | exact bl HB.out | refine below_set ?_ GE435.out | refine below_set ?_ GE449.out | refine bq ?_⟩⟩
          ·
           replace c35 := Bool.eq_false_iff.mpr c35
           subst c35
           have H1 : (laws_FnCarried.j2 k2 t436 t440 t441 t442 x12_2 t444 true t420 t423 t426 t429 t430 t431 t445 t446 t447) = some r := by rw [if_neg (show ¬ (false = true) by decide)] at H; exact H
           clear H
           have H := H1
           clear H1
           have H' := Aside0.mk H
           clear H
           go_wp2
           go_meet
           case rel => exact ⟨_, (true), (by first | rfl | (simp; done) | (simp [*]; done)), H', ⟨by have := HJ7.out; have := HK2.out; first | omega | exact Nat.le_refl _⟩, ⟨by (repeat apply rl1); exact Kd.R_mono (Kd.R_far (p := ⟨gb449, 2, none⟩) (Kd.R_far (p := ⟨gb449, 1, none⟩) (Kd.R_far (p := ⟨gb449, 0, none⟩) (Kd.R_types HO_436000.out BK449.out (by decide)) (fun _ hk => hk.2) (.int .i64 t445)) (fun _ hk => hk.2) (.int .i64 t446)) (fun _ hk => hk.2) (.int .i64 t447)) (fun _ hk => trivial)⟩, ⟨by (repeat apply rl1); exact Kd.R_mono (Kd.R_far (p := ⟨gb449, 2, none⟩) (Kd.R_far (p := ⟨gb449, 1, none⟩) (Kd.R_far (p := ⟨gb449, 0, none⟩) (Kd.R_types HO_436001.out BK449.out (by decide)) (fun _ hk => hk.2) (.int .i64 t445)) (fun _ hk => hk.2) (.int .i64 t446)) (fun _ hk => hk.2) (.int .i64 t447)) (fun _ hk => trivial)⟩, ⟨by (repeat apply rl1); exact Kd.R_mono (Kd.R_far (p := ⟨gb449, 2, none⟩) (Kd.R_far (p := ⟨gb449, 1, none⟩) (Kd.R_far (p := ⟨gb449, 0, none⟩) (Kd.R_types HO_436002.out BK449.out (by decide)) (fun _ hk => hk.2) (.int .i64 t445)) (fun _ hk => hk.2) (.int .i64 t446)) (fun _ hk => hk.2) (.int .i64 t447)) (fun _ hk => trivial)⟩, ⟨by (repeat refine bk1 ?_); refine blk_far ?_ NB435_449.out _; (repeat refine bk1 ?_); refine blk_far ?_ NB435_449.out _; (repeat refine bk1 ?_); refine blk_far ?_ NB435_449.out _; (repeat refine bk1 ?_); exact BK435.out⟩, ⟨by (repeat refine bk1 ?_); refine blk_put (cs := #[.int .i64 t445, .int .i64 t446, .int .i64 0]) ?_ 2 _ rfl; (repeat refine bk1 ?_); refine blk_put (cs := #[.int .i64 t445, .int .i64 0, .int .i64 0]) ?_ 1 _ rfl; (repeat refine bk1 ?_); refine blk_put (cs := #[.int .i64 0, .int .i64 0, .int .i64 0]) ?_ 0 _ rfl; (repeat refine bk1 ?_); exact BK449.out⟩, ⟨by repeat with_reducible first | exact bl HB.out | refine below_set ?_ GE435.out | refine below_set ?_ GE449.out | refine bq ?_⟩⟩
         case rest =>
          clear HC26
          try clear c1
          try clear c2
          try clear p2
          try clear c3
          try clear c4
          try clear p4
          try clear q4
          try clear hx4
          try clear c10
          try clear c18
          try clear c18b0
          try clear c18b1
          try clear c19
          try clear c23
          try clear c23b0
          try clear c24
          try clear c24b0
          try clear c26
          try clear c34
          try clear c35
          try clear c36
          try clear hcz12_0 hcz12_1 hcz12_2 hcz12_3 hcz12_4 hcz12_5 hfz12_0 hfz12_1 hfz12_2 hfz12_3 hfz12_4 hfz12_5
          try clear hcz16_0 hcz16_1 hcz16_2 hcz16_3 hcz16_4 hcz16_5 hfz16_0 hfz16_1 hfz16_2 hfz16_3 hfz16_4 hfz16_5
          try clear hcz21_0 hcz21_1 hcz21_2 hcz21_3 hcz21_4 hcz21_5 hfz21_0 hfz21_1 hfz21_2 hfz21_3 hfz21_4 hfz21_5
          try clear hcz27_0 hcz27_1 hcz27_2 hcz27_3 hcz27_4 hcz27_5 hfz27_0 hfz27_1 hfz27_2 hfz27_3 hfz27_4 hfz27_5
          try clear hx443_0
          try clear hx443_1
          try clear hx443_2
          try clear hx443_3
          try clear hx443_4
          try clear hx443_5
          try clear hx443_6
          try clear p2
          try clear p443
          try clear q443
          obtain ⟨kq, x77_25, rfl, HA, HJ25, HO_436000, HO_436001, HO_436002, BK435, BK449, HB⟩ := hcut
          cases kq with
          | zero => exact absurd HA.out (by simp [laws_FnCarried.j2])
          | succ kj25 =>
           have H := HA.out
           clear HA
           simp only [laws_FnCarried.j2] at H
           by_cases c37 : x77_25 = true
           ·
            subst c37
            have H1 : (some false) = some r := by rw [if_pos rfl] at H; exact H
            clear H
            have H := H1
            clear H1
            cases H.trans (congrArg some hr_)
           ·
            replace c37 := Bool.eq_false_iff.mpr c37
            subst c37
            have H1 : (if 0 ≤ x12_2 then (if x12_2 < (t420.length : Int) then (if ((rd_T33 t420 x12_2).f0).toList = t440.toList then (if t442 = true then (if t444 = true then (laws_FnCarried.j3 kj25 t436 t440 t441 t442 x12_2 t444 true t420 t423 t426 t429 t430 t431 t445 t446 t447) else (laws_FnCarried.j3 kj25 t436 t440 t441 t442 x12_2 t444 (t446 != t441) t420 t423 t426 t429 t430 t431 t445 t446 t447)) else (laws_FnCarried.j3 kj25 t436 t440 t441 t442 x12_2 t444 true t420 t423 t426 t429 t430 t431 t445 t446 t447)) else (laws_FnCarried.j3 kj25 t436 t440 t441 t442 x12_2 t444 false t420 t423 t426 t429 t430 t431 t445 t446 t447)) else (none)) else (none)) = some r := by rw [if_neg (show ¬ (false = true) by decide)] at H; exact H
            clear H
            have H := H1
            clear H1
            have HC38 := Aside0.mk H
            clear H
            go_upto_region 15 with (fail)
            go_cut [98] (fun v98 wc => ∃ (kq : Nat) (x98_37 : Bool), v98 = .bool x98_37 ∧ Aside0 (laws_FnCarried.j3 kq t436 t440 t441 t442 x12_2 t444 x98_37 t420 t423 t426 t429 t430 t431 t445 t446 t447 = some r) ∧ Aside0 (kq ≤ kj25) ∧ Aside0 (Kd.R k33 33 wc w.heap.size (fun _ => True) (.slice (some ad443) t420.length co11) t420) ∧ Aside0 (Kd.R k70 70 wc w.heap.size (fun _ => True) (.slice Ao13 t423.length co13) t423) ∧ Aside0 (Kd.R k72 72 wc w.heap.size (fun _ => True) (.slice Ao14 t426.length co14) t426) ∧ Aside0 (wc.heap[gb435]? = some (.cells #[(.slice (some ad443) t420.length co11), (.slice Ao13 t423.length co13), (.slice Ao14 t426.length co14), .int .i64 t429, .int .i64 t430, .int .i64 t431] 56 (0, 0))) ∧ Aside0 (wc.heap[gb449]? = some (.cells #[.int .i64 t445, .int .i64 t446, .int .i64 t447] 25 (0, 0))) ∧ Aside0 (Below w.heap.size w wc))
            case first =>
             have H := HC38.out
             clear HC38
             by_cases c39 : 0 ≤ x12_2
             ·
              rw [if_pos c39] at H
              have c39b0 : decide (0 ≤ x12_2) = true := decide_eq_true c39
              clear c39
              (first | rw [c39b0] | (simp only [i64_w, i32_w]; rw [c39b0]) | skip)
              by_cases c40 : x12_2 < (t420.length : Int)
              ·
               rw [if_pos c40] at H
               have c40b0 : decide (x12_2 < (t420.length : Int)) = true := decide_eq_true c40
               clear c40
               by_cases c41 : ((rd_T33 t420 x12_2).f0).toList = t440.toList
               ·
                rw [if_pos c41] at H
                have c41b0 : (((rd_T33 t420 x12_2).f0).toList == t440.toList) = true := beq_iff_eq.mpr c41
                have c41b1 : (((rd_T33 t420 x12_2).f0).toList != t440.toList) = false := bne_eq_false_iff_eq.mpr c41
                clear c41
                by_cases c42 : t442 = true
                ·
                 subst c42
                 have H1 : (if t444 = true then (laws_FnCarried.j3 kj25 t436 t440 t441 true x12_2 t444 true t420 t423 t426 t429 t430 t431 t445 t446 t447) else (laws_FnCarried.j3 kj25 t436 t440 t441 true x12_2 t444 (t446 != t441) t420 t423 t426 t429 t430 t431 t445 t446 t447)) = some r := by rw [if_pos rfl] at H; exact H
                 clear H
                 have H := H1
                 clear H1
                 by_cases c43 : t444 = true
                 ·
                  subst c43
                  have H1 : (laws_FnCarried.j3 kj25 t436 t440 t441 true x12_2 true true t420 t423 t426 t429 t430 t431 t445 t446 t447) = some r := by rw [if_pos rfl] at H; exact H
                  clear H
                  have H := H1
                  clear H1
                  have H' := Aside0.mk H
                  clear H
                  have hnb44 := NB435_449.out
                  have hnc44 := NB449_435.out
                  obtain ⟨hcz45_0, hcz45_1, hcz45_2, hcz45_3, hcz45_4, hcz45_5⟩ := ck6 BK435.out
                  obtain ⟨hfz45_0, hfz45_1, hfz45_2, hfz45_3, hfz45_4, hfz45_5⟩ := fz6 BK435.out
                  have p450 : 0 ≤ (x12_2 : Int) := of_decide_eq_true (by first | (with_reducible assumption) | assumption)
                  have q450 : x12_2 < (t420.length : Int) := of_decide_eq_true (by first | (with_reducible assumption) | assumption)
                  obtain ⟨ad450, e450, hx450_0, hx450_1, hx450_2, hx450_3, hx450_4, hx450_5, hx450_6⟩ := at_T33 (Kd.R_reads' HO_436000.out).2.2 x12_2 p450 q450
                  obtain rfl : ad443 = ad450 := (by injection e450)
                  replace p450 := eq_true p450
                  replace q450 := eq_true q450
                  go_wp2
                  go_meet
                  case rel => exact ⟨_, (true), (by first | rfl | (simp; done) | (simp [*]; done)), H', ⟨by have := HJ7.out; have := HK2.out; have := HJ25.out; first | omega | exact Nat.le_refl _⟩, ⟨rl HO_436000.out⟩, ⟨rl HO_436001.out⟩, ⟨rl HO_436002.out⟩, ⟨bk BK435.out⟩, ⟨bk BK449.out⟩, ⟨by repeat with_reducible first | exact bl HB.out | refine below_set ?_ GE435.out | refine below_set ?_ GE449.out | refine bq ?_⟩⟩
                 ·
                  replace c43 := Bool.eq_false_iff.mpr c43
                  subst c43
                  have H1 : (laws_FnCarried.j3 kj25 t436 t440 t441 true x12_2 false (t446 != t441) t420 t423 t426 t429 t430 t431 t445 t446 t447) = some r := by rw [if_neg (show ¬ (false = true) by decide)] at H; exact H
                  clear H
                  have H := H1
                  clear H1
                  have H' := Aside0.mk H
                  clear H
                  have hnb46 := NB435_449.out
                  have hnc46 := NB449_435.out
                  obtain ⟨hcz47_0, hcz47_1, hcz47_2, hcz47_3, hcz47_4, hcz47_5⟩ := ck6 BK435.out
                  obtain ⟨hfz47_0, hfz47_1, hfz47_2, hfz47_3, hfz47_4, hfz47_5⟩ := fz6 BK435.out
                  have p450 : 0 ≤ (x12_2 : Int) := of_decide_eq_true (by first | (with_reducible assumption) | assumption)
                  have q450 : x12_2 < (t420.length : Int) := of_decide_eq_true (by first | (with_reducible assumption) | assumption)
                  obtain ⟨ad450, e450, hx450_0, hx450_1, hx450_2, hx450_3, hx450_4, hx450_5, hx450_6⟩ := at_T33 (Kd.R_reads' HO_436000.out).2.2 x12_2 p450 q450
                  obtain rfl : ad443 = ad450 := (by injection e450)
                  replace p450 := eq_true p450
                  replace q450 := eq_true q450
                  obtain ⟨hcz48_0, hcz48_1, hcz48_2⟩ := ck3 BK449.out
                  obtain ⟨hfz48_0, hfz48_1, hfz48_2⟩ := fz3 BK449.out
                  go_wp2
                  go_meet
                  case rel => exact ⟨_, ((t446 != t441)), (by first | rfl | (simp; done) | (simp [*]; done)), H', ⟨by have := HJ7.out; have := HK2.out; have := HJ25.out; first | omega | exact Nat.le_refl _⟩, ⟨rl HO_436000.out⟩, ⟨rl HO_436001.out⟩, ⟨rl HO_436002.out⟩, ⟨bk BK435.out⟩, ⟨bk BK449.out⟩, ⟨by repeat with_reducible first | exact bl HB.out | refine below_set ?_ GE435.out | refine below_set ?_ GE449.out | refine bq ?_⟩⟩
                ·
                 replace c42 := Bool.eq_false_iff.mpr c42
                 subst c42
                 have H1 : (laws_FnCarried.j3 kj25 t436 t440 t441 false x12_2 t444 true t420 t423 t426 t429 t430 t431 t445 t446 t447) = some r := by rw [if_neg (show ¬ (false = true) by decide)] at H; exact H
                 clear H
                 have H := H1
                 clear H1
                 have H' := Aside0.mk H
                 clear H
                 have hnb49 := NB435_449.out
                 have hnc49 := NB449_435.out
                 obtain ⟨hcz50_0, hcz50_1, hcz50_2, hcz50_3, hcz50_4, hcz50_5⟩ := ck6 BK435.out
                 obtain ⟨hfz50_0, hfz50_1, hfz50_2, hfz50_3, hfz50_4, hfz50_5⟩ := fz6 BK435.out
                 have p450 : 0 ≤ (x12_2 : Int) := of_decide_eq_true (by first | (with_reducible assumption) | assumption)
                 have q450 : x12_2 < (t420.length : Int) := of_decide_eq_true (by first | (with_reducible assumption) | assumption)
                 obtain ⟨ad450, e450, hx450_0, hx450_1, hx450_2, hx450_3, hx450_4, hx450_5, hx450_6⟩ := at_T33 (Kd.R_reads' HO_436000.out).2.2 x12_2 p450 q450
                 obtain rfl : ad443 = ad450 := (by injection e450)
                 replace p450 := eq_true p450
                 replace q450 := eq_true q450
                 go_wp2
                 go_meet
                 case rel => exact ⟨_, (true), (by first | rfl | (simp; done) | (simp [*]; done)), H', ⟨by have := HJ7.out; have := HK2.out; have := HJ25.out; first | omega | exact Nat.le_refl _⟩, ⟨rl HO_436000.out⟩, ⟨rl HO_436001.out⟩, ⟨rl HO_436002.out⟩, ⟨bk BK435.out⟩, ⟨bk BK449.out⟩, ⟨by repeat with_reducible first | exact bl HB.out | refine below_set ?_ GE435.out | refine below_set ?_ GE449.out | refine bq ?_⟩⟩
               ·
                rw [if_neg c41] at H
                have c41b0 : (((rd_T33 t420 x12_2).f0).toList == t440.toList) = false := beq_eq_false_iff_ne.mpr c41
                have c41b1 : (((rd_T33 t420 x12_2).f0).toList != t440.toList) = true := bne_iff_ne.mpr c41
                have H' := Aside0.mk H
                clear H
                have hnb51 := NB435_449.out
                have hnc51 := NB449_435.out
                obtain ⟨hcz52_0, hcz52_1, hcz52_2, hcz52_3, hcz52_4, hcz52_5⟩ := ck6 BK435.out
                obtain ⟨hfz52_0, hfz52_1, hfz52_2, hfz52_3, hfz52_4, hfz52_5⟩ := fz6 BK435.out
                have p450 : 0 ≤ (x12_2 : Int) := of_decide_eq_true (by first | (with_reducible assumption) | assumption)
                have q450 : x12_2 < (t420.length : Int) := of_decide_eq_true (by first | (with_reducible assumption) | assumption)
                obtain ⟨ad450, e450, hx450_0, hx450_1, hx450_2, hx450_3, hx450_4, hx450_5, hx450_6⟩ := at_T33 (Kd.R_reads' HO_436000.out).2.2 x12_2 p450 q450
                obtain rfl : ad443 = ad450 := (by injection e450)
                replace p450 := eq_true p450
                replace q450 := eq_true q450
                go_wp2
                go_meet
                case rel => exact ⟨_, (false), (by first | rfl | (simp; done) | (simp [*]; done)), H', ⟨by have := HJ7.out; have := HK2.out; have := HJ25.out; first | omega | exact Nat.le_refl _⟩, ⟨rl HO_436000.out⟩, ⟨rl HO_436001.out⟩, ⟨rl HO_436002.out⟩, ⟨bk BK435.out⟩, ⟨bk BK449.out⟩, ⟨by repeat with_reducible first | exact bl HB.out | refine below_set ?_ GE435.out | refine below_set ?_ GE449.out | refine bq ?_⟩⟩
              ·
               rw [if_neg c40] at H
               exact absurd H (by simp)
             ·
              rw [if_neg c39] at H
              exact absurd H (by simp)
            case rest =>
             clear HC38
             try clear c1
             try clear c2
             try clear p2
             try clear c3
             try clear c4
             try clear p4
             try clear q4
             try clear hx4
             try clear c5
             try clear c10
             try clear c18
             try clear c18b0
             try clear c18b1
             try clear c19
             try clear c23
             try clear c23b0
             try clear c24
             try clear c24b0
             try clear c26
             try clear c34
             try clear c35
             try clear c36
             try clear c37
             try clear c39
             try clear c39b0
             try clear c40
             try clear c40b0
             try clear c41
             try clear c41b0
             try clear c41b1
             try clear c42
             try clear c43
             try clear c44
             try clear p44
             try clear q44
             try clear hx44
             try clear p45
             try clear q45
             try clear hx45
             try clear c46
             try clear c49
             try clear c51
             try clear hcz12_0 hcz12_1 hcz12_2 hcz12_3 hcz12_4 hcz12_5 hfz12_0 hfz12_1 hfz12_2 hfz12_3 hfz12_4 hfz12_5
             try clear hcz16_0 hcz16_1 hcz16_2 hcz16_3 hcz16_4 hcz16_5 hfz16_0 hfz16_1 hfz16_2 hfz16_3 hfz16_4 hfz16_5
             try clear hcz21_0 hcz21_1 hcz21_2 hcz21_3 hcz21_4 hcz21_5 hfz21_0 hfz21_1 hfz21_2 hfz21_3 hfz21_4 hfz21_5
             try clear hcz27_0 hcz27_1 hcz27_2 hcz27_3 hcz27_4 hcz27_5 hfz27_0 hfz27_1 hfz27_2 hfz27_3 hfz27_4 hfz27_5
             try clear hcz45_0 hcz45_1 hcz45_2 hcz45_3 hcz45_4 hcz45_5 hfz45_0 hfz45_1 hfz45_2 hfz45_3 hfz45_4 hfz45_5
             try clear hcz47_0 hcz47_1 hcz47_2 hcz47_3 hcz47_4 hcz47_5 hfz47_0 hfz47_1 hfz47_2 hfz47_3 hfz47_4 hfz47_5
             try clear hcz48_0 hcz48_1 hcz48_2 hfz48_0 hfz48_1 hfz48_2
             try clear hcz50_0 hcz50_1 hcz50_2 hcz50_3 hcz50_4 hcz50_5 hfz50_0 hfz50_1 hfz50_2 hfz50_3 hfz50_4 hfz50_5
             try clear hcz52_0 hcz52_1 hcz52_2 hcz52_3 hcz52_4 hcz52_5 hfz52_0 hfz52_1 hfz52_2 hfz52_3 hfz52_4 hfz52_5
             try clear hx443_0
             try clear hx443_1
             try clear hx443_2
             try clear hx443_3
             try clear hx443_4
             try clear hx443_5
             try clear hx443_6
             try clear hx450_0
             try clear hx450_1
             try clear hx450_2
             try clear hx450_3
             try clear hx450_4
             try clear hx450_5
             try clear hx450_6
             try clear p2
             try clear p4
             try clear p443
             try clear p450
             try clear q4
             try clear q443
             try clear q450
             obtain ⟨kq, x98_37, rfl, HA, HJ37, HO_436000, HO_436001, HO_436002, BK435, BK449, HB⟩ := hcut
             cases kq with
             | zero => exact absurd HA.out (by simp [laws_FnCarried.j3])
             | succ kj37 =>
              have H := HA.out
              clear HA
              simp only [laws_FnCarried.j3] at H
              by_cases c53 : x98_37 = true
              ·
               subst c53
               have H1 : (some false) = some r := by rw [if_pos rfl] at H; exact H
               clear H
               have H := H1
               clear H1
               cases H.trans (congrArg some hr_)
              ·
               replace c53 := Bool.eq_false_iff.mpr c53
               subst c53
               have H1 : (if t442 = true then (if t444 = true then (laws_FnCarried.j4 kj37 t436 t440 t441 t442 x12_2 false t420 t423 t426 t429 t430 t431) else (if 0 ≤ x12_2 then (if x12_2 < (t420.length : Int) then (if ((rd_T33 t420 x12_2).f2) > 0 then (laws_FnCarried.j4 kj37 t436 t440 t441 t442 x12_2 (decide (t446 < t441)) t420 t423 t426 t429 t430 t431) else (laws_FnCarried.j4 kj37 t436 t440 t441 t442 x12_2 false t420 t423 t426 t429 t430 t431)) else (none)) else (none))) else (laws_FnCarried.j4 kj37 t436 t440 t441 t442 x12_2 false t420 t423 t426 t429 t430 t431)) = some r := by rw [if_neg (show ¬ (false = true) by decide)] at H; exact H
               clear H
               have H := H1
               clear H1
               have HC54 := Aside0.mk H
               clear H
               go_upto_region 17 with (fail)
               go_cut [118] (fun v118 wc => ∃ (kq : Nat) (x118_53 : Bool), v118 = .bool x118_53 ∧ Aside0 (laws_FnCarried.j4 kq t436 t440 t441 t442 x12_2 x118_53 t420 t423 t426 t429 t430 t431 = some r) ∧ Aside0 (kq ≤ kj37) ∧ Aside0 (Kd.R k33 33 wc w.heap.size (fun _ => True) (.slice (some ad443) t420.length co11) t420) ∧ Aside0 (Kd.R k70 70 wc w.heap.size (fun _ => True) (.slice Ao13 t423.length co13) t423) ∧ Aside0 (Kd.R k72 72 wc w.heap.size (fun _ => True) (.slice Ao14 t426.length co14) t426) ∧ Aside0 (wc.heap[gb435]? = some (.cells #[(.slice (some ad443) t420.length co11), (.slice Ao13 t423.length co13), (.slice Ao14 t426.length co14), .int .i64 t429, .int .i64 t430, .int .i64 t431] 56 (0, 0))) ∧ Aside0 (wc.heap[gb449]? = some (.cells #[.int .i64 t445, .int .i64 t446, .int .i64 t447] 25 (0, 0))) ∧ Aside0 (Below w.heap.size w wc))
               case first =>
                have H := HC54.out
                clear HC54
                by_cases c55 : t442 = true
                ·
                 subst c55
                 have H1 : (if t444 = true then (laws_FnCarried.j4 kj37 t436 t440 t441 true x12_2 false t420 t423 t426 t429 t430 t431) else (if 0 ≤ x12_2 then (if x12_2 < (t420.length : Int) then (if ((rd_T33 t420 x12_2).f2) > 0 then (laws_FnCarried.j4 kj37 t436 t440 t441 true x12_2 (decide (t446 < t441)) t420 t423 t426 t429 t430 t431) else (laws_FnCarried.j4 kj37 t436 t440 t441 true x12_2 false t420 t423 t426 t429 t430 t431)) else (none)) else (none))) = some r := by rw [if_pos rfl] at H; exact H
                 clear H
                 have H := H1
                 clear H1
                 by_cases c56 : t444 = true
                 ·
                  subst c56
                  have H1 : (laws_FnCarried.j4 kj37 t436 t440 t441 true x12_2 false t420 t423 t426 t429 t430 t431) = some r := by rw [if_pos rfl] at H; exact H
                  clear H
                  have H := H1
                  clear H1
                  have H' := Aside0.mk H
                  clear H
                  go_wp2
                  go_meet
                  case rel => exact ⟨_, (false), (by first | rfl | (simp; done) | (simp [*]; done)), H', ⟨by have := HJ7.out; have := HK2.out; have := HJ25.out; have := HJ37.out; first | omega | exact Nat.le_refl _⟩, ⟨rl HO_436000.out⟩, ⟨rl HO_436001.out⟩, ⟨rl HO_436002.out⟩, ⟨bk BK435.out⟩, ⟨bk BK449.out⟩, ⟨by repeat with_reducible first | exact bl HB.out | refine below_set ?_ GE435.out | refine below_set ?_ GE449.out | refine bq ?_⟩⟩
                 ·
                  replace c56 := Bool.eq_false_iff.mpr c56
                  subst c56
                  have H1 : (if 0 ≤ x12_2 then (if x12_2 < (t420.length : Int) then (if ((rd_T33 t420 x12_2).f2) > 0 then (laws_FnCarried.j4 kj37 t436 t440 t441 true x12_2 (decide (t446 < t441)) t420 t423 t426 t429 t430 t431) else (laws_FnCarried.j4 kj37 t436 t440 t441 true x12_2 false t420 t423 t426 t429 t430 t431)) else (none)) else (none)) = some r := by rw [if_neg (show ¬ (false = true) by decide)] at H; exact H
                  clear H
                  have H := H1
                  clear H1
                  by_cases c57 : 0 ≤ x12_2
                  ·
                   rw [if_pos c57] at H
                   have c57b0 : decide (0 ≤ x12_2) = true := decide_eq_true c57
                   clear c57
                   (first | rw [c57b0] | (simp only [i64_w, i32_w]; rw [c57b0]) | skip)
                   by_cases c58 : x12_2 < (t420.length : Int)
                   ·
                    rw [if_pos c58] at H
                    have c58b0 : decide (x12_2 < (t420.length : Int)) = true := decide_eq_true c58
                    clear c58
                    by_cases c59 : ((rd_T33 t420 x12_2).f2) > 0
                    ·
                     rw [if_pos c59] at H
                     have c59b0 : decide (0 < ((rd_T33 t420 x12_2).f2)) = true := decide_eq_true c59
                     clear c59
                     have H' := Aside0.mk H
                     clear H
                     have hnb60 := NB435_449.out
                     have hnc60 := NB449_435.out
                     obtain ⟨hcz61_0, hcz61_1, hcz61_2, hcz61_3, hcz61_4, hcz61_5⟩ := ck6 BK435.out
                     obtain ⟨hfz61_0, hfz61_1, hfz61_2, hfz61_3, hfz61_4, hfz61_5⟩ := fz6 BK435.out
                     have p451 : 0 ≤ (x12_2 : Int) := of_decide_eq_true (by first | (with_reducible assumption) | assumption)
                     have q451 : x12_2 < (t420.length : Int) := of_decide_eq_true (by first | (with_reducible assumption) | assumption)
                     obtain ⟨ad451, e451, hx451_0, hx451_1, hx451_2, hx451_3, hx451_4, hx451_5, hx451_6⟩ := at_T33 (Kd.R_reads' HO_436000.out).2.2 x12_2 p451 q451
                     obtain rfl : ad443 = ad451 := (by injection e451)
                     replace p451 := eq_true p451
                     replace q451 := eq_true q451
                     obtain ⟨hcz62_0, hcz62_1, hcz62_2⟩ := ck3 BK449.out
                     obtain ⟨hfz62_0, hfz62_1, hfz62_2⟩ := fz3 BK449.out
                     go_wp2
                     go_meet
                     case rel => exact ⟨_, (decide (t446 < t441)), (by first | rfl | (simp; done) | (simp [*]; done)), H', ⟨by have := HJ7.out; have := HK2.out; have := HJ25.out; have := HJ37.out; first | omega | exact Nat.le_refl _⟩, ⟨rl HO_436000.out⟩, ⟨rl HO_436001.out⟩, ⟨rl HO_436002.out⟩, ⟨bk BK435.out⟩, ⟨bk BK449.out⟩, ⟨by repeat with_reducible first | exact bl HB.out | refine below_set ?_ GE435.out | refine below_set ?_ GE449.out | refine bq ?_⟩⟩
                    ·
                     rw [if_neg c59] at H
                     have c59b0 : decide (0 < ((rd_T33 t420 x12_2).f2)) = false := decide_eq_false c59
                     clear c59
                     have H' := Aside0.mk H
                     clear H
                     have hnb63 := NB435_449.out
                     have hnc63 := NB449_435.out
                     obtain ⟨hcz64_0, hcz64_1, hcz64_2, hcz64_3, hcz64_4, hcz64_5⟩ := ck6 BK435.out
                     obtain ⟨hfz64_0, hfz64_1, hfz64_2, hfz64_3, hfz64_4, hfz64_5⟩ := fz6 BK435.out
                     have p451 : 0 ≤ (x12_2 : Int) := of_decide_eq_true (by first | (with_reducible assumption) | assumption)
                     have q451 : x12_2 < (t420.length : Int) := of_decide_eq_true (by first | (with_reducible assumption) | assumption)
                     obtain ⟨ad451, e451, hx451_0, hx451_1, hx451_2, hx451_3, hx451_4, hx451_5, hx451_6⟩ := at_T33 (Kd.R_reads' HO_436000.out).2.2 x12_2 p451 q451
                     obtain rfl : ad443 = ad451 := (by injection e451)
                     replace p451 := eq_true p451
                     replace q451 := eq_true q451
                     go_wp2
                     go_meet
                     case rel => exact ⟨_, (false), (by first | rfl | (simp; done) | (simp [*]; done)), H', ⟨by have := HJ7.out; have := HK2.out; have := HJ25.out; have := HJ37.out; first | omega | exact Nat.le_refl _⟩, ⟨rl HO_436000.out⟩, ⟨rl HO_436001.out⟩, ⟨rl HO_436002.out⟩, ⟨bk BK435.out⟩, ⟨bk BK449.out⟩, ⟨by repeat with_reducible first | exact bl HB.out | refine below_set ?_ GE435.out | refine below_set ?_ GE449.out | refine bq ?_⟩⟩
                   ·
                    rw [if_neg c58] at H
                    exact absurd H (by simp)
                  ·
                   rw [if_neg c57] at H
                   exact absurd H (by simp)
                ·
                 replace c55 := Bool.eq_false_iff.mpr c55
                 subst c55
                 have H1 : (laws_FnCarried.j4 kj37 t436 t440 t441 false x12_2 false t420 t423 t426 t429 t430 t431) = some r := by rw [if_neg (show ¬ (false = true) by decide)] at H; exact H
                 clear H
                 have H := H1
                 clear H1
                 have H' := Aside0.mk H
                 clear H
                 go_wp2
                 go_meet
                 case rel => exact ⟨_, (false), (by first | rfl | (simp; done) | (simp [*]; done)), H', ⟨by have := HJ7.out; have := HK2.out; have := HJ25.out; have := HJ37.out; first | omega | exact Nat.le_refl _⟩, ⟨rl HO_436000.out⟩, ⟨rl HO_436001.out⟩, ⟨rl HO_436002.out⟩, ⟨bk BK435.out⟩, ⟨bk BK449.out⟩, ⟨by repeat with_reducible first | exact bl HB.out | refine below_set ?_ GE435.out | refine below_set ?_ GE449.out | refine bq ?_⟩⟩
               case rest =>
                clear HC54
                try clear c1
                try clear c2
                try clear p2
                try clear c3
                try clear c4
                try clear p4
                try clear q4
                try clear hx4
                try clear c5
                try clear c6
                try clear c10
                try clear c18
                try clear c18b0
                try clear c18b1
                try clear c19
                try clear c23
                try clear c23b0
                try clear c24
                try clear c24b0
                try clear c26
                try clear c34
                try clear c35
                try clear c36
                try clear c37
                try clear c39
                try clear c39b0
                try clear c40
                try clear c40b0
                try clear c41
                try clear c41b0
                try clear c41b1
                try clear c42
                try clear c43
                try clear c44
                try clear p44
                try clear q44
                try clear hx44
                try clear p45
                try clear q45
                try clear hx45
                try clear c46
                try clear c49
                try clear c51
                try clear c53
                try clear c55
                try clear c56
                try clear c57
                try clear c57b0
                try clear c58
                try clear c58b0
                try clear c59
                try clear c59b0
                try clear c60
                try clear c63
                try clear hcz12_0 hcz12_1 hcz12_2 hcz12_3 hcz12_4 hcz12_5 hfz12_0 hfz12_1 hfz12_2 hfz12_3 hfz12_4 hfz12_5
                try clear hcz16_0 hcz16_1 hcz16_2 hcz16_3 hcz16_4 hcz16_5 hfz16_0 hfz16_1 hfz16_2 hfz16_3 hfz16_4 hfz16_5
                try clear hcz21_0 hcz21_1 hcz21_2 hcz21_3 hcz21_4 hcz21_5 hfz21_0 hfz21_1 hfz21_2 hfz21_3 hfz21_4 hfz21_5
                try clear hcz27_0 hcz27_1 hcz27_2 hcz27_3 hcz27_4 hcz27_5 hfz27_0 hfz27_1 hfz27_2 hfz27_3 hfz27_4 hfz27_5
                try clear hcz45_0 hcz45_1 hcz45_2 hcz45_3 hcz45_4 hcz45_5 hfz45_0 hfz45_1 hfz45_2 hfz45_3 hfz45_4 hfz45_5
                try clear hcz47_0 hcz47_1 hcz47_2 hcz47_3 hcz47_4 hcz47_5 hfz47_0 hfz47_1 hfz47_2 hfz47_3 hfz47_4 hfz47_5
                try clear hcz48_0 hcz48_1 hcz48_2 hfz48_0 hfz48_1 hfz48_2
                try clear hcz50_0 hcz50_1 hcz50_2 hcz50_3 hcz50_4 hcz50_5 hfz50_0 hfz50_1 hfz50_2 hfz50_3 hfz50_4 hfz50_5
                try clear hcz52_0 hcz52_1 hcz52_2 hcz52_3 hcz52_4 hcz52_5 hfz52_0 hfz52_1 hfz52_2 hfz52_3 hfz52_4 hfz52_5
                try clear hcz61_0 hcz61_1 hcz61_2 hcz61_3 hcz61_4 hcz61_5 hfz61_0 hfz61_1 hfz61_2 hfz61_3 hfz61_4 hfz61_5
                try clear hcz62_0 hcz62_1 hcz62_2 hfz62_0 hfz62_1 hfz62_2
                try clear hcz64_0 hcz64_1 hcz64_2 hcz64_3 hcz64_4 hcz64_5 hfz64_0 hfz64_1 hfz64_2 hfz64_3 hfz64_4 hfz64_5
                try clear hx443_0
                try clear hx443_1
                try clear hx443_2
                try clear hx443_3
                try clear hx443_4
                try clear hx443_5
                try clear hx443_6
                try clear hx450_0
                try clear hx450_1
                try clear hx450_2
                try clear hx450_3
                try clear hx450_4
                try clear hx450_5
                try clear hx450_6
                try clear hx451_0
                try clear hx451_1
                try clear hx451_2
                try clear hx451_3
                try clear hx451_4
                try clear hx451_5
                try clear hx451_6
                try clear p2
                try clear p4
                try clear p44
                try clear p443
                try clear p45
                try clear p450
                try clear p451
                try clear q4
                try clear q44
                try clear q443
                try clear q45
                try clear q450
                try clear q451
                obtain ⟨kq, x118_53, rfl, HA, HJ53, HO_436000, HO_436001, HO_436002, BK435, BK449, HB⟩ := hcut
                cases kq with
                | zero => exact absurd HA.out (by simp [laws_FnCarried.j4])
                | succ kj53 =>
                 have H := HA.out
                 clear HA
                 simp only [laws_FnCarried.j4] at H
                 by_cases c65 : x118_53 = true
                 ·
                  subst c65
                  have H1 : (some false) = some r := by rw [if_pos rfl] at H; exact H
                  clear H
                  have H := H1
                  clear H1
                  cases H.trans (congrArg some hr_)
                 ·
                  replace c65 := Bool.eq_false_iff.mpr c65
                  subst c65
                  have H1 : (laws_FnCarried.l0 kj53 t436 t440 t441 t442 (wrap64 (x12_2 + 1)) t420 t423 t426 t429 t430 t431) = some r := by rw [if_neg (show ¬ (false = true) by decide)] at H; exact H
                  clear H
                  have H := H1
                  clear H1
                  have H' := Aside0.mk H
                  clear H
                  go_wp2
                  go_roundg kj53
                  case measure => have := HJ7.out; have := HK2.out; have := HJ25.out; have := HJ37.out; have := HJ53.out; omega
                  case rel => exact ⟨(wrap64 (x12_2 + 1)), (by first | rfl | (simp; done) | (simp [*]; done)), H', ⟨by have := HJ7.out; have := HK2.out; have := HJ25.out; have := HJ37.out; have := HJ53.out; omega⟩, ⟨rl HO_436000.out⟩, ⟨rl HO_436001.out⟩, ⟨rl HO_436002.out⟩, ⟨bk BK435.out⟩, ⟨by repeat with_reducible first | exact bl HB.out | refine below_set ?_ GE435.out | refine below_set ?_ GE449.out | refine bq ?_⟩⟩
        ·
         rw [if_neg c24] at H
         exact absurd H (by simp)
       ·
        rw [if_neg c23] at H
        have c23b0 : decide (x12_2 < (t420.length : Int)) = false := decide_eq_false c23
        clear c23
        have H' := Aside0.mk H
        clear H
        obtain ⟨hcz66_0, hcz66_1, hcz66_2, hcz66_3, hcz66_4, hcz66_5⟩ := ck6 BK435.out
        obtain ⟨hfz66_0, hfz66_1, hfz66_2, hfz66_3, hfz66_4, hfz66_5⟩ := fz6 BK435.out
        go_wp2
        go_loopg [16] k2 (fun kq v16 w' => ∃ (x16_3 : Int), v16 = .int .i64 x16_3 ∧ Aside0 (laws_FnCarried.l1 kq t436 t440 t442 x16_3 t420 t423 t426 t429 t430 t431 = some r) ∧ Aside0 (kq ≤ k2) ∧ Aside0 (Kd.R k33 33 w' w.heap.size (fun _ => True) (.slice Ao11 t420.length co11) t420) ∧ Aside0 (Kd.R k70 70 w' w.heap.size (fun _ => True) (.slice Ao13 t423.length co13) t423) ∧ Aside0 (Kd.R k72 72 w' w.heap.size (fun _ => True) (.slice Ao14 t426.length co14) t426) ∧ Aside0 (w'.heap[gb435]? = some (.cells #[(.slice Ao11 t420.length co11), (.slice Ao13 t423.length co13), (.slice Ao14 t426.length co14), .int .i64 t429, .int .i64 t430, .int .i64 t431] 56 (0, 0))) ∧ Aside0 (Below w.heap.size w w'))
        case atStart => exact ⟨(0), (by first | rfl | (simp; done) | (simp [*]; done)), H', ⟨Nat.le_refl _⟩, ⟨rl HO_436000.out⟩, ⟨rl HO_436001.out⟩, ⟨rl HO_436002.out⟩, ⟨bk BK435.out⟩, ⟨by repeat with_reducible first | exact bl HB.out | refine below_set ?_ GE435.out | refine bq ?_⟩⟩
        case round =>
         clear H'
         try clear c1
         try clear c2
         try clear p2
         try clear c3
         try clear c4
         try clear p4
         try clear q4
         try clear hx4
         try clear c5
         try clear c6
         try clear p6
         try clear c10
         try clear c18
         try clear c18b0
         try clear c18b1
         try clear c19
         try clear c23
         try clear c23b0
         try clear c24
         try clear c24b0
         try clear c26
         try clear c34
         try clear c35
         try clear c36
         try clear c37
         try clear c39
         try clear c39b0
         try clear c40
         try clear c40b0
         try clear c41
         try clear c41b0
         try clear c41b1
         try clear c42
         try clear c43
         try clear c44
         try clear p44
         try clear q44
         try clear hx44
         try clear p45
         try clear q45
         try clear hx45
         try clear c46
         try clear c49
         try clear c51
         try clear c53
         try clear c55
         try clear c56
         try clear c57
         try clear c57b0
         try clear c58
         try clear c58b0
         try clear c59
         try clear c59b0
         try clear c60
         try clear c63
         try clear p64
         try clear c65
         try clear hcz12_0 hcz12_1 hcz12_2 hcz12_3 hcz12_4 hcz12_5 hfz12_0 hfz12_1 hfz12_2 hfz12_3 hfz12_4 hfz12_5
         try clear hcz16_0 hcz16_1 hcz16_2 hcz16_3 hcz16_4 hcz16_5 hfz16_0 hfz16_1 hfz16_2 hfz16_3 hfz16_4 hfz16_5
         try clear hcz21_0 hcz21_1 hcz21_2 hcz21_3 hcz21_4 hcz21_5 hfz21_0 hfz21_1 hfz21_2 hfz21_3 hfz21_4 hfz21_5
         try clear hcz27_0 hcz27_1 hcz27_2 hcz27_3 hcz27_4 hcz27_5 hfz27_0 hfz27_1 hfz27_2 hfz27_3 hfz27_4 hfz27_5
         try clear hcz45_0 hcz45_1 hcz45_2 hcz45_3 hcz45_4 hcz45_5 hfz45_0 hfz45_1 hfz45_2 hfz45_3 hfz45_4 hfz45_5
         try clear hcz47_0 hcz47_1 hcz47_2 hcz47_3 hcz47_4 hcz47_5 hfz47_0 hfz47_1 hfz47_2 hfz47_3 hfz47_4 hfz47_5
         try clear hcz48_0 hcz48_1 hcz48_2 hfz48_0 hfz48_1 hfz48_2
         try clear hcz50_0 hcz50_1 hcz50_2 hcz50_3 hcz50_4 hcz50_5 hfz50_0 hfz50_1 hfz50_2 hfz50_3 hfz50_4 hfz50_5
         try clear hcz52_0 hcz52_1 hcz52_2 hcz52_3 hcz52_4 hcz52_5 hfz52_0 hfz52_1 hfz52_2 hfz52_3 hfz52_4 hfz52_5
         try clear hcz61_0 hcz61_1 hcz61_2 hcz61_3 hcz61_4 hcz61_5 hfz61_0 hfz61_1 hfz61_2 hfz61_3 hfz61_4 hfz61_5
         try clear hcz62_0 hcz62_1 hcz62_2 hfz62_0 hfz62_1 hfz62_2
         try clear hcz64_0 hcz64_1 hcz64_2 hcz64_3 hcz64_4 hcz64_5 hfz64_0 hfz64_1 hfz64_2 hfz64_3 hfz64_4 hfz64_5
         try clear hcz66_0 hcz66_1 hcz66_2 hcz66_3 hcz66_4 hcz66_5 hfz66_0 hfz66_1 hfz66_2 hfz66_3 hfz66_4 hfz66_5
         try clear hx443_0
         try clear hx443_1
         try clear hx443_2
         try clear hx443_3
         try clear hx443_4
         try clear hx443_5
         try clear hx443_6
         try clear hx450_0
         try clear hx450_1
         try clear hx450_2
         try clear hx450_3
         try clear hx450_4
         try clear hx450_5
         try clear hx450_6
         try clear hx451_0
         try clear hx451_1
         try clear hx451_2
         try clear hx451_3
         try clear hx451_4
         try clear hx451_5
         try clear hx451_6
         try clear p2
         try clear p4
         try clear p44
         try clear p443
         try clear p45
         try clear p450
         try clear p451
         try clear q4
         try clear q44
         try clear q443
         try clear q45
         try clear q450
         try clear q451
         obtain ⟨x16_3, rfl, HA, HK3, HO_436000, HO_436001, HO_436002, BK435, HB⟩ := hrel
         cases gk with
         | zero => exact absurd HA.out (by simp [laws_FnCarried.l1])
         | succ k3 =>
          have H := HA.out
          clear HA
          simp only [laws_FnCarried.l1] at H
          have HC67 := Aside0.mk H
          clear H
          go_upto_region 20 with (fail)
          go_cut [127] (fun v127 wc => ∃ (kq : Nat) (x127_66 : Bool), v127 = .bool x127_66 ∧ Aside0 (laws_FnCarried.j6 kq t436 t440 t442 x16_3 x127_66 t420 t423 t426 t429 t430 t431 = some r) ∧ Aside0 (kq ≤ k3) ∧ Aside0 (Kd.R k33 33 wc w.heap.size (fun _ => True) (.slice Ao11 t420.length co11) t420) ∧ Aside0 (Kd.R k70 70 wc w.heap.size (fun _ => True) (.slice Ao13 t423.length co13) t423) ∧ Aside0 (Kd.R k72 72 wc w.heap.size (fun _ => True) (.slice Ao14 t426.length co14) t426) ∧ Aside0 (wc.heap[gb435]? = some (.cells #[(.slice Ao11 t420.length co11), (.slice Ao13 t423.length co13), (.slice Ao14 t426.length co14), .int .i64 t429, .int .i64 t430, .int .i64 t431] 56 (0, 0))) ∧ Aside0 (Below w.heap.size w wc))
          case first =>
           have H := HC67.out
           clear HC67
           by_cases c68 : x16_3 < (t426.length : Int)
           ·
            rw [if_pos c68] at H
            have c68b0 : decide (x16_3 < (t426.length : Int)) = true := decide_eq_true c68
            clear c68
            (first | rw [c68b0] | (simp only [i64_w, i32_w]; rw [c68b0]) | skip)
            have H' := Aside0.mk H
            clear H
            obtain ⟨hcz69_0, hcz69_1, hcz69_2, hcz69_3, hcz69_4, hcz69_5⟩ := ck6 BK435.out
            obtain ⟨hfz69_0, hfz69_1, hfz69_2, hfz69_3, hfz69_4, hfz69_5⟩ := fz6 BK435.out
            go_wp2
            go_meet
            case rel => exact ⟨_, ((t436 == 0)), (by first | rfl | (simp; done) | (simp [*]; done)), H', ⟨by have := HJ7.out; have := HK2.out; have := HK3.out; first | omega | exact Nat.le_refl _⟩, ⟨rl HO_436000.out⟩, ⟨rl HO_436001.out⟩, ⟨rl HO_436002.out⟩, ⟨bk BK435.out⟩, ⟨by repeat with_reducible first | exact bl HB.out | refine below_set ?_ GE435.out | refine bq ?_⟩⟩
           ·
            rw [if_neg c68] at H
            have c68b0 : decide (x16_3 < (t426.length : Int)) = false := decide_eq_false c68
            clear c68
            (first | rw [c68b0] | (simp only [i64_w, i32_w]; rw [c68b0]) | skip)
            have H' := Aside0.mk H
            clear H
            obtain ⟨hcz70_0, hcz70_1, hcz70_2, hcz70_3, hcz70_4, hcz70_5⟩ := ck6 BK435.out
            obtain ⟨hfz70_0, hfz70_1, hfz70_2, hfz70_3, hfz70_4, hfz70_5⟩ := fz6 BK435.out
            go_wp2
            go_meet
            case rel => exact ⟨_, (false), (by first | rfl | (simp; done) | (simp [*]; done)), H', ⟨by have := HJ7.out; have := HK2.out; have := HK3.out; first | omega | exact Nat.le_refl _⟩, ⟨rl HO_436000.out⟩, ⟨rl HO_436001.out⟩, ⟨rl HO_436002.out⟩, ⟨bk BK435.out⟩, ⟨by repeat with_reducible first | exact bl HB.out | refine below_set ?_ GE435.out | refine bq ?_⟩⟩
          case rest =>
           clear HC67
           try clear c1
           try clear c2
           try clear p2
           try clear c3
           try clear c4
           try clear p4
           try clear q4
           try clear hx4
           try clear c5
           try clear c6
           try clear p6
           try clear c10
           try clear c18
           try clear c18b0
           try clear c18b1
           try clear c19
           try clear c23
           try clear c23b0
           try clear c24
           try clear c24b0
           try clear c26
           try clear c34
           try clear c35
           try clear c36
           try clear c37
           try clear c39
           try clear c39b0
           try clear c40
           try clear c40b0
           try clear c41
           try clear c41b0
           try clear c41b1
           try clear c42
           try clear c43
           try clear c44
           try clear p44
           try clear q44
           try clear hx44
           try clear p45
           try clear q45
           try clear hx45
           try clear c46
           try clear c49
           try clear c51
           try clear c53
           try clear c55
           try clear c56
           try clear c57
           try clear c57b0
           try clear c58
           try clear c58b0
           try clear c59
           try clear c59b0
           try clear c60
           try clear c63
           try clear p64
           try clear c65
           try clear c68
           try clear c68b0
           try clear hcz12_0 hcz12_1 hcz12_2 hcz12_3 hcz12_4 hcz12_5 hfz12_0 hfz12_1 hfz12_2 hfz12_3 hfz12_4 hfz12_5
           try clear hcz16_0 hcz16_1 hcz16_2 hcz16_3 hcz16_4 hcz16_5 hfz16_0 hfz16_1 hfz16_2 hfz16_3 hfz16_4 hfz16_5
           try clear hcz21_0 hcz21_1 hcz21_2 hcz21_3 hcz21_4 hcz21_5 hfz21_0 hfz21_1 hfz21_2 hfz21_3 hfz21_4 hfz21_5
           try clear hcz27_0 hcz27_1 hcz27_2 hcz27_3 hcz27_4 hcz27_5 hfz27_0 hfz27_1 hfz27_2 hfz27_3 hfz27_4 hfz27_5
           try clear hcz45_0 hcz45_1 hcz45_2 hcz45_3 hcz45_4 hcz45_5 hfz45_0 hfz45_1 hfz45_2 hfz45_3 hfz45_4 hfz45_5
           try clear hcz47_0 hcz47_1 hcz47_2 hcz47_3 hcz47_4 hcz47_5 hfz47_0 hfz47_1 hfz47_2 hfz47_3 hfz47_4 hfz47_5
           try clear hcz48_0 hcz48_1 hcz48_2 hfz48_0 hfz48_1 hfz48_2
           try clear hcz50_0 hcz50_1 hcz50_2 hcz50_3 hcz50_4 hcz50_5 hfz50_0 hfz50_1 hfz50_2 hfz50_3 hfz50_4 hfz50_5
           try clear hcz52_0 hcz52_1 hcz52_2 hcz52_3 hcz52_4 hcz52_5 hfz52_0 hfz52_1 hfz52_2 hfz52_3 hfz52_4 hfz52_5
           try clear hcz61_0 hcz61_1 hcz61_2 hcz61_3 hcz61_4 hcz61_5 hfz61_0 hfz61_1 hfz61_2 hfz61_3 hfz61_4 hfz61_5
           try clear hcz62_0 hcz62_1 hcz62_2 hfz62_0 hfz62_1 hfz62_2
           try clear hcz64_0 hcz64_1 hcz64_2 hcz64_3 hcz64_4 hcz64_5 hfz64_0 hfz64_1 hfz64_2 hfz64_3 hfz64_4 hfz64_5
           try clear hcz66_0 hcz66_1 hcz66_2 hcz66_3 hcz66_4 hcz66_5 hfz66_0 hfz66_1 hfz66_2 hfz66_3 hfz66_4 hfz66_5
           try clear hcz69_0 hcz69_1 hcz69_2 hcz69_3 hcz69_4 hcz69_5 hfz69_0 hfz69_1 hfz69_2 hfz69_3 hfz69_4 hfz69_5
           try clear hcz70_0 hcz70_1 hcz70_2 hcz70_3 hcz70_4 hcz70_5 hfz70_0 hfz70_1 hfz70_2 hfz70_3 hfz70_4 hfz70_5
           try clear hx443_0
           try clear hx443_1
           try clear hx443_2
           try clear hx443_3
           try clear hx443_4
           try clear hx443_5
           try clear hx443_6
           try clear hx450_0
           try clear hx450_1
           try clear hx450_2
           try clear hx450_3
           try clear hx450_4
           try clear hx450_5
           try clear hx450_6
           try clear hx451_0
           try clear hx451_1
           try clear hx451_2
           try clear hx451_3
           try clear hx451_4
           try clear hx451_5
           try clear hx451_6
           try clear p2
           try clear p4
           try clear p44
           try clear p443
           try clear p45
           try clear p450
           try clear p451
           try clear p6
           try clear p64
           try clear q4
           try clear q44
           try clear q443
           try clear q45
           try clear q450
           try clear q451
           obtain ⟨kq, x127_66, rfl, HA, HJ66, HO_436000, HO_436001, HO_436002, BK435, HB⟩ := hcut
           cases kq with
           | zero => exact absurd HA.out (by simp [laws_FnCarried.j6])
           | succ kj66 =>
            have H := HA.out
            clear HA
            simp only [laws_FnCarried.j6] at H
            by_cases c71 : x127_66 = true
            ·
             subst c71
             have H1 : (laws_FnCarried.l2 kj66 t436 t440 t442 x16_3 false 0 t420 t423 t426 t429 t430 t431) = some r := by rw [if_pos rfl] at H; exact H
             clear H
             have H := H1
             clear H1
             have H' := Aside0.mk H
             clear H
             go_wp2
             go_loopg [17, 18] kj66 (fun kq v17 v18 w' => ∃ (x17_5 : Bool) (x18_5 : Int), v17 = .bool x17_5 ∧ v18 = .int .i64 x18_5 ∧ Aside0 (laws_FnCarried.l2 kq t436 t440 t442 x16_3 x17_5 x18_5 t420 t423 t426 t429 t430 t431 = some r) ∧ Aside0 (kq ≤ kj66) ∧ Aside0 (Kd.R k33 33 w' w.heap.size (fun _ => True) (.slice Ao11 t420.length co11) t420) ∧ Aside0 (Kd.R k70 70 w' w.heap.size (fun _ => True) (.slice Ao13 t423.length co13) t423) ∧ Aside0 (Kd.R k72 72 w' w.heap.size (fun _ => True) (.slice Ao14 t426.length co14) t426) ∧ Aside0 (w'.heap[gb435]? = some (.cells #[(.slice Ao11 t420.length co11), (.slice Ao13 t423.length co13), (.slice Ao14 t426.length co14), .int .i64 t429, .int .i64 t430, .int .i64 t431] 56 (0, 0))) ∧ Aside0 (Below w.heap.size w w'))
             case atStart => exact ⟨(false), (0), (by first | rfl | (simp; done) | (simp [*]; done)), (by first | rfl | (simp; done) | (simp [*]; done)), H', ⟨Nat.le_refl _⟩, ⟨rl HO_436000.out⟩, ⟨rl HO_436001.out⟩, ⟨rl HO_436002.out⟩, ⟨bk BK435.out⟩, ⟨by repeat with_reducible first | exact bl HB.out | refine below_set ?_ GE435.out | refine bq ?_⟩⟩
             case round =>
              clear H'
              try clear c1
              try clear c2
              try clear p2
              try clear c3
              try clear c4
              try clear p4
              try clear q4
              try clear hx4
              try clear c5
              try clear c6
              try clear p6
              try clear c7
              try clear c10
              try clear c18
              try clear c18b0
              try clear c18b1
              try clear c19
              try clear c23
              try clear c23b0
              try clear c24
              try clear c24b0
              try clear c26
              try clear c34
              try clear c35
              try clear c36
              try clear c37
              try clear c39
              try clear c39b0
              try clear c40
              try clear c40b0
              try clear c41
              try clear c41b0
              try clear c41b1
              try clear c42
              try clear c43
              try clear c44
              try clear p44
              try clear q44
              try clear hx44
              try clear p45
              try clear q45
              try clear hx45
              try clear c46
              try clear c49
              try clear c51
              try clear c53
              try clear c55
              try clear c56
              try clear c57
              try clear c57b0
              try clear c58
              try clear c58b0
              try clear c59
              try clear c59b0
              try clear c60
              try clear c63
              try clear p64
              try clear c65
              try clear c68
              try clear c68b0
              try clear c71
              try clear hcz12_0 hcz12_1 hcz12_2 hcz12_3 hcz12_4 hcz12_5 hfz12_0 hfz12_1 hfz12_2 hfz12_3 hfz12_4 hfz12_5
              try clear hcz16_0 hcz16_1 hcz16_2 hcz16_3 hcz16_4 hcz16_5 hfz16_0 hfz16_1 hfz16_2 hfz16_3 hfz16_4 hfz16_5
              try clear hcz21_0 hcz21_1 hcz21_2 hcz21_3 hcz21_4 hcz21_5 hfz21_0 hfz21_1 hfz21_2 hfz21_3 hfz21_4 hfz21_5
              try clear hcz27_0 hcz27_1 hcz27_2 hcz27_3 hcz27_4 hcz27_5 hfz27_0 hfz27_1 hfz27_2 hfz27_3 hfz27_4 hfz27_5
              try clear hcz45_0 hcz45_1 hcz45_2 hcz45_3 hcz45_4 hcz45_5 hfz45_0 hfz45_1 hfz45_2 hfz45_3 hfz45_4 hfz45_5
              try clear hcz47_0 hcz47_1 hcz47_2 hcz47_3 hcz47_4 hcz47_5 hfz47_0 hfz47_1 hfz47_2 hfz47_3 hfz47_4 hfz47_5
              try clear hcz48_0 hcz48_1 hcz48_2 hfz48_0 hfz48_1 hfz48_2
              try clear hcz50_0 hcz50_1 hcz50_2 hcz50_3 hcz50_4 hcz50_5 hfz50_0 hfz50_1 hfz50_2 hfz50_3 hfz50_4 hfz50_5
              try clear hcz52_0 hcz52_1 hcz52_2 hcz52_3 hcz52_4 hcz52_5 hfz52_0 hfz52_1 hfz52_2 hfz52_3 hfz52_4 hfz52_5
              try clear hcz61_0 hcz61_1 hcz61_2 hcz61_3 hcz61_4 hcz61_5 hfz61_0 hfz61_1 hfz61_2 hfz61_3 hfz61_4 hfz61_5
              try clear hcz62_0 hcz62_1 hcz62_2 hfz62_0 hfz62_1 hfz62_2
              try clear hcz64_0 hcz64_1 hcz64_2 hcz64_3 hcz64_4 hcz64_5 hfz64_0 hfz64_1 hfz64_2 hfz64_3 hfz64_4 hfz64_5
              try clear hcz66_0 hcz66_1 hcz66_2 hcz66_3 hcz66_4 hcz66_5 hfz66_0 hfz66_1 hfz66_2 hfz66_3 hfz66_4 hfz66_5
              try clear hcz69_0 hcz69_1 hcz69_2 hcz69_3 hcz69_4 hcz69_5 hfz69_0 hfz69_1 hfz69_2 hfz69_3 hfz69_4 hfz69_5
              try clear hcz70_0 hcz70_1 hcz70_2 hcz70_3 hcz70_4 hcz70_5 hfz70_0 hfz70_1 hfz70_2 hfz70_3 hfz70_4 hfz70_5
              try clear hx443_0
              try clear hx443_1
              try clear hx443_2
              try clear hx443_3
              try clear hx443_4
              try clear hx443_5
              try clear hx443_6
              try clear hx450_0
              try clear hx450_1
              try clear hx450_2
              try clear hx450_3
              try clear hx450_4
              try clear hx450_5
              try clear hx450_6
              try clear hx451_0
              try clear hx451_1
              try clear hx451_2
              try clear hx451_3
              try clear hx451_4
              try clear hx451_5
              try clear hx451_6
              try clear p2
              try clear p4
              try clear p44
              try clear p443
              try clear p45
              try clear p450
              try clear p451
              try clear p6
              try clear p64
              try clear q4
              try clear q44
              try clear q443
              try clear q45
              try clear q450
              try clear q451
              obtain ⟨x17_5, x18_5, rfl, rfl, HA, HK5, HO_436000, HO_436001, HO_436002, BK435, HB⟩ := hrel
              cases gk with
              | zero => exact absurd HA.out (by simp [laws_FnCarried.l2])
              | succ k5 =>
               have H := HA.out
               clear HA
               simp only [laws_FnCarried.l2] at H
               by_cases c72 : x18_5 < (t423.length : Int)
               ·
                rw [if_pos c72] at H
                have c72b0 : decide (x18_5 < (t423.length : Int)) = true := decide_eq_true c72
                clear c72
                by_cases c73 : x17_5 = true
                ·
                 subst c73
                 have H1 : (laws_FnCarried.l2 k5 t436 t440 t442 x16_3 true (wrap64 (x18_5 + 1)) t420 t423 t426 t429 t430 t431) = some r := by rw [if_pos rfl] at H; exact H
                 clear H
                 have H := H1
                 clear H1
                 have H' := Aside0.mk H
                 clear H
                 obtain ⟨hcz74_0, hcz74_1, hcz74_2, hcz74_3, hcz74_4, hcz74_5⟩ := ck6 BK435.out
                 obtain ⟨hfz74_0, hfz74_1, hfz74_2, hfz74_3, hfz74_4, hfz74_5⟩ := fz6 BK435.out
                 try go_wp2
                 have n0_ := Aside0.mk (Kd.R_drew HO_436000.out)
                 have n1_ := Aside0.mk (Kd.R_drew HO_436001.out)
                 have n2_ := Aside0.mk (Kd.R_drew HO_436002.out)
                 have n3_ := Aside0.mk (blk_drew BK435.out)
                 have n4_ := Aside0.mk (below_drew1 HB.out)
                 clear HO_436000
                 clear HO_436001
                 clear HO_436002
                 clear BK435
                 clear HB
                 have HO_436000 := n0_
                 have HO_436001 := n1_
                 have HO_436002 := n2_
                 have BK435 := n3_
                 have HB := n4_
                 clear n0_ n1_ n2_ n3_ n4_
                 refine start_ (n := 36) (S := fun w' => True) (ds := []) m0_36 (by kernel_rfl) rfl rfl trivial (fun hHeld => ?_); refine with_tabW laws_FnCarried.tab26 laws_FnCarried.bits26 (fun HT_ HW_ => ?_)
                 generalize wr.drew = w75 at HO_436000 HO_436001 HO_436002 BK435 HB hHeld ⊢
                 refine pq_ HT_.out 0 137 m1_36 ?_
                 refine pq_ HT_.out 1 138 m2_36 ?_
                 refine pv_ HT_.out 2 139 m3_36 ?_
                 refine pv_ HT_.out 3 140 m4_36 ?_
                 refine pv_ HT_.out 4 141 m5_36 ?_
                 refine pv_ HT_.out 5 142 m6_36 ?_
                 refine pv_ HT_.out 6 143 m7_36 ?_
                 refine pv_ HT_.out 7 144 m8_36 ?_
                 refine pv_ HT_.out 8 145 m9_36 ?_
                 refine pv_ HT_.out 9 146 m10_36 ?_
                 refine pv_ HT_.out 10 147 m11_36 ?_
                 refine pv_ HT_.out 11 148 m12_36 ?_
                 refine pv_ HT_.out 12 149 m13_36 ?_
                 refine pv_ HT_.out 13 150 m14_36 ?_
                 refine pv_ HT_.out 14 151 m15_36 ?_
                 refine pv_ HT_.out 15 152 m16_36 ?_
                 refine pv_ HT_.out 16 153 m17_36 ?_
                 refine pv_ HT_.out 17 154 m18_36 ?_
                 refine pv_ HT_.out 18 155 m19_36 ?_
                 refine pv_ HT_.out 19 156 m20_36 ?_
                 refine pv_ HT_.out 20 157 m21_36 ?_
                 refine pv_ HT_.out 21 158 m22_36 ?_
                 refine pv_ HT_.out 22 159 m23_36 ?_
                 refine pv_ HT_.out 23 160 m24_36 ?_
                 refine pv_ HT_.out 24 161 m25_36 ?_
                 refine pv_ HT_.out 25 162 m26_36 ?_
                 refine pv_ HT_.out 26 163 m27_36 ?_
                 refine pv_ HT_.out 27 164 m28_36 ?_
                 refine pv_ HT_.out 28 165 m29_36 ?_
                 refine pv_ HT_.out 29 166 m30_36 ?_
                 refine pv_ HT_.out 30 167 m31_36 ?_
                 refine pv_ HT_.out 31 168 m32_36 ?_
                 refine pv_ HT_.out 32 169 m33_36 ?_
                 refine pv_ HT_.out 33 170 m34_36 ?_
                 refine pq_ HT_.out 34 171 m35_36 ?_
                 refine pq_ HT_.out 35 17 m36_36 ?_
                 refine done_ (done_of HT_.out (by kernel_rfl)) ?_
                 try go_wp2
                 go_roundg k5
                 case measure => have := HJ7.out; have := HK2.out; have := HK3.out; have := HJ66.out; have := HK5.out; omega
                 case rel => exact ⟨(true), (wrap64 (x18_5 + 1)), (by first | rfl | (simp; done) | (simp [*]; done)), (by first | rfl | (simp; done) | (simp [*]; done)), H', ⟨by have := HJ7.out; have := HK2.out; have := HK3.out; have := HJ66.out; have := HK5.out; omega⟩, ⟨rl HO_436000.out⟩, ⟨rl HO_436001.out⟩, ⟨rl HO_436002.out⟩, ⟨bk BK435.out⟩, ⟨by repeat with_reducible first | exact bl HB.out | refine below_set ?_ GE435.out | refine bq ?_⟩⟩
                ·
                 replace c73 := Bool.eq_false_iff.mpr c73
                 subst c73
                 have H1 : (if 0 ≤ x18_5 then (if 0 ≤ x16_3 then (if x16_3 < (t426.length : Int) then (if ((rd_T70 t423 x18_5).f0).toList = ((rd_T72 t426 x16_3).f0).toList then (laws_FnCarried.l2 k5 t436 t440 t442 x16_3 (decide ((wrap64 (t431 - ((rd_T72 t426 x16_3).f2))) ≤ ((rd_T70 t423 x18_5).f2))) (wrap64 (x18_5 + 1)) t420 t423 t426 t429 t430 t431) else (laws_FnCarried.l2 k5 t436 t440 t442 x16_3 false (wrap64 (x18_5 + 1)) t420 t423 t426 t429 t430 t431)) else (none)) else (none)) else (none)) = some r := by rw [if_neg (show ¬ (false = true) by decide)] at H; exact H
                 clear H
                 have H := H1
                 clear H1
                 by_cases c76 : 0 ≤ x18_5
                 ·
                  rw [if_pos c76] at H
                  have c76b0 : decide (0 ≤ x18_5) = true := decide_eq_true c76
                  clear c76
                  by_cases c77 : 0 ≤ x16_3
                  ·
                   rw [if_pos c77] at H
                   have c77b0 : decide (0 ≤ x16_3) = true := decide_eq_true c77
                   clear c77
                   by_cases c78 : x16_3 < (t426.length : Int)
                   ·
                    rw [if_pos c78] at H
                    have c78b0 : decide (x16_3 < (t426.length : Int)) = true := decide_eq_true c78
                    clear c78
                    by_cases c79 : ((rd_T70 t423 x18_5).f0).toList = ((rd_T72 t426 x16_3).f0).toList
                    ·
                     rw [if_pos c79] at H
                     have c79b0 : (((rd_T70 t423 x18_5).f0).toList == ((rd_T72 t426 x16_3).f0).toList) = true := beq_iff_eq.mpr c79
                     have c79b1 : (((rd_T70 t423 x18_5).f0).toList != ((rd_T72 t426 x16_3).f0).toList) = false := bne_eq_false_iff_eq.mpr c79
                     clear c79
                     have H' := Aside0.mk H
                     clear H
                     obtain ⟨hcz80_0, hcz80_1, hcz80_2, hcz80_3, hcz80_4, hcz80_5⟩ := ck6 BK435.out
                     obtain ⟨hfz80_0, hfz80_1, hfz80_2, hfz80_3, hfz80_4, hfz80_5⟩ := fz6 BK435.out
                     try go_wp2
                     have n0_ := Aside0.mk (Kd.R_drew HO_436000.out)
                     have n1_ := Aside0.mk (Kd.R_drew HO_436001.out)
                     have n2_ := Aside0.mk (Kd.R_drew HO_436002.out)
                     have n3_ := Aside0.mk (blk_drew BK435.out)
                     have n4_ := Aside0.mk (below_drew1 HB.out)
                     clear HO_436000
                     clear HO_436001
                     clear HO_436002
                     clear BK435
                     clear HB
                     have HO_436000 := n0_
                     have HO_436001 := n1_
                     have HO_436002 := n2_
                     have BK435 := n3_
                     have HB := n4_
                     clear n0_ n1_ n2_ n3_ n4_
                     have p452 : 0 ≤ (x18_5 : Int) := of_decide_eq_true (by first | (with_reducible assumption) | assumption)
                     have q452 : x18_5 < (t423.length : Int) := of_decide_eq_true (by first | (with_reducible assumption) | assumption)
                     obtain ⟨ad452, e452, hx452_0, hx452_1, hx452_2⟩ := at_T70 (Kd.R_reads' HO_436001.out).2.2 x18_5 p452 q452
                     cases e452
                     replace p452 := eq_true p452
                     replace q452 := eq_true q452
                     have p453 : 0 ≤ (x16_3 : Int) := of_decide_eq_true (by first | (with_reducible assumption) | assumption)
                     have q453 : x16_3 < (t426.length : Int) := of_decide_eq_true (by first | (with_reducible assumption) | assumption)
                     obtain ⟨ad453, e453, hx453_0, hx453_1, hx453_2⟩ := at_T72 (Kd.R_reads' HO_436002.out).2.2 x16_3 p453 q453
                     cases e453
                     replace p453 := eq_true p453
                     replace q453 := eq_true q453
                     have p454 : 0 ≤ (x16_3 : Int) := of_decide_eq_true (by first | (with_reducible assumption) | assumption)
                     have q454 : x16_3 < (t426.length : Int) := of_decide_eq_true (by first | (with_reducible assumption) | assumption)
                     obtain ⟨ad454, e454, hx454_0, hx454_1, hx454_2⟩ := at_T72 (Kd.R_reads' HO_436002.out).2.2 x16_3 p454 q454
                     obtain rfl : ad453 = ad454 := (by injection e454)
                     replace p454 := eq_true p454
                     replace q454 := eq_true q454
                     have p455 : 0 ≤ (x18_5 : Int) := of_decide_eq_true (by first | (with_reducible assumption) | assumption)
                     have q455 : x18_5 < (t423.length : Int) := of_decide_eq_true (by first | (with_reducible assumption) | assumption)
                     obtain ⟨ad455, e455, hx455_0, hx455_1, hx455_2⟩ := at_T70 (Kd.R_reads' HO_436001.out).2.2 x18_5 p455 q455
                     obtain rfl : ad452 = ad455 := (by injection e455)
                     replace p455 := eq_true p455
                     replace q455 := eq_true q455
                     refine start_ (n := 36) (S := fun w' => w'.cell? ⟨gb435, 0, none⟩ = some (.slice Ao11 t420.length co11) ∧ w'.cell? ⟨gb435, 1, none⟩ = some (.slice (some ad452) t423.length co13) ∧ w'.cell? ⟨gb435, 2, none⟩ = some (.slice (some ad453) t426.length co14) ∧ w'.cell? ⟨gb435, 3, none⟩ = some (.int .i64 t429) ∧ w'.cell? ⟨gb435, 4, none⟩ = some (.int .i64 t430) ∧ w'.cell? ⟨gb435, 5, none⟩ = some (.int .i64 t431) ∧ w'.cell? (ad452.add ((x18_5).toNat * 3)) = some (.string ((rd_T70 t423 x18_5).f0)) ∧ w'.cell? ⟨(ad452.add ((x18_5).toNat * 3)).block, (ad452.add ((x18_5).toNat * 3)).off + 1, none⟩ = some (.int .i64 ((rd_T70 t423 x18_5).f1)) ∧ w'.cell? ⟨(ad452.add ((x18_5).toNat * 3)).block, (ad452.add ((x18_5).toNat * 3)).off + 2, none⟩ = some (.int .i64 ((rd_T70 t423 x18_5).f2)) ∧ w'.cell? (ad453.add ((x16_3).toNat * 3)) = some (.string ((rd_T72 t426 x16_3).f0)) ∧ w'.cell? ⟨(ad453.add ((x16_3).toNat * 3)).block, (ad453.add ((x16_3).toNat * 3)).off + 1, none⟩ = some (.int .i64 ((rd_T72 t426 x16_3).f1)) ∧ w'.cell? ⟨(ad453.add ((x16_3).toNat * 3)).block, (ad453.add ((x16_3).toNat * 3)).off + 2, none⟩ = some (.int .i64 ((rd_T72 t426 x16_3).f2)) ∧ w'.cell? (ad453.add ((x16_3).toNat * 3)) = some (.string ((rd_T72 t426 x16_3).f0)) ∧ w'.cell? ⟨(ad453.add ((x16_3).toNat * 3)).block, (ad453.add ((x16_3).toNat * 3)).off + 1, none⟩ = some (.int .i64 ((rd_T72 t426 x16_3).f1)) ∧ w'.cell? ⟨(ad453.add ((x16_3).toNat * 3)).block, (ad453.add ((x16_3).toNat * 3)).off + 2, none⟩ = some (.int .i64 ((rd_T72 t426 x16_3).f2)) ∧ w'.cell? (ad452.add ((x18_5).toNat * 3)) = some (.string ((rd_T70 t423 x18_5).f0)) ∧ w'.cell? ⟨(ad452.add ((x18_5).toNat * 3)).block, (ad452.add ((x18_5).toNat * 3)).off + 1, none⟩ = some (.int .i64 ((rd_T70 t423 x18_5).f1)) ∧ w'.cell? ⟨(ad452.add ((x18_5).toNat * 3)).block, (ad452.add ((x18_5).toNat * 3)).off + 2, none⟩ = some (.int .i64 ((rd_T70 t423 x18_5).f2))) (ds := []) m0_36 (by kernel_rfl) rfl rfl ⟨ck BK435.out 0 rfl, ck BK435.out 1 rfl, ck BK435.out 2 rfl, ck BK435.out 3 rfl, ck BK435.out 4 rfl, ck BK435.out 5 rfl, hx452_0, hx452_1, hx452_2, hx453_0, hx453_1, hx453_2, hx454_0, hx454_1, hx454_2, hx455_0, hx455_1, hx455_2⟩ (fun hHeld => ?_); refine with_tabW laws_FnCarried.tab26 laws_FnCarried.bits26 (fun HT_ HW_ => ?_)
                     generalize wr.drew = w81 at HO_436000 HO_436001 HO_436002 BK435 HB hx452_0 hx452_1 hx452_2 hx453_0 hx453_1 hx453_2 hx454_0 hx454_1 hx454_2 hx455_0 hx455_1 hx455_2 hHeld ⊢
                     refine pq_ HT_.out 0 137 m1_36 ?_
                     refine pq_ HT_.out 1 138 m2_36 ?_
                     refine pq_ HT_.out 2 139 m3_36 ?_
                     refine pq_ HT_.out 4 141 n109 ?_
                     refine pq_ HT_.out 8 145 n110 ?_
                     refine pq_ HT_.out 10 147 n111 ?_
                     refine tk_ HT_.out HW_.out 3 140 n155 rfl rfl (by kernel_rfl) (by rfl) (by rintro w' ⟨s0, s1, s2, s3, s4, s5, s6, s7, s8, s9, s10, s11, s12, s13, s14, s15, s16, s17⟩; go_simp; with_reducible rfl) hHeld (by simp only [sp_]; rfl) (fun _ _ _ h => h) ?_
                     refine pq_ HT_.out 5 142 n112 ?_
                     refine pq_ HT_.out 6 143 n113 ?_
                     refine tk_ HT_.out HW_.out 7 144 n156 rfl rfl (by kernel_rfl) (by rfl) (by rintro w' ⟨s0, s1, s2, s3, s4, s5, s6, s7, s8, s9, s10, s11, s12, s13, s14, s15, s16, s17⟩; go_simp; with_reducible rfl) hHeld (by simp only [sp_]; rfl) (fun _ _ _ h => h) ?_
                     refine tk_ HT_.out HW_.out 9 146 m11_36 rfl rfl (by kernel_rfl) (by rfl) (by rintro w' ⟨s0, s1, s2, s3, s4, s5, s6, s7, s8, s9, s10, s11, s12, s13, s14, s15, s16, s17⟩; go_simp; with_reducible rfl) hHeld (by simp only [sp_]; rfl) (fun _ _ _ h => h) ?_
                     refine pq_ HT_.out 11 148 m12_36 ?_
                     refine pq_ HT_.out 12 149 m13_36 ?_
                     refine tk_ HT_.out HW_.out 13 150 m14_36 rfl rfl (by kernel_rfl) (by rfl) (by rintro w' ⟨s0, s1, s2, s3, s4, s5, s6, s7, s8, s9, s10, s11, s12, s13, s14, s15, s16, s17⟩; go_simp; with_reducible rfl) hHeld (by simp only [sp_]; rfl) (fun _ _ _ h => h) ?_
                     refine pq_ HT_.out 14 151 m15_36 ?_
                     refine pq_ HT_.out 15 152 m16_36 ?_
                     refine pq_ HT_.out 16 153 m17_36 ?_
                     refine pq_ HT_.out 17 154 m18_36 ?_
                     refine pq_ HT_.out 19 156 n120 ?_
                     refine pq_ HT_.out 21 158 n121 ?_
                     refine pq_ HT_.out 26 163 n122 ?_
                     refine pq_ HT_.out 28 165 n123 ?_
                     refine tk_ HT_.out HW_.out 18 155 n157 rfl rfl (by kernel_rfl) (by rfl) (by rintro w' ⟨s0, s1, s2, s3, s4, s5, s6, s7, s8, s9, s10, s11, s12, s13, s14, s15, s16, s17⟩; go_simp; with_reducible rfl) hHeld (by simp only [sp_]; rfl) (fun _ _ _ h => h) ?_
                     refine tk_ HT_.out HW_.out 20 157 n158 rfl rfl (by kernel_rfl) (by rfl) (by rintro w' ⟨s0, s1, s2, s3, s4, s5, s6, s7, s8, s9, s10, s11, s12, s13, s14, s15, s16, s17⟩; go_simp; with_reducible rfl) hHeld (by simp only [sp_]; rfl) (fun _ _ _ h => h) ?_
                     refine pq_ HT_.out 22 159 n124 ?_
                     refine pq_ HT_.out 23 160 n125 ?_
                     refine tk_ HT_.out HW_.out 24 161 n159 rfl rfl (by kernel_rfl) (by rfl) (by rintro w' ⟨s0, s1, s2, s3, s4, s5, s6, s7, s8, s9, s10, s11, s12, s13, s14, s15, s16, s17⟩; go_simp; with_reducible rfl) hHeld (by simp only [sp_]; rfl) (fun _ _ _ h => h) ?_
                     refine pq_ HT_.out 25 162 n126 ?_
                     refine tk_ HT_.out HW_.out 27 164 m29_36 rfl rfl (by kernel_rfl) (by rfl) (by rintro w' ⟨s0, s1, s2, s3, s4, s5, s6, s7, s8, s9, s10, s11, s12, s13, s14, s15, s16, s17⟩; go_simp; with_reducible rfl) hHeld (by simp only [sp_]; rfl) (fun _ _ _ h => h) ?_
                     refine pq_ HT_.out 29 166 m30_36 ?_
                     refine pq_ HT_.out 30 167 m31_36 ?_
                     refine tk_ HT_.out HW_.out 31 168 m32_36 rfl rfl (by kernel_rfl) (by rfl) (by rintro w' ⟨s0, s1, s2, s3, s4, s5, s6, s7, s8, s9, s10, s11, s12, s13, s14, s15, s16, s17⟩; go_simp; with_reducible rfl) hHeld (by simp only [sp_]; rfl) (fun _ _ _ h => h) ?_
                     refine pq_ HT_.out 32 169 m33_36 ?_
                     refine pq_ HT_.out 33 170 m34_36 ?_
                     refine pq_ HT_.out 34 171 m35_36 ?_
                     refine pq_ HT_.out 35 17 m36_36 ?_
                     refine done_ (done_of HT_.out (by kernel_rfl)) ?_
                     try go_wp2
                     go_roundg k5
                     case measure => have := HJ7.out; have := HK2.out; have := HK3.out; have := HJ66.out; have := HK5.out; omega
                     case rel => exact ⟨(decide ((wrap64 (t431 - ((rd_T72 t426 x16_3).f2))) ≤ ((rd_T70 t423 x18_5).f2))), (wrap64 (x18_5 + 1)), (by first | rfl | (simp; done) | (simp [*]; done)), (by first | rfl | (simp; done) | (simp [*]; done)), H', ⟨by have := HJ7.out; have := HK2.out; have := HK3.out; have := HJ66.out; have := HK5.out; omega⟩, ⟨rl HO_436000.out⟩, ⟨rl HO_436001.out⟩, ⟨rl HO_436002.out⟩, ⟨bk BK435.out⟩, ⟨by repeat with_reducible first | exact bl HB.out | refine below_set ?_ GE435.out | refine bq ?_⟩⟩
                    ·
                     rw [if_neg c79] at H
                     have c79b0 : (((rd_T70 t423 x18_5).f0).toList == ((rd_T72 t426 x16_3).f0).toList) = false := beq_eq_false_iff_ne.mpr c79
                     have c79b1 : (((rd_T70 t423 x18_5).f0).toList != ((rd_T72 t426 x16_3).f0).toList) = true := bne_iff_ne.mpr c79
                     have H' := Aside0.mk H
                     clear H
                     obtain ⟨hcz82_0, hcz82_1, hcz82_2, hcz82_3, hcz82_4, hcz82_5⟩ := ck6 BK435.out
                     obtain ⟨hfz82_0, hfz82_1, hfz82_2, hfz82_3, hfz82_4, hfz82_5⟩ := fz6 BK435.out
                     try go_wp2
                     have n0_ := Aside0.mk (Kd.R_drew HO_436000.out)
                     have n1_ := Aside0.mk (Kd.R_drew HO_436001.out)
                     have n2_ := Aside0.mk (Kd.R_drew HO_436002.out)
                     have n3_ := Aside0.mk (blk_drew BK435.out)
                     have n4_ := Aside0.mk (below_drew1 HB.out)
                     clear HO_436000
                     clear HO_436001
                     clear HO_436002
                     clear BK435
                     clear HB
                     have HO_436000 := n0_
                     have HO_436001 := n1_
                     have HO_436002 := n2_
                     have BK435 := n3_
                     have HB := n4_
                     clear n0_ n1_ n2_ n3_ n4_
                     have p452 : 0 ≤ (x18_5 : Int) := of_decide_eq_true (by first | (with_reducible assumption) | assumption)
                     have q452 : x18_5 < (t423.length : Int) := of_decide_eq_true (by first | (with_reducible assumption) | assumption)
                     obtain ⟨ad452, e452, hx452_0, hx452_1, hx452_2⟩ := at_T70 (Kd.R_reads' HO_436001.out).2.2 x18_5 p452 q452
                     cases e452
                     replace p452 := eq_true p452
                     replace q452 := eq_true q452
                     have p453 : 0 ≤ (x16_3 : Int) := of_decide_eq_true (by first | (with_reducible assumption) | assumption)
                     have q453 : x16_3 < (t426.length : Int) := of_decide_eq_true (by first | (with_reducible assumption) | assumption)
                     obtain ⟨ad453, e453, hx453_0, hx453_1, hx453_2⟩ := at_T72 (Kd.R_reads' HO_436002.out).2.2 x16_3 p453 q453
                     cases e453
                     replace p453 := eq_true p453
                     replace q453 := eq_true q453
                     refine start_ (n := 36) (S := fun w' => w'.cell? ⟨gb435, 0, none⟩ = some (.slice Ao11 t420.length co11) ∧ w'.cell? ⟨gb435, 1, none⟩ = some (.slice (some ad452) t423.length co13) ∧ w'.cell? ⟨gb435, 2, none⟩ = some (.slice (some ad453) t426.length co14) ∧ w'.cell? ⟨gb435, 3, none⟩ = some (.int .i64 t429) ∧ w'.cell? ⟨gb435, 4, none⟩ = some (.int .i64 t430) ∧ w'.cell? ⟨gb435, 5, none⟩ = some (.int .i64 t431) ∧ w'.cell? (ad452.add ((x18_5).toNat * 3)) = some (.string ((rd_T70 t423 x18_5).f0)) ∧ w'.cell? ⟨(ad452.add ((x18_5).toNat * 3)).block, (ad452.add ((x18_5).toNat * 3)).off + 1, none⟩ = some (.int .i64 ((rd_T70 t423 x18_5).f1)) ∧ w'.cell? ⟨(ad452.add ((x18_5).toNat * 3)).block, (ad452.add ((x18_5).toNat * 3)).off + 2, none⟩ = some (.int .i64 ((rd_T70 t423 x18_5).f2)) ∧ w'.cell? (ad453.add ((x16_3).toNat * 3)) = some (.string ((rd_T72 t426 x16_3).f0)) ∧ w'.cell? ⟨(ad453.add ((x16_3).toNat * 3)).block, (ad453.add ((x16_3).toNat * 3)).off + 1, none⟩ = some (.int .i64 ((rd_T72 t426 x16_3).f1)) ∧ w'.cell? ⟨(ad453.add ((x16_3).toNat * 3)).block, (ad453.add ((x16_3).toNat * 3)).off + 2, none⟩ = some (.int .i64 ((rd_T72 t426 x16_3).f2))) (ds := []) m0_36 (by kernel_rfl) rfl rfl ⟨ck BK435.out 0 rfl, ck BK435.out 1 rfl, ck BK435.out 2 rfl, ck BK435.out 3 rfl, ck BK435.out 4 rfl, ck BK435.out 5 rfl, hx452_0, hx452_1, hx452_2, hx453_0, hx453_1, hx453_2⟩ (fun hHeld => ?_); refine with_tabW laws_FnCarried.tab26 laws_FnCarried.bits26 (fun HT_ HW_ => ?_)
                     generalize wr.drew = w83 at HO_436000 HO_436001 HO_436002 BK435 HB hx452_0 hx452_1 hx452_2 hx453_0 hx453_1 hx453_2 hHeld ⊢
                     refine pq_ HT_.out 0 137 m1_36 ?_
                     refine pq_ HT_.out 1 138 m2_36 ?_
                     refine pq_ HT_.out 2 139 m3_36 ?_
                     refine pq_ HT_.out 4 141 n109 ?_
                     refine pq_ HT_.out 8 145 n110 ?_
                     refine pq_ HT_.out 10 147 n111 ?_
                     refine tk_ HT_.out HW_.out 3 140 n155 rfl rfl (by kernel_rfl) (by rfl) (by rintro w' ⟨s0, s1, s2, s3, s4, s5, s6, s7, s8, s9, s10, s11⟩; go_simp; with_reducible rfl) hHeld (by simp only [sp_]; rfl) (fun _ _ _ h => h) ?_
                     refine pq_ HT_.out 5 142 n112 ?_
                     refine pq_ HT_.out 6 143 n113 ?_
                     refine tk_ HT_.out HW_.out 7 144 n156 rfl rfl (by kernel_rfl) (by rfl) (by rintro w' ⟨s0, s1, s2, s3, s4, s5, s6, s7, s8, s9, s10, s11⟩; go_simp; with_reducible rfl) hHeld (by simp only [sp_]; rfl) (fun _ _ _ h => h) ?_
                     refine tk_ HT_.out HW_.out 9 146 m11_36 rfl rfl (by kernel_rfl) (by rfl) (by rintro w' ⟨s0, s1, s2, s3, s4, s5, s6, s7, s8, s9, s10, s11⟩; go_simp; with_reducible rfl) hHeld (by simp only [sp_]; rfl) (fun _ _ _ h => h) ?_
                     refine pq_ HT_.out 11 148 m12_36 ?_
                     refine pq_ HT_.out 12 149 m13_36 ?_
                     refine tk_ HT_.out HW_.out 13 150 m14_36 rfl rfl (by kernel_rfl) (by rfl) (by rintro w' ⟨s0, s1, s2, s3, s4, s5, s6, s7, s8, s9, s10, s11⟩; go_simp; with_reducible rfl) hHeld (by simp only [sp_]; rfl) (fun _ _ _ h => h) ?_
                     refine pq_ HT_.out 14 151 m15_36 ?_
                     refine pq_ HT_.out 15 152 m16_36 ?_
                     refine pv_ HT_.out 16 153 m17_36 ?_
                     refine pv_ HT_.out 17 154 m18_36 ?_
                     refine pv_ HT_.out 18 155 m19_36 ?_
                     refine pv_ HT_.out 19 156 m20_36 ?_
                     refine pv_ HT_.out 20 157 m21_36 ?_
                     refine pv_ HT_.out 21 158 m22_36 ?_
                     refine pv_ HT_.out 22 159 m23_36 ?_
                     refine pv_ HT_.out 23 160 m24_36 ?_
                     refine pv_ HT_.out 24 161 m25_36 ?_
                     refine pv_ HT_.out 25 162 m26_36 ?_
                     refine pv_ HT_.out 26 163 m27_36 ?_
                     refine pv_ HT_.out 27 164 m28_36 ?_
                     refine pv_ HT_.out 28 165 m29_36 ?_
                     refine pv_ HT_.out 29 166 m30_36 ?_
                     refine pv_ HT_.out 30 167 m31_36 ?_
                     refine pv_ HT_.out 31 168 m32_36 ?_
                     refine pv_ HT_.out 32 169 m33_36 ?_
                     refine pq_ HT_.out 33 170 m34_36 ?_
                     refine pq_ HT_.out 34 171 m35_36 ?_
                     refine pq_ HT_.out 35 17 m36_36 ?_
                     refine done_ (done_of HT_.out (by kernel_rfl)) ?_
                     try go_wp2
                     go_roundg k5
                     case measure => have := HJ7.out; have := HK2.out; have := HK3.out; have := HJ66.out; have := HK5.out; omega
                     case rel => exact ⟨(false), (wrap64 (x18_5 + 1)), (by first | rfl | (simp; done) | (simp [*]; done)), (by first | rfl | (simp; done) | (simp [*]; done)), H', ⟨by have := HJ7.out; have := HK2.out; have := HK3.out; have := HJ66.out; have := HK5.out; omega⟩, ⟨rl HO_436000.out⟩, ⟨rl HO_436001.out⟩, ⟨rl HO_436002.out⟩, ⟨bk BK435.out⟩, ⟨by repeat with_reducible first | exact bl HB.out | refine below_set ?_ GE435.out | refine bq ?_⟩⟩
                   ·
                    rw [if_neg c78] at H
                    exact absurd H (by simp)
                  ·
                   rw [if_neg c77] at H
                   exact absurd H (by simp)
                 ·
                  rw [if_neg c76] at H
                  exact absurd H (by simp)
               ·
                rw [if_neg c72] at H
                have c72b0 : decide (x18_5 < (t423.length : Int)) = false := decide_eq_false c72
                clear c72
                by_cases c84 : x17_5 = true
                ·
                 subst c84
                 have H1 : (laws_FnCarried.l1 k5 t436 t440 t442 (wrap64 (x16_3 + 1)) t420 t423 t426 t429 t430 t431) = some r := by rw [if_pos rfl] at H; exact H
                 clear H
                 have H := H1
                 clear H1
                 have H' := Aside0.mk H
                 clear H
                 obtain ⟨hcz85_0, hcz85_1, hcz85_2, hcz85_3, hcz85_4, hcz85_5⟩ := ck6 BK435.out
                 obtain ⟨hfz85_0, hfz85_1, hfz85_2, hfz85_3, hfz85_4, hfz85_5⟩ := fz6 BK435.out
                 go_wp2
                 go_roundg k5
                 case measure => have := HJ7.out; have := HK2.out; have := HK3.out; have := HJ66.out; have := HK5.out; omega
                 case rel => exact ⟨(wrap64 (x16_3 + 1)), (by first | rfl | (simp; done) | (simp [*]; done)), H', ⟨by have := HJ7.out; have := HK2.out; have := HK3.out; have := HJ66.out; have := HK5.out; omega⟩, ⟨rl HO_436000.out⟩, ⟨rl HO_436001.out⟩, ⟨rl HO_436002.out⟩, ⟨bk BK435.out⟩, ⟨by repeat with_reducible first | exact bl HB.out | refine below_set ?_ GE435.out | refine bq ?_⟩⟩
                ·
                 replace c84 := Bool.eq_false_iff.mpr c84
                 subst c84
                 have H1 : (some false) = some r := by rw [if_neg (show ¬ (false = true) by decide)] at H; exact H
                 clear H
                 have H := H1
                 clear H1
                 cases H.trans (congrArg some hr_)
            ·
             replace c71 := Bool.eq_false_iff.mpr c71
             subst c71
             have H1 : (some (t442 == (t440.toList != ([] : List UInt8)))) = some r := by rw [if_neg (show ¬ (false = true) by decide)] at H; exact H
             clear H
             have H := H1
             clear H1
             obtain rfl := Option.some.inj H
             go_wp2
             go_ret
             exact ⟨by first | rfl | (simp [errW_none, errW_some] <;> rfl) | (simp [*, errW_none, errW_some]; rw [beq_iff_eq.1 hr_]; cases t440.toList <;> rfl) | (simp [*, errW_none, errW_some] <;> rfl), by repeat with_reducible first | exact bl HB.out | refine below_set ?_ GE435.out | refine bq ?_⟩

/-- THE ONE PURE STATEMENT of laws_FnCarried: yours. -/
def laws_FnCarried.Pure : Prop := ∀ (l0 : List Int), l0.length ≤ maxLen → l0.length * 1 ≤ 140737488351232 → (∀ x ∈ l0, (Lit.int .u8 x).wf = true) → ∃ k, laws_FnCarried.f k l0 = some true
theorem laws_FnCarried.walk (P : laws_FnCarried.Pure) (a0 : Option Addr) (len0 cap0 : Nat) (z0 : List Int) (w : World) (w0 : (a0 = none ∧ len0 = 0 ∧ cap0 = 0 ∧ z0 = []) ∨ ∃ x, a0 = some x ∧ len0 ≤ cap0 ∧ cap0 ≤ maxLen ∧ z0.length = cap0 ∧ (∀ i, i < z0.length → w.cell? (x.add i) = some (.int .u8 (z0.getD i 0))) ∧ ∀ n ∈ z0, (Lit.int .u8 n).wf = true) (y0 : len0 * 1 ≤ 140737488351232) :
  Calls Try.prog 10 #[.slice a0 len0 cap0] w fun e w' => e = .returned (.bool true) ∧ Below w.heap.size w w' := by
 obtain ⟨l0, rfl, hr0, hm0, hw0, hc0⟩ := ReadsInt.ofRowC w0
 obtain ⟨k, h⟩ := P l0 hm0 y0 hw0
 refine (laws_FnCarried.calls k _ _ l0 true rfl w (Kd.C_of_reads (d := (0 : Int)) (h1 := fun _ => rfl) hr0) hc0 h).mono ?_
 rintro e w' ⟨rfl, hd⟩
 exact ⟨rfl, hd⟩

end Go.Proofs.Ytbgdibbgngpggaa.PFnCarried
