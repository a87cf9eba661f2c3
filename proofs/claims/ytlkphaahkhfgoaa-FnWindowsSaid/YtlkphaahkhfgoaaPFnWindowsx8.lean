-- Written by a program of this session (wip/xprint.py) out of the translation; Lean checks it.
import Derived.Test.YtlkphaahkhfgoaaPFnWindowsx0
import Derived.Test.YtlkphaahkhfgoaaPFnWindowsx1
import Derived.Test.YtlkphaahkhfgoaaPFnWindowsx2
import Derived.Test.YtlkphaahkhfgoaaPFnWindowsx4
import Derived.Test.YtlkphaahkhfgoaaPFnWindowsx5
import Derived.Test.YtlkphaahkhfgoaaPFnWindowsx6
import Derived.Test.YtlkphaahkhfgoaaPFnWindowsx7
namespace Go.Proofs.Ytlkphaahkhfgoaa.PFnWindows
open Go.RowKit Go.Proofs.YtlkphaahkhfgoaaW.PrintWords Go.Proofs.YtlkphaahkhfgoaaW.PrintLast Go.Proofs.YtlkphaahkhfgoaaW.PrintMore Go.Proofs.Ytlkphaahkhfgoaa.Sq
attribute [local go_sem] max2_int min2_int max_two min_two max_three min_three max_four min_four   -- for this text's walks alone
set_option linter.unusedVariables false
set_option linter.unusedSimpArgs false

/-! ### laws_FnWindows: function 8 -/
mutual
def laws_FnWindows.l0 : Nat → List Int → List (S74) → Int → List Int → Int → Int → Int → List (S62) → Option (Bool)
 | 0, _, _, _, _, _, _, _, _ => none
 | k + 1, x0, x4, x5, x6, x7, x288000, x288001, x288002 => if x7 < x288001 then ((impl_Share.f k x288000 x288001 x288002 x7).bind fun bt291 => (if bt291.2.2 = true then (if bt291.2.1 < 0 then (some false) else (if bt291.2.1 > x288000 then (some false) else (if bt291.1 < 0 then (some false) else (if x6.length < 17592186044416 then (laws_FnWindows.l0 k x0 x4 (wrap64 (x5 + bt291.1)) (x6 ++ [bt291.1]) (wrap64 (x7 + 1)) x288000 x288001 x288002) else (none))))) else (some false))) else (if 0 ≤ x288001 then (if (x288001 : Int).toNat ≤ 35184372088832 then (laws_FnWindows.l1 k x0 x4 x5 x6 (List.replicate (x288001 : Int).toNat 0) 0 x288000 x288001 x288002) else (none)) else (none))
def laws_FnWindows.l1 : Nat → List Int → List (S74) → Int → List Int → List Int → Int → Int → Int → List (S62) → Option (Bool)
 | 0, _, _, _, _, _, _, _, _, _ => none
 | k + 1, x0, x4, x5, x6, x11, x12, x288000, x288001, x288002 => if x12 < x288000 then ((impl_Owner.f k x288000 x288001 x288002 x12).bind fun bt300 => ((impl_Owner.f k x288000 x288001 x288002 (wrap64 (x12 + x288000))).bind fun bt302 => (if bt300.2 = true then (if bt300.1 < (-1) then (laws_FnWindows.j2 k x0 x4 x5 x6 x11 x12 bt300.1 true x288000 x288001 x288002) else (if bt300.1 ≥ x288001 then (laws_FnWindows.j2 k x0 x4 x5 x6 x11 x12 bt300.1 true x288000 x288001 x288002) else (laws_FnWindows.j2 k x0 x4 x5 x6 x11 x12 bt300.1 (bt302.1 != bt300.1) x288000 x288001 x288002))) else (laws_FnWindows.j2 k x0 x4 x5 x6 x11 x12 bt300.1 true x288000 x288001 x288002)))) else ((laws_sameInts.f k x11 x6).bind fun t306 => (if t306 = true then (if x5 > x288000 then (laws_FnWindows.j3 k x0 x4 x5 true x288000 x288001 x288002) else ((impl_PlanOk.f k x288000 x288001 x288002).bind fun t307 => (laws_FnWindows.j3 k x0 x4 x5 (!t307) x288000 x288001 x288002))) else (laws_FnWindows.j3 k x0 x4 x5 true x288000 x288001 x288002)))
def laws_FnWindows.j2 : Nat → List Int → List (S74) → Int → List Int → List Int → Int → Int → Bool → Int → Int → List (S62) → Option (Bool)
 | 0, _, _, _, _, _, _, _, _, _, _, _ => none
 | k + 1, x0, x4, x5, x6, x11, x12, x13, x114, x288000, x288001, x288002 => if x114 = true then (some false) else (if x13 ≥ 0 then (if 0 ≤ x13 then (if x13 < (x11.length : Int) then (laws_FnWindows.l1 k x0 x4 x5 x6 (x11.set (x13 : Int).toNat (wrap64 ((rd x11 x13) + 1))) (wrap64 (x12 + 1)) x288000 x288001 x288002) else (none)) else (none)) else (laws_FnWindows.l1 k x0 x4 x5 x6 x11 (wrap64 (x12 + 1)) x288000 x288001 x288002))
def laws_FnWindows.j3 : Nat → List Int → List (S74) → Int → Bool → Int → Int → List (S62) → Option (Bool)
 | 0, _, _, _, _, _, _, _ => none
 | k + 1, x0, x4, x5, x137, x288000, x288001, x288002 => if x137 = true then (some false) else ((laws_at.f x0 2).bind fun t308 => ((impl_FitWindow.f k x288000 x288001 x288002 0 (wrap64 (1 + (Int.tmod t308 4)))).bind fun bt309 => (laws_FnWindows.l2 k x4 x5 bt309.2.2.2 0 x288000 x288001 x288002 bt309.1 bt309.2.1 bt309.2.2.1)))
def laws_FnWindows.l2 : Nat → List (S74) → Int → Bool → Int → Int → Int → List (S62) → Int → Int → List (S62) → Option (Bool)
 | 0, _, _, _, _, _, _, _, _, _, _ => none
 | k + 1, x4, x5, x18, x19, x288000, x288001, x288002, x316000, x316001, x316002 => if x19 < x288000 then (laws_FnWindows.j5 k x4 x5 x18 x19 x18 x288000 x288001 x288002 x316000 x316001 x316002) else (laws_FnWindows.j5 k x4 x5 x18 x19 false x288000 x288001 x288002 x316000 x316001 x316002)
def laws_FnWindows.j5 : Nat → List (S74) → Int → Bool → Int → Bool → Int → Int → List (S62) → Int → Int → List (S62) → Option (Bool)
 | 0, _, _, _, _, _, _, _, _, _, _, _ => none
 | k + 1, x4, x5, x18, x19, x153, x288000, x288001, x288002, x316000, x316001, x316002 => if x153 = true then ((impl_Owner.f k x288000 x288001 x288002 x19).bind fun bt326 => ((impl_Owner.f k x316000 x316001 x316002 x19).bind fun bt328 => (if bt326.1 ≥ 0 then (if bt328.1 = bt326.1 then (if bt326.1 < 0 then (if bt328.1 > 0 then (some false) else (laws_FnWindows.l2 k x4 x5 x18 (wrap64 (x19 + 1)) x288000 x288001 x288002 x316000 x316001 x316002)) else (laws_FnWindows.l2 k x4 x5 x18 (wrap64 (x19 + 1)) x288000 x288001 x288002 x316000 x316001 x316002)) else (some false)) else (if bt326.1 < 0 then (if bt328.1 > 0 then (some false) else (laws_FnWindows.l2 k x4 x5 x18 (wrap64 (x19 + 1)) x288000 x288001 x288002 x316000 x316001 x316002)) else (laws_FnWindows.l2 k x4 x5 x18 (wrap64 (x19 + 1)) x288000 x288001 x288002 x316000 x316001 x316002))))) else ((impl_RunJobs.f k x288000 x288001 x288002 x4 x288000).bind fun bt316 => ((impl_RunJobs.f k x288000 x288001 x288002 ([] : List (S74)) x288000).bind fun bt321 => (if bt316.2.2 = true then (if bt321.2.2 = true then (if (bt316.1.length : Int) = (x4.length : Int) then (if bt316.2.1 ≥ 0 then (if bt316.2.1 ≤ x5 then (if (bt321.1.length : Int) = 0 then (some (bt321.2.1 == x5)) else (some false)) else (some false)) else (some false)) else (some false)) else (some false)) else (some false))))
end
def laws_FnWindows.f (k : Nat) (l0 : List Int) : Option (Bool) := (laws_big.f l0).bind fun t278 => (if t278 = true then (some true) else ((spec_DrawPlan17.f k l0).bind fun bt279 => (laws_FnWindows.l0 k l0 bt279.2.2.2 0 (([] : List Int)) 0 bt279.1 bt279.2.1 bt279.2.2.1)))
theorem laws_FnWindows.mono_l : ∀ k, (∀ y0 y1 y2 y3 y4 y5 y6 y7, LeO (laws_FnWindows.l0 k y0 y1 y2 y3 y4 y5 y6 y7) (laws_FnWindows.l0 (k + 1) y0 y1 y2 y3 y4 y5 y6 y7)) ∧ (∀ y0 y1 y2 y3 y4 y5 y6 y7 y8, LeO (laws_FnWindows.l1 k y0 y1 y2 y3 y4 y5 y6 y7 y8) (laws_FnWindows.l1 (k + 1) y0 y1 y2 y3 y4 y5 y6 y7 y8)) ∧ (∀ y0 y1 y2 y3 y4 y5 y6 y7 y8 y9 y10, LeO (laws_FnWindows.j2 k y0 y1 y2 y3 y4 y5 y6 y7 y8 y9 y10) (laws_FnWindows.j2 (k + 1) y0 y1 y2 y3 y4 y5 y6 y7 y8 y9 y10)) ∧ (∀ y0 y1 y2 y3 y4 y5 y6, LeO (laws_FnWindows.j3 k y0 y1 y2 y3 y4 y5 y6) (laws_FnWindows.j3 (k + 1) y0 y1 y2 y3 y4 y5 y6)) ∧ (∀ y0 y1 y2 y3 y4 y5 y6 y7 y8 y9, LeO (laws_FnWindows.l2 k y0 y1 y2 y3 y4 y5 y6 y7 y8 y9) (laws_FnWindows.l2 (k + 1) y0 y1 y2 y3 y4 y5 y6 y7 y8 y9)) ∧ (∀ y0 y1 y2 y3 y4 y5 y6 y7 y8 y9 y10, LeO (laws_FnWindows.j5 k y0 y1 y2 y3 y4 y5 y6 y7 y8 y9 y10) (laws_FnWindows.j5 (k + 1) y0 y1 y2 y3 y4 y5 y6 y7 y8 y9 y10))
 | 0 => ⟨fun _ _ _ _ _ _ _ _ r h => by simp [laws_FnWindows.l0] at h, fun _ _ _ _ _ _ _ _ _ r h => by simp [laws_FnWindows.l1] at h, fun _ _ _ _ _ _ _ _ _ _ _ r h => by simp [laws_FnWindows.j2] at h, fun _ _ _ _ _ _ _ r h => by simp [laws_FnWindows.j3] at h, fun _ _ _ _ _ _ _ _ _ _ r h => by simp [laws_FnWindows.l2] at h, fun _ _ _ _ _ _ _ _ _ _ _ r h => by simp [laws_FnWindows.j5] at h⟩
 | k + 1 => by
  obtain ⟨ih0, ih1, ih2, ih3, ih4, ih5⟩ := laws_FnWindows.mono_l k
  refine ⟨?_, ?_, ?_, ?_, ?_, ?_⟩
  ·
   intro y0 y1 y2 y3 y4 y5 y6 y7
   unfold laws_FnWindows.l0
   repeat' first
   | (with_reducible exact ih0 _ _ _ _ _ _ _ _)
   | (with_reducible exact ih1 _ _ _ _ _ _ _ _ _)
   | (with_reducible exact ih2 _ _ _ _ _ _ _ _ _ _ _)
   | (with_reducible exact ih3 _ _ _ _ _ _ _)
   | (with_reducible exact ih4 _ _ _ _ _ _ _ _ _ _)
   | (with_reducible exact ih5 _ _ _ _ _ _ _ _ _ _ _)
   | (with_reducible exact impl_FitWindow.mono _ _ _ _ _ _)
   | (with_reducible exact impl_Owner.mono _ _ _ _ _)
   | (with_reducible exact impl_PlanOk.mono _ _ _ _)
   | (with_reducible exact impl_RunJobs.mono _ _ _ _ _ _)
   | (with_reducible exact impl_Share.mono _ _ _ _ _)
   | (with_reducible exact laws_sameInts.mono _ _ _)
   | (with_reducible exact spec_DrawPlan17.mono _ _)
   | (with_reducible exact LeO.refl _)
   | (with_reducible exact LeO.none _)
   | (with_reducible refine LeO.ite ?_ ?_)
   | (with_reducible refine LeO.bind ?_ (fun _ => ?_))
   | exact ih0 _ _ _ _ _ _ _ _
   | exact ih1 _ _ _ _ _ _ _ _ _
   | exact ih2 _ _ _ _ _ _ _ _ _ _ _
   | exact ih3 _ _ _ _ _ _ _
   | exact ih4 _ _ _ _ _ _ _ _ _ _
   | exact ih5 _ _ _ _ _ _ _ _ _ _ _
   | exact impl_FitWindow.mono _ _ _ _ _ _
   | exact impl_Owner.mono _ _ _ _ _
   | exact impl_PlanOk.mono _ _ _ _
   | exact impl_RunJobs.mono _ _ _ _ _ _
   | exact impl_Share.mono _ _ _ _ _
   | exact laws_sameInts.mono _ _ _
   | exact spec_DrawPlan17.mono _ _
   | exact LeO.none _
   | refine LeO.ite ?_ ?_
   | refine LeO.bind ?_ (fun _ => ?_)
  ·
   intro y0 y1 y2 y3 y4 y5 y6 y7 y8
   unfold laws_FnWindows.l1
   repeat' first
   | (with_reducible exact ih0 _ _ _ _ _ _ _ _)
   | (with_reducible exact ih1 _ _ _ _ _ _ _ _ _)
   | (with_reducible exact ih2 _ _ _ _ _ _ _ _ _ _ _)
   | (with_reducible exact ih3 _ _ _ _ _ _ _)
   | (with_reducible exact ih4 _ _ _ _ _ _ _ _ _ _)
   | (with_reducible exact ih5 _ _ _ _ _ _ _ _ _ _ _)
   | (with_reducible exact impl_FitWindow.mono _ _ _ _ _ _)
   | (with_reducible exact impl_Owner.mono _ _ _ _ _)
   | (with_reducible exact impl_PlanOk.mono _ _ _ _)
   | (with_reducible exact impl_RunJobs.mono _ _ _ _ _ _)
   | (with_reducible exact impl_Share.mono _ _ _ _ _)
   | (with_reducible exact laws_sameInts.mono _ _ _)
   | (with_reducible exact spec_DrawPlan17.mono _ _)
   | (with_reducible exact LeO.refl _)
   | (with_reducible exact LeO.none _)
   | (with_reducible refine LeO.ite ?_ ?_)
   | (with_reducible refine LeO.bind ?_ (fun _ => ?_))
   | exact ih0 _ _ _ _ _ _ _ _
   | exact ih1 _ _ _ _ _ _ _ _ _
   | exact ih2 _ _ _ _ _ _ _ _ _ _ _
   | exact ih3 _ _ _ _ _ _ _
   | exact ih4 _ _ _ _ _ _ _ _ _ _
   | exact ih5 _ _ _ _ _ _ _ _ _ _ _
   | exact impl_FitWindow.mono _ _ _ _ _ _
   | exact impl_Owner.mono _ _ _ _ _
   | exact impl_PlanOk.mono _ _ _ _
   | exact impl_RunJobs.mono _ _ _ _ _ _
   | exact impl_Share.mono _ _ _ _ _
   | exact laws_sameInts.mono _ _ _
   | exact spec_DrawPlan17.mono _ _
   | exact LeO.none _
   | refine LeO.ite ?_ ?_
   | refine LeO.bind ?_ (fun _ => ?_)
  ·
   intro y0 y1 y2 y3 y4 y5 y6 y7 y8 y9 y10
   unfold laws_FnWindows.j2
   repeat' first
   | (with_reducible exact ih0 _ _ _ _ _ _ _ _)
   | (with_reducible exact ih1 _ _ _ _ _ _ _ _ _)
   | (with_reducible exact ih2 _ _ _ _ _ _ _ _ _ _ _)
   | (with_reducible exact ih3 _ _ _ _ _ _ _)
   | (with_reducible exact ih4 _ _ _ _ _ _ _ _ _ _)
   | (with_reducible exact ih5 _ _ _ _ _ _ _ _ _ _ _)
   | (with_reducible exact impl_FitWindow.mono _ _ _ _ _ _)
   | (with_reducible exact impl_Owner.mono _ _ _ _ _)
   | (with_reducible exact impl_PlanOk.mono _ _ _ _)
   | (with_reducible exact impl_RunJobs.mono _ _ _ _ _ _)
   | (with_reducible exact impl_Share.mono _ _ _ _ _)
   | (with_reducible exact laws_sameInts.mono _ _ _)
   | (with_reducible exact spec_DrawPlan17.mono _ _)
   | (with_reducible exact LeO.refl _)
   | (with_reducible exact LeO.none _)
   | (with_reducible refine LeO.ite ?_ ?_)
   | (with_reducible refine LeO.bind ?_ (fun _ => ?_))
   | exact ih0 _ _ _ _ _ _ _ _
   | exact ih1 _ _ _ _ _ _ _ _ _
   | exact ih2 _ _ _ _ _ _ _ _ _ _ _
   | exact ih3 _ _ _ _ _ _ _
   | exact ih4 _ _ _ _ _ _ _ _ _ _
   | exact ih5 _ _ _ _ _ _ _ _ _ _ _
   | exact impl_FitWindow.mono _ _ _ _ _ _
   | exact impl_Owner.mono _ _ _ _ _
   | exact impl_PlanOk.mono _ _ _ _
   | exact impl_RunJobs.mono _ _ _ _ _ _
   | exact impl_Share.mono _ _ _ _ _
   | exact laws_sameInts.mono _ _ _
   | exact spec_DrawPlan17.mono _ _
   | exact LeO.none _
   | refine LeO.ite ?_ ?_
   | refine LeO.bind ?_ (fun _ => ?_)
  ·
   intro y0 y1 y2 y3 y4 y5 y6
   unfold laws_FnWindows.j3
   repeat' first
   | (with_reducible exact ih0 _ _ _ _ _ _ _ _)
   | (with_reducible exact ih1 _ _ _ _ _ _ _ _ _)
   | (with_reducible exact ih2 _ _ _ _ _ _ _ _ _ _ _)
   | (with_reducible exact ih3 _ _ _ _ _ _ _)
   | (with_reducible exact ih4 _ _ _ _ _ _ _ _ _ _)
   | (with_reducible exact ih5 _ _ _ _ _ _ _ _ _ _ _)
   | (with_reducible exact impl_FitWindow.mono _ _ _ _ _ _)
   | (with_reducible exact impl_Owner.mono _ _ _ _ _)
   | (with_reducible exact impl_PlanOk.mono _ _ _ _)
   | (with_reducible exact impl_RunJobs.mono _ _ _ _ _ _)
   | (with_reducible exact impl_Share.mono _ _ _ _ _)
   | (with_reducible exact laws_sameInts.mono _ _ _)
   | (with_reducible exact spec_DrawPlan17.mono _ _)
   | (with_reducible exact LeO.refl _)
   | (with_reducible exact LeO.none _)
   | (with_reducible refine LeO.ite ?_ ?_)
   | (with_reducible refine LeO.bind ?_ (fun _ => ?_))
   | exact ih0 _ _ _ _ _ _ _ _
   | exact ih1 _ _ _ _ _ _ _ _ _
   | exact ih2 _ _ _ _ _ _ _ _ _ _ _
   | exact ih3 _ _ _ _ _ _ _
   | exact ih4 _ _ _ _ _ _ _ _ _ _
   | exact ih5 _ _ _ _ _ _ _ _ _ _ _
   | exact impl_FitWindow.mono _ _ _ _ _ _
   | exact impl_Owner.mono _ _ _ _ _
   | exact impl_PlanOk.mono _ _ _ _
   | exact impl_RunJobs.mono _ _ _ _ _ _
   | exact impl_Share.mono _ _ _ _ _
   | exact laws_sameInts.mono _ _ _
   | exact spec_DrawPlan17.mono _ _
   | exact LeO.none _
   | refine LeO.ite ?_ ?_
   | refine LeO.bind ?_ (fun _ => ?_)
  ·
   intro y0 y1 y2 y3 y4 y5 y6 y7 y8 y9
   unfold laws_FnWindows.l2
   repeat' first
   | (with_reducible exact ih0 _ _ _ _ _ _ _ _)
   | (with_reducible exact ih1 _ _ _ _ _ _ _ _ _)
   | (with_reducible exact ih2 _ _ _ _ _ _ _ _ _ _ _)
   | (with_reducible exact ih3 _ _ _ _ _ _ _)
   | (with_reducible exact ih4 _ _ _ _ _ _ _ _ _ _)
   | (with_reducible exact ih5 _ _ _ _ _ _ _ _ _ _ _)
   | (with_reducible exact impl_FitWindow.mono _ _ _ _ _ _)
   | (with_reducible exact impl_Owner.mono _ _ _ _ _)
   | (with_reducible exact impl_PlanOk.mono _ _ _ _)
   | (with_reducible exact impl_RunJobs.mono _ _ _ _ _ _)
   | (with_reducible exact impl_Share.mono _ _ _ _ _)
   | (with_reducible exact laws_sameInts.mono _ _ _)
   | (with_reducible exact spec_DrawPlan17.mono _ _)
   | (with_reducible exact LeO.refl _)
   | (with_reducible exact LeO.none _)
   | (with_reducible refine LeO.ite ?_ ?_)
   | (with_reducible refine LeO.bind ?_ (fun _ => ?_))
   | exact ih0 _ _ _ _ _ _ _ _
   | exact ih1 _ _ _ _ _ _ _ _ _
   | exact ih2 _ _ _ _ _ _ _ _ _ _ _
   | exact ih3 _ _ _ _ _ _ _
   | exact ih4 _ _ _ _ _ _ _ _ _ _
   | exact ih5 _ _ _ _ _ _ _ _ _ _ _
   | exact impl_FitWindow.mono _ _ _ _ _ _
   | exact impl_Owner.mono _ _ _ _ _
   | exact impl_PlanOk.mono _ _ _ _
   | exact impl_RunJobs.mono _ _ _ _ _ _
   | exact impl_Share.mono _ _ _ _ _
   | exact laws_sameInts.mono _ _ _
   | exact spec_DrawPlan17.mono _ _
   | exact LeO.none _
   | refine LeO.ite ?_ ?_
   | refine LeO.bind ?_ (fun _ => ?_)
  ·
   intro y0 y1 y2 y3 y4 y5 y6 y7 y8 y9 y10
   unfold laws_FnWindows.j5
   repeat' first
   | (with_reducible exact ih0 _ _ _ _ _ _ _ _)
   | (with_reducible exact ih1 _ _ _ _ _ _ _ _ _)
   | (with_reducible exact ih2 _ _ _ _ _ _ _ _ _ _ _)
   | (with_reducible exact ih3 _ _ _ _ _ _ _)
   | (with_reducible exact ih4 _ _ _ _ _ _ _ _ _ _)
   | (with_reducible exact ih5 _ _ _ _ _ _ _ _ _ _ _)
   | (with_reducible exact impl_FitWindow.mono _ _ _ _ _ _)
   | (with_reducible exact impl_Owner.mono _ _ _ _ _)
   | (with_reducible exact impl_PlanOk.mono _ _ _ _)
   | (with_reducible exact impl_RunJobs.mono _ _ _ _ _ _)
   | (with_reducible exact impl_Share.mono _ _ _ _ _)
   | (with_reducible exact laws_sameInts.mono _ _ _)
   | (with_reducible exact spec_DrawPlan17.mono _ _)
   | (with_reducible exact LeO.refl _)
   | (with_reducible exact LeO.none _)
   | (with_reducible refine LeO.ite ?_ ?_)
   | (with_reducible refine LeO.bind ?_ (fun _ => ?_))
   | exact ih0 _ _ _ _ _ _ _ _
   | exact ih1 _ _ _ _ _ _ _ _ _
   | exact ih2 _ _ _ _ _ _ _ _ _ _ _
   | exact ih3 _ _ _ _ _ _ _
   | exact ih4 _ _ _ _ _ _ _ _ _ _
   | exact ih5 _ _ _ _ _ _ _ _ _ _ _
   | exact impl_FitWindow.mono _ _ _ _ _ _
   | exact impl_Owner.mono _ _ _ _ _
   | exact impl_PlanOk.mono _ _ _ _
   | exact impl_RunJobs.mono _ _ _ _ _ _
   | exact impl_Share.mono _ _ _ _ _
   | exact laws_sameInts.mono _ _ _
   | exact spec_DrawPlan17.mono _ _
   | exact LeO.none _
   | refine LeO.ite ?_ ?_
   | refine LeO.bind ?_ (fun _ => ?_)
theorem laws_FnWindows.mono : ∀ a0 k, LeO (laws_FnWindows.f k a0) (laws_FnWindows.f (k + 1) a0) := by
 intro a0 k
 obtain ⟨ih0, ih1, ih2, ih3, ih4, ih5⟩ := laws_FnWindows.mono_l k
 unfold laws_FnWindows.f
 repeat' first
   | (with_reducible exact ih0 _ _ _ _ _ _ _ _)
   | (with_reducible exact ih1 _ _ _ _ _ _ _ _ _)
   | (with_reducible exact ih2 _ _ _ _ _ _ _ _ _ _ _)
   | (with_reducible exact ih3 _ _ _ _ _ _ _)
   | (with_reducible exact ih4 _ _ _ _ _ _ _ _ _ _)
   | (with_reducible exact ih5 _ _ _ _ _ _ _ _ _ _ _)
   | (with_reducible exact impl_FitWindow.mono _ _ _ _ _ _)
   | (with_reducible exact impl_Owner.mono _ _ _ _ _)
   | (with_reducible exact impl_PlanOk.mono _ _ _ _)
   | (with_reducible exact impl_RunJobs.mono _ _ _ _ _ _)
   | (with_reducible exact impl_Share.mono _ _ _ _ _)
   | (with_reducible exact laws_sameInts.mono _ _ _)
   | (with_reducible exact spec_DrawPlan17.mono _ _)
   | (with_reducible exact LeO.refl _)
   | (with_reducible exact LeO.none _)
   | (with_reducible refine LeO.ite ?_ ?_)
   | (with_reducible refine LeO.bind ?_ (fun _ => ?_))
   | exact ih0 _ _ _ _ _ _ _ _
   | exact ih1 _ _ _ _ _ _ _ _ _
   | exact ih2 _ _ _ _ _ _ _ _ _ _ _
   | exact ih3 _ _ _ _ _ _ _
   | exact ih4 _ _ _ _ _ _ _ _ _ _
   | exact ih5 _ _ _ _ _ _ _ _ _ _ _
   | exact impl_FitWindow.mono _ _ _ _ _ _
   | exact impl_Owner.mono _ _ _ _ _
   | exact impl_PlanOk.mono _ _ _ _
   | exact impl_RunJobs.mono _ _ _ _ _ _
   | exact impl_Share.mono _ _ _ _ _
   | exact laws_sameInts.mono _ _ _
   | exact spec_DrawPlan17.mono _ _
   | exact LeO.none _
   | refine LeO.ite ?_ ?_
   | refine LeO.bind ?_ (fun _ => ?_)
def laws_FnWindows.T26 : Bool × List (List Nat × List Nat) := (true, [([], []), ([], []), ([1], [1]), ([2], [2]), ([3], [3]), ([0, 4, 2], [0, 4]), ([5], [5]), ([6], [6]), ([6], [6]), ([], []), ([9, 7, 5, 0, 1, 2, 3, 4, 5, 6, 7, 9], [7, 9]), ([8, 10, 0, 1, 2, 3, 4, 5, 6, 7, 8, 9, 10], [8])])
def laws_FnWindows.B26 : List Nat := [0, 0, 2, 6, 14, 31, 63, 127, 127, 0, 767, 2047]
theorem laws_FnWindows.tab26 : rtab .any (opsOf Try.f8 26) = laws_FnWindows.T26 := by kernel_rfl
theorem laws_FnWindows.bits26 : waitsOk laws_FnWindows.T26.2 laws_FnWindows.B26 = true := by kernel_rfl
set_option maxHeartbeats 8000000 in
set_option maxRecDepth 100000 in
theorem laws_FnWindows.calls (k : Nat) (A0 : Option Addr) (c0 : Nat) (l0 : List Int) (r : Bool) (hr_ : r = true) (w : World) (hr0 : Kd.C (Kd.int .u8) w A0 l0.length l0) (hc0 : l0.length ≤ c0) (h : laws_FnWindows.f k l0 = some r) :
  Calls Try.prog 8 #[.slice A0 l0.length c0] w fun e w' => e = .returned (.bool r) ∧ Below w.heap.size w w' := by
 have hu29 := Try.underlying29
 have HR0 := Aside0.mk hr0
 have HC0 := Aside0.mk hc0
 clear hr0 hc0
 have HB := Aside0.mk (Below.refl w.heap.size w)
 have H : ((laws_big.f l0).bind fun t278 => (if t278 = true then (some true) else ((spec_DrawPlan17.f k l0).bind fun bt279 => (laws_FnWindows.l0 k l0 bt279.2.2.2 0 (([] : List Int)) 0 bt279.1 bt279.2.1 bt279.2.2.1)))) = some r := h
 clear h
 replace H := Option.bind_eq_some_iff.mp H
 obtain ⟨t278, A20, H⟩ := H
 replace H : (if t278 = true then (some true) else ((spec_DrawPlan17.f k l0).bind fun bt279 => (laws_FnWindows.l0 k l0 bt279.2.2.2 0 (([] : List Int)) 0 bt279.1 bt279.2.1 bt279.2.2.1))) = some r := H
 have A2 := Aside0.mk A20
 clear A20
 by_cases c3 : t278 = true
 ·
  subst c3
  have H1 : (some true) = some r := by rw [if_pos rfl] at H; exact H
  clear H
  have H := H1
  clear H1
  obtain rfl := Option.some.inj H
  go_enter Try.func8, Try.ntmps8
  go_wp2_with (first | ((with_reducible refine gate_callee (f := 31) rfl ?_); refine goesL_ (some 31) rfl rfl Try.func31 (by kernel_rfl) rfl #[.slice A0 l0.length c0] rfl (by (try simp only [am_]); first | done | rfl) ?_; (with_reducible refine (laws_big.calls _ _ l0 true _ ?side1 ?side2 A2.out).mono ?_); (case side1 => exact rc HR0.out); (case side2 => exact HC0.out); rintro e w' ⟨rfl, ⟨nd, rfl⟩⟩; refine ⟨_, rfl, ?_⟩))
  go_ret
  exact ⟨by first | rfl | (simp [errW_none, errW_some] <;> rfl) | (simp [*, errW_none, errW_some] <;> rfl), bl HB.out⟩
 ·
  replace c3 := Bool.eq_false_iff.mpr c3
  subst c3
  have H1 : ((spec_DrawPlan17.f k l0).bind fun bt279 => (laws_FnWindows.l0 k l0 bt279.2.2.2 0 (([] : List Int)) 0 bt279.1 bt279.2.1 bt279.2.2.1)) = some r := by rw [if_neg (show ¬ (false = true) by decide)] at H; exact H
  clear H
  have H := H1
  clear H1
  replace H := Option.bind_eq_some_iff.mp H
  obtain ⟨⟨t279, t280, t281, t284⟩, A40, H⟩ := H
  replace H : (laws_FnWindows.l0 k l0 t284 0 (([] : List Int)) 0 t279 t280 t281) = some r := H
  have A4 := Aside0.mk A40
  clear A40
  obtain ⟨y288, hy288⟩ : ∃ y_ : List Int, y_ = (([] : List Int)) := ⟨_, rfl⟩
  replace H : (laws_FnWindows.l0 k l0 t284 0 y288 0 t279 t280 t281) = some r := by first | (rw [hy288]; with_reducible exact H) | (have H2_ := (Option.bind_some _ _).symm.trans H; rw [hy288]; with_reducible exact H2_) | (have H2_ := (Option.bind_some _ _).symm.trans H; with_reducible exact H2_) | with_reducible exact H | (rw [hy288]; exact H) | exact H
  have Ny288 := Aside0.mk hy288
  clear hy288
  have H' := Aside0.mk H
  clear H
  go_enter Try.func8, Try.ntmps8
  go_wp2_with (first | ((with_reducible refine gate_callee (f := 31) rfl ?_); refine goesL_ (some 31) rfl rfl Try.func31 (by kernel_rfl) rfl #[.slice A0 l0.length c0] rfl (by (try simp only [am_]); first | done | rfl) ?_; (with_reducible refine (laws_big.calls _ _ l0 false _ ?side1 ?side2 A2.out).mono ?_); (case side1 => exact rc HR0.out); (case side2 => exact HC0.out); rintro e w' ⟨rfl, ⟨nd, rfl⟩⟩; refine ⟨_, rfl, ?_⟩) | ((with_reducible refine gate_callee (f := 32) rfl ?_); refine goesL_ (some 34) rfl rfl Try.func32 (by kernel_rfl) rfl #[.slice A0 l0.length c0] rfl (by (try simp only [am_]); first | done | rfl) ?_; (with_reducible refine (spec_DrawPlan17.calls k _ _ l0 t279 t280 t281 t284 _ ?side1 ?side2 A4.out).mono ?_); (case side1 => exact rc HR0.out); (case side2 => exact HC0.out); rintro e w5 ⟨v282, v285, rfl, ho0, ho1, hb⟩; refine ⟨_, rfl, ?_⟩; have HO283 := Aside0.mk (Kd.R_lower ho0 (below_size (bl HB.out))); have HO286 := Aside0.mk (Kd.R_lower ho1 (below_size (bl HB.out))); replace HB := Aside0.mk (below_step (bl HB.out) hb); (try clear hb); (try clear hb2); (try clear hk); (try clear hi); (try clear ho0); (try clear ho1)) | ((with_reducible refine gate_dst (N := 3) rfl ?_); (try (refine gate_guard (by rfl) ?_; dsimp only)); refine box_event ?hg (N := 3) ?hd (cs := #[.int .i64 0, .int .i64 0, .slice none 0 0]) (t := 29) ?hr ?_; (case hd => rfl); (case hg => rfl); (case hr => first | (go_simp; done) | (go_simp; rfl)); intro gb287 hg w6 hbox hb; replace HO283 := Aside0.mk (Kd.R_below (rl HO283.out) hb); replace HO286 := Aside0.mk (Kd.R_below (rl HO286.out) hb); have BK287 := Aside0.mk (hbox); have GW287 := Aside0.mk ((by rw [hg]; exact (below_size (bl HB.out)) : w.heap.size ≤ gb287)); have GE287 := GW287; replace HB := Aside0.mk (below_step (bl HB.out) hb); clear hb hbox hg; obtain ⟨hcz7_0, hcz7_1, hcz7_2⟩ := ck3 BK287.out; obtain ⟨hfz7_0, hfz7_1, hfz7_2⟩ := fz3 BK287.out; obtain ⟨Ao8, co8, eo8⟩ := Kd.R_slice HO283.out; subst eo8) | ((with_reducible refine gate_dst (N := 37) rfl ?_); (try (refine gate_guard (by rfl) ?_; dsimp only)); refine Kd.R_lit (Kd.int .i64) _ 3 ?hg (N := 37) ?hd (xs := ([] : List Int)) (inner := []) (ok := fun _ => True) (okp := fun _ => True) ?hr ?hp (fun _ hk => hk) trivial (Below.refl _ _) (Nat.le_refl _) (by simp) ?_; (case hd => rfl); (case hg => rfl); (case hr => first | (go_simp; done) | (go_simp; rfl)); (case hp => exact (Reps.none _ _)); intro v289 w9 ho10 hb hg_ hnew_; clear hg_ hnew_; (first | rw [← Ny288.out] at ho10 | (simp only [Int.reduceToNat] at ho10; rw [← Ny288.out] at ho10)); replace HO283 := Aside0.mk (Kd.R_below (by (repeat apply rl1); exact (Kd.R_mono (Kd.R_far (p := ⟨gb287, 2, none⟩) (Kd.R_far (p := ⟨gb287, 1, none⟩) (Kd.R_far (p := ⟨gb287, 0, none⟩) (Kd.R_types HO283.out BK287.out (by decide)) (fun _ hk => hk.2) (.int .i64 t279)) (fun _ hk => hk.2) (.int .i64 t280)) (fun _ hk => hk.2) (.slice Ao8 t281.length co8)) (fun _ h_ => h_.1))) hb); replace HO286 := Aside0.mk (Kd.R_below (by (repeat apply rl1); exact (Kd.R_mono (Kd.R_far (p := ⟨gb287, 2, none⟩) (Kd.R_far (p := ⟨gb287, 1, none⟩) (Kd.R_far (p := ⟨gb287, 0, none⟩) (Kd.R_types HO286.out BK287.out (by decide)) (fun _ hk => hk.2) (.int .i64 t279)) (fun _ hk => hk.2) (.int .i64 t280)) (fun _ hk => hk.2) (.slice Ao8 t281.length co8)) (fun _ h_ => h_.1))) hb); have HO290 := Aside0.mk (Kd.R_lower ho10 (below_size (by repeat with_reducible first | exact bl HB.out | refine below_set ?_ GE287.out | refine bq ?_))); replace BK287 := Aside0.mk (blk_below (g := gb287) (o := .cells #[.int .i64 t279, .int .i64 t280, .slice Ao8 t281.length co8] 29 (0, 0)) (by (repeat refine bk1 ?_); refine blk_put (cs := #[.int .i64 t279, .int .i64 t280, .slice none 0 0]) ?_ 2 _ rfl; (repeat refine bk1 ?_); refine blk_put (cs := #[.int .i64 t279, .int .i64 0, .slice none 0 0]) ?_ 1 _ rfl; (repeat refine bk1 ?_); refine blk_put (cs := #[.int .i64 0, .int .i64 0, .slice none 0 0]) ?_ 0 _ rfl; (repeat refine bk1 ?_); exact BK287.out) hb); replace HB := Aside0.mk (below_step (by repeat with_reducible first | exact bl HB.out | refine below_set ?_ GE287.out | refine bq ?_) hb); clear hb ho10))
  go_loopg [5, 6, 7] k (fun kq v5 v6 v7 w' => ∃ (x5_1 : Int) (x6_1 : List Int) (x7_1 : Int), v5 = .int .i64 x5_1 ∧ v7 = .int .i64 x7_1 ∧ Aside0 (laws_FnWindows.l0 kq l0 t284 x5_1 x6_1 x7_1 t279 t280 t281 = some r) ∧ Aside0 (kq ≤ k) ∧ Aside0 (Kd.R k74 74 w' w.heap.size (fun _ => True) v285 t284) ∧ Aside0 (Kd.R (Kd.int .i64) 3 w' w.heap.size (fun _ => True) v6 x6_1) ∧ Aside0 (Kd.R k62 62 w' w.heap.size (fun _ => True) (.slice Ao8 t281.length co8) t281) ∧ Aside0 (w'.heap[gb287]? = some (.cells #[.int .i64 t279, .int .i64 t280, (.slice Ao8 t281.length co8)] 29 (0, 0))) ∧ Aside0 (Below w.heap.size w w'))
  case atStart => exact ⟨(0), (y288), (0), (by first | rfl | (simp; done) | (simp [*]; done)), (by first | rfl | (simp; done) | (simp [*]; done)), H', ⟨Nat.le_refl _⟩, ⟨rl HO286.out⟩, ⟨rl HO290.out⟩, ⟨rl HO283.out⟩, ⟨bk BK287.out⟩, ⟨by repeat with_reducible first | exact bl HB.out | refine below_set ?_ GE287.out | refine bq ?_⟩⟩
  case round =>
   clear H'
   try clear p2
   try clear c3
   try clear c8
   try clear hcz7_0 hcz7_1 hcz7_2 hfz7_0 hfz7_1 hfz7_2
   (try clear BK287); obtain ⟨x5_1, x6_1, x7_1, rfl, rfl, HA, HK1, HO_4, HO_6, HO_288002, BK287, HB⟩ := hrel
   cases gk with
   | zero => exact absurd HA.out (by simp [laws_FnWindows.l0])
   | succ k1 =>
    have H := HA.out
    clear HA
    simp only [laws_FnWindows.l0] at H
    by_cases c11 : x7_1 < t280
    ·
     rw [if_pos c11] at H
     have c11b0 : decide (x7_1 < t280) = true := decide_eq_true c11
     clear c11
     replace H := Option.bind_eq_some_iff.mp H
     obtain ⟨⟨t291, t292, t293⟩, A120, H⟩ := H
     replace H : (if t293 = true then (if t292 < 0 then (some false) else (if t292 > t279 then (some false) else (if t291 < 0 then (some false) else (if x6_1.length < 17592186044416 then (laws_FnWindows.l0 k1 l0 t284 (wrap64 (x5_1 + t291)) (x6_1 ++ [t291]) (wrap64 (x7_1 + 1)) t279 t280 t281) else (none))))) else (some false)) = some r := H
     have A12 := Aside0.mk A120
     clear A120
     by_cases c13 : t293 = true
     ·
      subst c13
      have H1 : (if t292 < 0 then (some false) else (if t292 > t279 then (some false) else (if t291 < 0 then (some false) else (if x6_1.length < 17592186044416 then (laws_FnWindows.l0 k1 l0 t284 (wrap64 (x5_1 + t291)) (x6_1 ++ [t291]) (wrap64 (x7_1 + 1)) t279 t280 t281) else (none))))) = some r := by rw [if_pos rfl] at H; exact H
      clear H
      have H := H1
      clear H1
      by_cases c14 : t292 < 0
      ·
       rw [if_pos c14] at H
       have c14b0 : decide (t292 < 0) = true := decide_eq_true c14
       clear c14
       cases H.trans (congrArg some hr_)
      ·
       rw [if_neg c14] at H
       have c14b0 : decide (t292 < 0) = false := decide_eq_false c14
       clear c14
       by_cases c17 : t292 > t279
       ·
        rw [if_pos c17] at H
        have c17b0 : decide (t279 < t292) = true := decide_eq_true c17
        clear c17
        cases H.trans (congrArg some hr_)
       ·
        rw [if_neg c17] at H
        have c17b0 : decide (t279 < t292) = false := decide_eq_false c17
        clear c17
        by_cases c21 : t291 < 0
        ·
         rw [if_pos c21] at H
         have c21b0 : decide (t291 < 0) = true := decide_eq_true c21
         clear c21
         cases H.trans (congrArg some hr_)
        ·
         rw [if_neg c21] at H
         have c21b0 : decide (t291 < 0) = false := decide_eq_false c21
         clear c21
         by_cases c25 : x6_1.length < 17592186044416
         ·
          rw [if_pos c25] at H
          have LMc25 := Aside0.mk c25
          clear c25
          obtain ⟨y294, hy294⟩ : ∃ y_ : List Int, y_ = (x6_1 ++ [t291]) := ⟨_, rfl⟩
          replace H : (laws_FnWindows.l0 k1 l0 t284 (wrap64 (x5_1 + t291)) y294 (wrap64 (x7_1 + 1)) t279 t280 t281) = some r := by first | (rw [hy294]; with_reducible exact H) | (have H2_ := (Option.bind_some _ _).symm.trans H; rw [hy294]; with_reducible exact H2_) | (have H2_ := (Option.bind_some _ _).symm.trans H; with_reducible exact H2_) | with_reducible exact H | (rw [hy294]; exact H) | exact H
          have Ny294 := Aside0.mk hy294
          clear hy294
          have H' := Aside0.mk H
          clear H
          obtain ⟨hcz26_0, hcz26_1, hcz26_2⟩ := ck3 BK287.out
          obtain ⟨hfz26_0, hfz26_1, hfz26_2⟩ := fz3 BK287.out
          go_wp2_with (first | ((with_reducible refine gate_callee (f := 17) rfl ?_); refine goesL_ (some 47) rfl rfl Try.func17 (by kernel_rfl) rfl #[.agg #[.int .i64 t279, .int .i64 t280, .slice Ao8 t281.length co8], .int .i64 x7_1] rfl (by (try simp only [am_]); first | done | rfl) ?_; (with_reducible refine (impl_Share.calls k1 t279 t280 _ _ t281 x7_1 t291 t292 true _ ?side1 ?side2 A12.out).mono ?_); (case side1 => exact rc (Kd.R_reads' HO_288002.out).2.2); (case side2 => exact (Kd.R_reads' HO_288002.out).2.1); rintro e w27 ⟨rfl, hb⟩; refine ⟨_, rfl, ?_⟩; replace HO_4 := Aside0.mk (Kd.R_below (rl HO_4.out) hb); replace HO_6 := Aside0.mk (Kd.R_below (rl HO_6.out) hb); replace HO_288002 := Aside0.mk (Kd.R_below (rl HO_288002.out) hb); replace BK287 := Aside0.mk (blk_below (bk BK287.out) hb); replace HB := Aside0.mk (below_step (by repeat with_reducible first | exact bl HB.out | refine below_set ?_ GE287.out | refine bq ?_) hb); (try clear hb); (try clear hb2); (try clear hk); (try clear hi); obtain ⟨hcz28_0, hcz28_1, hcz28_2⟩ := ck3 BK287.out; obtain ⟨hfz28_0, hfz28_1, hfz28_2⟩ := fz3 BK287.out) | ((with_reducible refine gate_builtin (b := .append) (xs := #[.tmp 67, .tmp 69]) rfl ?_); (try (refine gate_guard (by rfl) ?_; dsimp only)); at_builtin; refine Kd.R_append (Kd.int .i64) (w0 := w) w.heap.size rfl (.tmp 67) (.tmp 69) 44 3 (.int .i64 0) 8 rfl Try.underlying44 info3 rfl (by decide) (by omega) u6 x6_1 t291 [.int .i64 t291] (fun _ => True) (fun _ => False) rfl rfl ?aP (fun _ hk => hk.elim) ?aF ?aO ?aB ?aS ?aL ?_; (case aP => exact rfl); (case aB => exact (by repeat with_reducible first | exact bl HB.out | refine below_set ?_ GE287.out | refine bq ?_)); (case aF => exact (fun _ _ => trivial)); (case aO => exact (rl HO_6.out)); (case aS => exact (below_size (by repeat with_reducible first | exact bl HB.out | refine below_set ?_ GE287.out | refine bq ?_))); (case aL => have := LMc25.out; omega); intro v295 w29 ho hb hg hat; rw [← Ny294.out] at ho; replace HO_4 := Aside0.mk (Kd.R_over' (rl HO_4.out) (Kd.R_typed (rl HO_6.out)) (by decide) hg); replace HO_288002 := Aside0.mk (Kd.R_over' (rl HO_288002.out) (Kd.R_typed (rl HO_6.out)) (by decide) hg); replace BK287 := Aside0.mk (blk_grown (g := gb287) (o := .cells #[.int .i64 t279, .int .i64 t280, .slice Ao8 t281.length co8] 29 (0, 0)) (bk BK287.out) hg (Kd.R_ne HO_6.out BK287.out (by decide))); replace HB := Aside0.mk (hb); have HO296 := Aside0.mk (ho); clear HO_6; clear ho hb hg hat))
          go_roundg k1
          case measure => have := HK1.out; omega
          case rel => exact ⟨(wrap64 (x5_1 + t291)), (y294), (wrap64 (x7_1 + 1)), (by first | rfl | (simp; done) | (simp [*]; done)), (by first | rfl | (simp; done) | (simp [*]; done)), H', ⟨by have := HK1.out; omega⟩, ⟨rl HO_4.out⟩, ⟨rl HO296.out⟩, ⟨rl HO_288002.out⟩, ⟨bk BK287.out⟩, ⟨by repeat with_reducible first | exact bl HB.out | refine below_set ?_ GE287.out | refine bq ?_⟩⟩
         ·
          rw [if_neg c25] at H
          exact absurd H (by simp)
     ·
      replace c13 := Bool.eq_false_iff.mpr c13
      subst c13
      have H1 : (some false) = some r := by rw [if_neg (show ¬ (false = true) by decide)] at H; exact H
      clear H
      have H := H1
      clear H1
      cases H.trans (congrArg some hr_)
    ·
     rw [if_neg c11] at H
     have c11b0 : decide (x7_1 < t280) = false := decide_eq_false c11
     clear c11
     by_cases c32 : 0 ≤ t280
     ·
      rw [if_pos c32] at H
      have c32b0 := eq_true c32
      have c32b1 : decide (0 ≤ t280) = true := decide_eq_true c32
      clear c32
      by_cases c33 : (t280 : Int).toNat ≤ 35184372088832
      ·
       rw [if_pos c33] at H
       have c33b0 := eq_true c33
       have c33b1 : decide ((t280 : Int).toNat ≤ 35184372088832) = true := decide_eq_true c33
       clear c33
       obtain ⟨y297, hy297⟩ : ∃ y_ : List Int, y_ = (List.replicate (t280 : Int).toNat 0) := ⟨_, rfl⟩
       replace H : (laws_FnWindows.l1 k1 l0 t284 x5_1 x6_1 y297 0 t279 t280 t281) = some r := by first | (rw [hy297]; with_reducible exact H) | (have H2_ := (Option.bind_some _ _).symm.trans H; rw [hy297]; with_reducible exact H2_) | (have H2_ := (Option.bind_some _ _).symm.trans H; with_reducible exact H2_) | with_reducible exact H | (rw [hy297]; exact H) | exact H
       have Ny297 := Aside0.mk hy297
       clear hy297
       have H' := Aside0.mk H
       clear H
       obtain ⟨hcz34_0, hcz34_1, hcz34_2⟩ := ck3 BK287.out
       obtain ⟨hfz34_0, hfz34_1, hfz34_2⟩ := fz3 BK287.out
       go_wp2_with (first | ((with_reducible refine gate_dst (N := 76) rfl ?_); (try (refine gate_guard (by rfl) ?_; dsimp only)); refine Kd.R_make (Kd.int .i64) _ 3 rfl (N := 76) rfl 44 _ _ rfl t280 rfl rfl Try.underlying44 (.int .i64 0) 8 info3 rfl (by decide) (by omega) 0 (ok := fun _ => True) (okp := fun _ => True) rfl (fun _ hk => hk) trivial (of_decide_eq_true (by first | (with_reducible assumption) | assumption)) (Nat.le_trans (Nat.mul_le_mul_right _ (of_decide_eq_true (by first | (with_reducible assumption) | assumption) : t280.toNat ≤ 35184372088832)) (by omega)) (Below.refl _ _) (Nat.le_refl _) ?_; intro v298 w35 ho36 hb hg_ hnew_; clear hg_ hnew_; (first | rw [← Ny297.out] at ho36 | (simp only [Int.reduceToNat] at ho36; rw [← Ny297.out] at ho36)); replace HO_4 := Aside0.mk (Kd.R_below (rl HO_4.out) hb); replace HO_288002 := Aside0.mk (Kd.R_below (rl HO_288002.out) hb); have HO299 := Aside0.mk (Kd.R_lower (Kd.R_new' ho36 (Kd.R_lt (by (repeat apply rl1); exact HO_6.out))) (below_size (by repeat with_reducible first | exact bl HB.out | refine below_set ?_ GE287.out | refine bq ?_))); replace HO_6 := Aside0.mk (Kd.R_elder' (rl HO_6.out) (Kd.R_base ho36) hb); replace BK287 := Aside0.mk (blk_below (bk BK287.out) hb); replace HB := Aside0.mk (below_step (by repeat with_reducible first | exact bl HB.out | refine below_set ?_ GE287.out | refine bq ?_) hb); clear hb ho36))
       go_loopg [12] k1 (fun kq v12 w' => ∃ (x11_2 : List Int) (x12_2 : Int), v12 = .int .i64 x12_2 ∧ Aside0 (laws_FnWindows.l1 kq l0 t284 x5_1 x6_1 x11_2 x12_2 t279 t280 t281 = some r) ∧ Aside0 (kq ≤ k1) ∧ Aside0 (Kd.R k74 74 w' w.heap.size (fun _ => True) v285 t284) ∧ Aside0 (Kd.R (Kd.int .i64) 3 w' w.heap.size (fun k_ => some k_ ≠ (v298 : Value).ownBlock) u6 x6_1) ∧ Aside0 (Kd.R (Kd.int .i64) 3 w' w.heap.size (fun k_ => some k_ ≠ (u6 : Value).ownBlock) v298 x11_2) ∧ Aside0 (Kd.R k62 62 w' w.heap.size (fun _ => True) (.slice Ao8 t281.length co8) t281) ∧ Aside0 (w'.heap[gb287]? = some (.cells #[.int .i64 t279, .int .i64 t280, (.slice Ao8 t281.length co8)] 29 (0, 0))) ∧ Aside0 (Below w.heap.size w w'))
       case atStart => exact ⟨(y297), (0), (by first | rfl | (simp; done) | (simp [*]; done)), H', ⟨Nat.le_refl _⟩, ⟨rl HO_4.out⟩, ⟨by (repeat apply rl1); exact Kd.R_mono HO_6.out (fun _ hk => hk.2)⟩, ⟨by (repeat apply rl1); exact Kd.R_mono HO299.out (fun _ hk => hk.2)⟩, ⟨rl HO_288002.out⟩, ⟨bk BK287.out⟩, ⟨by repeat with_reducible first | exact bl HB.out | refine below_set ?_ GE287.out | refine bq ?_⟩⟩
       case round =>
        clear H'
        try clear c1
        try clear c2
        try clear p2
        try clear c3
        try clear p6
        try clear c8
        try clear c11
        try clear c11b0
        try clear c13
        try clear c14
        try clear c14b0
        try clear c17
        try clear c17b0
        try clear c21
        try clear c21b0
        try clear c25
        try clear c31
        try clear c32
        try clear c32b0
        try clear c32b1
        try clear c33
        try clear c33b0
        try clear c33b1
        try clear hcz15_0 hcz15_1 hcz15_2 hfz15_0 hfz15_1 hfz15_2
        try clear hcz18_0 hcz18_1 hcz18_2 hfz18_0 hfz18_1 hfz18_2
        try clear hcz20_0 hcz20_1 hcz20_2 hfz20_0 hfz20_1 hfz20_2
        try clear hcz22_0 hcz22_1 hcz22_2 hfz22_0 hfz22_1 hfz22_2
        try clear hcz24_0 hcz24_1 hcz24_2 hfz24_0 hfz24_1 hfz24_2
        try clear hcz26_0 hcz26_1 hcz26_2 hfz26_0 hfz26_1 hfz26_2
        try clear hcz28_0 hcz28_1 hcz28_2 hfz28_0 hfz28_1 hfz28_2
        try clear hcz30_0 hcz30_1 hcz30_2 hfz30_0 hfz30_1 hfz30_2
        try clear hcz34_0 hcz34_1 hcz34_2 hfz34_0 hfz34_1 hfz34_2
        try clear hcz7_0 hcz7_1 hcz7_2 hfz7_0 hfz7_1 hfz7_2
        try clear p2
        (try clear BK287); obtain ⟨x11_2, x12_2, rfl, HA, HK2, HO_4, HO_6, HO_11, HO_288002, BK287, HB⟩ := hrel
        cases gk with
        | zero => exact absurd HA.out (by simp [laws_FnWindows.l1])
        | succ k2 =>
         have H := HA.out
         clear HA
         simp only [laws_FnWindows.l1] at H
         by_cases c37 : x12_2 < t279
         ·
          rw [if_pos c37] at H
          have c37b0 : decide (x12_2 < t279) = true := decide_eq_true c37
          clear c37
          replace H := Option.bind_eq_some_iff.mp H
          obtain ⟨⟨t300, t301⟩, A380, H⟩ := H
          replace H : ((impl_Owner.f k2 t279 t280 t281 (wrap64 (x12_2 + t279))).bind fun bt302 => (if t301 = true then (if t300 < (-1) then (laws_FnWindows.j2 k2 l0 t284 x5_1 x6_1 x11_2 x12_2 t300 true t279 t280 t281) else (if t300 ≥ t280 then (laws_FnWindows.j2 k2 l0 t284 x5_1 x6_1 x11_2 x12_2 t300 true t279 t280 t281) else (laws_FnWindows.j2 k2 l0 t284 x5_1 x6_1 x11_2 x12_2 t300 (bt302.1 != t300) t279 t280 t281))) else (laws_FnWindows.j2 k2 l0 t284 x5_1 x6_1 x11_2 x12_2 t300 true t279 t280 t281))) = some r := H
          have A38 := Aside0.mk A380
          clear A380
          replace H := Option.bind_eq_some_iff.mp H
          obtain ⟨⟨t302, t303⟩, A390, H⟩ := H
          replace H : (if t301 = true then (if t300 < (-1) then (laws_FnWindows.j2 k2 l0 t284 x5_1 x6_1 x11_2 x12_2 t300 true t279 t280 t281) else (if t300 ≥ t280 then (laws_FnWindows.j2 k2 l0 t284 x5_1 x6_1 x11_2 x12_2 t300 true t279 t280 t281) else (laws_FnWindows.j2 k2 l0 t284 x5_1 x6_1 x11_2 x12_2 t300 (t302 != t300) t279 t280 t281))) else (laws_FnWindows.j2 k2 l0 t284 x5_1 x6_1 x11_2 x12_2 t300 true t279 t280 t281)) = some r := H
          have A39 := Aside0.mk A390
          clear A390
          have HC40 := Aside0.mk H
          clear H
          obtain ⟨hcz41_0, hcz41_1, hcz41_2⟩ := ck3 BK287.out
          obtain ⟨hfz41_0, hfz41_1, hfz41_2⟩ := fz3 BK287.out
          go_upto_region 20 with (first | ((with_reducible refine gate_callee (f := 15) rfl ?_); refine goesL_ (some 86) rfl rfl Try.func15 (by kernel_rfl) rfl #[.agg #[.int .i64 t279, .int .i64 t280, .slice Ao8 t281.length co8], .int .i64 x12_2] rfl (by (try simp only [am_]); first | done | rfl) ?_; (with_reducible refine (impl_Owner.calls k2 t279 t280 _ _ t281 x12_2 t300 t301 _ ?side1 ?side2 A38.out).mono ?_); (case side1 => exact rc (Kd.R_reads' HO_288002.out).2.2); (case side2 => exact (Kd.R_reads' HO_288002.out).2.1); rintro e w42 ⟨rfl, hb⟩; refine ⟨_, rfl, ?_⟩; replace HO_4 := Aside0.mk (Kd.R_below (rl HO_4.out) hb); replace HO_6 := Aside0.mk (Kd.R_below (rl HO_6.out) hb); replace HO_11 := Aside0.mk (Kd.R_below (rl HO_11.out) hb); replace HO_288002 := Aside0.mk (Kd.R_below (rl HO_288002.out) hb); replace BK287 := Aside0.mk (blk_below (bk BK287.out) hb); replace HB := Aside0.mk (below_step (by repeat with_reducible first | exact bl HB.out | refine below_set ?_ GE287.out | refine bq ?_) hb); (try clear hb); (try clear hb2); (try clear hk); (try clear hi); obtain ⟨hcz43_0, hcz43_1, hcz43_2⟩ := ck3 BK287.out; obtain ⟨hfz43_0, hfz43_1, hfz43_2⟩ := fz3 BK287.out) | ((with_reducible refine gate_callee (f := 15) rfl ?_); refine goesL_ (some 95) rfl rfl Try.func15 (by kernel_rfl) rfl #[.agg #[.int .i64 t279, .int .i64 t280, .slice Ao8 t281.length co8], .int .i64 (wrap64 (x12_2 + t279))] rfl (by (try simp only [am_]); first | done | rfl) ?_; (with_reducible refine (impl_Owner.calls k2 t279 t280 _ _ t281 (wrap64 (x12_2 + t279)) t302 t303 _ ?side1 ?side2 A39.out).mono ?_); (case side1 => exact rc (Kd.R_reads' HO_288002.out).2.2); (case side2 => exact (Kd.R_reads' HO_288002.out).2.1); rintro e w44 ⟨rfl, hb⟩; refine ⟨_, rfl, ?_⟩; replace HO_4 := Aside0.mk (Kd.R_below (rl HO_4.out) hb); replace HO_6 := Aside0.mk (Kd.R_below (rl HO_6.out) hb); replace HO_11 := Aside0.mk (Kd.R_below (rl HO_11.out) hb); replace HO_288002 := Aside0.mk (Kd.R_below (rl HO_288002.out) hb); replace BK287 := Aside0.mk (blk_below (bk BK287.out) hb); replace HB := Aside0.mk (below_step (by repeat with_reducible first | exact bl HB.out | refine below_set ?_ GE287.out | refine bq ?_) hb); (try clear hb); (try clear hb2); (try clear hk); (try clear hi)))
          (try simp only [Act.put, List.setIfInBounds_toArray, List.set_cons_zero, List.set_cons_succ])
          go_cut [114] (fun v114 wc => ∃ (kq : Nat) (x114_39 : Bool), v114 = .bool x114_39 ∧ Aside0 (laws_FnWindows.j2 kq l0 t284 x5_1 x6_1 x11_2 x12_2 t300 x114_39 t279 t280 t281 = some r) ∧ Aside0 (kq ≤ k2) ∧ Aside0 (Kd.R k74 74 wc w.heap.size (fun _ => True) v285 t284) ∧ Aside0 (Kd.R (Kd.int .i64) 3 wc w.heap.size (fun k_ => some k_ ≠ (v298 : Value).ownBlock) u6 x6_1) ∧ Aside0 (Kd.R (Kd.int .i64) 3 wc w.heap.size (fun k_ => some k_ ≠ (u6 : Value).ownBlock) v298 x11_2) ∧ Aside0 (Kd.R k62 62 wc w.heap.size (fun _ => True) (.slice Ao8 t281.length co8) t281) ∧ Aside0 (wc.heap[gb287]? = some (.cells #[.int .i64 t279, .int .i64 t280, (.slice Ao8 t281.length co8)] 29 (0, 0))) ∧ Aside0 (Below w.heap.size w wc))
          case first =>
           have H := HC40.out
           clear HC40
           by_cases c45 : t301 = true
           ·
            subst c45
            have H1 : (if t300 < (-1) then (laws_FnWindows.j2 k2 l0 t284 x5_1 x6_1 x11_2 x12_2 t300 true t279 t280 t281) else (if t300 ≥ t280 then (laws_FnWindows.j2 k2 l0 t284 x5_1 x6_1 x11_2 x12_2 t300 true t279 t280 t281) else (laws_FnWindows.j2 k2 l0 t284 x5_1 x6_1 x11_2 x12_2 t300 (t302 != t300) t279 t280 t281))) = some r := by rw [if_pos rfl] at H; exact H
            clear H
            have H := H1
            clear H1
            by_cases c46 : t300 < (-1)
            ·
             rw [if_pos c46] at H
             have c46b0 : decide (t300 < (-1)) = true := decide_eq_true c46
             clear c46
             (first | rw [c46b0] | (simp only [i64_w, i32_w]; rw [c46b0]) | skip)
             have H' := Aside0.mk H
             clear H
             go_wp2
             go_meet
             case rel => exact ⟨_, (true), (by first | rfl | (simp; done) | (simp [*]; done)), H', ⟨by have := HK1.out; have := HK2.out; first | omega | exact Nat.le_refl _⟩, ⟨rl HO_4.out⟩, ⟨rl HO_6.out⟩, ⟨rl HO_11.out⟩, ⟨rl HO_288002.out⟩, ⟨bk BK287.out⟩, ⟨by repeat with_reducible first | exact bl HB.out | refine below_set ?_ GE287.out | refine bq ?_⟩⟩
            ·
             rw [if_neg c46] at H
             have c46b0 : decide (t300 < (-1)) = false := decide_eq_false c46
             clear c46
             (first | rw [c46b0] | (simp only [i64_w, i32_w]; rw [c46b0]) | skip)
             by_cases c47 : t300 ≥ t280
             ·
              rw [if_pos c47] at H
              have c47b0 : decide (t280 ≤ t300) = true := decide_eq_true c47
              clear c47
              have H' := Aside0.mk H
              clear H
              obtain ⟨hcz48_0, hcz48_1, hcz48_2⟩ := ck3 BK287.out
              obtain ⟨hfz48_0, hfz48_1, hfz48_2⟩ := fz3 BK287.out
              go_wp2
              go_meet
              case rel => exact ⟨_, (true), (by first | rfl | (simp; done) | (simp [*]; done)), H', ⟨by have := HK1.out; have := HK2.out; first | omega | exact Nat.le_refl _⟩, ⟨rl HO_4.out⟩, ⟨rl HO_6.out⟩, ⟨rl HO_11.out⟩, ⟨rl HO_288002.out⟩, ⟨bk BK287.out⟩, ⟨by repeat with_reducible first | exact bl HB.out | refine below_set ?_ GE287.out | refine bq ?_⟩⟩
             ·
              rw [if_neg c47] at H
              have c47b0 : decide (t280 ≤ t300) = false := decide_eq_false c47
              clear c47
              have H' := Aside0.mk H
              clear H
              obtain ⟨hcz49_0, hcz49_1, hcz49_2⟩ := ck3 BK287.out
              obtain ⟨hfz49_0, hfz49_1, hfz49_2⟩ := fz3 BK287.out
              go_wp2
              go_meet
              case rel => exact ⟨_, ((t302 != t300)), (by first | rfl | (simp; done) | (simp [*]; done)), H', ⟨by have := HK1.out; have := HK2.out; first | omega | exact Nat.le_refl _⟩, ⟨rl HO_4.out⟩, ⟨rl HO_6.out⟩, ⟨rl HO_11.out⟩, ⟨rl HO_288002.out⟩, ⟨bk BK287.out⟩, ⟨by repeat with_reducible first | exact bl HB.out | refine below_set ?_ GE287.out | refine bq ?_⟩⟩
           ·
            replace c45 := Bool.eq_false_iff.mpr c45
            subst c45
            have H1 : (laws_FnWindows.j2 k2 l0 t284 x5_1 x6_1 x11_2 x12_2 t300 true t279 t280 t281) = some r := by rw [if_neg (show ¬ (false = true) by decide)] at H; exact H
            clear H
            have H := H1
            clear H1
            have H' := Aside0.mk H
            clear H
            go_wp2
            go_meet
            case rel => exact ⟨_, (true), (by first | rfl | (simp; done) | (simp [*]; done)), H', ⟨by have := HK1.out; have := HK2.out; first | omega | exact Nat.le_refl _⟩, ⟨rl HO_4.out⟩, ⟨rl HO_6.out⟩, ⟨rl HO_11.out⟩, ⟨rl HO_288002.out⟩, ⟨bk BK287.out⟩, ⟨by repeat with_reducible first | exact bl HB.out | refine below_set ?_ GE287.out | refine bq ?_⟩⟩
          case rest =>
           clear HC40
           try clear c1
           try clear c2
           try clear p2
           try clear c3
           try clear c4
           try clear p6
           try clear c8
           try clear c11
           try clear c11b0
           try clear c13
           try clear c14
           try clear c14b0
           try clear c15
           try clear c17
           try clear c17b0
           try clear c21
           try clear c21b0
           try clear c25
           try clear c31
           try clear c32
           try clear c32b0
           try clear c32b1
           try clear c33
           try clear c33b0
           try clear c33b1
           try clear c37
           try clear c37b0
           try clear c45
           try clear c46
           try clear c46b0
           try clear c47
           try clear c47b0
           try clear hcz15_0 hcz15_1 hcz15_2 hfz15_0 hfz15_1 hfz15_2
           try clear hcz18_0 hcz18_1 hcz18_2 hfz18_0 hfz18_1 hfz18_2
           try clear hcz20_0 hcz20_1 hcz20_2 hfz20_0 hfz20_1 hfz20_2
           try clear hcz22_0 hcz22_1 hcz22_2 hfz22_0 hfz22_1 hfz22_2
           try clear hcz24_0 hcz24_1 hcz24_2 hfz24_0 hfz24_1 hfz24_2
           try clear hcz26_0 hcz26_1 hcz26_2 hfz26_0 hfz26_1 hfz26_2
           try clear hcz28_0 hcz28_1 hcz28_2 hfz28_0 hfz28_1 hfz28_2
           try clear hcz30_0 hcz30_1 hcz30_2 hfz30_0 hfz30_1 hfz30_2
           try clear hcz34_0 hcz34_1 hcz34_2 hfz34_0 hfz34_1 hfz34_2
           try clear hcz41_0 hcz41_1 hcz41_2 hfz41_0 hfz41_1 hfz41_2
           try clear hcz43_0 hcz43_1 hcz43_2 hfz43_0 hfz43_1 hfz43_2
           try clear hcz48_0 hcz48_1 hcz48_2 hfz48_0 hfz48_1 hfz48_2
           try clear hcz49_0 hcz49_1 hcz49_2 hfz49_0 hfz49_1 hfz49_2
           try clear hcz7_0 hcz7_1 hcz7_2 hfz7_0 hfz7_1 hfz7_2
           try clear p2
           try clear p6
           (try clear BK287); obtain ⟨kq, x114_39, rfl, HA, HJ39, HO_4, HO_6, HO_11, HO_288002, BK287, HB⟩ := hcut
           cases kq with
           | zero => exact absurd HA.out (by simp [laws_FnWindows.j2])
           | succ kj39 =>
            have H := HA.out
            clear HA
            simp only [laws_FnWindows.j2] at H
            by_cases c50 : x114_39 = true
            ·
             subst c50
             have H1 : (some false) = some r := by rw [if_pos rfl] at H; exact H
             clear H
             have H := H1
             clear H1
             cases H.trans (congrArg some hr_)
            ·
             replace c50 := Bool.eq_false_iff.mpr c50
             subst c50
             have H1 : (if t300 ≥ 0 then (if 0 ≤ t300 then (if t300 < (x11_2.length : Int) then (laws_FnWindows.l1 kj39 l0 t284 x5_1 x6_1 (x11_2.set (t300 : Int).toNat (wrap64 ((rd x11_2 t300) + 1))) (wrap64 (x12_2 + 1)) t279 t280 t281) else (none)) else (none)) else (laws_FnWindows.l1 kj39 l0 t284 x5_1 x6_1 x11_2 (wrap64 (x12_2 + 1)) t279 t280 t281)) = some r := by rw [if_neg (show ¬ (false = true) by decide)] at H; exact H
             clear H
             have H := H1
             clear H1
             by_cases c51 : t300 ≥ 0
             ·
              rw [if_pos c51] at H
              have c51b0 : decide (0 ≤ t300) = true := decide_eq_true c51
              clear c51
              by_cases c52 : 0 ≤ t300
              ·
               rw [if_pos c52] at H
               have c52b0 : decide (0 ≤ t300) = true := decide_eq_true c52
               clear c52
               by_cases c53 : t300 < (x11_2.length : Int)
               ·
                rw [if_pos c53] at H
                have c53b0 : decide (t300 < (x11_2.length : Int)) = true := decide_eq_true c53
                clear c53
                obtain ⟨y305, hy305⟩ : ∃ y_ : List Int, y_ = (x11_2.set (t300 : Int).toNat (wrap64 ((rd x11_2 t300) + 1))) := ⟨_, rfl⟩
                replace H : (laws_FnWindows.l1 kj39 l0 t284 x5_1 x6_1 y305 (wrap64 (x12_2 + 1)) t279 t280 t281) = some r := by first | (rw [hy305]; with_reducible exact H) | (have H2_ := (Option.bind_some _ _).symm.trans H; rw [hy305]; with_reducible exact H2_) | (have H2_ := (Option.bind_some _ _).symm.trans H; with_reducible exact H2_) | with_reducible exact H | (rw [hy305]; exact H) | exact H
                have Ny305 := Aside0.mk hy305
                clear hy305
                have H' := Aside0.mk H
                clear H
                obtain ⟨Ao55, co55, eo55⟩ := Kd.R_slice HO_11.out
                subst eo55
                have p304 : 0 ≤ (t300 : Int) := of_decide_eq_true (by first | (with_reducible assumption) | assumption)
                have q304 : t300 < (x11_2.length : Int) := of_decide_eq_true (by first | (with_reducible assumption) | assumption)
                obtain ⟨ad304, e304, hx304_0⟩ := Kd.at_int (Kd.R_reads' HO_11.out).2.2 t300 p304 q304
                cases e304
                replace p304 := eq_true p304
                replace q304 := eq_true q304
                have p54 : 0 ≤ (t300 : Int) := of_decide_eq_true (by first | (with_reducible assumption) | assumption)
                have q54 : (t300 : Int) < ((x11_2.length : Int) : Int) := of_decide_eq_true (by first | (with_reducible assumption) | assumption)
                obtain ⟨go54, co54, eo54, gb54, gl54, cl54, HG54⟩ := Kd.R_form HO_11.out (by omega)
                (first | cases eo54 | (injection eo54 with ea_ en_ ec_; (first | subst ea_ | (injection ea_ with ea_; subst ea_)); subst ec_; clear en_))
                have GB54 := Aside0.mk gb54
                have GG54 := Aside0.mk HG54
                clear gb54 gl54 HG54
                (first | simp only [add_plain] at hx304_0 | skip)
                obtain ⟨hx54_0, hf54_0⟩ := Kd.R_celln 0 HO_11.out (t300 : Int) p54 q54
                replace p54 := eq_true p54
                replace q54 := eq_true q54
                have HP56 := Kd.R_putg HO_11.out (t300 : Int) (wrap64 ((rd x11_2 t300) + 1))
                go_wp2_with (first | ((with_reducible refine gate_store (t := 3) (p := 122) rfl ?_); refine store_event (t := 3) (p := 122) (v := ?vo_w57) (w1 := (wc.setCell ⟨go54, (t300 : Int).toNat, none⟩ (.int .i64 (wrap64 ((rd x11_2 t300) + 1))))) ?hg ?ho ?hn ?hr ?_; (case ho => rfl); (case hg => rfl); (case hn => rfl); (case hr => first | (go_simp; done) | (go_simp; rfl)); intro w57 hw; have hg : wc.grownBy w57 (some go54) := (by rw [hw]; exact HP56.2); have hp_ : Kd.R (Kd.int .i64) 3 w57 w.heap.size (fun k_ => some k_ ≠ (u6 : Value).ownBlock) (.slice (some ⟨go54, 0, none⟩) x11_2.length co55) y305 := (by rw [hw, Ny305.out]; exact HP56.1); clear HP56; replace HO_4 := Aside0.mk (Kd.R_over' (v := (.slice (some ⟨go54, 0, none⟩) x11_2.length co55)) (rl HO_4.out) (Kd.R_typed HO_11.out) (by decide) hg); replace HO_6 := Aside0.mk (Kd.R_after (v := (.slice (some ⟨go54, 0, none⟩) x11_2.length co55)) (v1 := (.slice (some ⟨go54, 0, none⟩) x11_2.length co55)) (ok := (fun _ => True)) (by (repeat apply rl1); exact Kd.R_mono HO_6.out (fun _ hk => ⟨trivial, hk⟩)) hg (.inl rfl)); replace HO_288002 := Aside0.mk (Kd.R_over' (v := (.slice (some ⟨go54, 0, none⟩) x11_2.length co55)) (rl HO_288002.out) (Kd.R_typed HO_11.out) (by decide) hg); replace BK287 := Aside0.mk (blk_grown (g := gb287) (o := .cells #[.int .i64 t279, .int .i64 t280, .slice Ao8 t281.length co8] 29 (0, 0)) (bk BK287.out) hg (Kd.R_ne HO_11.out BK287.out (by decide))); replace HO_11 := Aside0.mk (hp_); replace HB := Aside0.mk ((by rw [hw]; exact below_set (HB.out) GB54.out : Below w.heap.size w w57)); clear hg hw hp_))
                go_roundg kj39
                case measure => have := HK1.out; have := HK2.out; have := HJ39.out; omega
                case rel => exact ⟨(y305), (wrap64 (x12_2 + 1)), (by first | rfl | (simp; done) | (simp [*]; done)), H', ⟨by have := HK1.out; have := HK2.out; have := HJ39.out; omega⟩, ⟨rl HO_4.out⟩, ⟨by (repeat apply rl1); exact Kd.R_mono HO_6.out (fun _ hk => hk.2)⟩, ⟨rl HO_11.out⟩, ⟨rl HO_288002.out⟩, ⟨bk BK287.out⟩, ⟨by repeat with_reducible first | exact bl HB.out | refine below_set ?_ GE287.out | refine bq ?_⟩⟩
               ·
                rw [if_neg c53] at H
                exact absurd H (by simp)
              ·
               rw [if_neg c52] at H
               exact absurd H (by simp)
             ·
              rw [if_neg c51] at H
              have c51b0 : decide (0 ≤ t300) = false := decide_eq_false c51
              clear c51
              have H' := Aside0.mk H
              clear H
              go_wp2
              go_roundg kj39
              case measure => have := HK1.out; have := HK2.out; have := HJ39.out; omega
              case rel => exact ⟨(x11_2), (wrap64 (x12_2 + 1)), (by first | rfl | (simp; done) | (simp [*]; done)), H', ⟨by have := HK1.out; have := HK2.out; have := HJ39.out; omega⟩, ⟨rl HO_4.out⟩, ⟨rl HO_6.out⟩, ⟨rl HO_11.out⟩, ⟨rl HO_288002.out⟩, ⟨bk BK287.out⟩, ⟨by repeat with_reducible first | exact bl HB.out | refine below_set ?_ GE287.out | refine bq ?_⟩⟩
         ·
          rw [if_neg c37] at H
          have c37b0 : decide (x12_2 < t279) = false := decide_eq_false c37
          clear c37
          have HC58 := Aside0.mk H
          clear H
          obtain ⟨hcz59_0, hcz59_1, hcz59_2⟩ := ck3 BK287.out
          obtain ⟨hfz59_0, hfz59_1, hfz59_2⟩ := fz3 BK287.out
          go_upto_region 24 with (fail)
          go_cut [137] (fun v137 wc => ∃ (kq : Nat) (x137_57 : Bool), v137 = .bool x137_57 ∧ Aside0 (laws_FnWindows.j3 kq l0 t284 x5_1 x137_57 t279 t280 t281 = some r) ∧ Aside0 (kq ≤ k2) ∧ Aside0 (Kd.R k74 74 wc w.heap.size (fun _ => True) v285 t284) ∧ Aside0 (Kd.R k62 62 wc w.heap.size (fun _ => True) (.slice Ao8 t281.length co8) t281) ∧ Aside0 (wc.heap[gb287]? = some (.cells #[.int .i64 t279, .int .i64 t280, (.slice Ao8 t281.length co8)] 29 (0, 0))) ∧ Aside0 (Below w.heap.size w wc))
          case first =>
           have H := HC58.out
           clear HC58
           replace H := Option.bind_eq_some_iff.mp H
           obtain ⟨t306, A600, H⟩ := H
           replace H : (if t306 = true then (if x5_1 > t279 then (laws_FnWindows.j3 k2 l0 t284 x5_1 true t279 t280 t281) else ((impl_PlanOk.f k2 t279 t280 t281).bind fun t307 => (laws_FnWindows.j3 k2 l0 t284 x5_1 (!t307) t279 t280 t281))) else (laws_FnWindows.j3 k2 l0 t284 x5_1 true t279 t280 t281)) = some r := H
           have A60 := Aside0.mk A600
           clear A600
           by_cases c61 : t306 = true
           ·
            subst c61
            have H1 : (if x5_1 > t279 then (laws_FnWindows.j3 k2 l0 t284 x5_1 true t279 t280 t281) else ((impl_PlanOk.f k2 t279 t280 t281).bind fun t307 => (laws_FnWindows.j3 k2 l0 t284 x5_1 (!t307) t279 t280 t281))) = some r := by rw [if_pos rfl] at H; exact H
            clear H
            have H := H1
            clear H1
            by_cases c62 : x5_1 > t279
            ·
             rw [if_pos c62] at H
             have c62b0 : decide (t279 < x5_1) = true := decide_eq_true c62
             clear c62
             (first | rw [c62b0] | (simp only [i64_w, i32_w]; rw [c62b0]) | skip)
             have H' := Aside0.mk H
             clear H
             obtain ⟨Ao63, co63, eo63⟩ := Kd.R_slice HO_11.out
             subst eo63
             obtain ⟨Ao64, co64, eo64⟩ := Kd.R_slice HO_6.out
             subst eo64
             go_wp2_with (first | ((with_reducible refine gate_callee (f := 33) rfl ?_); refine goesL_ (some 125) rfl rfl Try.func33 (by kernel_rfl) rfl #[.slice Ao63 x11_2.length co63, .slice Ao64 x6_1.length co64] rfl (by (try simp only [am_]); first | done | rfl) ?_; (with_reducible refine (laws_sameInts.calls k2 _ _ x11_2 _ _ x6_1 true _ ?side1 ?side2 ?side3 ?side4 A60.out).mono ?_); (case side1 => exact rc (Kd.R_reads' HO_11.out).2.2); (case side2 => exact (Kd.R_reads' HO_11.out).2.1); (case side3 => exact rc (Kd.R_reads' HO_6.out).2.2); (case side4 => exact (Kd.R_reads' HO_6.out).2.1); rintro e w' ⟨rfl, ⟨nd, rfl⟩⟩; refine ⟨_, rfl, ?_⟩; obtain ⟨hcz65_0, hcz65_1, hcz65_2⟩ := ck3 BK287.out; obtain ⟨hfz65_0, hfz65_1, hfz65_2⟩ := fz3 BK287.out))
             go_meet
             case rel => exact ⟨_, (true), (by first | rfl | (simp; done) | (simp [*]; done)), H', ⟨by have := HK1.out; have := HK2.out; first | omega | exact Nat.le_refl _⟩, ⟨rl HO_4.out⟩, ⟨rl HO_288002.out⟩, ⟨bk BK287.out⟩, ⟨by repeat with_reducible first | exact bl HB.out | refine below_set ?_ GE287.out | refine bq ?_⟩⟩
            ·
             rw [if_neg c62] at H
             have c62b0 : decide (t279 < x5_1) = false := decide_eq_false c62
             clear c62
             (first | rw [c62b0] | (simp only [i64_w, i32_w]; rw [c62b0]) | skip)
             replace H := Option.bind_eq_some_iff.mp H
             obtain ⟨t307, A660, H⟩ := H
             replace H : (laws_FnWindows.j3 k2 l0 t284 x5_1 (!t307) t279 t280 t281) = some r := H
             have A66 := Aside0.mk A660
             clear A660
             have H' := Aside0.mk H
             clear H
             obtain ⟨Ao67, co67, eo67⟩ := Kd.R_slice HO_11.out
             subst eo67
             obtain ⟨Ao68, co68, eo68⟩ := Kd.R_slice HO_6.out
             subst eo68
             go_wp2_with (first | ((with_reducible refine gate_callee (f := 33) rfl ?_); refine goesL_ (some 125) rfl rfl Try.func33 (by kernel_rfl) rfl #[.slice Ao67 x11_2.length co67, .slice Ao68 x6_1.length co68] rfl (by (try simp only [am_]); first | done | rfl) ?_; (with_reducible refine (laws_sameInts.calls k2 _ _ x11_2 _ _ x6_1 true _ ?side1 ?side2 ?side3 ?side4 A60.out).mono ?_); (case side1 => exact rc (Kd.R_reads' HO_11.out).2.2); (case side2 => exact (Kd.R_reads' HO_11.out).2.1); (case side3 => exact rc (Kd.R_reads' HO_6.out).2.2); (case side4 => exact (Kd.R_reads' HO_6.out).2.1); rintro e w' ⟨rfl, ⟨nd, rfl⟩⟩; refine ⟨_, rfl, ?_⟩; obtain ⟨hcz69_0, hcz69_1, hcz69_2⟩ := ck3 BK287.out; obtain ⟨hfz69_0, hfz69_1, hfz69_2⟩ := fz3 BK287.out) | (go_at_call 12; (with_reducible refine (impl_PlanOk.calls k2 t279 t280 _ _ t281 t307 _ ?side1 ?side2 A66.out).mono ?_); (case side1 => exact rc (Kd.R_reads' HO_288002.out).2.2); (case side2 => exact (Kd.R_reads' HO_288002.out).2.1); rintro e w70 ⟨rfl, hb⟩; replace HO_4 := Aside0.mk (Kd.R_below (rl HO_4.out) hb); replace HO_6 := Aside0.mk (Kd.R_below (rl HO_6.out) hb); replace HO_11 := Aside0.mk (Kd.R_below (rl HO_11.out) hb); replace HO_288002 := Aside0.mk (Kd.R_below (rl HO_288002.out) hb); replace BK287 := Aside0.mk (blk_below (bk BK287.out) hb); replace HB := Aside0.mk (below_step (by repeat with_reducible first | exact bl HB.out | refine below_set ?_ GE287.out | refine bq ?_) hb); (try clear hb); (try clear hb2); (try clear hk); (try clear hi)))
             go_meet
             case rel => exact ⟨_, (!t307), (by first | rfl | (simp; done) | (simp [*]; done)), H', ⟨by have := HK1.out; have := HK2.out; first | omega | exact Nat.le_refl _⟩, ⟨rl HO_4.out⟩, ⟨rl HO_288002.out⟩, ⟨bk BK287.out⟩, ⟨by repeat with_reducible first | exact bl HB.out | refine below_set ?_ GE287.out | refine bq ?_⟩⟩
           ·
            replace c61 := Bool.eq_false_iff.mpr c61
            subst c61
            have H1 : (laws_FnWindows.j3 k2 l0 t284 x5_1 true t279 t280 t281) = some r := by rw [if_neg (show ¬ (false = true) by decide)] at H; exact H
            clear H
            have H := H1
            clear H1
            have H' := Aside0.mk H
            clear H
            obtain ⟨Ao71, co71, eo71⟩ := Kd.R_slice HO_11.out
            subst eo71
            obtain ⟨Ao72, co72, eo72⟩ := Kd.R_slice HO_6.out
            subst eo72
            go_wp2_with (first | ((with_reducible refine gate_callee (f := 33) rfl ?_); refine goesL_ (some 125) rfl rfl Try.func33 (by kernel_rfl) rfl #[.slice Ao71 x11_2.length co71, .slice Ao72 x6_1.length co72] rfl (by (try simp only [am_]); first | done | rfl) ?_; (with_reducible refine (laws_sameInts.calls k2 _ _ x11_2 _ _ x6_1 false _ ?side1 ?side2 ?side3 ?side4 A60.out).mono ?_); (case side1 => exact rc (Kd.R_reads' HO_11.out).2.2); (case side2 => exact (Kd.R_reads' HO_11.out).2.1); (case side3 => exact rc (Kd.R_reads' HO_6.out).2.2); (case side4 => exact (Kd.R_reads' HO_6.out).2.1); rintro e w' ⟨rfl, ⟨nd, rfl⟩⟩; refine ⟨_, rfl, ?_⟩))
            go_meet
            case rel => exact ⟨_, (true), (by first | rfl | (simp; done) | (simp [*]; done)), H', ⟨by have := HK1.out; have := HK2.out; first | omega | exact Nat.le_refl _⟩, ⟨rl HO_4.out⟩, ⟨rl HO_288002.out⟩, ⟨bk BK287.out⟩, ⟨by repeat with_reducible first | exact bl HB.out | refine below_set ?_ GE287.out | refine bq ?_⟩⟩
          case rest =>
           clear HC58
           try clear c1
           try clear c2
           try clear p2
           try clear c3
           try clear p3
           try clear q3
           try clear hx3
           try clear c4
           try clear c5
           try clear p5
           try clear q5
           try clear hx5
           try clear hf5
           try clear c6
           try clear p6
           try clear c8
           try clear c11
           try clear c11b0
           try clear c13
           try clear c14
           try clear c14b0
           try clear c15
           try clear c17
           try clear c17b0
           try clear c21
           try clear c21b0
           try clear c25
           try clear p30
           try clear q30
           try clear hx30
           try clear c31
           try clear c32
           try clear c32b0
           try clear c32b1
           try clear c33
           try clear c33b0
           try clear c33b1
           try clear c37
           try clear c37b0
           try clear c45
           try clear c46
           try clear c46b0
           try clear c47
           try clear c47b0
           try clear c50
           try clear c51
           try clear c51b0
           try clear c52
           try clear c52b0
           try clear c53
           try clear c53b0
           try clear p54
           try clear q54
           try clear hx54
           try clear hf54
           try clear c61
           try clear c62
           try clear c62b0
           try clear p64
           try clear hcz15_0 hcz15_1 hcz15_2 hfz15_0 hfz15_1 hfz15_2
           try clear hcz18_0 hcz18_1 hcz18_2 hfz18_0 hfz18_1 hfz18_2
           try clear hcz20_0 hcz20_1 hcz20_2 hfz20_0 hfz20_1 hfz20_2
           try clear hcz22_0 hcz22_1 hcz22_2 hfz22_0 hfz22_1 hfz22_2
           try clear hcz24_0 hcz24_1 hcz24_2 hfz24_0 hfz24_1 hfz24_2
           try clear hcz26_0 hcz26_1 hcz26_2 hfz26_0 hfz26_1 hfz26_2
           try clear hcz28_0 hcz28_1 hcz28_2 hfz28_0 hfz28_1 hfz28_2
           try clear hcz30_0 hcz30_1 hcz30_2 hfz30_0 hfz30_1 hfz30_2
           try clear hcz34_0 hcz34_1 hcz34_2 hfz34_0 hfz34_1 hfz34_2
           try clear hcz41_0 hcz41_1 hcz41_2 hfz41_0 hfz41_1 hfz41_2
           try clear hcz43_0 hcz43_1 hcz43_2 hfz43_0 hfz43_1 hfz43_2
           try clear hcz48_0 hcz48_1 hcz48_2 hfz48_0 hfz48_1 hfz48_2
           try clear hcz49_0 hcz49_1 hcz49_2 hfz49_0 hfz49_1 hfz49_2
           try clear hcz59_0 hcz59_1 hcz59_2 hfz59_0 hfz59_1 hfz59_2
           try clear hcz65_0 hcz65_1 hcz65_2 hfz65_0 hfz65_1 hfz65_2
           try clear hcz69_0 hcz69_1 hcz69_2 hfz69_0 hfz69_1 hfz69_2
           try clear hcz7_0 hcz7_1 hcz7_2 hfz7_0 hfz7_1 hfz7_2
           try clear hx304_0
           try clear hx54_0
           try clear p2
           try clear p304
           try clear p54
           try clear p6
           try clear q304
           try clear q54
           (try clear BK287); obtain ⟨kq, x137_57, rfl, HA, HJ57, HO_4, HO_288002, BK287, HB⟩ := hcut
           cases kq with
           | zero => exact absurd HA.out (by simp [laws_FnWindows.j3])
           | succ kj57 =>
            have H := HA.out
            clear HA
            simp only [laws_FnWindows.j3] at H
            by_cases c73 : x137_57 = true
            ·
             subst c73
             have H1 : (some false) = some r := by rw [if_pos rfl] at H; exact H
             clear H
             have H := H1
             clear H1
             cases H.trans (congrArg some hr_)
            ·
             replace c73 := Bool.eq_false_iff.mpr c73
             subst c73
             have H1 : ((laws_at.f l0 2).bind fun t308 => ((impl_FitWindow.f kj57 t279 t280 t281 0 (wrap64 (1 + (Int.tmod t308 4)))).bind fun bt309 => (laws_FnWindows.l2 kj57 t284 x5_1 bt309.2.2.2 0 t279 t280 t281 bt309.1 bt309.2.1 bt309.2.2.1))) = some r := by rw [if_neg (show ¬ (false = true) by decide)] at H; exact H
             clear H
             have H := H1
             clear H1
             replace H := Option.bind_eq_some_iff.mp H
             obtain ⟨t308, A740, H⟩ := H
             replace H : ((impl_FitWindow.f kj57 t279 t280 t281 0 (wrap64 (1 + (Int.tmod t308 4)))).bind fun bt309 => (laws_FnWindows.l2 kj57 t284 x5_1 bt309.2.2.2 0 t279 t280 t281 bt309.1 bt309.2.1 bt309.2.2.1)) = some r := H
             have A74 := Aside0.mk A740
             clear A740
             replace H := Option.bind_eq_some_iff.mp H
             obtain ⟨⟨t309, t310, t311, t314⟩, A750, H⟩ := H
             replace H : (laws_FnWindows.l2 kj57 t284 x5_1 t314 0 t279 t280 t281 t309 t310 t311) = some r := H
             have A75 := Aside0.mk A750
             clear A750
             have H' := Aside0.mk H
             clear H
             try go_wp2
             have n0_ := Aside0.mk (Kd.R_drew HO_4.out)
             have n1_ := Aside0.mk (Kd.R_drew HO_288002.out)
             have n2_ := Aside0.mk (blk_drew BK287.out)
             have n3_ := Aside0.mk (below_drew1 HB.out)
             clear HO_4
             clear HO_288002
             clear BK287
             clear HB
             have HO_4 := n0_
             have HO_288002 := n1_
             have BK287 := n2_
             have HB := n3_
             clear n0_ n1_ n2_ n3_
             refine start_ (n := 12) (S := fun w' => w'.cell? ⟨gb287, 0, none⟩ = some (.int .i64 t279) ∧ w'.cell? ⟨gb287, 1, none⟩ = some (.int .i64 t280) ∧ w'.cell? ⟨gb287, 2, none⟩ = some (.slice Ao8 t281.length co8)) (ds := []) m0_12 (by kernel_rfl) rfl rfl ⟨ck BK287.out 0 rfl, ck BK287.out 1 rfl, ck BK287.out 2 rfl⟩ (fun hHeld => ?_); refine with_tabW laws_FnWindows.tab26 laws_FnWindows.bits26 (fun HT_ HW_ => ?_)
             generalize wc.drew = w76 at HO_4 HO_288002 BK287 HB hHeld ⊢
             refine pq_ HT_.out 1 140 n100 ?_
             refine tk_ HT_.out HW_.out 0 139 m2_12 rfl rfl (by kernel_rfl) (by rfl) (by rintro w' ⟨s0, s1, s2⟩; go_simp; with_reducible rfl) hHeld (by simp only [sp_]; rfl) (fun _ _ _ h => h) ?_
             refine join_ (σ := Value × Nat) 2 m10_12 (fun s_ => [(141, .int .i64 t308), (144, .tuple #[.agg #[.int .i64 t309, .int .i64 t310, s_.1], .bool t314]), (17, .pointer (some ⟨s_.2, 0, none⟩)), (142, .int .i64 (Int.tmod t308 4)), (143, .int .i64 (wrap64 (1 + (Int.tmod t308 4)))), (138, .tuple #[.agg #[.int .i64 t309, .int .i64 t310, s_.1], .bool t314]), (145, .agg #[.int .i64 t309, .int .i64 t310, s_.1]), (146, .bool t314)]) (fun s_ w' => (w'.cell? ⟨gb287, 0, none⟩ = some (.int .i64 t279) ∧ w'.cell? ⟨gb287, 1, none⟩ = some (.int .i64 t280) ∧ w'.cell? ⟨gb287, 2, none⟩ = some (.slice Ao8 t281.length co8)) ∧ (Kd.R k62 62 w' w.heap.size (fun k_ => some k_ ≠ (.slice Ao8 t281.length co8 : Value).ownBlock) s_.1 t311) ∧ (Kd.R k62 62 w' w.heap.size (fun k_ => some k_ ≠ (s_.1 : Value).ownBlock) (.slice Ao8 t281.length co8) t281) ∧ (Kd.R k74 74 w' w.heap.size (fun _ => True) v285 t284) ∧ (w'.heap[gb287]? = some (.cells #[.int .i64 t279, .int .i64 t280, .slice Ao8 t281.length co8] 29 (0, 0))) ∧ (w'.heap[s_.2]? = some (.cells #[.int .i64 0, .int .i64 0, .slice none 0 0] 29 (0, 0))) ∧ (w.heap.size ≤ s_.2) ∧ (w.heap.size ≤ s_.2) ∧ (gb287 ≠ s_.2) ∧ (s_.2 ≠ gb287) ∧ (Below w.heap.size w w')) ?_ ?_
             rotate_left
             ·
              intro hCont
              refine two_ (i := 2) (j := 9) (Ni := some 141) (Nj := some 17) m3_12 n115 rfl rfl rfl rfl (two_of HT_.out (by kernel_rfl)) (by decide) (by decide) (fun K hK => ?_) (fun K hK => ?_)
              ·
               skip
               refine goes_ Try.func34 (by kernel_rfl) rfl #[.slice A0 l0.length c0, .int .i64 2] (by rfl) rfl rfl (by (try simp only [am_]); first | done | rfl) ?_
               with_reducible refine (laws_at.calls _ _ l0 2 t308 _ ?side1 ?side2 A74.out).mono ?_
               (case side1 => exact rc (Kd.C_below HR0.out HB.out))
               (case side2 => exact HC0.out)
               rintro e w' ⟨rfl, ⟨nd, rfl⟩⟩
               refine ⟨_, rfl, ?_⟩
               refine hK.out _ _ ⟨ck BK287.out 0 rfl, ck BK287.out 1 rfl, ck BK287.out 2 rfl⟩ (fun hHeld => ?_)
               clear hK K
               refine norm_ (a' := ?_) ?_ ?_
               rotate_left
               ·
                show Act.put _ (some 141) _ = _
                simp only [sp_]
                rfl
               refine pq_ HT_.out 3 142 m4_12 ?_
               refine pq_ HT_.out 4 143 m5_12 ?_
               refine two_ (i := 5) (j := 9) (Ni := some 144) (Nj := some 17) m6_12 n110 rfl rfl rfl rfl (two_of HT_.out (by kernel_rfl)) (by decide) (by decide) (fun K hK => ?_) (fun K hK => ?_)
               ·
                skip
                refine goes_ Try.func19 (by kernel_rfl) rfl #[.agg #[.int .i64 t279, .int .i64 t280, .slice Ao8 t281.length co8], .int .i64 0, .int .i64 (wrap64 (1 + (Int.tmod t308 4)))] (by rfl) rfl rfl (by (try simp only [am_]); first | done | rfl) ?_
                with_reducible refine (impl_FitWindow.calls kj57 t279 t280 _ _ t281 0 (wrap64 (1 + (Int.tmod t308 4))) t309 t310 t311 t314 _ ?side1 ?side2 A75.out).mono ?_
                (case side1 => exact rc (Kd.R_reads' HO_288002.out).2.2)
                (case side2 => exact (Kd.R_reads' HO_288002.out).2.1)
                rintro e w77 ⟨v312, rfl, ho0, hb⟩
                refine ⟨_, rfl, ?_⟩
                have n0_ := Aside0.mk (Kd.R_below (rl HO_4.out) hb)
                have n1_ := Aside0.mk (Kd.R_elder' (rl HO_288002.out) (Kd.R_base ho0) hb)
                have n2_ := Aside0.mk (Kd.R_lower (Kd.R_new' ho0 (Kd.R_lt (by (repeat apply rl1); exact HO_288002.out))) (below_size (by repeat with_reducible first | exact bl HB.out | refine below_set ?_ GE287.out | refine bq ?_)))
                have n3_ := Aside0.mk (blk_below (bk BK287.out) hb)
                have n4_ := Aside0.mk (below_step (by repeat with_reducible first | exact bl HB.out | refine below_set ?_ GE287.out | refine bq ?_) hb)
                clear HO_4
                clear HO_288002
                clear BK287
                clear HB
                have HO_4 := n0_
                have HO_288002 := n1_
                have HO313 := n2_
                have BK287 := n3_
                have HB := n4_
                clear n0_ n1_ n2_ n3_ n4_
                (try clear hb)
                (try clear hb2)
                (try clear hk)
                (try clear hi)
                (try clear ho0)
                refine hK.out _ _ ⟨ck BK287.out 0 rfl, ck BK287.out 1 rfl, ck BK287.out 2 rfl⟩ (fun hHeld => ?_)
                clear hK K
                refine norm_ (a' := ?_) ?_ ?_
                rotate_left
                ·
                 show Act.put _ (some 144) _ = _
                 simp only [sp_]
                 rfl
                refine pq_ HT_.out 6 138 m7_12 ?_
                refine pq_ HT_.out 7 145 m8_12 ?_
                refine pq_ HT_.out 8 146 m9_12 ?_
                refine one_ (i := 9) (N := some 17) m10_12 rfl rfl (one_of HT_.out (by kernel_rfl)) (by decide) (fun K hK => ?_)
                refine box_step ?hg (N := 17) ?hd (cs := #[.int .i64 0, .int .i64 0, .slice none 0 0]) (t := 29) ?hr ?_; (case hd => rfl); (case hg => rfl); (case hr => first | (go_simp; done) | (go_simp; rfl))
                intro gb315 hg w78 hbox hb
                have n0_ := Aside0.mk (Kd.R_below (rl HO_4.out) hb)
                have n1_ := Aside0.mk (Kd.R_below (rl HO_288002.out) hb)
                have n2_ := Aside0.mk (Kd.R_below (rl HO313.out) hb)
                have n3_ := Aside0.mk (blk_below (bk BK287.out) hb)
                have n4_ := Aside0.mk (below_step (by repeat with_reducible first | exact bl HB.out | refine below_set ?_ GE287.out | refine bq ?_) hb)
                have n5_ := Aside0.mk (hbox)
                have n6_ := Aside0.mk ((by rw [hg]; exact (below_size (by repeat with_reducible first | exact bl HB.out | refine below_set ?_ GE287.out | refine bq ?_)) : w.heap.size ≤ gb315))
                have n7_ := Aside0.mk ((by rw [hg]; exact (below_size (by repeat with_reducible first | exact bl HB.out | refine below_set ?_ GE287.out | refine bq ?_)) : w.heap.size ≤ gb315))
                have n8_ := Aside0.mk ((by rw [hg]; exact Nat.ne_of_lt (blk_lt (g := gb287) (o := .cells #[.int .i64 t279, .int .i64 t280, .slice Ao8 t281.length co8] 29 (0, 0)) (bk BK287.out)) : gb287 ≠ gb315))
                have n9_ := Aside0.mk ((by rw [hg]; exact Nat.ne_of_gt (blk_lt (g := gb287) (o := .cells #[.int .i64 t279, .int .i64 t280, .slice Ao8 t281.length co8] 29 (0, 0)) (bk BK287.out)) : gb315 ≠ gb287))
                clear HO_4
                clear HO_288002
                clear HO313
                clear BK287
                clear HB
                have HO_4 := n0_
                have HO_288002 := n1_
                have HO313 := n2_
                have BK287 := n3_
                have HB := n4_
                have BK315 := n5_
                have GW315 := n6_
                have GE315 := n7_
                have NB287_315 := n8_
                have NB315_287 := n9_
                clear n0_ n1_ n2_ n3_ n4_ n5_ n6_ n7_ n8_ n9_
                clear hb hbox hg
                refine hK.out _ _ ⟨ck BK287.out 0 rfl, ck BK287.out 1 rfl, ck BK287.out 2 rfl⟩ (fun hHeld => ?_)
                clear hK K
                refine norm_ (a' := ?_) ?_ ?_
                rotate_left
                ·
                 show Act.put _ (some 17) _ = _
                 simp only [sp_]
                 rfl
                exact norm_ (by simp only [putAll, Act.put, List.setIfInBounds_toArray, List.set_cons_zero, List.set_cons_succ]) (hCont (v312, gb315) _ ⟨hHeld, (by (repeat apply rl1); exact Kd.R_mono HO313.out (fun _ hk => hk.2)), (by (repeat apply rl1); exact Kd.R_mono HO_288002.out (fun _ hk => hk.2)), (rl HO_4.out), (bk BK287.out), (bk BK315.out), GW315.out, GE315.out, NB287_315.out, NB315_287.out, (by repeat with_reducible first | exact bl HB.out | refine below_set ?_ GE287.out | refine below_set ?_ GE315.out | refine bq ?_)⟩)
               ·
                skip
                refine box_step ?hg (N := 17) ?hd (cs := #[.int .i64 0, .int .i64 0, .slice none 0 0]) (t := 29) ?hr ?_; (case hd => rfl); (case hg => rfl); (case hr => first | (go_simp; done) | (go_simp; rfl))
                intro gb315 hg w77 hbox hb
                have n0_ := Aside0.mk (Kd.R_below (rl HO_4.out) hb)
                have n1_ := Aside0.mk (Kd.R_below (rl HO_288002.out) hb)
                have n2_ := Aside0.mk (blk_below (bk BK287.out) hb)
                have n3_ := Aside0.mk (below_step (by repeat with_reducible first | exact bl HB.out | refine below_set ?_ GE287.out | refine bq ?_) hb)
                have n4_ := Aside0.mk (hbox)
                have n5_ := Aside0.mk ((by rw [hg]; exact (below_size (by repeat with_reducible first | exact bl HB.out | refine below_set ?_ GE287.out | refine bq ?_)) : w.heap.size ≤ gb315))
                have n6_ := Aside0.mk ((by rw [hg]; exact (below_size (by repeat with_reducible first | exact bl HB.out | refine below_set ?_ GE287.out | refine bq ?_)) : w.heap.size ≤ gb315))
                have n7_ := Aside0.mk ((by rw [hg]; exact Nat.ne_of_lt (blk_lt (g := gb287) (o := .cells #[.int .i64 t279, .int .i64 t280, .slice Ao8 t281.length co8] 29 (0, 0)) (bk BK287.out)) : gb287 ≠ gb315))
                have n8_ := Aside0.mk ((by rw [hg]; exact Nat.ne_of_gt (blk_lt (g := gb287) (o := .cells #[.int .i64 t279, .int .i64 t280, .slice Ao8 t281.length co8] 29 (0, 0)) (bk BK287.out)) : gb315 ≠ gb287))
                clear HO_4
                clear HO_288002
                clear BK287
                clear HB
                have HO_4 := n0_
                have HO_288002 := n1_
                have BK287 := n2_
                have HB := n3_
                have BK315 := n4_
                have GW315 := n5_
                have GE315 := n6_
                have NB287_315 := n7_
                have NB315_287 := n8_
                clear n0_ n1_ n2_ n3_ n4_ n5_ n6_ n7_ n8_
                clear hb hbox hg
                refine hK.out _ _ ⟨ck BK287.out 0 rfl, ck BK287.out 1 rfl, ck BK287.out 2 rfl⟩ (fun hHeld => ?_)
                clear hK K
                refine norm_ (a' := ?_) ?_ ?_
                rotate_left
                ·
                 show Act.put _ (some 17) _ = _
                 simp only [sp_]
                 rfl
                refine one_ (i := 5) (N := some 144) n117 rfl rfl (one_of HT_.out (by kernel_rfl)) (by decide) (fun K hK => ?_)
                refine goes_ Try.func19 (by kernel_rfl) rfl #[.agg #[.int .i64 t279, .int .i64 t280, .slice Ao8 t281.length co8], .int .i64 0, .int .i64 (wrap64 (1 + (Int.tmod t308 4)))] (by rfl) rfl rfl (by (try simp only [am_]); first | done | rfl) ?_
                with_reducible refine (impl_FitWindow.calls kj57 t279 t280 _ _ t281 0 (wrap64 (1 + (Int.tmod t308 4))) t309 t310 t311 t314 _ ?side1 ?side2 A75.out).mono ?_
                (case side1 => exact rc (Kd.R_reads' HO_288002.out).2.2)
                (case side2 => exact (Kd.R_reads' HO_288002.out).2.1)
                rintro e w78 ⟨v312, rfl, ho0, hb⟩
                refine ⟨_, rfl, ?_⟩
                have n0_ := Aside0.mk (Kd.R_below (rl HO_4.out) hb)
                have n1_ := Aside0.mk (Kd.R_elder' (rl HO_288002.out) (Kd.R_base ho0) hb)
                have n2_ := Aside0.mk (Kd.R_lower (Kd.R_new' ho0 (Kd.R_lt (by (repeat apply rl1); exact HO_288002.out))) (below_size (by repeat with_reducible first | exact bl HB.out | refine below_set ?_ GE287.out | refine below_set ?_ GE315.out | refine bq ?_)))
                have n3_ := Aside0.mk (blk_below (bk BK287.out) hb)
                have n4_ := Aside0.mk (blk_below (bk BK315.out) hb)
                have n5_ := Aside0.mk (below_step (by repeat with_reducible first | exact bl HB.out | refine below_set ?_ GE287.out | refine below_set ?_ GE315.out | refine bq ?_) hb)
                clear HO_4
                clear HO_288002
                clear BK287
                clear BK315
                clear HB
                have HO_4 := n0_
                have HO_288002 := n1_
                have HO313 := n2_
                have BK287 := n3_
                have BK315 := n4_
                have HB := n5_
                clear n0_ n1_ n2_ n3_ n4_ n5_
                (try clear hb)
                (try clear hb2)
                (try clear hk)
                (try clear hi)
                (try clear ho0)
                refine hK.out _ _ ⟨ck BK287.out 0 rfl, ck BK287.out 1 rfl, ck BK287.out 2 rfl⟩ (fun hHeld => ?_)
                clear hK K
                refine norm_ (a' := ?_) ?_ ?_
                rotate_left
                ·
                 show Act.put _ (some 144) _ = _
                 simp only [sp_]
                 rfl
                refine pq_ HT_.out 6 138 n106 ?_
                refine pq_ HT_.out 7 145 n107 ?_
                refine pq_ HT_.out 8 146 m10_12 ?_
                exact norm_ (by simp only [putAll, Act.put, List.setIfInBounds_toArray, List.set_cons_zero, List.set_cons_succ]) (hCont (v312, gb315) _ ⟨hHeld, (by (repeat apply rl1); exact Kd.R_mono HO313.out (fun _ hk => hk.2)), (by (repeat apply rl1); exact Kd.R_mono HO_288002.out (fun _ hk => hk.2)), (rl HO_4.out), (bk BK287.out), (bk BK315.out), GW315.out, GE315.out, NB287_315.out, NB315_287.out, (by repeat with_reducible first | exact bl HB.out | refine below_set ?_ GE287.out | refine below_set ?_ GE315.out | refine bq ?_)⟩)
              ·
               skip
               refine box_step ?hg (N := 17) ?hd (cs := #[.int .i64 0, .int .i64 0, .slice none 0 0]) (t := 29) ?hr ?_; (case hd => rfl); (case hg => rfl); (case hr => first | (go_simp; done) | (go_simp; rfl))
               intro gb315 hg w77 hbox hb
               have n0_ := Aside0.mk (Kd.R_below (rl HO_4.out) hb)
               have n1_ := Aside0.mk (Kd.R_below (rl HO_288002.out) hb)
               have n2_ := Aside0.mk (blk_below (bk BK287.out) hb)
               have n3_ := Aside0.mk (below_step (by repeat with_reducible first | exact bl HB.out | refine below_set ?_ GE287.out | refine bq ?_) hb)
               have n4_ := Aside0.mk (hbox)
               have n5_ := Aside0.mk ((by rw [hg]; exact (below_size (by repeat with_reducible first | exact bl HB.out | refine below_set ?_ GE287.out | refine bq ?_)) : w.heap.size ≤ gb315))
               have n6_ := Aside0.mk ((by rw [hg]; exact (below_size (by repeat with_reducible first | exact bl HB.out | refine below_set ?_ GE287.out | refine bq ?_)) : w.heap.size ≤ gb315))
               have n7_ := Aside0.mk ((by rw [hg]; exact Nat.ne_of_lt (blk_lt (g := gb287) (o := .cells #[.int .i64 t279, .int .i64 t280, .slice Ao8 t281.length co8] 29 (0, 0)) (bk BK287.out)) : gb287 ≠ gb315))
               have n8_ := Aside0.mk ((by rw [hg]; exact Nat.ne_of_gt (blk_lt (g := gb287) (o := .cells #[.int .i64 t279, .int .i64 t280, .slice Ao8 t281.length co8] 29 (0, 0)) (bk BK287.out)) : gb315 ≠ gb287))
               clear HO_4
               clear HO_288002
               clear BK287
               clear HB
               have HO_4 := n0_
               have HO_288002 := n1_
               have BK287 := n2_
               have HB := n3_
               have BK315 := n4_
               have GW315 := n5_
               have GE315 := n6_
               have NB287_315 := n7_
               have NB315_287 := n8_
               clear n0_ n1_ n2_ n3_ n4_ n5_ n6_ n7_ n8_
               clear hb hbox hg
               refine hK.out _ _ ⟨ck BK287.out 0 rfl, ck BK287.out 1 rfl, ck BK287.out 2 rfl⟩ (fun hHeld => ?_)
               clear hK K
               refine norm_ (a' := ?_) ?_ ?_
               rotate_left
               ·
                show Act.put _ (some 17) _ = _
                simp only [sp_]
                rfl
               refine one_ (i := 2) (N := some 141) n118 rfl rfl (one_of HT_.out (by kernel_rfl)) (by decide) (fun K hK => ?_)
               refine goes_ Try.func34 (by kernel_rfl) rfl #[.slice A0 l0.length c0, .int .i64 2] (by rfl) rfl rfl (by (try simp only [am_]); first | done | rfl) ?_
               with_reducible refine (laws_at.calls _ _ l0 2 t308 _ ?side1 ?side2 A74.out).mono ?_
               (case side1 => exact rc (Kd.C_below HR0.out HB.out))
               (case side2 => exact HC0.out)
               rintro e w' ⟨rfl, ⟨nd, rfl⟩⟩
               refine ⟨_, rfl, ?_⟩
               refine hK.out _ _ ⟨ck BK287.out 0 rfl, ck BK287.out 1 rfl, ck BK287.out 2 rfl⟩ (fun hHeld => ?_)
               clear hK K
               refine norm_ (a' := ?_) ?_ ?_
               rotate_left
               ·
                show Act.put _ (some 141) _ = _
                simp only [sp_]
                rfl
               refine pq_ HT_.out 3 142 n109 ?_
               refine pq_ HT_.out 4 143 n110 ?_
               refine one_ (i := 5) (N := some 144) n117 rfl rfl (one_of HT_.out (by kernel_rfl)) (by decide) (fun K hK => ?_)
               refine goes_ Try.func19 (by kernel_rfl) rfl #[.agg #[.int .i64 t279, .int .i64 t280, .slice Ao8 t281.length co8], .int .i64 0, .int .i64 (wrap64 (1 + (Int.tmod t308 4)))] (by rfl) rfl rfl (by (try simp only [am_]); first | done | rfl) ?_
               with_reducible refine (impl_FitWindow.calls kj57 t279 t280 _ _ t281 0 (wrap64 (1 + (Int.tmod t308 4))) t309 t310 t311 t314 _ ?side1 ?side2 A75.out).mono ?_
               (case side1 => exact rc (Kd.R_reads' HO_288002.out).2.2)
               (case side2 => exact (Kd.R_reads' HO_288002.out).2.1)
               rintro e w78 ⟨v312, rfl, ho0, hb⟩
               refine ⟨_, rfl, ?_⟩
               have n0_ := Aside0.mk (Kd.R_below (rl HO_4.out) hb)
               have n1_ := Aside0.mk (Kd.R_elder' (rl HO_288002.out) (Kd.R_base ho0) hb)
               have n2_ := Aside0.mk (Kd.R_lower (Kd.R_new' ho0 (Kd.R_lt (by (repeat apply rl1); exact HO_288002.out))) (below_size (by repeat with_reducible first | exact bl HB.out | refine below_set ?_ GE287.out | refine below_set ?_ GE315.out | refine bq ?_)))
               have n3_ := Aside0.mk (blk_below (bk BK287.out) hb)
               have n4_ := Aside0.mk (blk_below (bk BK315.out) hb)
               have n5_ := Aside0.mk (below_step (by repeat with_reducible first | exact bl HB.out | refine below_set ?_ GE287.out | refine below_set ?_ GE315.out | refine bq ?_) hb)
               clear HO_4
               clear HO_288002
               clear BK287
               clear BK315
               clear HB
               have HO_4 := n0_
               have HO_288002 := n1_
               have HO313 := n2_
               have BK287 := n3_
               have BK315 := n4_
               have HB := n5_
               clear n0_ n1_ n2_ n3_ n4_ n5_
               (try clear hb)
               (try clear hb2)
               (try clear hk)
               (try clear hi)
               (try clear ho0)
               refine hK.out _ _ ⟨ck BK287.out 0 rfl, ck BK287.out 1 rfl, ck BK287.out 2 rfl⟩ (fun hHeld => ?_)
               clear hK K
               refine norm_ (a' := ?_) ?_ ?_
               rotate_left
               ·
                show Act.put _ (some 144) _ = _
                simp only [sp_]
                rfl
               refine pq_ HT_.out 6 138 n106 ?_
               refine pq_ HT_.out 7 145 n107 ?_
               refine pq_ HT_.out 8 146 m10_12 ?_
               exact norm_ (by simp only [putAll, Act.put, List.setIfInBounds_toArray, List.set_cons_zero, List.set_cons_succ]) (hCont (v312, gb315) _ ⟨hHeld, (by (repeat apply rl1); exact Kd.R_mono HO313.out (fun _ hk => hk.2)), (by (repeat apply rl1); exact Kd.R_mono HO_288002.out (fun _ hk => hk.2)), (rl HO_4.out), (bk BK287.out), (bk BK315.out), GW315.out, GE315.out, NB287_315.out, NB315_287.out, (by repeat with_reducible first | exact bl HB.out | refine below_set ?_ GE287.out | refine below_set ?_ GE315.out | refine bq ?_)⟩)
             rintro ⟨v312, gb315⟩ w79 ⟨hS_, h0_, h1_, h2_, h3_, h4_, h5_, h6_, h7_, h8_, h9_⟩
             have n0_ : Aside0 (Kd.R k62 62 w79 w.heap.size (fun k_ => some k_ ≠ (.slice Ao8 t281.length co8 : Value).ownBlock) v312 t311) := ⟨h0_⟩
             have n1_ : Aside0 (Kd.R k62 62 w79 w.heap.size (fun k_ => some k_ ≠ (v312 : Value).ownBlock) (.slice Ao8 t281.length co8) t281) := ⟨h1_⟩
             have n2_ : Aside0 (Kd.R k74 74 w79 w.heap.size (fun _ => True) v285 t284) := ⟨h2_⟩
             have n3_ : Aside0 (w79.heap[gb287]? = some (.cells #[.int .i64 t279, .int .i64 t280, .slice Ao8 t281.length co8] 29 (0, 0))) := ⟨h3_⟩
             have n4_ : Aside0 (w79.heap[gb315]? = some (.cells #[.int .i64 0, .int .i64 0, .slice none 0 0] 29 (0, 0))) := ⟨h4_⟩
             have n5_ : Aside0 (w.heap.size ≤ gb315) := ⟨h5_⟩
             have n6_ : Aside0 (w.heap.size ≤ gb315) := ⟨h6_⟩
             have n7_ : Aside0 (gb287 ≠ gb315) := ⟨h7_⟩
             have n8_ : Aside0 (gb315 ≠ gb287) := ⟨h8_⟩
             have n9_ : Aside0 (Below w.heap.size w w79) := ⟨h9_⟩
             clear HO_4
             clear HO_288002
             clear BK287
             clear HB
             clear h0_ h1_ h2_ h3_ h4_ h5_ h6_ h7_ h8_ h9_
             have HO313 := n0_
             have HO_288002 := n1_
             have HO_4 := n2_
             have BK287 := n3_
             have BK315 := n4_
             have GW315 := n5_
             have GE315 := n6_
             have NB287_315 := n7_
             have NB315_287 := n8_
             have HB := n9_
             clear n0_ n1_ n2_ n3_ n4_ n5_ n6_ n7_ n8_ n9_
             have hHeld : w79.cell? ⟨gb287, 0, none⟩ = some (.int .i64 t279) ∧ w79.cell? ⟨gb287, 1, none⟩ = some (.int .i64 t280) ∧ w79.cell? ⟨gb287, 2, none⟩ = some (.slice Ao8 t281.length co8) := hS_
             obtain ⟨Ao82, co82, eo82⟩ := Kd.R_slice HO313.out
             (first | subst eo82 | (injection eo82 with f1_ f2_ f3_; have f4_ := f1_.symm; have f5_ := f3_.symm; clear f1_ f2_ f3_; subst f4_; subst f5_))
             refine norm_ (a' := ?_) ?_ ?_
             rotate_left
             ·
              simp only [putAll, Act.put, List.setIfInBounds_toArray, List.set_cons_zero, List.set_cons_succ]
              rfl
             refine one_ (i := 10) (N := none) m11_12 rfl rfl (one_of HT_.out (by kernel_rfl)) (by decide) (fun K hK => ?_)
             have hs80 : w79.cell? ⟨gb315, 0, none⟩ = some (.int .i64 0) := ck BK315.out 0 rfl
             have hfs80 := blk_frozen BK315.out 0
             have hns80_0 := NB287_315.out
             have hms80_0 := NB315_287.out
             have hs81 : w79.cell? ⟨gb315, 1, none⟩ = some (.int .i64 0) := ck BK315.out 1 rfl
             have hfs81 := blk_frozen BK315.out 1
             have hns81_0 := NB287_315.out
             have hms81_0 := NB315_287.out
             have hs83 : w79.cell? ⟨gb315, 2, none⟩ = some (.slice none 0 0) := ck BK315.out 2 rfl
             have hfs83 := blk_frozen BK315.out 2
             have hns83_0 := NB287_315.out
             have hms83_0 := NB315_287.out
             refine skip_ (w1 := ?_) (by rfl) rfl ?_ ?_
             rotate_left
             ·
              go_simp
              rfl
             refine hK.out _ _ ⟨((cell_far (p := ⟨gb315, _, none⟩) NB287_315.out _).trans (((cell_far (p := ⟨gb315, _, none⟩) NB287_315.out _).trans (((cell_far (p := ⟨gb315, _, none⟩) NB287_315.out _).trans (hHeld.1)))))), ((cell_far (p := ⟨gb315, _, none⟩) NB287_315.out _).trans (((cell_far (p := ⟨gb315, _, none⟩) NB287_315.out _).trans (((cell_far (p := ⟨gb315, _, none⟩) NB287_315.out _).trans (hHeld.2.1)))))), ((cell_far (p := ⟨gb315, _, none⟩) NB287_315.out _).trans (((cell_far (p := ⟨gb315, _, none⟩) NB287_315.out _).trans (((cell_far (p := ⟨gb315, _, none⟩) NB287_315.out _).trans (hHeld.2.2))))))⟩ (fun hHeld => ?_)
             clear hK K
             refine pq_ HT_.out 11 18 m12_12 ?_
             refine done_ (done_of HT_.out (by kernel_rfl)) ?_
             try go_wp2
             go_loopg [19] kj57 (fun kq v19 w' => ∃ (x19_4 : Int), v19 = .int .i64 x19_4 ∧ Aside0 (laws_FnWindows.l2 kq t284 x5_1 t314 x19_4 t279 t280 t281 t309 t310 t311 = some r) ∧ Aside0 (kq ≤ kj57) ∧ Aside0 (Kd.R k74 74 w' w.heap.size (fun _ => True) v285 t284) ∧ Aside0 (Kd.R k62 62 w' w.heap.size (fun k_ => some k_ ≠ ((.slice Ao82 t311.length co82) : Value).ownBlock) (.slice Ao8 t281.length co8) t281) ∧ Aside0 (Kd.R k62 62 w' w.heap.size (fun k_ => some k_ ≠ ((.slice Ao8 t281.length co8) : Value).ownBlock) (.slice Ao82 t311.length co82) t311) ∧ Aside0 (w'.heap[gb287]? = some (.cells #[.int .i64 t279, .int .i64 t280, (.slice Ao8 t281.length co8)] 29 (0, 0))) ∧ Aside0 (w'.heap[gb315]? = some (.cells #[.int .i64 t309, .int .i64 t310, (.slice Ao82 t311.length co82)] 29 (0, 0))) ∧ Aside0 (Below w.heap.size w w'))
             case atStart => exact ⟨(0), (by first | rfl | (simp; done) | (simp [*]; done)), H', ⟨Nat.le_refl _⟩, ⟨by (repeat apply rl1); exact Kd.R_mono (Kd.R_far (p := ⟨gb315, 2, none⟩) (Kd.R_far (p := ⟨gb315, 1, none⟩) (Kd.R_far (p := ⟨gb315, 0, none⟩) (Kd.R_types HO_4.out BK315.out (by decide)) (fun _ hk => hk.2) (.int .i64 t309)) (fun _ hk => hk.2) (.int .i64 t310)) (fun _ hk => hk.2) (.slice Ao82 t311.length co82)) (fun _ hk => trivial)⟩, ⟨by (repeat apply rl1); exact Kd.R_mono (Kd.R_far (p := ⟨gb315, 2, none⟩) (Kd.R_far (p := ⟨gb315, 1, none⟩) (Kd.R_far (p := ⟨gb315, 0, none⟩) (Kd.R_types HO_288002.out BK315.out (by decide)) (fun _ hk => hk.2) (.int .i64 t309)) (fun _ hk => hk.2) (.int .i64 t310)) (fun _ hk => hk.2) (.slice Ao82 t311.length co82)) (fun _ hk => hk.1)⟩, ⟨by (repeat apply rl1); exact Kd.R_mono (Kd.R_far (p := ⟨gb315, 2, none⟩) (Kd.R_far (p := ⟨gb315, 1, none⟩) (Kd.R_far (p := ⟨gb315, 0, none⟩) (Kd.R_types HO313.out BK315.out (by decide)) (fun _ hk => hk.2) (.int .i64 t309)) (fun _ hk => hk.2) (.int .i64 t310)) (fun _ hk => hk.2) (.slice Ao82 t311.length co82)) (fun _ hk => hk.1)⟩, ⟨by (repeat refine bk1 ?_); refine blk_far ?_ NB287_315.out _; (repeat refine bk1 ?_); refine blk_far ?_ NB287_315.out _; (repeat refine bk1 ?_); refine blk_far ?_ NB287_315.out _; (repeat refine bk1 ?_); exact BK287.out⟩, ⟨by (repeat refine bk1 ?_); refine blk_put (cs := #[.int .i64 t309, .int .i64 t310, .slice none 0 0]) ?_ 2 _ rfl; (repeat refine bk1 ?_); refine blk_put (cs := #[.int .i64 t309, .int .i64 0, .slice none 0 0]) ?_ 1 _ rfl; (repeat refine bk1 ?_); refine blk_put (cs := #[.int .i64 0, .int .i64 0, .slice none 0 0]) ?_ 0 _ rfl; (repeat refine bk1 ?_); exact BK315.out⟩, ⟨by repeat with_reducible first | exact bl HB.out | refine below_set ?_ GE287.out | refine below_set ?_ GE315.out | refine bq ?_⟩⟩
             case round =>
              clear H'
              try clear c1
              try clear p2
              try clear c3
              try clear p3
              try clear q3
              try clear hx3
              try clear p5
              try clear q5
              try clear hx5
              try clear c6
              try clear p6
              try clear c7
              try clear c19
              try clear p30
              try clear q30
              try clear hx30
              try clear c34
              try clear p54
              try clear q54
              try clear hx54
              try clear c62
              try clear c62b0
              try clear p64
              try clear c73
              try clear hcz15_0 hcz15_1 hcz15_2 hfz15_0 hfz15_1 hfz15_2
              try clear hcz18_0 hcz18_1 hcz18_2 hfz18_0 hfz18_1 hfz18_2
              try clear hcz20_0 hcz20_1 hcz20_2 hfz20_0 hfz20_1 hfz20_2
              try clear hcz22_0 hcz22_1 hcz22_2 hfz22_0 hfz22_1 hfz22_2
              try clear hcz24_0 hcz24_1 hcz24_2 hfz24_0 hfz24_1 hfz24_2
              try clear hcz26_0 hcz26_1 hcz26_2 hfz26_0 hfz26_1 hfz26_2
              try clear hcz28_0 hcz28_1 hcz28_2 hfz28_0 hfz28_1 hfz28_2
              try clear hcz30_0 hcz30_1 hcz30_2 hfz30_0 hfz30_1 hfz30_2
              try clear hcz34_0 hcz34_1 hcz34_2 hfz34_0 hfz34_1 hfz34_2
              try clear hcz41_0 hcz41_1 hcz41_2 hfz41_0 hfz41_1 hfz41_2
              try clear hcz43_0 hcz43_1 hcz43_2 hfz43_0 hfz43_1 hfz43_2
              try clear hcz48_0 hcz48_1 hcz48_2 hfz48_0 hfz48_1 hfz48_2
              try clear hcz49_0 hcz49_1 hcz49_2 hfz49_0 hfz49_1 hfz49_2
              try clear hcz59_0 hcz59_1 hcz59_2 hfz59_0 hfz59_1 hfz59_2
              try clear hcz65_0 hcz65_1 hcz65_2 hfz65_0 hfz65_1 hfz65_2
              try clear hcz69_0 hcz69_1 hcz69_2 hfz69_0 hfz69_1 hfz69_2
              try clear hcz7_0 hcz7_1 hcz7_2 hfz7_0 hfz7_1 hfz7_2
              try clear hx304_0
              try clear hx54_0
              try clear p2
              try clear p304
              try clear p54
              try clear p6
              try clear p64
              try clear q304
              try clear q54
              (try clear BK287); (try clear BK315); obtain ⟨x19_4, rfl, HA, HK4, HO_4, HO_288002, HO_316002, BK287, BK315, HB⟩ := hrel
              cases gk with
              | zero => exact absurd HA.out (by simp [laws_FnWindows.l2])
              | succ k4 =>
               have H := HA.out
               clear HA
               simp only [laws_FnWindows.l2] at H
               have HC84 := Aside0.mk H
               clear H
               go_upto_region 28 with (fail)
               go_cut [153] (fun v153 wc => ∃ (kq : Nat) (x153_83 : Bool), v153 = .bool x153_83 ∧ Aside0 (laws_FnWindows.j5 kq t284 x5_1 t314 x19_4 x153_83 t279 t280 t281 t309 t310 t311 = some r) ∧ Aside0 (kq ≤ k4) ∧ Aside0 (Kd.R k74 74 wc w.heap.size (fun _ => True) v285 t284) ∧ Aside0 (Kd.R k62 62 wc w.heap.size (fun k_ => some k_ ≠ ((.slice Ao82 t311.length co82) : Value).ownBlock) (.slice Ao8 t281.length co8) t281) ∧ Aside0 (Kd.R k62 62 wc w.heap.size (fun k_ => some k_ ≠ ((.slice Ao8 t281.length co8) : Value).ownBlock) (.slice Ao82 t311.length co82) t311) ∧ Aside0 (wc.heap[gb287]? = some (.cells #[.int .i64 t279, .int .i64 t280, (.slice Ao8 t281.length co8)] 29 (0, 0))) ∧ Aside0 (wc.heap[gb315]? = some (.cells #[.int .i64 t309, .int .i64 t310, (.slice Ao82 t311.length co82)] 29 (0, 0))) ∧ Aside0 (Below w.heap.size w wc))
               case first =>
                have H := HC84.out
                clear HC84
                by_cases c85 : x19_4 < t279
                ·
                 rw [if_pos c85] at H
                 have c85b0 : decide (x19_4 < t279) = true := decide_eq_true c85
                 clear c85
                 (first | rw [c85b0] | (simp only [i64_w, i32_w]; rw [c85b0]) | skip)
                 have H' := Aside0.mk H
                 clear H
                 have hnb86 := NB287_315.out
                 have hnc86 := NB315_287.out
                 obtain ⟨hcz87_0, hcz87_1, hcz87_2⟩ := ck3 BK287.out
                 obtain ⟨hfz87_0, hfz87_1, hfz87_2⟩ := fz3 BK287.out
                 go_wp2
                 go_meet
                 case rel => exact ⟨_, (t314), (by first | rfl | (simp; done) | (simp [*]; done)), H', ⟨by have := HK1.out; have := HK2.out; have := HJ57.out; have := HK4.out; first | omega | exact Nat.le_refl _⟩, ⟨rl HO_4.out⟩, ⟨rl HO_288002.out⟩, ⟨rl HO_316002.out⟩, ⟨bk BK287.out⟩, ⟨bk BK315.out⟩, ⟨by repeat with_reducible first | exact bl HB.out | refine below_set ?_ GE287.out | refine below_set ?_ GE315.out | refine bq ?_⟩⟩
                ·
                 rw [if_neg c85] at H
                 have c85b0 : decide (x19_4 < t279) = false := decide_eq_false c85
                 clear c85
                 (first | rw [c85b0] | (simp only [i64_w, i32_w]; rw [c85b0]) | skip)
                 have H' := Aside0.mk H
                 clear H
                 have hnb88 := NB287_315.out
                 have hnc88 := NB315_287.out
                 obtain ⟨hcz89_0, hcz89_1, hcz89_2⟩ := ck3 BK287.out
                 obtain ⟨hfz89_0, hfz89_1, hfz89_2⟩ := fz3 BK287.out
                 go_wp2
                 go_meet
                 case rel => exact ⟨_, (false), (by first | rfl | (simp; done) | (simp [*]; done)), H', ⟨by have := HK1.out; have := HK2.out; have := HJ57.out; have := HK4.out; first | omega | exact Nat.le_refl _⟩, ⟨rl HO_4.out⟩, ⟨rl HO_288002.out⟩, ⟨rl HO_316002.out⟩, ⟨bk BK287.out⟩, ⟨bk BK315.out⟩, ⟨by repeat with_reducible first | exact bl HB.out | refine below_set ?_ GE287.out | refine below_set ?_ GE315.out | refine bq ?_⟩⟩
               case rest =>
                clear HC84
                try clear c1
                try clear p2
                try clear c3
                try clear p3
                try clear q3
                try clear hx3
                try clear p5
                try clear q5
                try clear hx5
                try clear c6
                try clear p6
                try clear c7
                try clear c8
                try clear c19
                try clear p30
                try clear q30
                try clear hx30
                try clear c34
                try clear p54
                try clear q54
                try clear hx54
                try clear c62
                try clear c62b0
                try clear p64
                try clear c73
                try clear c85
                try clear c85b0
                try clear c86
                try clear c88
                try clear hcz15_0 hcz15_1 hcz15_2 hfz15_0 hfz15_1 hfz15_2
                try clear hcz18_0 hcz18_1 hcz18_2 hfz18_0 hfz18_1 hfz18_2
                try clear hcz20_0 hcz20_1 hcz20_2 hfz20_0 hfz20_1 hfz20_2
                try clear hcz22_0 hcz22_1 hcz22_2 hfz22_0 hfz22_1 hfz22_2
                try clear hcz24_0 hcz24_1 hcz24_2 hfz24_0 hfz24_1 hfz24_2
                try clear hcz26_0 hcz26_1 hcz26_2 hfz26_0 hfz26_1 hfz26_2
                try clear hcz28_0 hcz28_1 hcz28_2 hfz28_0 hfz28_1 hfz28_2
                try clear hcz30_0 hcz30_1 hcz30_2 hfz30_0 hfz30_1 hfz30_2
                try clear hcz34_0 hcz34_1 hcz34_2 hfz34_0 hfz34_1 hfz34_2
                try clear hcz41_0 hcz41_1 hcz41_2 hfz41_0 hfz41_1 hfz41_2
                try clear hcz43_0 hcz43_1 hcz43_2 hfz43_0 hfz43_1 hfz43_2
                try clear hcz48_0 hcz48_1 hcz48_2 hfz48_0 hfz48_1 hfz48_2
                try clear hcz49_0 hcz49_1 hcz49_2 hfz49_0 hfz49_1 hfz49_2
                try clear hcz59_0 hcz59_1 hcz59_2 hfz59_0 hfz59_1 hfz59_2
                try clear hcz65_0 hcz65_1 hcz65_2 hfz65_0 hfz65_1 hfz65_2
                try clear hcz69_0 hcz69_1 hcz69_2 hfz69_0 hfz69_1 hfz69_2
                try clear hcz7_0 hcz7_1 hcz7_2 hfz7_0 hfz7_1 hfz7_2
                try clear hcz87_0 hcz87_1 hcz87_2 hfz87_0 hfz87_1 hfz87_2
                try clear hcz89_0 hcz89_1 hcz89_2 hfz89_0 hfz89_1 hfz89_2
                try clear hx304_0
                try clear hx54_0
                try clear p2
                try clear p3
                try clear p30
                try clear p304
                try clear p5
                try clear p54
                try clear p6
                try clear p64
                try clear q3
                try clear q30
                try clear q304
                try clear q5
                try clear q54
                (try clear BK287); (try clear BK315); obtain ⟨kq, x153_83, rfl, HA, HJ83, HO_4, HO_288002, HO_316002, BK287, BK315, HB⟩ := hcut
                cases kq with
                | zero => exact absurd HA.out (by simp [laws_FnWindows.j5])
                | succ kj83 =>
                 have H := HA.out
                 clear HA
                 simp only [laws_FnWindows.j5] at H
                 by_cases c90 : x153_83 = true
                 ·
                  subst c90
                  have H1 : ((impl_Owner.f kj83 t279 t280 t281 x19_4).bind fun bt326 => ((impl_Owner.f kj83 t309 t310 t311 x19_4).bind fun bt328 => (if bt326.1 ≥ 0 then (if bt328.1 = bt326.1 then (if bt326.1 < 0 then (if bt328.1 > 0 then (some false) else (laws_FnWindows.l2 kj83 t284 x5_1 t314 (wrap64 (x19_4 + 1)) t279 t280 t281 t309 t310 t311)) else (laws_FnWindows.l2 kj83 t284 x5_1 t314 (wrap64 (x19_4 + 1)) t279 t280 t281 t309 t310 t311)) else (some false)) else (if bt326.1 < 0 then (if bt328.1 > 0 then (some false) else (laws_FnWindows.l2 kj83 t284 x5_1 t314 (wrap64 (x19_4 + 1)) t279 t280 t281 t309 t310 t311)) else (laws_FnWindows.l2 kj83 t284 x5_1 t314 (wrap64 (x19_4 + 1)) t279 t280 t281 t309 t310 t311))))) = some r := by rw [if_pos rfl] at H; exact H
                  clear H
                  have H := H1
                  clear H1
                  replace H := Option.bind_eq_some_iff.mp H
                  obtain ⟨⟨t326, t327⟩, A910, H⟩ := H
                  replace H : ((impl_Owner.f kj83 t309 t310 t311 x19_4).bind fun bt328 => (if t326 ≥ 0 then (if bt328.1 = t326 then (if t326 < 0 then (if bt328.1 > 0 then (some false) else (laws_FnWindows.l2 kj83 t284 x5_1 t314 (wrap64 (x19_4 + 1)) t279 t280 t281 t309 t310 t311)) else (laws_FnWindows.l2 kj83 t284 x5_1 t314 (wrap64 (x19_4 + 1)) t279 t280 t281 t309 t310 t311)) else (some false)) else (if t326 < 0 then (if bt328.1 > 0 then (some false) else (laws_FnWindows.l2 kj83 t284 x5_1 t314 (wrap64 (x19_4 + 1)) t279 t280 t281 t309 t310 t311)) else (laws_FnWindows.l2 kj83 t284 x5_1 t314 (wrap64 (x19_4 + 1)) t279 t280 t281 t309 t310 t311)))) = some r := H
                  have A91 := Aside0.mk A910
                  clear A910
                  replace H := Option.bind_eq_some_iff.mp H
                  obtain ⟨⟨t328, t329⟩, A920, H⟩ := H
                  replace H : (if t326 ≥ 0 then (if t328 = t326 then (if t326 < 0 then (if t328 > 0 then (some false) else (laws_FnWindows.l2 kj83 t284 x5_1 t314 (wrap64 (x19_4 + 1)) t279 t280 t281 t309 t310 t311)) else (laws_FnWindows.l2 kj83 t284 x5_1 t314 (wrap64 (x19_4 + 1)) t279 t280 t281 t309 t310 t311)) else (some false)) else (if t326 < 0 then (if t328 > 0 then (some false) else (laws_FnWindows.l2 kj83 t284 x5_1 t314 (wrap64 (x19_4 + 1)) t279 t280 t281 t309 t310 t311)) else (laws_FnWindows.l2 kj83 t284 x5_1 t314 (wrap64 (x19_4 + 1)) t279 t280 t281 t309 t310 t311))) = some r := H
                  have A92 := Aside0.mk A920
                  clear A920
                  by_cases c93 : t326 ≥ 0
                  ·
                   rw [if_pos c93] at H
                   have c93b0 : decide (0 ≤ t326) = true := decide_eq_true c93
                   clear c93
                   by_cases c94 : t328 = t326
                   ·
                    rw [if_pos c94] at H
                    have c94b0 : (t328 == t326) = true := beq_iff_eq.mpr c94
                    have c94b1 : (t328 != t326) = false := bne_eq_false_iff_eq.mpr c94
                    clear c94
                    by_cases c95 : t326 < 0
                    ·
                     rw [if_pos c95] at H
                     have c95b0 : decide (t326 < 0) = true := decide_eq_true c95
                     clear c95
                     by_cases c96 : t328 > 0
                     ·
                      rw [if_pos c96] at H
                      have c96b0 : decide (0 < t328) = true := decide_eq_true c96
                      clear c96
                      cases H.trans (congrArg some hr_)
                     ·
                      rw [if_neg c96] at H
                      have c96b0 : decide (0 < t328) = false := decide_eq_false c96
                      clear c96
                      have H' := Aside0.mk H
                      clear H
                      have hnb102 := NB287_315.out
                      have hnc102 := NB315_287.out
                      obtain ⟨hcz103_0, hcz103_1, hcz103_2⟩ := ck3 BK287.out
                      obtain ⟨hfz103_0, hfz103_1, hfz103_2⟩ := fz3 BK287.out
                      go_wp2_with (first | ((with_reducible refine gate_callee (f := 15) rfl ?_); refine goesL_ (some 159) rfl rfl Try.func15 (by kernel_rfl) rfl #[.agg #[.int .i64 t279, .int .i64 t280, .slice Ao8 t281.length co8], .int .i64 x19_4] rfl (by (try simp only [am_]); first | done | rfl) ?_; (with_reducible refine (impl_Owner.calls kj83 t279 t280 _ _ t281 x19_4 t326 t327 _ ?side1 ?side2 A91.out).mono ?_); (case side1 => exact rc (Kd.R_reads' HO_288002.out).2.2); (case side2 => exact (Kd.R_reads' HO_288002.out).2.1); rintro e w104 ⟨rfl, hb⟩; refine ⟨_, rfl, ?_⟩; replace HO_4 := Aside0.mk (Kd.R_below (rl HO_4.out) hb); replace HO_288002 := Aside0.mk (Kd.R_below (rl HO_288002.out) hb); replace HO_316002 := Aside0.mk (Kd.R_below (rl HO_316002.out) hb); replace BK287 := Aside0.mk (blk_below (bk BK287.out) hb); replace BK315 := Aside0.mk (blk_below (bk BK315.out) hb); replace HB := Aside0.mk (below_step (by repeat with_reducible first | exact bl HB.out | refine below_set ?_ GE287.out | refine below_set ?_ GE315.out | refine bq ?_) hb); (try clear hb); (try clear hb2); (try clear hk); (try clear hi); obtain ⟨hcz105_0, hcz105_1, hcz105_2⟩ := ck3 BK315.out; obtain ⟨hfz105_0, hfz105_1, hfz105_2⟩ := fz3 BK315.out) | ((with_reducible refine gate_callee (f := 15) rfl ?_); refine goesL_ (some 165) rfl rfl Try.func15 (by kernel_rfl) rfl #[.agg #[.int .i64 t309, .int .i64 t310, .slice Ao82 t311.length co82], .int .i64 x19_4] rfl (by (try simp only [am_]); first | done | rfl) ?_; (with_reducible refine (impl_Owner.calls kj83 t309 t310 _ _ t311 x19_4 t328 t329 _ ?side1 ?side2 A92.out).mono ?_); (case side1 => exact rc (Kd.R_reads' HO_316002.out).2.2); (case side2 => exact (Kd.R_reads' HO_316002.out).2.1); rintro e w106 ⟨rfl, hb⟩; refine ⟨_, rfl, ?_⟩; replace HO_4 := Aside0.mk (Kd.R_below (rl HO_4.out) hb); replace HO_288002 := Aside0.mk (Kd.R_below (rl HO_288002.out) hb); replace HO_316002 := Aside0.mk (Kd.R_below (rl HO_316002.out) hb); replace BK287 := Aside0.mk (blk_below (bk BK287.out) hb); replace BK315 := Aside0.mk (blk_below (bk BK315.out) hb); replace HB := Aside0.mk (below_step (by repeat with_reducible first | exact bl HB.out | refine below_set ?_ GE287.out | refine below_set ?_ GE315.out | refine bq ?_) hb); (try clear hb); (try clear hb2); (try clear hk); (try clear hi)))
                      go_roundg kj83
                      case measure => have := HK1.out; have := HK2.out; have := HJ57.out; have := HK4.out; have := HJ83.out; omega
                      case rel => exact ⟨(wrap64 (x19_4 + 1)), (by first | rfl | (simp; done) | (simp [*]; done)), H', ⟨by have := HK1.out; have := HK2.out; have := HJ57.out; have := HK4.out; have := HJ83.out; omega⟩, ⟨rl HO_4.out⟩, ⟨rl HO_288002.out⟩, ⟨rl HO_316002.out⟩, ⟨bk BK287.out⟩, ⟨bk BK315.out⟩, ⟨by repeat with_reducible first | exact bl HB.out | refine below_set ?_ GE287.out | refine below_set ?_ GE315.out | refine bq ?_⟩⟩
                    ·
                     rw [if_neg c95] at H
                     have c95b0 : decide (t326 < 0) = false := decide_eq_false c95
                     clear c95
                     have H' := Aside0.mk H
                     clear H
                     have hnb107 := NB287_315.out
                     have hnc107 := NB315_287.out
                     obtain ⟨hcz108_0, hcz108_1, hcz108_2⟩ := ck3 BK287.out
                     obtain ⟨hfz108_0, hfz108_1, hfz108_2⟩ := fz3 BK287.out
                     go_wp2_with (first | ((with_reducible refine gate_callee (f := 15) rfl ?_); refine goesL_ (some 159) rfl rfl Try.func15 (by kernel_rfl) rfl #[.agg #[.int .i64 t279, .int .i64 t280, .slice Ao8 t281.length co8], .int .i64 x19_4] rfl (by (try simp only [am_]); first | done | rfl) ?_; (with_reducible refine (impl_Owner.calls kj83 t279 t280 _ _ t281 x19_4 t326 t327 _ ?side1 ?side2 A91.out).mono ?_); (case side1 => exact rc (Kd.R_reads' HO_288002.out).2.2); (case side2 => exact (Kd.R_reads' HO_288002.out).2.1); rintro e w109 ⟨rfl, hb⟩; refine ⟨_, rfl, ?_⟩; replace HO_4 := Aside0.mk (Kd.R_below (rl HO_4.out) hb); replace HO_288002 := Aside0.mk (Kd.R_below (rl HO_288002.out) hb); replace HO_316002 := Aside0.mk (Kd.R_below (rl HO_316002.out) hb); replace BK287 := Aside0.mk (blk_below (bk BK287.out) hb); replace BK315 := Aside0.mk (blk_below (bk BK315.out) hb); replace HB := Aside0.mk (below_step (by repeat with_reducible first | exact bl HB.out | refine below_set ?_ GE287.out | refine below_set ?_ GE315.out | refine bq ?_) hb); (try clear hb); (try clear hb2); (try clear hk); (try clear hi); obtain ⟨hcz110_0, hcz110_1, hcz110_2⟩ := ck3 BK315.out; obtain ⟨hfz110_0, hfz110_1, hfz110_2⟩ := fz3 BK315.out) | ((with_reducible refine gate_callee (f := 15) rfl ?_); refine goesL_ (some 165) rfl rfl Try.func15 (by kernel_rfl) rfl #[.agg #[.int .i64 t309, .int .i64 t310, .slice Ao82 t311.length co82], .int .i64 x19_4] rfl (by (try simp only [am_]); first | done | rfl) ?_; (with_reducible refine (impl_Owner.calls kj83 t309 t310 _ _ t311 x19_4 t328 t329 _ ?side1 ?side2 A92.out).mono ?_); (case side1 => exact rc (Kd.R_reads' HO_316002.out).2.2); (case side2 => exact (Kd.R_reads' HO_316002.out).2.1); rintro e w111 ⟨rfl, hb⟩; refine ⟨_, rfl, ?_⟩; replace HO_4 := Aside0.mk (Kd.R_below (rl HO_4.out) hb); replace HO_288002 := Aside0.mk (Kd.R_below (rl HO_288002.out) hb); replace HO_316002 := Aside0.mk (Kd.R_below (rl HO_316002.out) hb); replace BK287 := Aside0.mk (blk_below (bk BK287.out) hb); replace BK315 := Aside0.mk (blk_below (bk BK315.out) hb); replace HB := Aside0.mk (below_step (by repeat with_reducible first | exact bl HB.out | refine below_set ?_ GE287.out | refine below_set ?_ GE315.out | refine bq ?_) hb); (try clear hb); (try clear hb2); (try clear hk); (try clear hi)))
                     go_roundg kj83
                     case measure => have := HK1.out; have := HK2.out; have := HJ57.out; have := HK4.out; have := HJ83.out; omega
                     case rel => exact ⟨(wrap64 (x19_4 + 1)), (by first | rfl | (simp; done) | (simp [*]; done)), H', ⟨by have := HK1.out; have := HK2.out; have := HJ57.out; have := HK4.out; have := HJ83.out; omega⟩, ⟨rl HO_4.out⟩, ⟨rl HO_288002.out⟩, ⟨rl HO_316002.out⟩, ⟨bk BK287.out⟩, ⟨bk BK315.out⟩, ⟨by repeat with_reducible first | exact bl HB.out | refine below_set ?_ GE287.out | refine below_set ?_ GE315.out | refine bq ?_⟩⟩
                   ·
                    rw [if_neg c94] at H
                    have c94b0 : (t328 == t326) = false := beq_eq_false_iff_ne.mpr c94
                    have c94b1 : (t328 != t326) = true := bne_iff_ne.mpr c94
                    cases H.trans (congrArg some hr_)
                  ·
                   rw [if_neg c93] at H
                   have c93b0 : decide (0 ≤ t326) = false := decide_eq_false c93
                   clear c93
                   by_cases c117 : t326 < 0
                   ·
                    rw [if_pos c117] at H
                    have c117b0 : decide (t326 < 0) = true := decide_eq_true c117
                    clear c117
                    by_cases c118 : t328 > 0
                    ·
                     rw [if_pos c118] at H
                     have c118b0 : decide (0 < t328) = true := decide_eq_true c118
                     clear c118
                     cases H.trans (congrArg some hr_)
                    ·
                     rw [if_neg c118] at H
                     have c118b0 : decide (0 < t328) = false := decide_eq_false c118
                     clear c118
                     have H' := Aside0.mk H
                     clear H
                     have hnb124 := NB287_315.out
                     have hnc124 := NB315_287.out
                     obtain ⟨hcz125_0, hcz125_1, hcz125_2⟩ := ck3 BK287.out
                     obtain ⟨hfz125_0, hfz125_1, hfz125_2⟩ := fz3 BK287.out
                     go_wp2_with (first | ((with_reducible refine gate_callee (f := 15) rfl ?_); refine goesL_ (some 159) rfl rfl Try.func15 (by kernel_rfl) rfl #[.agg #[.int .i64 t279, .int .i64 t280, .slice Ao8 t281.length co8], .int .i64 x19_4] rfl (by (try simp only [am_]); first | done | rfl) ?_; (with_reducible refine (impl_Owner.calls kj83 t279 t280 _ _ t281 x19_4 t326 t327 _ ?side1 ?side2 A91.out).mono ?_); (case side1 => exact rc (Kd.R_reads' HO_288002.out).2.2); (case side2 => exact (Kd.R_reads' HO_288002.out).2.1); rintro e w126 ⟨rfl, hb⟩; refine ⟨_, rfl, ?_⟩; replace HO_4 := Aside0.mk (Kd.R_below (rl HO_4.out) hb); replace HO_288002 := Aside0.mk (Kd.R_below (rl HO_288002.out) hb); replace HO_316002 := Aside0.mk (Kd.R_below (rl HO_316002.out) hb); replace BK287 := Aside0.mk (blk_below (bk BK287.out) hb); replace BK315 := Aside0.mk (blk_below (bk BK315.out) hb); replace HB := Aside0.mk (below_step (by repeat with_reducible first | exact bl HB.out | refine below_set ?_ GE287.out | refine below_set ?_ GE315.out | refine bq ?_) hb); (try clear hb); (try clear hb2); (try clear hk); (try clear hi); obtain ⟨hcz127_0, hcz127_1, hcz127_2⟩ := ck3 BK315.out; obtain ⟨hfz127_0, hfz127_1, hfz127_2⟩ := fz3 BK315.out) | ((with_reducible refine gate_callee (f := 15) rfl ?_); refine goesL_ (some 165) rfl rfl Try.func15 (by kernel_rfl) rfl #[.agg #[.int .i64 t309, .int .i64 t310, .slice Ao82 t311.length co82], .int .i64 x19_4] rfl (by (try simp only [am_]); first | done | rfl) ?_; (with_reducible refine (impl_Owner.calls kj83 t309 t310 _ _ t311 x19_4 t328 t329 _ ?side1 ?side2 A92.out).mono ?_); (case side1 => exact rc (Kd.R_reads' HO_316002.out).2.2); (case side2 => exact (Kd.R_reads' HO_316002.out).2.1); rintro e w128 ⟨rfl, hb⟩; refine ⟨_, rfl, ?_⟩; replace HO_4 := Aside0.mk (Kd.R_below (rl HO_4.out) hb); replace HO_288002 := Aside0.mk (Kd.R_below (rl HO_288002.out) hb); replace HO_316002 := Aside0.mk (Kd.R_below (rl HO_316002.out) hb); replace BK287 := Aside0.mk (blk_below (bk BK287.out) hb); replace BK315 := Aside0.mk (blk_below (bk BK315.out) hb); replace HB := Aside0.mk (below_step (by repeat with_reducible first | exact bl HB.out | refine below_set ?_ GE287.out | refine below_set ?_ GE315.out | refine bq ?_) hb); (try clear hb); (try clear hb2); (try clear hk); (try clear hi)))
                     go_roundg kj83
                     case measure => have := HK1.out; have := HK2.out; have := HJ57.out; have := HK4.out; have := HJ83.out; omega
                     case rel => exact ⟨(wrap64 (x19_4 + 1)), (by first | rfl | (simp; done) | (simp [*]; done)), H', ⟨by have := HK1.out; have := HK2.out; have := HJ57.out; have := HK4.out; have := HJ83.out; omega⟩, ⟨rl HO_4.out⟩, ⟨rl HO_288002.out⟩, ⟨rl HO_316002.out⟩, ⟨bk BK287.out⟩, ⟨bk BK315.out⟩, ⟨by repeat with_reducible first | exact bl HB.out | refine below_set ?_ GE287.out | refine below_set ?_ GE315.out | refine bq ?_⟩⟩
                   ·
                    rw [if_neg c117] at H
                    have c117b0 : decide (t326 < 0) = false := decide_eq_false c117
                    clear c117
                    have H' := Aside0.mk H
                    clear H
                    have hnb129 := NB287_315.out
                    have hnc129 := NB315_287.out
                    obtain ⟨hcz130_0, hcz130_1, hcz130_2⟩ := ck3 BK287.out
                    obtain ⟨hfz130_0, hfz130_1, hfz130_2⟩ := fz3 BK287.out
                    go_wp2_with (first | ((with_reducible refine gate_callee (f := 15) rfl ?_); refine goesL_ (some 159) rfl rfl Try.func15 (by kernel_rfl) rfl #[.agg #[.int .i64 t279, .int .i64 t280, .slice Ao8 t281.length co8], .int .i64 x19_4] rfl (by (try simp only [am_]); first | done | rfl) ?_; (with_reducible refine (impl_Owner.calls kj83 t279 t280 _ _ t281 x19_4 t326 t327 _ ?side1 ?side2 A91.out).mono ?_); (case side1 => exact rc (Kd.R_reads' HO_288002.out).2.2); (case side2 => exact (Kd.R_reads' HO_288002.out).2.1); rintro e w131 ⟨rfl, hb⟩; refine ⟨_, rfl, ?_⟩; replace HO_4 := Aside0.mk (Kd.R_below (rl HO_4.out) hb); replace HO_288002 := Aside0.mk (Kd.R_below (rl HO_288002.out) hb); replace HO_316002 := Aside0.mk (Kd.R_below (rl HO_316002.out) hb); replace BK287 := Aside0.mk (blk_below (bk BK287.out) hb); replace BK315 := Aside0.mk (blk_below (bk BK315.out) hb); replace HB := Aside0.mk (below_step (by repeat with_reducible first | exact bl HB.out | refine below_set ?_ GE287.out | refine below_set ?_ GE315.out | refine bq ?_) hb); (try clear hb); (try clear hb2); (try clear hk); (try clear hi); obtain ⟨hcz132_0, hcz132_1, hcz132_2⟩ := ck3 BK315.out; obtain ⟨hfz132_0, hfz132_1, hfz132_2⟩ := fz3 BK315.out) | ((with_reducible refine gate_callee (f := 15) rfl ?_); refine goesL_ (some 165) rfl rfl Try.func15 (by kernel_rfl) rfl #[.agg #[.int .i64 t309, .int .i64 t310, .slice Ao82 t311.length co82], .int .i64 x19_4] rfl (by (try simp only [am_]); first | done | rfl) ?_; (with_reducible refine (impl_Owner.calls kj83 t309 t310 _ _ t311 x19_4 t328 t329 _ ?side1 ?side2 A92.out).mono ?_); (case side1 => exact rc (Kd.R_reads' HO_316002.out).2.2); (case side2 => exact (Kd.R_reads' HO_316002.out).2.1); rintro e w133 ⟨rfl, hb⟩; refine ⟨_, rfl, ?_⟩; replace HO_4 := Aside0.mk (Kd.R_below (rl HO_4.out) hb); replace HO_288002 := Aside0.mk (Kd.R_below (rl HO_288002.out) hb); replace HO_316002 := Aside0.mk (Kd.R_below (rl HO_316002.out) hb); replace BK287 := Aside0.mk (blk_below (bk BK287.out) hb); replace BK315 := Aside0.mk (blk_below (bk BK315.out) hb); replace HB := Aside0.mk (below_step (by repeat with_reducible first | exact bl HB.out | refine below_set ?_ GE287.out | refine below_set ?_ GE315.out | refine bq ?_) hb); (try clear hb); (try clear hb2); (try clear hk); (try clear hi)))
                    go_roundg kj83
                    case measure => have := HK1.out; have := HK2.out; have := HJ57.out; have := HK4.out; have := HJ83.out; omega
                    case rel => exact ⟨(wrap64 (x19_4 + 1)), (by first | rfl | (simp; done) | (simp [*]; done)), H', ⟨by have := HK1.out; have := HK2.out; have := HJ57.out; have := HK4.out; have := HJ83.out; omega⟩, ⟨rl HO_4.out⟩, ⟨rl HO_288002.out⟩, ⟨rl HO_316002.out⟩, ⟨bk BK287.out⟩, ⟨bk BK315.out⟩, ⟨by repeat with_reducible first | exact bl HB.out | refine below_set ?_ GE287.out | refine below_set ?_ GE315.out | refine bq ?_⟩⟩
                 ·
                  replace c90 := Bool.eq_false_iff.mpr c90
                  subst c90
                  have H1 : ((impl_RunJobs.f kj83 t279 t280 t281 t284 t279).bind fun bt316 => ((impl_RunJobs.f kj83 t279 t280 t281 ([] : List (S74)) t279).bind fun bt321 => (if bt316.2.2 = true then (if bt321.2.2 = true then (if (bt316.1.length : Int) = (t284.length : Int) then (if bt316.2.1 ≥ 0 then (if bt316.2.1 ≤ x5_1 then (if (bt321.1.length : Int) = 0 then (some (bt321.2.1 == x5_1)) else (some false)) else (some false)) else (some false)) else (some false)) else (some false)) else (some false)))) = some r := by rw [if_neg (show ¬ (false = true) by decide)] at H; exact H
                  clear H
                  have H := H1
                  clear H1
                  replace H := Option.bind_eq_some_iff.mp H
                  obtain ⟨⟨t316, t319, t320⟩, A1340, H⟩ := H
                  replace H : ((impl_RunJobs.f kj83 t279 t280 t281 ([] : List (S74)) t279).bind fun bt321 => (if t320 = true then (if bt321.2.2 = true then (if (t316.length : Int) = (t284.length : Int) then (if t319 ≥ 0 then (if t319 ≤ x5_1 then (if (bt321.1.length : Int) = 0 then (some (bt321.2.1 == x5_1)) else (some false)) else (some false)) else (some false)) else (some false)) else (some false)) else (some false))) = some r := H
                  have A134 := Aside0.mk A1340
                  clear A1340
                  replace H := Option.bind_eq_some_iff.mp H
                  obtain ⟨⟨t321, t324, t325⟩, A1350, H⟩ := H
                  replace H : (if t320 = true then (if t325 = true then (if (t316.length : Int) = (t284.length : Int) then (if t319 ≥ 0 then (if t319 ≤ x5_1 then (if (t321.length : Int) = 0 then (some (t324 == x5_1)) else (some false)) else (some false)) else (some false)) else (some false)) else (some false)) else (some false)) = some r := H
                  have A135 := Aside0.mk A1350
                  clear A1350
                  by_cases c136 : t320 = true
                  ·
                   subst c136
                   have H1 : (if t325 = true then (if (t316.length : Int) = (t284.length : Int) then (if t319 ≥ 0 then (if t319 ≤ x5_1 then (if (t321.length : Int) = 0 then (some (t324 == x5_1)) else (some false)) else (some false)) else (some false)) else (some false)) else (some false)) = some r := by rw [if_pos rfl] at H; exact H
                   clear H
                   have H := H1
                   clear H1
                   by_cases c137 : t325 = true
                   ·
                    subst c137
                    have H1 : (if (t316.length : Int) = (t284.length : Int) then (if t319 ≥ 0 then (if t319 ≤ x5_1 then (if (t321.length : Int) = 0 then (some (t324 == x5_1)) else (some false)) else (some false)) else (some false)) else (some false)) = some r := by rw [if_pos rfl] at H; exact H
                    clear H
                    have H := H1
                    clear H1
                    by_cases c138 : (t316.length : Int) = (t284.length : Int)
                    ·
                     rw [if_pos c138] at H
                     have c138b0 : ((t316.length : Int) == (t284.length : Int)) = true := beq_iff_eq.mpr c138
                     have c138b1 : ((t316.length : Int) != (t284.length : Int)) = false := bne_eq_false_iff_eq.mpr c138
                     have c138b2 : (t316.length == t284.length) = true := by first | simpa using c138 | (simp at c138 ⊢; omega)
                     clear c138
                     by_cases c139 : t319 ≥ 0
                     ·
                      rw [if_pos c139] at H
                      have c139b0 : decide (0 ≤ t319) = true := decide_eq_true c139
                      clear c139
                      by_cases c140 : t319 ≤ x5_1
                      ·
                       rw [if_pos c140] at H
                       have c140b0 : decide (t319 ≤ x5_1) = true := decide_eq_true c140
                       clear c140
                       by_cases c141 : (t321.length : Int) = 0
                       ·
                        rw [if_pos c141] at H
                        have c141b0 : ((t321.length : Int) == 0) = true := beq_iff_eq.mpr c141
                        have c141b1 : ((t321.length : Int) != 0) = false := bne_eq_false_iff_eq.mpr c141
                        clear c141
                        obtain rfl := Option.some.inj H
                        have hnb142 := NB287_315.out
                        have hnc142 := NB315_287.out
                        obtain ⟨hcz143_0, hcz143_1, hcz143_2⟩ := ck3 BK287.out
                        obtain ⟨hfz143_0, hfz143_1, hfz143_2⟩ := fz3 BK287.out
                        obtain ⟨Ao144, co144, eo144⟩ := Kd.R_slice HO_4.out
                        subst eo144
                        go_wp2_with (first | ((with_reducible refine gate_callee (f := 25) rfl ?_); refine goesL_ (some 188) rfl rfl Try.func25 (by kernel_rfl) rfl #[.agg #[.int .i64 t279, .int .i64 t280, .slice Ao8 t281.length co8], .slice Ao144 t284.length co144, .int .i64 t279] rfl (by (try simp only [am_]); first | done | rfl) ?_; (with_reducible refine (impl_RunJobs.calls kj83 t279 t280 _ _ t281 _ _ t284 t279 t316 t319 true _ ?side1 ?side2 ?side3 ?side4 A134.out).mono ?_); (case side1 => exact rc (Kd.R_reads' HO_288002.out).2.2); (case side2 => exact (Kd.R_reads' HO_288002.out).2.1); (case side3 => exact rc (Kd.R_reads' HO_4.out).2.2); (case side4 => exact (Kd.R_reads' HO_4.out).2.1); rintro e w145 ⟨v317, rfl, ho0, hb⟩; refine ⟨_, rfl, ?_⟩; replace HO_4 := Aside0.mk (Kd.R_below (rl HO_4.out) hb); replace HO_288002 := Aside0.mk (Kd.R_below (rl HO_288002.out) hb); replace HO_316002 := Aside0.mk (Kd.R_below (rl HO_316002.out) hb); have HO318 := Aside0.mk (Kd.R_lower ho0 (below_size (by repeat with_reducible first | exact bl HB.out | refine below_set ?_ GE287.out | refine below_set ?_ GE315.out | refine bq ?_))); replace BK287 := Aside0.mk (blk_below (bk BK287.out) hb); replace BK315 := Aside0.mk (blk_below (bk BK315.out) hb); replace HB := Aside0.mk (below_step (by repeat with_reducible first | exact bl HB.out | refine below_set ?_ GE287.out | refine below_set ?_ GE315.out | refine bq ?_) hb); (try clear hb); (try clear hb2); (try clear hk); (try clear hi); (try clear ho0); obtain ⟨hcz146_0, hcz146_1, hcz146_2⟩ := ck3 BK287.out; obtain ⟨hfz146_0, hfz146_1, hfz146_2⟩ := fz3 BK287.out) | ((with_reducible refine gate_callee (f := 25) rfl ?_); refine goesL_ (some 196) rfl rfl Try.func25 (by kernel_rfl) rfl #[.agg #[.int .i64 t279, .int .i64 t280, .slice Ao8 t281.length co8], .slice none 0 0, .int .i64 t279] rfl (by (try simp only [am_]); first | done | rfl) ?_; (refine (impl_RunJobs.calls kj83 t279 t280 _ _ t281 _ _ ([] : List (S74)) t279 t321 t324 true _ ?side1 ?side2 ?side3 ?side4 A135.out).mono ?_); (case side1 => exact rc (Kd.R_reads' HO_288002.out).2.2); (case side2 => exact (Kd.R_reads' HO_288002.out).2.1); (case side3 => exact Kd.C_nil _ _); (case side4 => exact Nat.le_refl _); rintro e w147 ⟨v322, rfl, ho0, hb⟩; refine ⟨_, rfl, ?_⟩; replace HO_4 := Aside0.mk (Kd.R_below (rl HO_4.out) hb); replace HO_288002 := Aside0.mk (Kd.R_below (rl HO_288002.out) hb); replace HO_316002 := Aside0.mk (Kd.R_below (rl HO_316002.out) hb); have HO323 := Aside0.mk (Kd.R_lower (Kd.R_new' ho0 (Kd.R_lt (by (repeat apply rl1); exact HO318.out))) (below_size (by repeat with_reducible first | exact bl HB.out | refine below_set ?_ GE287.out | refine below_set ?_ GE315.out | refine bq ?_))); replace HO318 := Aside0.mk (Kd.R_elder' (rl HO318.out) (Kd.R_base ho0) hb); replace BK287 := Aside0.mk (blk_below (bk BK287.out) hb); replace BK315 := Aside0.mk (blk_below (bk BK315.out) hb); replace HB := Aside0.mk (below_step (by repeat with_reducible first | exact bl HB.out | refine below_set ?_ GE287.out | refine below_set ?_ GE315.out | refine bq ?_) hb); (try clear hb); (try clear hb2); (try clear hk); (try clear hi); (try clear ho0); obtain ⟨Ao148, co148, eo148⟩ := Kd.R_slice HO318.out; subst eo148; obtain ⟨Ao149, co149, eo149⟩ := Kd.R_slice HO323.out; subst eo149))
                        go_ret
                        exact ⟨by first | rfl | (simp [errW_none, errW_some] <;> rfl) | (simp [*, errW_none, errW_some] <;> rfl), by repeat with_reducible first | exact bl HB.out | refine below_set ?_ GE287.out | refine below_set ?_ GE315.out | refine bq ?_⟩
                       ·
                        rw [if_neg c141] at H
                        have c141b0 : ((t321.length : Int) == 0) = false := beq_eq_false_iff_ne.mpr c141
                        have c141b1 : ((t321.length : Int) != 0) = true := bne_iff_ne.mpr c141
                        have c141b2 : ¬ (t321 = []) := fun h_ => c141 (by rw [h_]; rfl)
                        cases H.trans (congrArg some hr_)
                      ·
                       rw [if_neg c140] at H
                       have c140b0 : decide (t319 ≤ x5_1) = false := decide_eq_false c140
                       clear c140
                       cases H.trans (congrArg some hr_)
                     ·
                      rw [if_neg c139] at H
                      have c139b0 : decide (0 ≤ t319) = false := decide_eq_false c139
                      clear c139
                      cases H.trans (congrArg some hr_)
                    ·
                     rw [if_neg c138] at H
                     have c138b0 : ((t316.length : Int) == (t284.length : Int)) = false := beq_eq_false_iff_ne.mpr c138
                     have c138b1 : ((t316.length : Int) != (t284.length : Int)) = true := bne_iff_ne.mpr c138
                     have c138b2 : (t316.length == t284.length) = false := by first | simpa using c138 | (simp at c138 ⊢; omega)
                     cases H.trans (congrArg some hr_)
                   ·
                    replace c137 := Bool.eq_false_iff.mpr c137
                    subst c137
                    have H1 : (some false) = some r := by rw [if_neg (show ¬ (false = true) by decide)] at H; exact H
                    clear H
                    have H := H1
                    clear H1
                    cases H.trans (congrArg some hr_)
                  ·
                   replace c136 := Bool.eq_false_iff.mpr c136
                   subst c136
                   have H1 : (some false) = some r := by rw [if_neg (show ¬ (false = true) by decide)] at H; exact H
                   clear H
                   have H := H1
                   clear H1
                   cases H.trans (congrArg some hr_)
      ·
       rw [if_neg c33] at H
       exact absurd H (by simp)
     ·
      rw [if_neg c32] at H
      exact absurd H (by simp)

/-- THE ONE PURE STATEMENT of laws_FnWindows: yours. -/
def laws_FnWindows.Pure : Prop := ∀ (l0 : List Int), l0.length ≤ maxLen → l0.length * 1 ≤ 140737488351232 → (∀ x ∈ l0, (Lit.int .u8 x).wf = true) → ∃ k, laws_FnWindows.f k l0 = some true
theorem laws_FnWindows.walk (P : laws_FnWindows.Pure) (a0 : Option Addr) (len0 cap0 : Nat) (z0 : List Int) (w : World) (w0 : (a0 = none ∧ len0 = 0 ∧ cap0 = 0 ∧ z0 = []) ∨ ∃ x, a0 = some x ∧ len0 ≤ cap0 ∧ cap0 ≤ maxLen ∧ z0.length = cap0 ∧ (∀ i, i < z0.length → w.cell? (x.add i) = some (.int .u8 (z0.getD i 0))) ∧ ∀ n ∈ z0, (Lit.int .u8 n).wf = true) (y0 : len0 * 1 ≤ 140737488351232) :
  Calls Try.prog 8 #[.slice a0 len0 cap0] w fun e w' => e = .returned (.bool true) ∧ Below w.heap.size w w' := by
 obtain ⟨l0, rfl, hr0, hm0, hw0, hc0⟩ := ReadsInt.ofRowC w0
 obtain ⟨k, h⟩ := P l0 hm0 y0 hw0
 refine (laws_FnWindows.calls k _ _ l0 true rfl w (Kd.C_of_reads (d := (0 : Int)) (h1 := fun _ => rfl) hr0) hc0 h).mono ?_
 rintro e w' ⟨rfl, hd⟩
 exact ⟨rfl, hd⟩

end Go.Proofs.Ytlkphaahkhfgoaa.PFnWindows
