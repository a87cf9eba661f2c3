-- Written by a program of this session (wip/xprint.py) out of the translation; Lean checks it.
import Derived.Test.YtfhielgfgmcdiaaPFnExactDue6x0
import Derived.Test.YtfhielgfgmcdiaaPFnExactDue6x1
import Derived.Test.YtfhielgfgmcdiaaPFnExactDue6x2
import Derived.Test.YtfhielgfgmcdiaaPFnExactDue6x3
namespace Go.Proofs.Ytfhielgfgmcdiaa.PFnExactDue6
open Go.RowKit Go.Proofs.YtfhielgfgmcdiaaW.PrintWords Go.Proofs.YtfhielgfgmcdiaaW.PrintLast Go.Proofs.YtfhielgfgmcdiaaW.PrintMore Go.Proofs.Ytfhielgfgmcdiaa.Sq
attribute [local go_sem] max2_int min2_int max_two min_two max_three min_three max_four min_four   -- for this text's walks alone
set_option linter.unusedVariables false
set_option linter.unusedSimpArgs false

/-! ### spec_Due6: function 17 -/
mutual
def spec_Due6.j0 : Nat → List (S29) → List (S31) → List ByteArray → Bool → Option (List ByteArray × Bool)
 | 0, _, _, _, _ => none
 | k + 1, x0, x1, x6, x26 => if x26 = true then (some (x6, false)) else (spec_Due6.l0 k x0 x1 x6 0)
def spec_Due6.l0 : Nat → List (S29) → List (S31) → List ByteArray → Int → Option (List ByteArray × Bool)
 | 0, _, _, _, _ => none
 | k + 1, x0, x1, x6, x7 => if x7 < (x0.length : Int) then (spec_Due6.l1 k x0 x1 x6 x7 0) else (spec_Due6.l2 k x0 x1 x6 (([] : List ByteArray)) 0)
def spec_Due6.l1 : Nat → List (S29) → List (S31) → List ByteArray → Int → Int → Option (List ByteArray × Bool)
 | 0, _, _, _, _, _ => none
 | k + 1, x0, x1, x6, x7, x8 => if x8 < x7 then (if 0 ≤ x8 then (if x8 < (x0.length : Int) then (if 0 ≤ x7 then (if x7 < (x0.length : Int) then (if ((rd_T29 x0 x8).f0).toList = ((rd_T29 x0 x7).f0).toList then (some (x6, false)) else (spec_Due6.l1 k x0 x1 x6 x7 (wrap64 (x8 + 1)))) else (none)) else (none)) else (none)) else (none)) else (if 0 ≤ x7 then (if x7 < (x0.length : Int) then ((spec_l6Life.f k ((rd_T29 x0 x7).f0) ((rd_T29 x0 x7).f1) ((rd_T29 x0 x7).f2) ((rd_T29 x0 x7).f3)).bind fun t152 => (if t152 = true then (spec_Due6.l0 k x0 x1 x6 (wrap64 (x7 + 1))) else (some (x6, false)))) else (none)) else (none))
def spec_Due6.l2 : Nat → List (S29) → List (S31) → List ByteArray → List ByteArray → Int → Option (List ByteArray × Bool)
 | 0, _, _, _, _, _ => none
 | k + 1, x0, x1, x6, x9, x10 => if x10 < (x1.length : Int) then (spec_Due6.l3 k x0 x1 x6 x9 x10 0) else (some (x9, true))
def spec_Due6.l3 : Nat → List (S29) → List (S31) → List ByteArray → List ByteArray → Int → Int → Option (List ByteArray × Bool)
 | 0, _, _, _, _, _, _ => none
 | k + 1, x0, x1, x6, x9, x10, x11 => if x11 < x10 then (if 0 ≤ x11 then (if x11 < (x1.length : Int) then (if 0 ≤ x10 then (if x10 < (x1.length : Int) then (if ((rd_T31 x1 x11).f0).toList = ((rd_T31 x1 x10).f0).toList then (some (x6, false)) else (spec_Due6.l3 k x0 x1 x6 x9 x10 (wrap64 (x11 + 1)))) else (none)) else (none)) else (none)) else (none)) else (if 0 ≤ x10 then (if x10 < (x1.length : Int) then ((spec_l6Stay.f k ((rd_T31 x1 x10).f0) ((rd_T31 x1 x10).f1) ((rd_T31 x1 x10).f2) ((rd_T31 x1 x10).f3)).bind fun t159 => (if t159 = true then (spec_Due6.l4 k x0 x1 x6 x9 x10 true 0) else (some (x6, false)))) else (none)) else (none))
def spec_Due6.l4 : Nat → List (S29) → List (S31) → List ByteArray → List ByteArray → Int → Bool → Int → Option (List ByteArray × Bool)
 | 0, _, _, _, _, _, _, _ => none
 | k + 1, x0, x1, x6, x9, x10, x12, x13 => if x13 < (x0.length : Int) then (if 0 ≤ x13 then (if 0 ≤ x10 then (if x10 < (x1.length : Int) then (if ((rd_T29 x0 x13).f0).toList = ((rd_T31 x1 x10).f0).toList then (if ((rd_T29 x0 x13).f1) > 0 then (if ((rd_T31 x1 x10).f1) ≥ ((rd_T29 x0 x13).f1) then (spec_Due6.l4 k x0 x1 x6 x9 x10 true (wrap64 (x13 + 1))) else (if ((rd_T29 x0 x13).f2) > 0 then (if ((rd_T31 x1 x10).f2) ≥ ((rd_T29 x0 x13).f2) then (spec_Due6.l4 k x0 x1 x6 x9 x10 true (wrap64 (x13 + 1))) else (if ((rd_T29 x0 x13).f3) > 0 then (spec_Due6.l4 k x0 x1 x6 x9 x10 (decide (((rd_T31 x1 x10).f3) ≥ ((rd_T29 x0 x13).f3))) (wrap64 (x13 + 1))) else (spec_Due6.l4 k x0 x1 x6 x9 x10 false (wrap64 (x13 + 1))))) else (if ((rd_T29 x0 x13).f3) > 0 then (spec_Due6.l4 k x0 x1 x6 x9 x10 (decide (((rd_T31 x1 x10).f3) ≥ ((rd_T29 x0 x13).f3))) (wrap64 (x13 + 1))) else (spec_Due6.l4 k x0 x1 x6 x9 x10 false (wrap64 (x13 + 1)))))) else (if ((rd_T29 x0 x13).f2) > 0 then (if ((rd_T31 x1 x10).f2) ≥ ((rd_T29 x0 x13).f2) then (spec_Due6.l4 k x0 x1 x6 x9 x10 true (wrap64 (x13 + 1))) else (if ((rd_T29 x0 x13).f3) > 0 then (spec_Due6.l4 k x0 x1 x6 x9 x10 (decide (((rd_T31 x1 x10).f3) ≥ ((rd_T29 x0 x13).f3))) (wrap64 (x13 + 1))) else (spec_Due6.l4 k x0 x1 x6 x9 x10 false (wrap64 (x13 + 1))))) else (if ((rd_T29 x0 x13).f3) > 0 then (spec_Due6.l4 k x0 x1 x6 x9 x10 (decide (((rd_T31 x1 x10).f3) ≥ ((rd_T29 x0 x13).f3))) (wrap64 (x13 + 1))) else (spec_Due6.l4 k x0 x1 x6 x9 x10 false (wrap64 (x13 + 1)))))) else (spec_Due6.l4 k x0 x1 x6 x9 x10 x12 (wrap64 (x13 + 1)))) else (none)) else (none)) else (none)) else (if x12 = true then (spec_Due6.l5 k x0 x1 x6 x9 x10 0) else (spec_Due6.l2 k x0 x1 x6 x9 (wrap64 (x10 + 1))))
def spec_Due6.l5 : Nat → List (S29) → List (S31) → List ByteArray → List ByteArray → Int → Int → Option (List ByteArray × Bool)
 | 0, _, _, _, _, _, _ => none
 | k + 1, x0, x1, x6, x9, x10, x16 => if x16 < (x9.length : Int) then (if 0 ≤ x16 then (if 0 ≤ x10 then (if x10 < (x1.length : Int) then (if (Op.bytesLess ((rdOf ByteArray.empty x9 x16).toList) (((rd_T31 x1 x10).f0).toList)) = true then (spec_Due6.l5 k x0 x1 x6 x9 x10 (wrap64 (x16 + 1))) else ((some (([(rd_T31 x1 x10).f0] : List ByteArray) : List ByteArray)).bind fun y167 => (if x16 ≤ (x9.length : Int) then ((some (x9.drop (x16 : Int).toNat : List ByteArray)).bind fun y170 => (if y167.length + y170.length < 8796093022208 then ((some (y167 ++ y170 : List ByteArray)).bind fun y174 => ((some (([] : List ByteArray) : List ByteArray)).bind fun y177 => ((some (x9.take (x16 : Int).toNat : List ByteArray)).bind fun y180 => (if y177.length + y180.length < 8796093022208 then ((some (y177 ++ y180 : List ByteArray)).bind fun y184 => (if y184.length + y174.length < 8796093022208 then (spec_Due6.l2 k x0 x1 x6 (y184 ++ y174) (wrap64 (x10 + 1))) else (none))) else (none))))) else (none))) else (none)))) else (none)) else (none)) else (none)) else (if 0 ≤ x10 then (if x10 < (x1.length : Int) then ((some (([(rd_T31 x1 x10).f0] : List ByteArray) : List ByteArray)).bind fun y191 => (if 0 ≤ x16 then (if x16 ≤ (x9.length : Int) then ((some (x9.drop (x16 : Int).toNat : List ByteArray)).bind fun y194 => (if y191.length + y194.length < 8796093022208 then ((some (y191 ++ y194 : List ByteArray)).bind fun y198 => ((some (([] : List ByteArray) : List ByteArray)).bind fun y201 => ((some (x9.take (x16 : Int).toNat : List ByteArray)).bind fun y204 => (if y201.length + y204.length < 8796093022208 then ((some (y201 ++ y204 : List ByteArray)).bind fun y208 => (if y208.length + y198.length < 8796093022208 then (spec_Due6.l2 k x0 x1 x6 (y208 ++ y198) (wrap64 (x10 + 1))) else (none))) else (none))))) else (none))) else (none)) else (none))) else (none)) else (none))
end
def spec_Due6.f (k : Nat) (l0 : List (S29)) (l1 : List (S31)) : Option (List ByteArray × Bool) := (some (([] : List ByteArray) : List ByteArray)).bind fun y146 => (if (l0.length : Int) > 30 then (spec_Due6.j0 k l0 l1 y146 true) else (spec_Due6.j0 k l0 l1 y146 (decide ((l1.length : Int) > 30))))
theorem spec_Due6.mono_l : ∀ k, (∀ y0 y1 y2 y3, LeO (spec_Due6.j0 k y0 y1 y2 y3) (spec_Due6.j0 (k + 1) y0 y1 y2 y3)) ∧ (∀ y0 y1 y2 y3, LeO (spec_Due6.l0 k y0 y1 y2 y3) (spec_Due6.l0 (k + 1) y0 y1 y2 y3)) ∧ (∀ y0 y1 y2 y3 y4, LeO (spec_Due6.l1 k y0 y1 y2 y3 y4) (spec_Due6.l1 (k + 1) y0 y1 y2 y3 y4)) ∧ (∀ y0 y1 y2 y3 y4, LeO (spec_Due6.l2 k y0 y1 y2 y3 y4) (spec_Due6.l2 (k + 1) y0 y1 y2 y3 y4)) ∧ (∀ y0 y1 y2 y3 y4 y5, LeO (spec_Due6.l3 k y0 y1 y2 y3 y4 y5) (spec_Due6.l3 (k + 1) y0 y1 y2 y3 y4 y5)) ∧ (∀ y0 y1 y2 y3 y4 y5 y6, LeO (spec_Due6.l4 k y0 y1 y2 y3 y4 y5 y6) (spec_Due6.l4 (k + 1) y0 y1 y2 y3 y4 y5 y6)) ∧ (∀ y0 y1 y2 y3 y4 y5, LeO (spec_Due6.l5 k y0 y1 y2 y3 y4 y5) (spec_Due6.l5 (k + 1) y0 y1 y2 y3 y4 y5))
 | 0 => ⟨fun _ _ _ _ r h => by simp [spec_Due6.j0] at h, fun _ _ _ _ r h => by simp [spec_Due6.l0] at h, fun _ _ _ _ _ r h => by simp [spec_Due6.l1] at h, fun _ _ _ _ _ r h => by simp [spec_Due6.l2] at h, fun _ _ _ _ _ _ r h => by simp [spec_Due6.l3] at h, fun _ _ _ _ _ _ _ r h => by simp [spec_Due6.l4] at h, fun _ _ _ _ _ _ r h => by simp [spec_Due6.l5] at h⟩
 | k + 1 => by
  obtain ⟨ih0, ih1, ih2, ih3, ih4, ih5, ih6⟩ := spec_Due6.mono_l k
  refine ⟨?_, ?_, ?_, ?_, ?_, ?_, ?_⟩
  ·
   intro y0 y1 y2 y3
   unfold spec_Due6.j0
   repeat' first
   | (with_reducible exact ih0 _ _ _ _)
   | (with_reducible exact ih1 _ _ _ _)
   | (with_reducible exact ih2 _ _ _ _ _)
   | (with_reducible exact ih3 _ _ _ _ _)
   | (with_reducible exact ih4 _ _ _ _ _ _)
   | (with_reducible exact ih5 _ _ _ _ _ _ _)
   | (with_reducible exact ih6 _ _ _ _ _ _)
   | (with_reducible exact spec_l6Life.mono _ _ _ _ _)
   | (with_reducible exact spec_l6Stay.mono _ _ _ _ _)
   | (with_reducible exact LeO.refl _)
   | (with_reducible exact LeO.none _)
   | (with_reducible refine LeO.ite ?_ ?_)
   | (with_reducible refine LeO.bind ?_ (fun _ => ?_))
   | exact ih0 _ _ _ _
   | exact ih1 _ _ _ _
   | exact ih2 _ _ _ _ _
   | exact ih3 _ _ _ _ _
   | exact ih4 _ _ _ _ _ _
   | exact ih5 _ _ _ _ _ _ _
   | exact ih6 _ _ _ _ _ _
   | exact spec_l6Life.mono _ _ _ _ _
   | exact spec_l6Stay.mono _ _ _ _ _
   | exact LeO.none _
   | refine LeO.ite ?_ ?_
   | refine LeO.bind ?_ (fun _ => ?_)
  ·
   intro y0 y1 y2 y3
   unfold spec_Due6.l0
   repeat' first
   | (with_reducible exact ih0 _ _ _ _)
   | (with_reducible exact ih1 _ _ _ _)
   | (with_reducible exact ih2 _ _ _ _ _)
   | (with_reducible exact ih3 _ _ _ _ _)
   | (with_reducible exact ih4 _ _ _ _ _ _)
   | (with_reducible exact ih5 _ _ _ _ _ _ _)
   | (with_reducible exact ih6 _ _ _ _ _ _)
   | (with_reducible exact spec_l6Life.mono _ _ _ _ _)
   | (with_reducible exact spec_l6Stay.mono _ _ _ _ _)
   | (with_reducible exact LeO.refl _)
   | (with_reducible exact LeO.none _)
   | (with_reducible refine LeO.ite ?_ ?_)
   | (with_reducible refine LeO.bind ?_ (fun _ => ?_))
   | exact ih0 _ _ _ _
   | exact ih1 _ _ _ _
   | exact ih2 _ _ _ _ _
   | exact ih3 _ _ _ _ _
   | exact ih4 _ _ _ _ _ _
   | exact ih5 _ _ _ _ _ _ _
   | exact ih6 _ _ _ _ _ _
   | exact spec_l6Life.mono _ _ _ _ _
   | exact spec_l6Stay.mono _ _ _ _ _
   | exact LeO.none _
   | refine LeO.ite ?_ ?_
   | refine LeO.bind ?_ (fun _ => ?_)
  ·
   intro y0 y1 y2 y3 y4
   unfold spec_Due6.l1
   repeat' first
   | (with_reducible exact ih0 _ _ _ _)
   | (with_reducible exact ih1 _ _ _ _)
   | (with_reducible exact ih2 _ _ _ _ _)
   | (with_reducible exact ih3 _ _ _ _ _)
   | (with_reducible exact ih4 _ _ _ _ _ _)
   | (with_reducible exact ih5 _ _ _ _ _ _ _)
   | (with_reducible exact ih6 _ _ _ _ _ _)
   | (with_reducible exact spec_l6Life.mono _ _ _ _ _)
   | (with_reducible exact spec_l6Stay.mono _ _ _ _ _)
   | (with_reducible exact LeO.refl _)
   | (with_reducible exact LeO.none _)
   | (with_reducible refine LeO.ite ?_ ?_)
   | (with_reducible refine LeO.bind ?_ (fun _ => ?_))
   | exact ih0 _ _ _ _
   | exact ih1 _ _ _ _
   | exact ih2 _ _ _ _ _
   | exact ih3 _ _ _ _ _
   | exact ih4 _ _ _ _ _ _
   | exact ih5 _ _ _ _ _ _ _
   | exact ih6 _ _ _ _ _ _
   | exact spec_l6Life.mono _ _ _ _ _
   | exact spec_l6Stay.mono _ _ _ _ _
   | exact LeO.none _
   | refine LeO.ite ?_ ?_
   | refine LeO.bind ?_ (fun _ => ?_)
  ·
   intro y0 y1 y2 y3 y4
   unfold spec_Due6.l2
   repeat' first
   | (with_reducible exact ih0 _ _ _ _)
   | (with_reducible exact ih1 _ _ _ _)
   | (with_reducible exact ih2 _ _ _ _ _)
   | (with_reducible exact ih3 _ _ _ _ _)
   | (with_reducible exact ih4 _ _ _ _ _ _)
   | (with_reducible exact ih5 _ _ _ _ _ _ _)
   | (with_reducible exact ih6 _ _ _ _ _ _)
   | (with_reducible exact spec_l6Life.mono _ _ _ _ _)
   | (with_reducible exact spec_l6Stay.mono _ _ _ _ _)
   | (with_reducible exact LeO.refl _)
   | (with_reducible exact LeO.none _)
   | (with_reducible refine LeO.ite ?_ ?_)
   | (with_reducible refine LeO.bind ?_ (fun _ => ?_))
   | exact ih0 _ _ _ _
   | exact ih1 _ _ _ _
   | exact ih2 _ _ _ _ _
   | exact ih3 _ _ _ _ _
   | exact ih4 _ _ _ _ _ _
   | exact ih5 _ _ _ _ _ _ _
   | exact ih6 _ _ _ _ _ _
   | exact spec_l6Life.mono _ _ _ _ _
   | exact spec_l6Stay.mono _ _ _ _ _
   | exact LeO.none _
   | refine LeO.ite ?_ ?_
   | refine LeO.bind ?_ (fun _ => ?_)
  ·
   intro y0 y1 y2 y3 y4 y5
   unfold spec_Due6.l3
   repeat' first
   | (with_reducible exact ih0 _ _ _ _)
   | (with_reducible exact ih1 _ _ _ _)
   | (with_reducible exact ih2 _ _ _ _ _)
   | (with_reducible exact ih3 _ _ _ _ _)
   | (with_reducible exact ih4 _ _ _ _ _ _)
   | (with_reducible exact ih5 _ _ _ _ _ _ _)
   | (with_reducible exact ih6 _ _ _ _ _ _)
   | (with_reducible exact spec_l6Life.mono _ _ _ _ _)
   | (with_reducible exact spec_l6Stay.mono _ _ _ _ _)
   | (with_reducible exact LeO.refl _)
   | (with_reducible exact LeO.none _)
   | (with_reducible refine LeO.ite ?_ ?_)
   | (with_reducible refine LeO.bind ?_ (fun _ => ?_))
   | exact ih0 _ _ _ _
   | exact ih1 _ _ _ _
   | exact ih2 _ _ _ _ _
   | exact ih3 _ _ _ _ _
   | exact ih4 _ _ _ _ _ _
   | exact ih5 _ _ _ _ _ _ _
   | exact ih6 _ _ _ _ _ _
   | exact spec_l6Life.mono _ _ _ _ _
   | exact spec_l6Stay.mono _ _ _ _ _
   | exact LeO.none _
   | refine LeO.ite ?_ ?_
   | refine LeO.bind ?_ (fun _ => ?_)
  ·
   intro y0 y1 y2 y3 y4 y5 y6
   unfold spec_Due6.l4
   repeat' first
   | (with_reducible exact ih0 _ _ _ _)
   | (with_reducible exact ih1 _ _ _ _)
   | (with_reducible exact ih2 _ _ _ _ _)
   | (with_reducible exact ih3 _ _ _ _ _)
   | (with_reducible exact ih4 _ _ _ _ _ _)
   | (with_reducible exact ih5 _ _ _ _ _ _ _)
   | (with_reducible exact ih6 _ _ _ _ _ _)
   | (with_reducible exact spec_l6Life.mono _ _ _ _ _)
   | (with_reducible exact spec_l6Stay.mono _ _ _ _ _)
   | (with_reducible exact LeO.refl _)
   | (with_reducible exact LeO.none _)
   | (with_reducible refine LeO.ite ?_ ?_)
   | (with_reducible refine LeO.bind ?_ (fun _ => ?_))
   | exact ih0 _ _ _ _
   | exact ih1 _ _ _ _
   | exact ih2 _ _ _ _ _
   | exact ih3 _ _ _ _ _
   | exact ih4 _ _ _ _ _ _
   | exact ih5 _ _ _ _ _ _ _
   | exact ih6 _ _ _ _ _ _
   | exact spec_l6Life.mono _ _ _ _ _
   | exact spec_l6Stay.mono _ _ _ _ _
   | exact LeO.none _
   | refine LeO.ite ?_ ?_
   | refine LeO.bind ?_ (fun _ => ?_)
  ·
   intro y0 y1 y2 y3 y4 y5
   unfold spec_Due6.l5
   repeat' first
   | (with_reducible exact ih0 _ _ _ _)
   | (with_reducible exact ih1 _ _ _ _)
   | (with_reducible exact ih2 _ _ _ _ _)
   | (with_reducible exact ih3 _ _ _ _ _)
   | (with_reducible exact ih4 _ _ _ _ _ _)
   | (with_reducible exact ih5 _ _ _ _ _ _ _)
   | (with_reducible exact ih6 _ _ _ _ _ _)
   | (with_reducible exact spec_l6Life.mono _ _ _ _ _)
   | (with_reducible exact spec_l6Stay.mono _ _ _ _ _)
   | (with_reducible exact LeO.refl _)
   | (with_reducible exact LeO.none _)
   | (with_reducible refine LeO.ite ?_ ?_)
   | (with_reducible refine LeO.bind ?_ (fun _ => ?_))
   | exact ih0 _ _ _ _
   | exact ih1 _ _ _ _
   | exact ih2 _ _ _ _ _
   | exact ih3 _ _ _ _ _
   | exact ih4 _ _ _ _ _ _
   | exact ih5 _ _ _ _ _ _ _
   | exact ih6 _ _ _ _ _ _
   | exact spec_l6Life.mono _ _ _ _ _
   | exact spec_l6Stay.mono _ _ _ _ _
   | exact LeO.none _
   | refine LeO.ite ?_ ?_
   | refine LeO.bind ?_ (fun _ => ?_)
theorem spec_Due6.mono : ∀ a0 a1 k, LeO (spec_Due6.f k a0 a1) (spec_Due6.f (k + 1) a0 a1) := by
 intro a0 a1 k
 obtain ⟨ih0, ih1, ih2, ih3, ih4, ih5, ih6⟩ := spec_Due6.mono_l k
 unfold spec_Due6.f
 repeat' first
   | (with_reducible exact ih0 _ _ _ _)
   | (with_reducible exact ih1 _ _ _ _)
   | (with_reducible exact ih2 _ _ _ _ _)
   | (with_reducible exact ih3 _ _ _ _ _)
   | (with_reducible exact ih4 _ _ _ _ _ _)
   | (with_reducible exact ih5 _ _ _ _ _ _ _)
   | (with_reducible exact ih6 _ _ _ _ _ _)
   | (with_reducible exact spec_l6Life.mono _ _ _ _ _)
   | (with_reducible exact spec_l6Stay.mono _ _ _ _ _)
   | (with_reducible exact LeO.refl _)
   | (with_reducible exact LeO.none _)
   | (with_reducible refine LeO.ite ?_ ?_)
   | (with_reducible refine LeO.bind ?_ (fun _ => ?_))
   | exact ih0 _ _ _ _
   | exact ih1 _ _ _ _
   | exact ih2 _ _ _ _ _
   | exact ih3 _ _ _ _ _
   | exact ih4 _ _ _ _ _ _
   | exact ih5 _ _ _ _ _ _ _
   | exact ih6 _ _ _ _ _ _
   | exact spec_l6Life.mono _ _ _ _ _
   | exact spec_l6Stay.mono _ _ _ _ _
   | exact LeO.none _
   | refine LeO.ite ?_ ?_
   | refine LeO.bind ?_ (fun _ => ?_)
def spec_Due6.T10 : Bool × List (List Nat × List Nat) := (true, [([], []), ([], []), ([0, 1], [0, 1]), ([2], [2]), ([3], [3]), ([], []), ([], []), ([5, 6], [5, 6]), ([7], [7]), ([8], [8]), ([4, 9], [4, 9])])
def spec_Due6.B10 : List Nat := [0, 0, 3, 7, 15, 0, 0, 96, 224, 480, 1023]
theorem spec_Due6.tab10 : rtab .any (opsOf Try.f17 10) = spec_Due6.T10 := by kernel_rfl
theorem spec_Due6.bits10 : waitsOk spec_Due6.T10.2 spec_Due6.B10 = true := by kernel_rfl
def spec_Due6.T21 : Bool × List (List Nat × List Nat) := (true, [([], []), ([], []), ([0, 1], [0, 1]), ([2], [2]), ([3], [3]), ([], []), ([], []), ([5, 6], [5, 6]), ([7], [7]), ([8], [8]), ([4, 9], [4, 9])])
def spec_Due6.B21 : List Nat := [0, 0, 3, 7, 15, 0, 0, 96, 224, 480, 1023]
theorem spec_Due6.tab21 : rtab .any (opsOf Try.f17 21) = spec_Due6.T21 := by kernel_rfl
theorem spec_Due6.bits21 : waitsOk spec_Due6.T21.2 spec_Due6.B21 = true := by kernel_rfl
def spec_Due6.T29 : Bool × List (List Nat × List Nat) := (true, [([], []), ([], []), ([0, 1], [0, 1]), ([2], [2]), ([], []), ([], []), ([4, 5], [4, 5]), ([6], [6]), ([], []), ([], []), ([8, 3, 0, 1, 2, 3, 8, 9], [3, 8]), ([9, 7, 10, 0, 1, 2, 3, 4, 5, 6, 7, 8, 9, 10], [7, 9])])
def spec_Due6.B29 : List Nat := [0, 0, 3, 7, 0, 0, 48, 112, 0, 0, 783, 2047]
theorem spec_Due6.tab29 : rtab .any (opsOf Try.f17 29) = spec_Due6.T29 := by kernel_rfl
theorem spec_Due6.bits29 : waitsOk spec_Due6.T29.2 spec_Due6.B29 = true := by kernel_rfl
def spec_Due6.T34 : Bool × List (List Nat × List Nat) := (true, [([], []), ([], []), ([1], [1]), ([0, 2], [0, 2]), ([3], [3]), ([4], [4]), ([4], [4]), ([5, 6, 4], [4, 5, 6]), ([7, 4], [4, 7]), ([4], [4]), ([4], [4]), ([9, 10, 4], [4, 9, 10]), ([11, 4], [4, 11]), ([12, 4], [4, 12]), ([8, 13, 4], [4, 8, 13]), ([4, 14], [4, 14])])
def spec_Due6.B34 : List Nat := [0, 0, 2, 7, 15, 31, 31, 127, 255, 31, 31, 1567, 3615, 7711, 16383, 32767]
theorem spec_Due6.tab34 : rtab .any (opsOf Try.f17 34) = spec_Due6.T34 := by kernel_rfl
theorem spec_Due6.bits34 : waitsOk spec_Due6.T34.2 spec_Due6.B34 = true := by kernel_rfl
def spec_Due6.T36 : Bool × List (List Nat × List Nat) := (true, [([], []), ([], []), ([0, 1], [0, 1]), ([2], [2]), ([3], [3]), ([4], [4]), ([], []), ([], []), ([6, 7], [6, 7]), ([5, 8], [5, 8]), ([9, 9, 0, 1, 2, 3, 4, 5, 6, 7, 8, 9], [9])])
def spec_Due6.B36 : List Nat := [0, 0, 3, 7, 15, 31, 0, 0, 192, 511, 1023]
theorem spec_Due6.tab36 : rtab .any (opsOf Try.f17 36) = spec_Due6.T36 := by kernel_rfl
theorem spec_Due6.bits36 : waitsOk spec_Due6.T36.2 spec_Due6.B36 = true := by kernel_rfl
set_option maxHeartbeats 8000000 in
set_option maxRecDepth 100000 in
theorem spec_Due6.calls (k : Nat) (A0 : Option Addr) (c0 : Nat) (l0 : List (S29)) (A1 : Option Addr) (c1 : Nat) (l1 : List (S31)) (r1 : List ByteArray) (r2 : Bool) (w : World) (hr0 : Kd.C k29 w A0 l0.length l0) (hc0 : l0.length ≤ c0) (hr1 : Kd.C k31 w A1 l1.length l1) (hc1 : l1.length ≤ c1) (h : spec_Due6.f k l0 l1 = some (r1, r2)) :
  Calls Try.prog 17 #[.slice A0 l0.length c0, .slice A1 l1.length c1] w fun e w' => ∃ v0_ : Value, e = .returned (.tuple #[v0_, .bool r2]) ∧ Kd.R Kd.string 9 w' w.heap.size (fun _ => True) v0_ r1 ∧ Below w.heap.size w w' := by
 have hu29 := Try.underlying29
 have hu31 := Try.underlying31
 have HR0 := Aside0.mk hr0
 have HC0 := Aside0.mk hc0
 clear hr0 hc0
 have HR1 := Aside0.mk hr1
 have HC1 := Aside0.mk hc1
 clear hr1 hc1
 have HB := Aside0.mk (Below.refl w.heap.size w)
 have H : ((some (([] : List ByteArray) : List ByteArray)).bind fun y146 => (if (l0.length : Int) > 30 then (spec_Due6.j0 k l0 l1 y146 true) else (spec_Due6.j0 k l0 l1 y146 (decide ((l1.length : Int) > 30))))) = some (r1, r2) := h
 clear h
 obtain ⟨y146, hy146⟩ : ∃ y_ : List ByteArray, y_ = (([] : List ByteArray)) := ⟨_, rfl⟩
 replace H : (if (l0.length : Int) > 30 then (spec_Due6.j0 k l0 l1 y146 true) else (spec_Due6.j0 k l0 l1 y146 (decide ((l1.length : Int) > 30)))) = some (r1, r2) := by first | (rw [hy146]; with_reducible exact H) | (have H2_ := (Option.bind_some _ _).symm.trans H; rw [hy146]; with_reducible exact H2_) | (have H2_ := (Option.bind_some _ _).symm.trans H; with_reducible exact H2_) | with_reducible exact H | (rw [hy146]; exact H) | exact H
 have Ny146 := Aside0.mk hy146
 clear hy146
 have HC3 := Aside0.mk H
 clear H
 go_enter Try.func17, Try.ntmps17
 go_upto_region 2 with (first | ((with_reducible refine gate_dst (N := 18) rfl ?_); (try (refine gate_guard (by rfl) ?_; dsimp only)); refine Kd.R_lit Kd.string _ 9 ?hg (N := 18) ?hd (xs := ([] : List ByteArray)) (inner := []) (ok := fun _ => True) (okp := fun _ => True) ?hr ?hp (fun _ hk => hk) trivial (Below.refl _ _) (Nat.le_refl _) (by simp) ?_; (case hd => rfl); (case hg => rfl); (case hr => first | (go_simp; done) | (go_simp; rfl)); (case hp => exact (Reps.none _ _)); intro v147 w4 ho5 hb hg_ hnew_; clear hg_ hnew_; (first | rw [← Ny146.out] at ho5 | (simp only [Int.reduceToNat] at ho5; rw [← Ny146.out] at ho5)); have HO148 := Aside0.mk (Kd.R_lower ho5 (below_size (bl HB.out))); replace HB := Aside0.mk (below_step (bl HB.out) hb); clear hb ho5))
 (try simp only [Act.put, List.setIfInBounds_toArray, List.set_cons_zero, List.set_cons_succ])
 go_cut [26] (fun v26 wc => ∃ (kq : Nat) (x26_2 : Bool), v26 = .bool x26_2 ∧ Aside0 (spec_Due6.j0 kq l0 l1 y146 x26_2 = some (r1, r2)) ∧ Aside0 (kq ≤ k) ∧ Aside0 (Kd.R Kd.string 9 wc w.heap.size (fun _ => True) v147 y146) ∧ Aside0 (Below w.heap.size w wc))
 case first =>
  have H := HC3.out
  clear HC3
  by_cases c6 : (l0.length : Int) > 30
  ·
   rw [if_pos c6] at H
   have c6b0 : decide (30 < (l0.length : Int)) = true := decide_eq_true c6
   have c6b1 : decide (30 < l0.length) = true := decide_eq_true (by omega)
   clear c6
   (first | rw [c6b0] | (simp only [i64_w, i32_w]; rw [c6b0]) | rw [c6b1] | skip)
   have H' := Aside0.mk H
   clear H
   go_wp2
   go_meet
   case rel => exact ⟨_, (true), (by first | rfl | (simp; done) | (simp [*]; done)), H', ⟨by first | omega | exact Nat.le_refl _⟩, ⟨rl HO148.out⟩, ⟨bl HB.out⟩⟩
  ·
   rw [if_neg c6] at H
   have c6b0 : decide (30 < (l0.length : Int)) = false := decide_eq_false c6
   have c6b1 : decide (30 < l0.length) = false := decide_eq_false (by omega)
   clear c6
   (first | rw [c6b0] | (simp only [i64_w, i32_w]; rw [c6b0]) | rw [c6b1] | skip)
   have H' := Aside0.mk H
   clear H
   go_wp2
   go_meet
   case rel => exact ⟨_, (decide ((l1.length : Int) > 30)), (by first | rfl | (simp; done) | (simp [*]; done)), H', ⟨by first | omega | exact Nat.le_refl _⟩, ⟨rl HO148.out⟩, ⟨bl HB.out⟩⟩
 case rest =>
  clear HC3
  try clear c1
  try clear p2
  try clear c6
  try clear c6b0
  try clear c6b1
  obtain ⟨kq, x26_2, rfl, HA, HJ2, HO_6, HB⟩ := hcut
  cases kq with
  | zero => exact absurd HA.out (by simp [spec_Due6.j0])
  | succ kj2 =>
   have H := HA.out
   clear HA
   simp only [spec_Due6.j0] at H
   by_cases c7 : x26_2 = true
   ·
    subst c7
    have H1 : (some (y146, false)) = some (r1, r2) := by rw [if_pos rfl] at H; exact H
    clear H
    have H := H1
    clear H1
    simp only [Option.some.injEq, Prod.mk.injEq] at H
    obtain ⟨rfl, rfl⟩ := H
    go_wp2
    go_ret2
    exact ⟨_, by first | rfl | (simp [errW_none, errW_some] <;> rfl) | (simp [*, errW_none, errW_some] <;> rfl), by (repeat apply rl1); exact HO_6.out, bl HB.out⟩
   ·
    replace c7 := Bool.eq_false_iff.mpr c7
    subst c7
    have H1 : (spec_Due6.l0 kj2 l0 l1 y146 0) = some (r1, r2) := by rw [if_neg (show ¬ (false = true) by decide)] at H; exact H
    clear H
    have H := H1
    clear H1
    have H' := Aside0.mk H
    clear H
    go_wp2
    go_loopg [7] kj2 (fun kq v7 w' => ∃ (x7_2 : Int), v7 = .int .i64 x7_2 ∧ Aside0 (spec_Due6.l0 kq l0 l1 y146 x7_2 = some (r1, r2)) ∧ Aside0 (kq ≤ kj2) ∧ Aside0 (Kd.R Kd.string 9 w' w.heap.size (fun _ => True) v147 y146) ∧ Aside0 (Below w.heap.size w w'))
    case atStart => exact ⟨(0), (by first | rfl | (simp; done) | (simp [*]; done)), H', ⟨Nat.le_refl _⟩, ⟨rl HO_6.out⟩, ⟨bl HB.out⟩⟩
    case round =>
     clear H'
     try clear c1
     try clear p2
     try clear c6
     try clear c6b0
     try clear c6b1
     try clear c7
     try clear p2
     obtain ⟨x7_2, rfl, HA, HK2, HO_6, HB⟩ := hrel
     cases gk with
     | zero => exact absurd HA.out (by simp [spec_Due6.l0])
     | succ k2 =>
      have H := HA.out
      clear HA
      simp only [spec_Due6.l0] at H
      by_cases c8 : x7_2 < (l0.length : Int)
      ·
       rw [if_pos c8] at H
       have c8b0 : decide (x7_2 < (l0.length : Int)) = true := decide_eq_true c8
       clear c8
       have H' := Aside0.mk H
       clear H
       go_wp2
       go_loopg [8] k2 (fun kq v8 w' => ∃ (x8_3 : Int), v8 = .int .i64 x8_3 ∧ Aside0 (spec_Due6.l1 kq l0 l1 y146 x7_2 x8_3 = some (r1, r2)) ∧ Aside0 (kq ≤ k2) ∧ Aside0 (Kd.R Kd.string 9 w' w.heap.size (fun _ => True) v147 y146) ∧ Aside0 (Below w.heap.size w w'))
       case atStart => exact ⟨(0), (by first | rfl | (simp; done) | (simp [*]; done)), H', ⟨Nat.le_refl _⟩, ⟨rl HO_6.out⟩, ⟨bl HB.out⟩⟩
       case round =>
        clear H'
        try clear c1
        try clear p2
        try clear c6
        try clear c6b0
        try clear c6b1
        try clear c7
        try clear c8
        try clear c8b0
        try clear p2
        obtain ⟨x8_3, rfl, HA, HK3, HO_6, HB⟩ := hrel
        cases gk with
        | zero => exact absurd HA.out (by simp [spec_Due6.l1])
        | succ k3 =>
         have H := HA.out
         clear HA
         simp only [spec_Due6.l1] at H
         by_cases c9 : x8_3 < x7_2
         ·
          rw [if_pos c9] at H
          have c9b0 : decide (x8_3 < x7_2) = true := decide_eq_true c9
          clear c9
          by_cases c10 : 0 ≤ x8_3
          ·
           rw [if_pos c10] at H
           have c10b0 : decide (0 ≤ x8_3) = true := decide_eq_true c10
           clear c10
           by_cases c11 : x8_3 < (l0.length : Int)
           ·
            rw [if_pos c11] at H
            have c11b0 : decide (x8_3 < (l0.length : Int)) = true := decide_eq_true c11
            clear c11
            by_cases c12 : 0 ≤ x7_2
            ·
             rw [if_pos c12] at H
             have c12b0 : decide (0 ≤ x7_2) = true := decide_eq_true c12
             clear c12
             by_cases c13 : x7_2 < (l0.length : Int)
             ·
              rw [if_pos c13] at H
              have c13b0 : decide (x7_2 < (l0.length : Int)) = true := decide_eq_true c13
              clear c13
              have HC14 := Aside0.mk H
              clear H
              try go_wp2
              have n0_ := Aside0.mk (Kd.R_drew HO_6.out)
              have n1_ := Aside0.mk (below_drew1 HB.out)
              clear HO_6
              clear HB
              have HO_6 := n0_
              have HB := n1_
              clear n0_ n1_
              have p149 : 0 ≤ (x8_3 : Int) := of_decide_eq_true (by first | (with_reducible assumption) | assumption)
              have q149 : x8_3 < (l0.length : Int) := of_decide_eq_true (by first | (with_reducible assumption) | assumption)
              obtain ⟨ad149, e149, hx149_0, hx149_1, hx149_2, hx149_3⟩ := at_T29 HR0.out x8_3 p149 q149
              have hw149_3 := hx149_3
              have hw149_2 := hx149_2
              have hw149_1 := hx149_1
              have hw149_0 := hx149_0
              cases e149
              replace hx149_0 := bc HB.out hx149_0
              replace hx149_1 := bc HB.out hx149_1
              replace hx149_2 := bc HB.out hx149_2
              replace hx149_3 := bc HB.out hx149_3
              replace p149 := eq_true p149
              replace q149 := eq_true q149
              have p150 : 0 ≤ (x7_2 : Int) := of_decide_eq_true (by first | (with_reducible assumption) | assumption)
              have q150 : x7_2 < (l0.length : Int) := of_decide_eq_true (by first | (with_reducible assumption) | assumption)
              obtain ⟨ad150, e150, hx150_0, hx150_1, hx150_2, hx150_3⟩ := at_T29 HR0.out x7_2 p150 q150
              have hw150_3 := hx150_3
              have hw150_2 := hx150_2
              have hw150_1 := hx150_1
              have hw150_0 := hx150_0
              obtain rfl : ad149 = ad150 := (by injection e150)
              replace hx150_0 := bc HB.out hx150_0
              replace hx150_1 := bc HB.out hx150_1
              replace hx150_2 := bc HB.out hx150_2
              replace hx150_3 := bc HB.out hx150_3
              replace p150 := eq_true p150
              replace q150 := eq_true q150
              refine start_ (n := 11) (S := fun w' => w'.cell? (ad149.add ((x8_3).toNat * 4)) = some (.string ((rd_T29 l0 x8_3).f0)) ∧ w'.cell? ⟨(ad149.add ((x8_3).toNat * 4)).block, (ad149.add ((x8_3).toNat * 4)).off + 1, none⟩ = some (.int .i64 ((rd_T29 l0 x8_3).f1)) ∧ w'.cell? ⟨(ad149.add ((x8_3).toNat * 4)).block, (ad149.add ((x8_3).toNat * 4)).off + 2, none⟩ = some (.int .i64 ((rd_T29 l0 x8_3).f2)) ∧ w'.cell? ⟨(ad149.add ((x8_3).toNat * 4)).block, (ad149.add ((x8_3).toNat * 4)).off + 3, none⟩ = some (.int .i64 ((rd_T29 l0 x8_3).f3)) ∧ w'.cell? (ad149.add ((x7_2).toNat * 4)) = some (.string ((rd_T29 l0 x7_2).f0)) ∧ w'.cell? ⟨(ad149.add ((x7_2).toNat * 4)).block, (ad149.add ((x7_2).toNat * 4)).off + 1, none⟩ = some (.int .i64 ((rd_T29 l0 x7_2).f1)) ∧ w'.cell? ⟨(ad149.add ((x7_2).toNat * 4)).block, (ad149.add ((x7_2).toNat * 4)).off + 2, none⟩ = some (.int .i64 ((rd_T29 l0 x7_2).f2)) ∧ w'.cell? ⟨(ad149.add ((x7_2).toNat * 4)).block, (ad149.add ((x7_2).toNat * 4)).off + 3, none⟩ = some (.int .i64 ((rd_T29 l0 x7_2).f3))) (ds := []) m0_11 (by kernel_rfl) rfl rfl ⟨((HB.out.cell (World.block_lt_of_cell? w _ hw149_0)).trans hw149_0), ((HB.out.cell (World.block_lt_of_cell? w _ hw149_1)).trans hw149_1), ((HB.out.cell (World.block_lt_of_cell? w _ hw149_2)).trans hw149_2), ((HB.out.cell (World.block_lt_of_cell? w _ hw149_3)).trans hw149_3), ((HB.out.cell (World.block_lt_of_cell? w _ hw150_0)).trans hw150_0), ((HB.out.cell (World.block_lt_of_cell? w _ hw150_1)).trans hw150_1), ((HB.out.cell (World.block_lt_of_cell? w _ hw150_2)).trans hw150_2), ((HB.out.cell (World.block_lt_of_cell? w _ hw150_3)).trans hw150_3)⟩ (fun hHeld => ?_); refine with_tabW spec_Due6.tab10 spec_Due6.bits10 (fun HT_ HW_ => ?_)
              generalize wr.drew = w15 at HO_6 HB hx149_0 hx149_1 hx149_2 hx149_3 hx150_0 hx150_1 hx150_2 hx150_3 hHeld ⊢
              refine pq_ HT_.out 0 39 m1_11 ?_
              refine pq_ HT_.out 1 40 m2_11 ?_
              refine pq_ HT_.out 2 41 m3_11 ?_
              refine pq_ HT_.out 3 42 m4_11 ?_
              refine pq_ HT_.out 5 44 n4 ?_
              refine pq_ HT_.out 6 45 n5 ?_
              refine pq_ HT_.out 7 46 n6 ?_
              refine pq_ HT_.out 8 47 n7 ?_
              refine tk_ HT_.out HW_.out 4 43 m9_11 rfl rfl (by kernel_rfl) (by rfl) (by rintro w' ⟨s0, s1, s2, s3, s4, s5, s6, s7⟩; go_simp; with_reducible rfl) hHeld (by simp only [sp_]; rfl) (fun _ _ _ h => h) ?_
              refine tk_ HT_.out HW_.out 9 48 m10_11 rfl rfl (by kernel_rfl) (by rfl) (by rintro w' ⟨s0, s1, s2, s3, s4, s5, s6, s7⟩; go_simp; with_reducible rfl) hHeld (by simp only [sp_]; rfl) (fun _ _ _ h => h) ?_
              refine pq_ HT_.out 10 49 m11_11 ?_
              refine done_ (done_of HT_.out (by kernel_rfl)) ?_
              go_upto_if 49 with (fail)
              have H := HC14.out
              clear HC14
              by_cases c16 : ((rd_T29 l0 x8_3).f0).toList = ((rd_T29 l0 x7_2).f0).toList
              ·
               rw [if_pos c16] at H
               have c16b0 : (((rd_T29 l0 x8_3).f0).toList == ((rd_T29 l0 x7_2).f0).toList) = true := beq_iff_eq.mpr c16
               have c16b1 : (((rd_T29 l0 x8_3).f0).toList != ((rd_T29 l0 x7_2).f0).toList) = false := bne_eq_false_iff_eq.mpr c16
               clear c16
               (first | rw [c16b0] | (simp only [i64_w, i32_w]; rw [c16b0]) | skip)
               simp only [Option.some.injEq, Prod.mk.injEq] at H
               obtain ⟨rfl, rfl⟩ := H
               go_wp2
               go_ret2
               exact ⟨_, by first | rfl | (simp [errW_none, errW_some] <;> rfl) | (simp [*, errW_none, errW_some] <;> rfl), by (repeat apply rl1); exact HO_6.out, bl HB.out⟩
              ·
               rw [if_neg c16] at H
               have c16b0 : (((rd_T29 l0 x8_3).f0).toList == ((rd_T29 l0 x7_2).f0).toList) = false := beq_eq_false_iff_ne.mpr c16
               have c16b1 : (((rd_T29 l0 x8_3).f0).toList != ((rd_T29 l0 x7_2).f0).toList) = true := bne_iff_ne.mpr c16
               (first | rw [c16b0] | (simp only [i64_w, i32_w]; rw [c16b0]) | skip)
               have H' := Aside0.mk H
               clear H
               go_wp2
               go_roundg k3
               case measure => have := HJ2.out; have := HK2.out; have := HK3.out; omega
               case rel => exact ⟨(wrap64 (x8_3 + 1)), (by first | rfl | (simp; done) | (simp [*]; done)), H', ⟨by have := HJ2.out; have := HK2.out; have := HK3.out; omega⟩, ⟨rl HO_6.out⟩, ⟨bl HB.out⟩⟩
             ·
              rw [if_neg c13] at H
              exact absurd H (by simp)
            ·
             rw [if_neg c12] at H
             exact absurd H (by simp)
           ·
            rw [if_neg c11] at H
            exact absurd H (by simp)
          ·
           rw [if_neg c10] at H
           exact absurd H (by simp)
         ·
          rw [if_neg c9] at H
          have c9b0 : decide (x8_3 < x7_2) = false := decide_eq_false c9
          clear c9
          by_cases c17 : 0 ≤ x7_2
          ·
           rw [if_pos c17] at H
           have c17b0 : decide (0 ≤ x7_2) = true := decide_eq_true c17
           clear c17
           by_cases c18 : x7_2 < (l0.length : Int)
           ·
            rw [if_pos c18] at H
            have c18b0 : decide (x7_2 < (l0.length : Int)) = true := decide_eq_true c18
            clear c18
            replace H := Option.bind_eq_some_iff.mp H
            obtain ⟨t152, A190, H⟩ := H
            replace H : (if t152 = true then (spec_Due6.l0 k3 l0 l1 y146 (wrap64 (x7_2 + 1))) else (some (y146, false))) = some (r1, r2) := H
            have A19 := Aside0.mk A190
            clear A190
            have HC20 := Aside0.mk H
            clear H
            have p151 : 0 ≤ (x7_2 : Int) := of_decide_eq_true (by first | (with_reducible assumption) | assumption)
            have q151 : x7_2 < (l0.length : Int) := of_decide_eq_true (by first | (with_reducible assumption) | assumption)
            obtain ⟨ad151, e151, hx151_0, hx151_1, hx151_2, hx151_3⟩ := at_T29 HR0.out x7_2 p151 q151
            cases e151
            replace hx151_0 := bc HB.out hx151_0
            replace hx151_1 := bc HB.out hx151_1
            replace hx151_2 := bc HB.out hx151_2
            replace hx151_3 := bc HB.out hx151_3
            replace p151 := eq_true p151
            replace q151 := eq_true q151
            go_upto_if 56 with (first | ((with_reducible refine gate_callee (f := 27) rfl ?_); refine goesL_ (some 55) rfl rfl Try.func27 (by kernel_rfl) rfl #[.agg #[.string ((rd_T29 l0 x7_2).f0), .int .i64 ((rd_T29 l0 x7_2).f1), .int .i64 ((rd_T29 l0 x7_2).f2), .int .i64 ((rd_T29 l0 x7_2).f3)]] rfl (by (try simp only [am_]); first | done | rfl) ?_; (with_reducible refine (spec_l6Life.calls k3 ((rd_T29 l0 x7_2).f0) ((rd_T29 l0 x7_2).f1) ((rd_T29 l0 x7_2).f2) ((rd_T29 l0 x7_2).f3) t152 _ A19.out).mono ?_); rintro e w21 ⟨rfl, hb⟩; refine ⟨_, rfl, ?_⟩; replace HO_6 := Aside0.mk (Kd.R_below (rl HO_6.out) hb); replace HB := Aside0.mk (below_step (bl HB.out) hb); (try clear hb); (try clear hb2); (try clear hk); (try clear hi)))
            have H := HC20.out
            clear HC20
            by_cases c22 : t152 = true
            ·
             subst c22
             have H1 : (spec_Due6.l0 k3 l0 l1 y146 (wrap64 (x7_2 + 1))) = some (r1, r2) := by rw [if_pos rfl] at H; exact H
             clear H
             have H := H1
             clear H1
             have H' := Aside0.mk H
             clear H
             go_wp2
             go_roundg k3
             case measure => have := HJ2.out; have := HK2.out; have := HK3.out; omega
             case rel => exact ⟨(wrap64 (x7_2 + 1)), (by first | rfl | (simp; done) | (simp [*]; done)), H', ⟨by have := HJ2.out; have := HK2.out; have := HK3.out; omega⟩, ⟨rl HO_6.out⟩, ⟨bl HB.out⟩⟩
            ·
             replace c22 := Bool.eq_false_iff.mpr c22
             subst c22
             have H1 : (some (y146, false)) = some (r1, r2) := by rw [if_neg (show ¬ (false = true) by decide)] at H; exact H
             clear H
             have H := H1
             clear H1
             simp only [Option.some.injEq, Prod.mk.injEq] at H
             obtain ⟨rfl, rfl⟩ := H
             go_wp2
             go_ret2
             exact ⟨_, by first | rfl | (simp [errW_none, errW_some] <;> rfl) | (simp [*, errW_none, errW_some] <;> rfl), by (repeat apply rl1); exact HO_6.out, bl HB.out⟩
           ·
            rw [if_neg c18] at H
            exact absurd H (by simp)
          ·
           rw [if_neg c17] at H
           exact absurd H (by simp)
      ·
       rw [if_neg c8] at H
       have c8b0 : decide (x7_2 < (l0.length : Int)) = false := decide_eq_false c8
       clear c8
       obtain ⟨y153, hy153⟩ : ∃ y_ : List ByteArray, y_ = (([] : List ByteArray)) := ⟨_, rfl⟩
       replace H : (spec_Due6.l2 k2 l0 l1 y146 y153 0) = some (r1, r2) := by first | (rw [hy153]; with_reducible exact H) | (have H2_ := (Option.bind_some _ _).symm.trans H; rw [hy153]; with_reducible exact H2_) | (have H2_ := (Option.bind_some _ _).symm.trans H; with_reducible exact H2_) | with_reducible exact H | (rw [hy153]; exact H) | exact H
       have Ny153 := Aside0.mk hy153
       clear hy153
       have H' := Aside0.mk H
       clear H
       go_wp2_with (first | ((with_reducible refine gate_dst (N := 58) rfl ?_); (try (refine gate_guard (by rfl) ?_; dsimp only)); refine Kd.R_lit Kd.string _ 9 ?hg (N := 58) ?hd (xs := ([] : List ByteArray)) (inner := []) (ok := fun _ => True) (okp := fun _ => True) ?hr ?hp (fun _ hk => hk) trivial (Below.refl _ _) (Nat.le_refl _) (by simp) ?_; (case hd => rfl); (case hg => rfl); (case hr => first | (go_simp; done) | (go_simp; rfl)); (case hp => exact (Reps.none _ _)); intro v154 w23 ho24 hb hg_ hnew_; clear hg_ hnew_; (first | rw [← Ny153.out] at ho24 | (simp only [Int.reduceToNat] at ho24; rw [← Ny153.out] at ho24)); have HO155 := Aside0.mk (Kd.R_lower (Kd.R_new' ho24 (Kd.R_lt (by (repeat apply rl1); exact HO_6.out))) (below_size (bl HB.out))); replace HO_6 := Aside0.mk (Kd.R_elder' (rl HO_6.out) (Kd.R_base ho24) hb); replace HB := Aside0.mk (below_step (bl HB.out) hb); clear hb ho24))
       go_loopg [9, 10] k2 (fun kq v9 v10 w' => ∃ (x9_3 : List ByteArray) (x10_3 : Int), v10 = .int .i64 x10_3 ∧ Aside0 (spec_Due6.l2 kq l0 l1 y146 x9_3 x10_3 = some (r1, r2)) ∧ Aside0 (kq ≤ k2) ∧ Aside0 (Kd.R Kd.string 9 w' w.heap.size (fun k_ => some k_ ≠ (v9 : Value).ownBlock) v147 y146) ∧ Aside0 (Kd.R Kd.string 9 w' w.heap.size (fun k_ => some k_ ≠ (v147 : Value).ownBlock) v9 x9_3) ∧ Aside0 (Below w.heap.size w w'))
       case atStart => exact ⟨(y153), (0), (by first | rfl | (simp; done) | (simp [*]; done)), H', ⟨Nat.le_refl _⟩, ⟨by (repeat apply rl1); exact Kd.R_mono HO_6.out (fun _ hk => hk.2)⟩, ⟨by (repeat apply rl1); exact Kd.R_mono HO155.out (fun _ hk => hk.2)⟩, ⟨bl HB.out⟩⟩
       case round =>
        clear H'
        try clear c1
        try clear p1
        try clear q1
        try clear hx1
        try clear c2
        try clear p2
        try clear c6
        try clear c6b0
        try clear c6b1
        try clear p6
        try clear c7
        try clear c8
        try clear c8b0
        try clear c9
        try clear c9b0
        try clear c10
        try clear c10b0
        try clear c11
        try clear c11b0
        try clear c12
        try clear c12b0
        try clear c13
        try clear c13b0
        try clear p14
        try clear q14
        try clear hx14
        try clear p15
        try clear q15
        try clear hx15
        try clear c16
        try clear c16b0
        try clear c16b1
        try clear c17
        try clear c17b0
        try clear c18
        try clear c18b0
        try clear c22
        try clear hx149_0
        try clear hx149_1
        try clear hx149_2
        try clear hx149_3
        try clear hx150_0
        try clear hx150_1
        try clear hx150_2
        try clear hx150_3
        try clear hx151_0
        try clear hx151_1
        try clear hx151_2
        try clear hx151_3
        try clear p149
        try clear p150
        try clear p151
        try clear p2
        try clear q149
        try clear q150
        try clear q151
        obtain ⟨x9_3, x10_3, rfl, HA, HK3, HO_6, HO_9, HB⟩ := hrel
        cases gk with
        | zero => exact absurd HA.out (by simp [spec_Due6.l2])
        | succ k3 =>
         have H := HA.out
         clear HA
         simp only [spec_Due6.l2] at H
         by_cases c25 : x10_3 < (l1.length : Int)
         ·
          rw [if_pos c25] at H
          have c25b0 : decide (x10_3 < (l1.length : Int)) = true := decide_eq_true c25
          clear c25
          have H' := Aside0.mk H
          clear H
          go_wp2
          go_loopg [11] k3 (fun kq v11 w' => ∃ (x11_4 : Int), v11 = .int .i64 x11_4 ∧ Aside0 (spec_Due6.l3 kq l0 l1 y146 x9_3 x10_3 x11_4 = some (r1, r2)) ∧ Aside0 (kq ≤ k3) ∧ Aside0 (Kd.R Kd.string 9 w' w.heap.size (fun k_ => some k_ ≠ (u9 : Value).ownBlock) v147 y146) ∧ Aside0 (Kd.R Kd.string 9 w' w.heap.size (fun k_ => some k_ ≠ (v147 : Value).ownBlock) u9 x9_3) ∧ Aside0 (Below w.heap.size w w'))
          case atStart => exact ⟨(0), (by first | rfl | (simp; done) | (simp [*]; done)), H', ⟨Nat.le_refl _⟩, ⟨rl HO_6.out⟩, ⟨rl HO_9.out⟩, ⟨bl HB.out⟩⟩
          case round =>
           clear H'
           try clear c1
           try clear p1
           try clear q1
           try clear hx1
           try clear c2
           try clear p2
           try clear c6
           try clear c6b0
           try clear c6b1
           try clear p6
           try clear c7
           try clear c8
           try clear c8b0
           try clear c9
           try clear c9b0
           try clear c10
           try clear c10b0
           try clear c11
           try clear c11b0
           try clear c12
           try clear c12b0
           try clear c13
           try clear c13b0
           try clear p14
           try clear q14
           try clear hx14
           try clear p15
           try clear q15
           try clear hx15
           try clear c16
           try clear c16b0
           try clear c16b1
           try clear c17
           try clear c17b0
           try clear c18
           try clear c18b0
           try clear c22
           try clear c25
           try clear c25b0
           try clear hx149_0
           try clear hx149_1
           try clear hx149_2
           try clear hx149_3
           try clear hx150_0
           try clear hx150_1
           try clear hx150_2
           try clear hx150_3
           try clear hx151_0
           try clear hx151_1
           try clear hx151_2
           try clear hx151_3
           try clear p1
           try clear p14
           try clear p149
           try clear p15
           try clear p150
           try clear p151
           try clear p2
           try clear p6
           try clear q1
           try clear q14
           try clear q149
           try clear q15
           try clear q150
           try clear q151
           obtain ⟨x11_4, rfl, HA, HK4, HO_6, HO_9, HB⟩ := hrel
           cases gk with
           | zero => exact absurd HA.out (by simp [spec_Due6.l3])
           | succ k4 =>
            have H := HA.out
            clear HA
            simp only [spec_Due6.l3] at H
            by_cases c26 : x11_4 < x10_3
            ·
             rw [if_pos c26] at H
             have c26b0 : decide (x11_4 < x10_3) = true := decide_eq_true c26
             clear c26
             by_cases c27 : 0 ≤ x11_4
             ·
              rw [if_pos c27] at H
              have c27b0 : decide (0 ≤ x11_4) = true := decide_eq_true c27
              clear c27
              by_cases c28 : x11_4 < (l1.length : Int)
              ·
               rw [if_pos c28] at H
               have c28b0 : decide (x11_4 < (l1.length : Int)) = true := decide_eq_true c28
               clear c28
               by_cases c29 : 0 ≤ x10_3
               ·
                rw [if_pos c29] at H
                have c29b0 : decide (0 ≤ x10_3) = true := decide_eq_true c29
                clear c29
                by_cases c30 : x10_3 < (l1.length : Int)
                ·
                 rw [if_pos c30] at H
                 have c30b0 : decide (x10_3 < (l1.length : Int)) = true := decide_eq_true c30
                 clear c30
                 have HC31 := Aside0.mk H
                 clear H
                 try go_wp2
                 have n0_ := Aside0.mk (Kd.R_drew HO_6.out)
                 have n1_ := Aside0.mk (Kd.R_drew HO_9.out)
                 have n2_ := Aside0.mk (below_drew1 HB.out)
                 clear HO_6
                 clear HO_9
                 clear HB
                 have HO_6 := n0_
                 have HO_9 := n1_
                 have HB := n2_
                 clear n0_ n1_ n2_
                 have p156 : 0 ≤ (x11_4 : Int) := of_decide_eq_true (by first | (with_reducible assumption) | assumption)
                 have q156 : x11_4 < (l1.length : Int) := of_decide_eq_true (by first | (with_reducible assumption) | assumption)
                 obtain ⟨ad156, e156, hx156_0, hx156_1, hx156_2, hx156_3⟩ := at_T31 HR1.out x11_4 p156 q156
                 have hw156_3 := hx156_3
                 have hw156_2 := hx156_2
                 have hw156_1 := hx156_1
                 have hw156_0 := hx156_0
                 cases e156
                 replace hx156_0 := bc HB.out hx156_0
                 replace hx156_1 := bc HB.out hx156_1
                 replace hx156_2 := bc HB.out hx156_2
                 replace hx156_3 := bc HB.out hx156_3
                 replace p156 := eq_true p156
                 replace q156 := eq_true q156
                 have p157 : 0 ≤ (x10_3 : Int) := of_decide_eq_true (by first | (with_reducible assumption) | assumption)
                 have q157 : x10_3 < (l1.length : Int) := of_decide_eq_true (by first | (with_reducible assumption) | assumption)
                 obtain ⟨ad157, e157, hx157_0, hx157_1, hx157_2, hx157_3⟩ := at_T31 HR1.out x10_3 p157 q157
                 have hw157_3 := hx157_3
                 have hw157_2 := hx157_2
                 have hw157_1 := hx157_1
                 have hw157_0 := hx157_0
                 obtain rfl : ad156 = ad157 := (by injection e157)
                 replace hx157_0 := bc HB.out hx157_0
                 replace hx157_1 := bc HB.out hx157_1
                 replace hx157_2 := bc HB.out hx157_2
                 replace hx157_3 := bc HB.out hx157_3
                 replace p157 := eq_true p157
                 replace q157 := eq_true q157
                 refine start_ (n := 11) (S := fun w' => w'.cell? (ad156.add ((x11_4).toNat * 4)) = some (.string ((rd_T31 l1 x11_4).f0)) ∧ w'.cell? ⟨(ad156.add ((x11_4).toNat * 4)).block, (ad156.add ((x11_4).toNat * 4)).off + 1, none⟩ = some (.int .i64 ((rd_T31 l1 x11_4).f1)) ∧ w'.cell? ⟨(ad156.add ((x11_4).toNat * 4)).block, (ad156.add ((x11_4).toNat * 4)).off + 2, none⟩ = some (.int .i64 ((rd_T31 l1 x11_4).f2)) ∧ w'.cell? ⟨(ad156.add ((x11_4).toNat * 4)).block, (ad156.add ((x11_4).toNat * 4)).off + 3, none⟩ = some (.int .i64 ((rd_T31 l1 x11_4).f3)) ∧ w'.cell? (ad156.add ((x10_3).toNat * 4)) = some (.string ((rd_T31 l1 x10_3).f0)) ∧ w'.cell? ⟨(ad156.add ((x10_3).toNat * 4)).block, (ad156.add ((x10_3).toNat * 4)).off + 1, none⟩ = some (.int .i64 ((rd_T31 l1 x10_3).f1)) ∧ w'.cell? ⟨(ad156.add ((x10_3).toNat * 4)).block, (ad156.add ((x10_3).toNat * 4)).off + 2, none⟩ = some (.int .i64 ((rd_T31 l1 x10_3).f2)) ∧ w'.cell? ⟨(ad156.add ((x10_3).toNat * 4)).block, (ad156.add ((x10_3).toNat * 4)).off + 3, none⟩ = some (.int .i64 ((rd_T31 l1 x10_3).f3))) (ds := []) m0_11 (by kernel_rfl) rfl rfl ⟨((HB.out.cell (World.block_lt_of_cell? w _ hw156_0)).trans hw156_0), ((HB.out.cell (World.block_lt_of_cell? w _ hw156_1)).trans hw156_1), ((HB.out.cell (World.block_lt_of_cell? w _ hw156_2)).trans hw156_2), ((HB.out.cell (World.block_lt_of_cell? w _ hw156_3)).trans hw156_3), ((HB.out.cell (World.block_lt_of_cell? w _ hw157_0)).trans hw157_0), ((HB.out.cell (World.block_lt_of_cell? w _ hw157_1)).trans hw157_1), ((HB.out.cell (World.block_lt_of_cell? w _ hw157_2)).trans hw157_2), ((HB.out.cell (World.block_lt_of_cell? w _ hw157_3)).trans hw157_3)⟩ (fun hHeld => ?_); refine with_tabW spec_Due6.tab21 spec_Due6.bits21 (fun HT_ HW_ => ?_)
                 generalize wr.drew = w32 at HO_6 HO_9 HB hx156_0 hx156_1 hx156_2 hx156_3 hx157_0 hx157_1 hx157_2 hx157_3 hHeld ⊢
                 refine pq_ HT_.out 0 70 m1_11 ?_
                 refine pq_ HT_.out 1 71 m2_11 ?_
                 refine pq_ HT_.out 2 72 m3_11 ?_
                 refine pq_ HT_.out 3 73 m4_11 ?_
                 refine pq_ HT_.out 5 75 n4 ?_
                 refine pq_ HT_.out 6 76 n5 ?_
                 refine pq_ HT_.out 7 77 n6 ?_
                 refine pq_ HT_.out 8 78 n7 ?_
                 refine tk_ HT_.out HW_.out 4 74 m9_11 rfl rfl (by kernel_rfl) (by rfl) (by rintro w' ⟨s0, s1, s2, s3, s4, s5, s6, s7⟩; go_simp; with_reducible rfl) hHeld (by simp only [sp_]; rfl) (fun _ _ _ h => h) ?_
                 refine tk_ HT_.out HW_.out 9 79 m10_11 rfl rfl (by kernel_rfl) (by rfl) (by rintro w' ⟨s0, s1, s2, s3, s4, s5, s6, s7⟩; go_simp; with_reducible rfl) hHeld (by simp only [sp_]; rfl) (fun _ _ _ h => h) ?_
                 refine pq_ HT_.out 10 80 m11_11 ?_
                 refine done_ (done_of HT_.out (by kernel_rfl)) ?_
                 go_upto_if 80 with (fail)
                 have H := HC31.out
                 clear HC31
                 by_cases c33 : ((rd_T31 l1 x11_4).f0).toList = ((rd_T31 l1 x10_3).f0).toList
                 ·
                  rw [if_pos c33] at H
                  have c33b0 : (((rd_T31 l1 x11_4).f0).toList == ((rd_T31 l1 x10_3).f0).toList) = true := beq_iff_eq.mpr c33
                  have c33b1 : (((rd_T31 l1 x11_4).f0).toList != ((rd_T31 l1 x10_3).f0).toList) = false := bne_eq_false_iff_eq.mpr c33
                  clear c33
                  (first | rw [c33b0] | (simp only [i64_w, i32_w]; rw [c33b0]) | skip)
                  simp only [Option.some.injEq, Prod.mk.injEq] at H
                  obtain ⟨rfl, rfl⟩ := H
                  go_wp2
                  go_ret2
                  exact ⟨_, by first | rfl | (simp [errW_none, errW_some] <;> rfl) | (simp [*, errW_none, errW_some] <;> rfl), by (repeat apply rl1); exact Kd.R_mono HO_6.out (fun _ hk => trivial), bl HB.out⟩
                 ·
                  rw [if_neg c33] at H
                  have c33b0 : (((rd_T31 l1 x11_4).f0).toList == ((rd_T31 l1 x10_3).f0).toList) = false := beq_eq_false_iff_ne.mpr c33
                  have c33b1 : (((rd_T31 l1 x11_4).f0).toList != ((rd_T31 l1 x10_3).f0).toList) = true := bne_iff_ne.mpr c33
                  (first | rw [c33b0] | (simp only [i64_w, i32_w]; rw [c33b0]) | skip)
                  have H' := Aside0.mk H
                  clear H
                  go_wp2
                  go_roundg k4
                  case measure => have := HJ2.out; have := HK2.out; have := HK3.out; have := HK4.out; omega
                  case rel => exact ⟨(wrap64 (x11_4 + 1)), (by first | rfl | (simp; done) | (simp [*]; done)), H', ⟨by have := HJ2.out; have := HK2.out; have := HK3.out; have := HK4.out; omega⟩, ⟨rl HO_6.out⟩, ⟨rl HO_9.out⟩, ⟨bl HB.out⟩⟩
                ·
                 rw [if_neg c30] at H
                 exact absurd H (by simp)
               ·
                rw [if_neg c29] at H
                exact absurd H (by simp)
              ·
               rw [if_neg c28] at H
               exact absurd H (by simp)
             ·
              rw [if_neg c27] at H
              exact absurd H (by simp)
            ·
             rw [if_neg c26] at H
             have c26b0 : decide (x11_4 < x10_3) = false := decide_eq_false c26
             clear c26
             by_cases c34 : 0 ≤ x10_3
             ·
              rw [if_pos c34] at H
              have c34b0 : decide (0 ≤ x10_3) = true := decide_eq_true c34
              clear c34
              by_cases c35 : x10_3 < (l1.length : Int)
              ·
               rw [if_pos c35] at H
               have c35b0 : decide (x10_3 < (l1.length : Int)) = true := decide_eq_true c35
               clear c35
               replace H := Option.bind_eq_some_iff.mp H
               obtain ⟨t159, A360, H⟩ := H
               replace H : (if t159 = true then (spec_Due6.l4 k4 l0 l1 y146 x9_3 x10_3 true 0) else (some (y146, false))) = some (r1, r2) := H
               have A36 := Aside0.mk A360
               clear A360
               have HC37 := Aside0.mk H
               clear H
               have p158 : 0 ≤ (x10_3 : Int) := of_decide_eq_true (by first | (with_reducible assumption) | assumption)
               have q158 : x10_3 < (l1.length : Int) := of_decide_eq_true (by first | (with_reducible assumption) | assumption)
               obtain ⟨ad158, e158, hx158_0, hx158_1, hx158_2, hx158_3⟩ := at_T31 HR1.out x10_3 p158 q158
               cases e158
               replace hx158_0 := bc HB.out hx158_0
               replace hx158_1 := bc HB.out hx158_1
               replace hx158_2 := bc HB.out hx158_2
               replace hx158_3 := bc HB.out hx158_3
               replace p158 := eq_true p158
               replace q158 := eq_true q158
               go_upto_if 87 with (first | ((with_reducible refine gate_callee (f := 28) rfl ?_); refine goesL_ (some 86) rfl rfl Try.func28 (by kernel_rfl) rfl #[.agg #[.string ((rd_T31 l1 x10_3).f0), .int .i64 ((rd_T31 l1 x10_3).f1), .int .i64 ((rd_T31 l1 x10_3).f2), .int .i64 ((rd_T31 l1 x10_3).f3)]] rfl (by (try simp only [am_]); first | done | rfl) ?_; (with_reducible refine (spec_l6Stay.calls k4 ((rd_T31 l1 x10_3).f0) ((rd_T31 l1 x10_3).f1) ((rd_T31 l1 x10_3).f2) ((rd_T31 l1 x10_3).f3) t159 _ A36.out).mono ?_); rintro e w38 ⟨rfl, hb⟩; refine ⟨_, rfl, ?_⟩; replace HO_6 := Aside0.mk (Kd.R_below (rl HO_6.out) hb); replace HO_9 := Aside0.mk (Kd.R_below (rl HO_9.out) hb); replace HB := Aside0.mk (below_step (bl HB.out) hb); (try clear hb); (try clear hb2); (try clear hk); (try clear hi)))
               have H := HC37.out
               clear HC37
               by_cases c39 : t159 = true
               ·
                subst c39
                have H1 : (spec_Due6.l4 k4 l0 l1 y146 x9_3 x10_3 true 0) = some (r1, r2) := by rw [if_pos rfl] at H; exact H
                clear H
                have H := H1
                clear H1
                have H' := Aside0.mk H
                clear H
                go_wp2
                go_loopg [12, 13] k4 (fun kq v12 v13 w' => ∃ (x12_5 : Bool) (x13_5 : Int), v12 = .bool x12_5 ∧ v13 = .int .i64 x13_5 ∧ Aside0 (spec_Due6.l4 kq l0 l1 y146 x9_3 x10_3 x12_5 x13_5 = some (r1, r2)) ∧ Aside0 (kq ≤ k4) ∧ Aside0 (Kd.R Kd.string 9 w' w.heap.size (fun k_ => some k_ ≠ (u9 : Value).ownBlock) v147 y146) ∧ Aside0 (Kd.R Kd.string 9 w' w.heap.size (fun k_ => some k_ ≠ (v147 : Value).ownBlock) u9 x9_3) ∧ Aside0 (Below w.heap.size w w'))
                case atStart => exact ⟨(true), (0), (by first | rfl | (simp; done) | (simp [*]; done)), (by first | rfl | (simp; done) | (simp [*]; done)), H', ⟨Nat.le_refl _⟩, ⟨rl HO_6.out⟩, ⟨rl HO_9.out⟩, ⟨bl HB.out⟩⟩
                case round =>
                 clear H'
                 try clear c1
                 try clear p1
                 try clear q1
                 try clear hx1
                 try clear c2
                 try clear p2
                 try clear c3
                 try clear c6
                 try clear c6b0
                 try clear c6b1
                 try clear p6
                 try clear c7
                 try clear c8
                 try clear c8b0
                 try clear c9
                 try clear c9b0
                 try clear c10
                 try clear c10b0
                 try clear c11
                 try clear c11b0
                 try clear c12
                 try clear c12b0
                 try clear c13
                 try clear c13b0
                 try clear p14
                 try clear q14
                 try clear hx14
                 try clear p15
                 try clear q15
                 try clear hx15
                 try clear c16
                 try clear c16b0
                 try clear c16b1
                 try clear c17
                 try clear c17b0
                 try clear c18
                 try clear c18b0
                 try clear c22
                 try clear c25
                 try clear c25b0
                 try clear c26
                 try clear c26b0
                 try clear c27
                 try clear c27b0
                 try clear c28
                 try clear c28b0
                 try clear c29
                 try clear c29b0
                 try clear c30
                 try clear c30b0
                 try clear c33
                 try clear c33b0
                 try clear c33b1
                 try clear c34
                 try clear c34b0
                 try clear c35
                 try clear c35b0
                 try clear c39
                 try clear hx149_0
                 try clear hx149_1
                 try clear hx149_2
                 try clear hx149_3
                 try clear hx150_0
                 try clear hx150_1
                 try clear hx150_2
                 try clear hx150_3
                 try clear hx151_0
                 try clear hx151_1
                 try clear hx151_2
                 try clear hx151_3
                 try clear hx156_0
                 try clear hx156_1
                 try clear hx156_2
                 try clear hx156_3
                 try clear hx157_0
                 try clear hx157_1
                 try clear hx157_2
                 try clear hx157_3
                 try clear hx158_0
                 try clear hx158_1
                 try clear hx158_2
                 try clear hx158_3
                 try clear p1
                 try clear p14
                 try clear p149
                 try clear p15
                 try clear p150
                 try clear p151
                 try clear p156
                 try clear p157
                 try clear p158
                 try clear p2
                 try clear p6
                 try clear q1
                 try clear q14
                 try clear q149
                 try clear q15
                 try clear q150
                 try clear q151
                 try clear q156
                 try clear q157
                 try clear q158
                 obtain ⟨x12_5, x13_5, rfl, rfl, HA, HK5, HO_6, HO_9, HB⟩ := hrel
                 cases gk with
                 | zero => exact absurd HA.out (by simp [spec_Due6.l4])
                 | succ k5 =>
                  have H := HA.out
                  clear HA
                  simp only [spec_Due6.l4] at H
                  by_cases c40 : x13_5 < (l0.length : Int)
                  ·
                   rw [if_pos c40] at H
                   have c40b0 : decide (x13_5 < (l0.length : Int)) = true := decide_eq_true c40
                   clear c40
                   (first | rw [c40b0] | (simp only [i64_w, i32_w]; rw [c40b0]) | skip)
                   by_cases c41 : 0 ≤ x13_5
                   ·
                    rw [if_pos c41] at H
                    have c41b0 : decide (0 ≤ x13_5) = true := decide_eq_true c41
                    clear c41
                    by_cases c42 : 0 ≤ x10_3
                    ·
                     rw [if_pos c42] at H
                     have c42b0 : decide (0 ≤ x10_3) = true := decide_eq_true c42
                     clear c42
                     by_cases c43 : x10_3 < (l1.length : Int)
                     ·
                      rw [if_pos c43] at H
                      have c43b0 : decide (x10_3 < (l1.length : Int)) = true := decide_eq_true c43
                      clear c43
                      have HC44 := Aside0.mk H
                      clear H
                      try go_wp2
                      have n0_ := Aside0.mk (Kd.R_drew HO_6.out)
                      have n1_ := Aside0.mk (Kd.R_drew HO_9.out)
                      have n2_ := Aside0.mk (below_drew1 HB.out)
                      clear HO_6
                      clear HO_9
                      clear HB
                      have HO_6 := n0_
                      have HO_9 := n1_
                      have HB := n2_
                      clear n0_ n1_ n2_
                      have p160 : 0 ≤ (x13_5 : Int) := of_decide_eq_true (by first | (with_reducible assumption) | assumption)
                      have q160 : x13_5 < (l0.length : Int) := of_decide_eq_true (by first | (with_reducible assumption) | assumption)
                      obtain ⟨ad160, e160, hx160_0, hx160_1, hx160_2, hx160_3⟩ := at_T29 HR0.out x13_5 p160 q160
                      have hw160_3 := hx160_3
                      have hw160_2 := hx160_2
                      have hw160_1 := hx160_1
                      have hw160_0 := hx160_0
                      cases e160
                      replace hx160_0 := bc HB.out hx160_0
                      replace hx160_1 := bc HB.out hx160_1
                      replace hx160_2 := bc HB.out hx160_2
                      replace hx160_3 := bc HB.out hx160_3
                      replace p160 := eq_true p160
                      replace q160 := eq_true q160
                      have p161 : 0 ≤ (x10_3 : Int) := of_decide_eq_true (by first | (with_reducible assumption) | assumption)
                      have q161 : x10_3 < (l1.length : Int) := of_decide_eq_true (by first | (with_reducible assumption) | assumption)
                      obtain ⟨ad161, e161, hx161_0, hx161_1, hx161_2, hx161_3⟩ := at_T31 HR1.out x10_3 p161 q161
                      have hw161_3 := hx161_3
                      have hw161_2 := hx161_2
                      have hw161_1 := hx161_1
                      have hw161_0 := hx161_0
                      obtain rfl : ad158 = ad161 := (by injection e161)
                      replace hx161_0 := bc HB.out hx161_0
                      replace hx161_1 := bc HB.out hx161_1
                      replace hx161_2 := bc HB.out hx161_2
                      replace hx161_3 := bc HB.out hx161_3
                      replace p161 := eq_true p161
                      replace q161 := eq_true q161
                      refine start_ (n := 12) (S := fun w' => w'.cell? (ad160.add ((x13_5).toNat * 4)) = some (.string ((rd_T29 l0 x13_5).f0)) ∧ w'.cell? ⟨(ad160.add ((x13_5).toNat * 4)).block, (ad160.add ((x13_5).toNat * 4)).off + 1, none⟩ = some (.int .i64 ((rd_T29 l0 x13_5).f1)) ∧ w'.cell? ⟨(ad160.add ((x13_5).toNat * 4)).block, (ad160.add ((x13_5).toNat * 4)).off + 2, none⟩ = some (.int .i64 ((rd_T29 l0 x13_5).f2)) ∧ w'.cell? ⟨(ad160.add ((x13_5).toNat * 4)).block, (ad160.add ((x13_5).toNat * 4)).off + 3, none⟩ = some (.int .i64 ((rd_T29 l0 x13_5).f3)) ∧ w'.cell? (ad158.add ((x10_3).toNat * 4)) = some (.string ((rd_T31 l1 x10_3).f0)) ∧ w'.cell? ⟨(ad158.add ((x10_3).toNat * 4)).block, (ad158.add ((x10_3).toNat * 4)).off + 1, none⟩ = some (.int .i64 ((rd_T31 l1 x10_3).f1)) ∧ w'.cell? ⟨(ad158.add ((x10_3).toNat * 4)).block, (ad158.add ((x10_3).toNat * 4)).off + 2, none⟩ = some (.int .i64 ((rd_T31 l1 x10_3).f2)) ∧ w'.cell? ⟨(ad158.add ((x10_3).toNat * 4)).block, (ad158.add ((x10_3).toNat * 4)).off + 3, none⟩ = some (.int .i64 ((rd_T31 l1 x10_3).f3))) (ds := []) m0_12 (by kernel_rfl) rfl rfl ⟨((HB.out.cell (World.block_lt_of_cell? w _ hw160_0)).trans hw160_0), ((HB.out.cell (World.block_lt_of_cell? w _ hw160_1)).trans hw160_1), ((HB.out.cell (World.block_lt_of_cell? w _ hw160_2)).trans hw160_2), ((HB.out.cell (World.block_lt_of_cell? w _ hw160_3)).trans hw160_3), ((HB.out.cell (World.block_lt_of_cell? w _ hw161_0)).trans hw161_0), ((HB.out.cell (World.block_lt_of_cell? w _ hw161_1)).trans hw161_1), ((HB.out.cell (World.block_lt_of_cell? w _ hw161_2)).trans hw161_2), ((HB.out.cell (World.block_lt_of_cell? w _ hw161_3)).trans hw161_3)⟩ (fun hHeld => ?_); refine with_tabW spec_Due6.tab29 spec_Due6.bits29 (fun HT_ HW_ => ?_)
                      generalize wr.drew = w45 at HO_6 HO_9 HB hx160_0 hx160_1 hx160_2 hx160_3 hx161_0 hx161_1 hx161_2 hx161_3 hHeld ⊢
                      refine pq_ HT_.out 0 95 m1_12 ?_
                      refine pq_ HT_.out 1 96 m2_12 ?_
                      refine pq_ HT_.out 2 97 m3_12 ?_
                      refine pq_ HT_.out 4 99 n12 ?_
                      refine pq_ HT_.out 5 100 n13 ?_
                      refine pq_ HT_.out 6 101 n14 ?_
                      refine tk_ HT_.out HW_.out 3 98 m7_12 rfl rfl (by kernel_rfl) (by rfl) (by rintro w' ⟨s0, s1, s2, s3, s4, s5, s6, s7⟩; go_simp; with_reducible rfl) hHeld (by simp only [sp_]; rfl) (fun _ _ _ h => h) ?_
                      refine tk_ HT_.out HW_.out 7 102 m8_12 rfl rfl (by kernel_rfl) (by rfl) (by rintro w' ⟨s0, s1, s2, s3, s4, s5, s6, s7⟩; go_simp; with_reducible rfl) hHeld (by simp only [sp_]; rfl) (fun _ _ _ h => h) ?_
                      refine join_ (σ := Nat × Nat) 2 m10_12 (fun s_ => [(14, .pointer (some ⟨s_.1, 0, none⟩)), (15, .pointer (some ⟨s_.2, 0, none⟩))]) (fun s_ w' => (w'.cell? (ad160.add ((x13_5).toNat * 4)) = some (.string ((rd_T29 l0 x13_5).f0)) ∧ w'.cell? ⟨(ad160.add ((x13_5).toNat * 4)).block, (ad160.add ((x13_5).toNat * 4)).off + 1, none⟩ = some (.int .i64 ((rd_T29 l0 x13_5).f1)) ∧ w'.cell? ⟨(ad160.add ((x13_5).toNat * 4)).block, (ad160.add ((x13_5).toNat * 4)).off + 2, none⟩ = some (.int .i64 ((rd_T29 l0 x13_5).f2)) ∧ w'.cell? ⟨(ad160.add ((x13_5).toNat * 4)).block, (ad160.add ((x13_5).toNat * 4)).off + 3, none⟩ = some (.int .i64 ((rd_T29 l0 x13_5).f3)) ∧ w'.cell? (ad158.add ((x10_3).toNat * 4)) = some (.string ((rd_T31 l1 x10_3).f0)) ∧ w'.cell? ⟨(ad158.add ((x10_3).toNat * 4)).block, (ad158.add ((x10_3).toNat * 4)).off + 1, none⟩ = some (.int .i64 ((rd_T31 l1 x10_3).f1)) ∧ w'.cell? ⟨(ad158.add ((x10_3).toNat * 4)).block, (ad158.add ((x10_3).toNat * 4)).off + 2, none⟩ = some (.int .i64 ((rd_T31 l1 x10_3).f2)) ∧ w'.cell? ⟨(ad158.add ((x10_3).toNat * 4)).block, (ad158.add ((x10_3).toNat * 4)).off + 3, none⟩ = some (.int .i64 ((rd_T31 l1 x10_3).f3))) ∧ (Kd.R Kd.string 9 w' w.heap.size (fun k_ => some k_ ≠ (u9 : Value).ownBlock) v147 y146) ∧ (Kd.R Kd.string 9 w' w.heap.size (fun k_ => some k_ ≠ (v147 : Value).ownBlock) u9 x9_3) ∧ (w'.heap[s_.1]? = some (.cells #[.string (⟨#[]⟩ : ByteArray), .int .i64 0, .int .i64 0, .int .i64 0] 29 (0, 0))) ∧ (w'.heap[s_.2]? = some (.cells #[.string (⟨#[]⟩ : ByteArray), .int .i64 0, .int .i64 0, .int .i64 0] 31 (0, 0))) ∧ (w.heap.size ≤ s_.1) ∧ (w.heap.size ≤ s_.1) ∧ (s_.2 ≠ s_.1) ∧ (s_.1 ≠ s_.2) ∧ (w.heap.size ≤ s_.2) ∧ (w.heap.size ≤ s_.2) ∧ (Below w.heap.size w w')) ?_ ?_
                      rotate_left
                      ·
                       intro hCont
                       refine two_ (i := 8) (j := 9) (Ni := some 14) (Nj := some 15) m9_12 n47 rfl rfl rfl rfl (two_of HT_.out (by kernel_rfl)) (by decide) (by decide) (fun K hK => ?_) (fun K hK => ?_)
                       ·
                        skip
                        refine box_step ?hg (N := 14) ?hd (cs := #[.string (⟨#[]⟩ : ByteArray), .int .i64 0, .int .i64 0, .int .i64 0]) (t := 29) ?hr ?_; (case hd => rfl); (case hg => rfl); (case hr => first | (go_simp; done) | (go_simp; rfl))
                        intro gb162 hg w46 hbox hb
                        have n0_ := Aside0.mk (Kd.R_below (rl HO_6.out) hb)
                        have n1_ := Aside0.mk (Kd.R_below (rl HO_9.out) hb)
                        have n2_ := Aside0.mk (below_step (bl HB.out) hb)
                        have n3_ := Aside0.mk (hbox)
                        have n4_ := Aside0.mk ((by rw [hg]; exact (below_size (bl HB.out)) : w.heap.size ≤ gb162))
                        have n5_ := Aside0.mk ((by rw [hg]; exact (below_size (bl HB.out)) : w.heap.size ≤ gb162))
                        clear HO_6
                        clear HO_9
                        clear HB
                        have HO_6 := n0_
                        have HO_9 := n1_
                        have HB := n2_
                        have BK162 := n3_
                        have GW162 := n4_
                        have GE162 := n5_
                        clear n0_ n1_ n2_ n3_ n4_ n5_
                        clear hb hbox hg
                        refine hK.out _ _ ⟨((HB.out.cell (World.block_lt_of_cell? w _ hw160_0)).trans hw160_0), ((HB.out.cell (World.block_lt_of_cell? w _ hw160_1)).trans hw160_1), ((HB.out.cell (World.block_lt_of_cell? w _ hw160_2)).trans hw160_2), ((HB.out.cell (World.block_lt_of_cell? w _ hw160_3)).trans hw160_3), ((HB.out.cell (World.block_lt_of_cell? w _ hw161_0)).trans hw161_0), ((HB.out.cell (World.block_lt_of_cell? w _ hw161_1)).trans hw161_1), ((HB.out.cell (World.block_lt_of_cell? w _ hw161_2)).trans hw161_2), ((HB.out.cell (World.block_lt_of_cell? w _ hw161_3)).trans hw161_3)⟩ (fun hHeld => ?_)
                        clear hK K
                        refine norm_ (a' := ?_) ?_ ?_
                        rotate_left
                        ·
                         show Act.put _ (some 14) _ = _
                         simp only [sp_]
                         rfl
                        refine one_ (i := 9) (N := some 15) m10_12 rfl rfl (one_of HT_.out (by kernel_rfl)) (by decide) (fun K hK => ?_)
                        refine box_step ?hg (N := 15) ?hd (cs := #[.string (⟨#[]⟩ : ByteArray), .int .i64 0, .int .i64 0, .int .i64 0]) (t := 31) ?hr ?_; (case hd => rfl); (case hg => rfl); (case hr => first | (go_simp; done) | (go_simp; rfl))
                        intro gb163 hg w47 hbox hb
                        have n0_ := Aside0.mk (Kd.R_below (rl HO_6.out) hb)
                        have n1_ := Aside0.mk (Kd.R_below (rl HO_9.out) hb)
                        have n2_ := Aside0.mk (blk_below (g := gb162) (o := .cells #[.string (⟨#[]⟩ : ByteArray), .int .i64 0, .int .i64 0, .int .i64 0] 29 (0, 0)) (bk BK162.out) hb)
                        have n3_ := Aside0.mk (below_step (by repeat with_reducible first | exact bl HB.out | refine below_set ?_ GE162.out | refine bq ?_) hb)
                        have n4_ := Aside0.mk (hbox)
                        have n5_ := Aside0.mk ((by rw [hg]; exact (below_size (by repeat with_reducible first | exact bl HB.out | refine below_set ?_ GE162.out | refine bq ?_)) : w.heap.size ≤ gb163))
                        have n6_ := Aside0.mk ((by rw [hg]; exact (below_size (by repeat with_reducible first | exact bl HB.out | refine below_set ?_ GE162.out | refine bq ?_)) : w.heap.size ≤ gb163))
                        have n7_ := Aside0.mk ((by rw [hg]; exact Nat.ne_of_lt (blk_lt (g := gb162) (o := .cells #[.string (⟨#[]⟩ : ByteArray), .int .i64 0, .int .i64 0, .int .i64 0] 29 (0, 0)) (bk BK162.out)) : gb162 ≠ gb163))
                        have n8_ := Aside0.mk ((by rw [hg]; exact Nat.ne_of_gt (blk_lt (g := gb162) (o := .cells #[.string (⟨#[]⟩ : ByteArray), .int .i64 0, .int .i64 0, .int .i64 0] 29 (0, 0)) (bk BK162.out)) : gb163 ≠ gb162))
                        clear HO_6
                        clear HO_9
                        clear BK162
                        clear HB
                        have HO_6 := n0_
                        have HO_9 := n1_
                        have BK162 := n2_
                        have HB := n3_
                        have BK163 := n4_
                        have GW163 := n5_
                        have GE163 := n6_
                        have NB162_163 := n7_
                        have NB163_162 := n8_
                        clear n0_ n1_ n2_ n3_ n4_ n5_ n6_ n7_ n8_
                        clear hb hbox hg
                        refine hK.out _ _ ⟨((HB.out.cell (World.block_lt_of_cell? w _ hw160_0)).trans hw160_0), ((HB.out.cell (World.block_lt_of_cell? w _ hw160_1)).trans hw160_1), ((HB.out.cell (World.block_lt_of_cell? w _ hw160_2)).trans hw160_2), ((HB.out.cell (World.block_lt_of_cell? w _ hw160_3)).trans hw160_3), ((HB.out.cell (World.block_lt_of_cell? w _ hw161_0)).trans hw161_0), ((HB.out.cell (World.block_lt_of_cell? w _ hw161_1)).trans hw161_1), ((HB.out.cell (World.block_lt_of_cell? w _ hw161_2)).trans hw161_2), ((HB.out.cell (World.block_lt_of_cell? w _ hw161_3)).trans hw161_3)⟩ (fun hHeld => ?_)
                        clear hK K
                        refine norm_ (a' := ?_) ?_ ?_
                        rotate_left
                        ·
                         show Act.put _ (some 15) _ = _
                         simp only [sp_]
                         rfl
                        exact norm_ (by simp only [putAll, Act.put, List.setIfInBounds_toArray, List.set_cons_zero, List.set_cons_succ]) (hCont (gb162, gb163) _ ⟨hHeld, (rl HO_6.out), (rl HO_9.out), (bk BK162.out), (bk BK163.out), GW162.out, GE162.out, NB163_162.out, NB162_163.out, GW163.out, GE163.out, (by repeat with_reducible first | exact bl HB.out | refine below_set ?_ GE162.out | refine below_set ?_ GE163.out | refine bq ?_)⟩)
                       ·
                        skip
                        refine box_step ?hg (N := 15) ?hd (cs := #[.string (⟨#[]⟩ : ByteArray), .int .i64 0, .int .i64 0, .int .i64 0]) (t := 31) ?hr ?_; (case hd => rfl); (case hg => rfl); (case hr => first | (go_simp; done) | (go_simp; rfl))
                        intro gb163 hg w46 hbox hb
                        have n0_ := Aside0.mk (Kd.R_below (rl HO_6.out) hb)
                        have n1_ := Aside0.mk (Kd.R_below (rl HO_9.out) hb)
                        have n2_ := Aside0.mk (below_step (bl HB.out) hb)
                        have n3_ := Aside0.mk (hbox)
                        have n4_ := Aside0.mk ((by rw [hg]; exact (below_size (bl HB.out)) : w.heap.size ≤ gb163))
                        have n5_ := Aside0.mk ((by rw [hg]; exact (below_size (bl HB.out)) : w.heap.size ≤ gb163))
                        clear HO_6
                        clear HO_9
                        clear HB
                        have HO_6 := n0_
                        have HO_9 := n1_
                        have HB := n2_
                        have BK163 := n3_
                        have GW163 := n4_
                        have GE163 := n5_
                        clear n0_ n1_ n2_ n3_ n4_ n5_
                        clear hb hbox hg
                        refine hK.out _ _ ⟨((HB.out.cell (World.block_lt_of_cell? w _ hw160_0)).trans hw160_0), ((HB.out.cell (World.block_lt_of_cell? w _ hw160_1)).trans hw160_1), ((HB.out.cell (World.block_lt_of_cell? w _ hw160_2)).trans hw160_2), ((HB.out.cell (World.block_lt_of_cell? w _ hw160_3)).trans hw160_3), ((HB.out.cell (World.block_lt_of_cell? w _ hw161_0)).trans hw161_0), ((HB.out.cell (World.block_lt_of_cell? w _ hw161_1)).trans hw161_1), ((HB.out.cell (World.block_lt_of_cell? w _ hw161_2)).trans hw161_2), ((HB.out.cell (World.block_lt_of_cell? w _ hw161_3)).trans hw161_3)⟩ (fun hHeld => ?_)
                        clear hK K
                        refine norm_ (a' := ?_) ?_ ?_
                        rotate_left
                        ·
                         show Act.put _ (some 15) _ = _
                         simp only [sp_]
                         rfl
                        refine one_ (i := 8) (N := some 14) m10_12 rfl rfl (one_of HT_.out (by kernel_rfl)) (by decide) (fun K hK => ?_)
                        refine box_step ?hg (N := 14) ?hd (cs := #[.string (⟨#[]⟩ : ByteArray), .int .i64 0, .int .i64 0, .int .i64 0]) (t := 29) ?hr ?_; (case hd => rfl); (case hg => rfl); (case hr => first | (go_simp; done) | (go_simp; rfl))
                        intro gb162 hg w47 hbox hb
                        have n0_ := Aside0.mk (Kd.R_below (rl HO_6.out) hb)
                        have n1_ := Aside0.mk (Kd.R_below (rl HO_9.out) hb)
                        have n2_ := Aside0.mk (blk_below (g := gb163) (o := .cells #[.string (⟨#[]⟩ : ByteArray), .int .i64 0, .int .i64 0, .int .i64 0] 31 (0, 0)) (bk BK163.out) hb)
                        have n3_ := Aside0.mk (below_step (by repeat with_reducible first | exact bl HB.out | refine below_set ?_ GE163.out | refine bq ?_) hb)
                        have n4_ := Aside0.mk (hbox)
                        have n5_ := Aside0.mk ((by rw [hg]; exact (below_size (by repeat with_reducible first | exact bl HB.out | refine below_set ?_ GE163.out | refine bq ?_)) : w.heap.size ≤ gb162))
                        have n6_ := Aside0.mk ((by rw [hg]; exact (below_size (by repeat with_reducible first | exact bl HB.out | refine below_set ?_ GE163.out | refine bq ?_)) : w.heap.size ≤ gb162))
                        have n7_ := Aside0.mk ((by rw [hg]; exact Nat.ne_of_lt (blk_lt (g := gb163) (o := .cells #[.string (⟨#[]⟩ : ByteArray), .int .i64 0, .int .i64 0, .int .i64 0] 31 (0, 0)) (bk BK163.out)) : gb163 ≠ gb162))
                        have n8_ := Aside0.mk ((by rw [hg]; exact Nat.ne_of_gt (blk_lt (g := gb163) (o := .cells #[.string (⟨#[]⟩ : ByteArray), .int .i64 0, .int .i64 0, .int .i64 0] 31 (0, 0)) (bk BK163.out)) : gb162 ≠ gb163))
                        clear HO_6
                        clear HO_9
                        clear BK163
                        clear HB
                        have HO_6 := n0_
                        have HO_9 := n1_
                        have BK163 := n2_
                        have HB := n3_
                        have BK162 := n4_
                        have GW162 := n5_
                        have GE162 := n6_
                        have NB163_162 := n7_
                        have NB162_163 := n8_
                        clear n0_ n1_ n2_ n3_ n4_ n5_ n6_ n7_ n8_
                        clear hb hbox hg
                        refine hK.out _ _ ⟨((HB.out.cell (World.block_lt_of_cell? w _ hw160_0)).trans hw160_0), ((HB.out.cell (World.block_lt_of_cell? w _ hw160_1)).trans hw160_1), ((HB.out.cell (World.block_lt_of_cell? w _ hw160_2)).trans hw160_2), ((HB.out.cell (World.block_lt_of_cell? w _ hw160_3)).trans hw160_3), ((HB.out.cell (World.block_lt_of_cell? w _ hw161_0)).trans hw161_0), ((HB.out.cell (World.block_lt_of_cell? w _ hw161_1)).trans hw161_1), ((HB.out.cell (World.block_lt_of_cell? w _ hw161_2)).trans hw161_2), ((HB.out.cell (World.block_lt_of_cell? w _ hw161_3)).trans hw161_3)⟩ (fun hHeld => ?_)
                        clear hK K
                        refine norm_ (a' := ?_) ?_ ?_
                        rotate_left
                        ·
                         show Act.put _ (some 14) _ = _
                         simp only [sp_]
                         rfl
                        exact norm_ (by simp only [putAll, Act.put, List.setIfInBounds_toArray, List.set_cons_zero, List.set_cons_succ]) (hCont (gb162, gb163) _ ⟨hHeld, (rl HO_6.out), (rl HO_9.out), (bk BK162.out), (bk BK163.out), GW162.out, GE162.out, NB163_162.out, NB162_163.out, GW163.out, GE163.out, (by repeat with_reducible first | exact bl HB.out | refine below_set ?_ GE163.out | refine below_set ?_ GE162.out | refine bq ?_)⟩)
                      rintro ⟨gb162, gb163⟩ w48 ⟨hS_, h0_, h1_, h2_, h3_, h4_, h5_, h6_, h7_, h8_, h9_, h10_⟩
                      have n0_ : Aside0 (Kd.R Kd.string 9 w48 w.heap.size (fun k_ => some k_ ≠ (u9 : Value).ownBlock) v147 y146) := ⟨h0_⟩
                      have n1_ : Aside0 (Kd.R Kd.string 9 w48 w.heap.size (fun k_ => some k_ ≠ (v147 : Value).ownBlock) u9 x9_3) := ⟨h1_⟩
                      have n2_ : Aside0 (w48.heap[gb162]? = some (.cells #[.string (⟨#[]⟩ : ByteArray), .int .i64 0, .int .i64 0, .int .i64 0] 29 (0, 0))) := ⟨h2_⟩
                      have n3_ : Aside0 (w48.heap[gb163]? = some (.cells #[.string (⟨#[]⟩ : ByteArray), .int .i64 0, .int .i64 0, .int .i64 0] 31 (0, 0))) := ⟨h3_⟩
                      have n4_ : Aside0 (w.heap.size ≤ gb162) := ⟨h4_⟩
                      have n5_ : Aside0 (w.heap.size ≤ gb162) := ⟨h5_⟩
                      have n6_ : Aside0 (gb163 ≠ gb162) := ⟨h6_⟩
                      have n7_ : Aside0 (gb162 ≠ gb163) := ⟨h7_⟩
                      have n8_ : Aside0 (w.heap.size ≤ gb163) := ⟨h8_⟩
                      have n9_ : Aside0 (w.heap.size ≤ gb163) := ⟨h9_⟩
                      have n10_ : Aside0 (Below w.heap.size w w48) := ⟨h10_⟩
                      clear HO_6
                      clear HO_9
                      clear HB
                      clear h0_ h1_ h2_ h3_ h4_ h5_ h6_ h7_ h8_ h9_ h10_
                      have HO_6 := n0_
                      have HO_9 := n1_
                      have BK162 := n2_
                      have BK163 := n3_
                      have GW162 := n4_
                      have GE162 := n5_
                      have NB163_162 := n6_
                      have NB162_163 := n7_
                      have GW163 := n8_
                      have GE163 := n9_
                      have HB := n10_
                      clear n0_ n1_ n2_ n3_ n4_ n5_ n6_ n7_ n8_ n9_ n10_
                      have hHeld : w48.cell? (ad160.add ((x13_5).toNat * 4)) = some (.string ((rd_T29 l0 x13_5).f0)) ∧ w48.cell? ⟨(ad160.add ((x13_5).toNat * 4)).block, (ad160.add ((x13_5).toNat * 4)).off + 1, none⟩ = some (.int .i64 ((rd_T29 l0 x13_5).f1)) ∧ w48.cell? ⟨(ad160.add ((x13_5).toNat * 4)).block, (ad160.add ((x13_5).toNat * 4)).off + 2, none⟩ = some (.int .i64 ((rd_T29 l0 x13_5).f2)) ∧ w48.cell? ⟨(ad160.add ((x13_5).toNat * 4)).block, (ad160.add ((x13_5).toNat * 4)).off + 3, none⟩ = some (.int .i64 ((rd_T29 l0 x13_5).f3)) ∧ w48.cell? (ad158.add ((x10_3).toNat * 4)) = some (.string ((rd_T31 l1 x10_3).f0)) ∧ w48.cell? ⟨(ad158.add ((x10_3).toNat * 4)).block, (ad158.add ((x10_3).toNat * 4)).off + 1, none⟩ = some (.int .i64 ((rd_T31 l1 x10_3).f1)) ∧ w48.cell? ⟨(ad158.add ((x10_3).toNat * 4)).block, (ad158.add ((x10_3).toNat * 4)).off + 2, none⟩ = some (.int .i64 ((rd_T31 l1 x10_3).f2)) ∧ w48.cell? ⟨(ad158.add ((x10_3).toNat * 4)).block, (ad158.add ((x10_3).toNat * 4)).off + 3, none⟩ = some (.int .i64 ((rd_T31 l1 x10_3).f3)) := hS_
                      refine norm_ (a' := ?_) ?_ ?_
                      rotate_left
                      ·
                       simp only [putAll, Act.put, List.setIfInBounds_toArray, List.set_cons_zero, List.set_cons_succ]
                       rfl
                      refine one_ (i := 10) (N := none) m11_12 rfl rfl (one_of HT_.out (by kernel_rfl)) (by decide) (fun K hK => ?_)
                      have hs49 : w48.cell? ⟨gb162, 0, none⟩ = some (.string (⟨#[]⟩ : ByteArray)) := ck BK162.out 0 rfl
                      have hfs49 := blk_frozen BK162.out 0
                      have hns49_1 := NB163_162.out
                      have hms49_1 := NB162_163.out
                      have hs50 : w48.cell? ⟨gb162, 1, none⟩ = some (.int .i64 0) := ck BK162.out 1 rfl
                      have hfs50 := blk_frozen BK162.out 1
                      have hns50_1 := NB163_162.out
                      have hms50_1 := NB162_163.out
                      have hs51 : w48.cell? ⟨gb162, 2, none⟩ = some (.int .i64 0) := ck BK162.out 2 rfl
                      have hfs51 := blk_frozen BK162.out 2
                      have hns51_1 := NB163_162.out
                      have hms51_1 := NB162_163.out
                      have hs52 : w48.cell? ⟨gb162, 3, none⟩ = some (.int .i64 0) := ck BK162.out 3 rfl
                      have hfs52 := blk_frozen BK162.out 3
                      have hns52_1 := NB163_162.out
                      have hms52_1 := NB162_163.out
                      refine skip_ (w1 := ?_) (by rfl) rfl ?_ ?_
                      rotate_left
                      ·
                       go_simp
                       rfl
                      refine hK.out _ _ ⟨((cell_far (p := ⟨gb162, _, none⟩) (by first | exact Nat.ne_of_lt (Nat.lt_of_lt_of_le (by have := World.block_lt_of_cell? _ _ hw160_0; first | rwa [add_block] at this | exact this) GW162.out) | (rw [add_block]; exact Nat.ne_of_lt (Nat.lt_of_lt_of_le (by have := World.block_lt_of_cell? _ _ hw160_0; first | rwa [add_block] at this | exact this) GW162.out)) | (show (Addr.add _ _).block ≠ _; rw [add_block]; exact Nat.ne_of_lt (Nat.lt_of_lt_of_le (by have := World.block_lt_of_cell? _ _ hw160_0; first | rwa [add_block] at this | exact this) GW162.out)) | (dsimp only; exact Nat.ne_of_lt (Nat.lt_of_lt_of_le (by have := World.block_lt_of_cell? _ _ hw160_0; first | rwa [add_block] at this | exact this) GW162.out))) _).trans (((cell_far (p := ⟨gb162, _, none⟩) (by first | exact Nat.ne_of_lt (Nat.lt_of_lt_of_le (by have := World.block_lt_of_cell? _ _ hw160_0; first | rwa [add_block] at this | exact this) GW162.out) | (rw [add_block]; exact Nat.ne_of_lt (Nat.lt_of_lt_of_le (by have := World.block_lt_of_cell? _ _ hw160_0; first | rwa [add_block] at this | exact this) GW162.out)) | (show (Addr.add _ _).block ≠ _; rw [add_block]; exact Nat.ne_of_lt (Nat.lt_of_lt_of_le (by have := World.block_lt_of_cell? _ _ hw160_0; first | rwa [add_block] at this | exact this) GW162.out)) | (dsimp only; exact Nat.ne_of_lt (Nat.lt_of_lt_of_le (by have := World.block_lt_of_cell? _ _ hw160_0; first | rwa [add_block] at this | exact this) GW162.out))) _).trans (((cell_far (p := ⟨gb162, _, none⟩) (by first | exact Nat.ne_of_lt (Nat.lt_of_lt_of_le (by have := World.block_lt_of_cell? _ _ hw160_0; first | rwa [add_block] at this | exact this) GW162.out) | (rw [add_block]; exact Nat.ne_of_lt (Nat.lt_of_lt_of_le (by have := World.block_lt_of_cell? _ _ hw160_0; first | rwa [add_block] at this | exact this) GW162.out)) | (show (Addr.add _ _).block ≠ _; rw [add_block]; exact Nat.ne_of_lt (Nat.lt_of_lt_of_le (by have := World.block_lt_of_cell? _ _ hw160_0; first | rwa [add_block] at this | exact this) GW162.out)) | (dsimp only; exact Nat.ne_of_lt (Nat.lt_of_lt_of_le (by have := World.block_lt_of_cell? _ _ hw160_0; first | rwa [add_block] at this | exact this) GW162.out))) _).trans (((cell_far (p := ⟨gb162, _, none⟩) (by first | exact Nat.ne_of_lt (Nat.lt_of_lt_of_le (by have := World.block_lt_of_cell? _ _ hw160_0; first | rwa [add_block] at this | exact this) GW162.out) | (rw [add_block]; exact Nat.ne_of_lt (Nat.lt_of_lt_of_le (by have := World.block_lt_of_cell? _ _ hw160_0; first | rwa [add_block] at this | exact this) GW162.out)) | (show (Addr.add _ _).block ≠ _; rw [add_block]; exact Nat.ne_of_lt (Nat.lt_of_lt_of_le (by have := World.block_lt_of_cell? _ _ hw160_0; first | rwa [add_block] at this | exact this) GW162.out)) | (dsimp only; exact Nat.ne_of_lt (Nat.lt_of_lt_of_le (by have := World.block_lt_of_cell? _ _ hw160_0; first | rwa [add_block] at this | exact this) GW162.out))) _).trans (hHeld.1)))))))), ((cell_far (p := ⟨gb162, _, none⟩) (by first | exact Nat.ne_of_lt (Nat.lt_of_lt_of_le (by have := World.block_lt_of_cell? _ _ hw160_1; first | rwa [add_block] at this | exact this) GW162.out) | (rw [add_block]; exact Nat.ne_of_lt (Nat.lt_of_lt_of_le (by have := World.block_lt_of_cell? _ _ hw160_1; first | rwa [add_block] at this | exact this) GW162.out)) | (show (Addr.add _ _).block ≠ _; rw [add_block]; exact Nat.ne_of_lt (Nat.lt_of_lt_of_le (by have := World.block_lt_of_cell? _ _ hw160_1; first | rwa [add_block] at this | exact this) GW162.out)) | (dsimp only; exact Nat.ne_of_lt (Nat.lt_of_lt_of_le (by have := World.block_lt_of_cell? _ _ hw160_1; first | rwa [add_block] at this | exact this) GW162.out))) _).trans (((cell_far (p := ⟨gb162, _, none⟩) (by first | exact Nat.ne_of_lt (Nat.lt_of_lt_of_le (by have := World.block_lt_of_cell? _ _ hw160_1; first | rwa [add_block] at this | exact this) GW162.out) | (rw [add_block]; exact Nat.ne_of_lt (Nat.lt_of_lt_of_le (by have := World.block_lt_of_cell? _ _ hw160_1; first | rwa [add_block] at this | exact this) GW162.out)) | (show (Addr.add _ _).block ≠ _; rw [add_block]; exact Nat.ne_of_lt (Nat.lt_of_lt_of_le (by have := World.block_lt_of_cell? _ _ hw160_1; first | rwa [add_block] at this | exact this) GW162.out)) | (dsimp only; exact Nat.ne_of_lt (Nat.lt_of_lt_of_le (by have := World.block_lt_of_cell? _ _ hw160_1; first | rwa [add_block] at this | exact this) GW162.out))) _).trans (((cell_far (p := ⟨gb162, _, none⟩) (by first | exact Nat.ne_of_lt (Nat.lt_of_lt_of_le (by have := World.block_lt_of_cell? _ _ hw160_1; first | rwa [add_block] at this | exact this) GW162.out) | (rw [add_block]; exact Nat.ne_of_lt (Nat.lt_of_lt_of_le (by have := World.block_lt_of_cell? _ _ hw160_1; first | rwa [add_block] at this | exact this) GW162.out)) | (show (Addr.add _ _).block ≠ _; rw [add_block]; exact Nat.ne_of_lt (Nat.lt_of_lt_of_le (by have := World.block_lt_of_cell? _ _ hw160_1; first | rwa [add_block] at this | exact this) GW162.out)) | (dsimp only; exact Nat.ne_of_lt (Nat.lt_of_lt_of_le (by have := World.block_lt_of_cell? _ _ hw160_1; first | rwa [add_block] at this | exact this) GW162.out))) _).trans (((cell_far (p := ⟨gb162, _, none⟩) (by first | exact Nat.ne_of_lt (Nat.lt_of_lt_of_le (by have := World.block_lt_of_cell? _ _ hw160_1; first | rwa [add_block] at this | exact this) GW162.out) | (rw [add_block]; exact Nat.ne_of_lt (Nat.lt_of_lt_of_le (by have := World.block_lt_of_cell? _ _ hw160_1; first | rwa [add_block] at this | exact this) GW162.out)) | (show (Addr.add _ _).block ≠ _; rw [add_block]; exact Nat.ne_of_lt (Nat.lt_of_lt_of_le (by have := World.block_lt_of_cell? _ _ hw160_1; first | rwa [add_block] at this | exact this) GW162.out)) | (dsimp only; exact Nat.ne_of_lt (Nat.lt_of_lt_of_le (by have := World.block_lt_of_cell? _ _ hw160_1; first | rwa [add_block] at this | exact this) GW162.out))) _).trans (hHeld.2.1)))))))), ((cell_far (p := ⟨gb162, _, none⟩) (by first | exact Nat.ne_of_lt (Nat.lt_of_lt_of_le (by have := World.block_lt_of_cell? _ _ hw160_2; first | rwa [add_block] at this | exact this) GW162.out) | (rw [add_block]; exact Nat.ne_of_lt (Nat.lt_of_lt_of_le (by have := World.block_lt_of_cell? _ _ hw160_2; first | rwa [add_block] at this | exact this) GW162.out)) | (show (Addr.add _ _).block ≠ _; rw [add_block]; exact Nat.ne_of_lt (Nat.lt_of_lt_of_le (by have := World.block_lt_of_cell? _ _ hw160_2; first | rwa [add_block] at this | exact this) GW162.out)) | (dsimp only; exact Nat.ne_of_lt (Nat.lt_of_lt_of_le (by have := World.block_lt_of_cell? _ _ hw160_2; first | rwa [add_block] at this | exact this) GW162.out))) _).trans (((cell_far (p := ⟨gb162, _, none⟩) (by first | exact Nat.ne_of_lt (Nat.lt_of_lt_of_le (by have := World.block_lt_of_cell? _ _ hw160_2; first | rwa [add_block] at this | exact this) GW162.out) | (rw [add_block]; exact Nat.ne_of_lt (Nat.lt_of_lt_of_le (by have := World.block_lt_of_cell? _ _ hw160_2; first | rwa [add_block] at this | exact this) GW162.out)) | (show (Addr.add _ _).block ≠ _; rw [add_block]; exact Nat.ne_of_lt (Nat.lt_of_lt_of_le (by have := World.block_lt_of_cell? _ _ hw160_2; first | rwa [add_block] at this | exact this) GW162.out)) | (dsimp only; exact Nat.ne_of_lt (Nat.lt_of_lt_of_le (by have := World.block_lt_of_cell? _ _ hw160_2; first | rwa [add_block] at this | exact this) GW162.out))) _).trans (((cell_far (p := ⟨gb162, _, none⟩) (by first | exact Nat.ne_of_lt (Nat.lt_of_lt_of_le (by have := World.block_lt_of_cell? _ _ hw160_2; first | rwa [add_block] at this | exact this) GW162.out) | (rw [add_block]; exact Nat.ne_of_lt (Nat.lt_of_lt_of_le (by have := World.block_lt_of_cell? _ _ hw160_2; first | rwa [add_block] at this | exact this) GW162.out)) | (show (Addr.add _ _).block ≠ _; rw [add_block]; exact Nat.ne_of_lt (Nat.lt_of_lt_of_le (by have := World.block_lt_of_cell? _ _ hw160_2; first | rwa [add_block] at this | exact this) GW162.out)) | (dsimp only; exact Nat.ne_of_lt (Nat.lt_of_lt_of_le (by have := World.block_lt_of_cell? _ _ hw160_2; first | rwa [add_block] at this | exact this) GW162.out))) _).trans (((cell_far (p := ⟨gb162, _, none⟩) (by first | exact Nat.ne_of_lt (Nat.lt_of_lt_of_le (by have := World.block_lt_of_cell? _ _ hw160_2; first | rwa [add_block] at this | exact this) GW162.out) | (rw [add_block]; exact Nat.ne_of_lt (Nat.lt_of_lt_of_le (by have := World.block_lt_of_cell? _ _ hw160_2; first | rwa [add_block] at this | exact this) GW162.out)) | (show (Addr.add _ _).block ≠ _; rw [add_block]; exact Nat.ne_of_lt (Nat.lt_of_lt_of_le (by have := World.block_lt_of_cell? _ _ hw160_2; first | rwa [add_block] at this | exact this) GW162.out)) | (dsimp only; exact Nat.ne_of_lt (Nat.lt_of_lt_of_le (by have := World.block_lt_of_cell? _ _ hw160_2; first | rwa [add_block] at this | exact this) GW162.out))) _).trans (hHeld.2.2.1)))))))), ((cell_far (p := ⟨gb162, _, none⟩) (by first | exact Nat.ne_of_lt (Nat.lt_of_lt_of_le (by have := World.block_lt_of_cell? _ _ hw160_3; first | rwa [add_block] at this | exact this) GW162.out) | (rw [add_block]; exact Nat.ne_of_lt (Nat.lt_of_lt_of_le (by have := World.block_lt_of_cell? _ _ hw160_3; first | rwa [add_block] at this | exact this) GW162.out)) | (show (Addr.add _ _).block ≠ _; rw [add_block]; exact Nat.ne_of_lt (Nat.lt_of_lt_of_le (by have := World.block_lt_of_cell? _ _ hw160_3; first | rwa [add_block] at this | exact this) GW162.out)) | (dsimp only; exact Nat.ne_of_lt (Nat.lt_of_lt_of_le (by have := World.block_lt_of_cell? _ _ hw160_3; first | rwa [add_block] at this | exact this) GW162.out))) _).trans (((cell_far (p := ⟨gb162, _, none⟩) (by first | exact Nat.ne_of_lt (Nat.lt_of_lt_of_le (by have := World.block_lt_of_cell? _ _ hw160_3; first | rwa [add_block] at this | exact this) GW162.out) | (rw [add_block]; exact Nat.ne_of_lt (Nat.lt_of_lt_of_le (by have := World.block_lt_of_cell? _ _ hw160_3; first | rwa [add_block] at this | exact this) GW162.out)) | (show (Addr.add _ _).block ≠ _; rw [add_block]; exact Nat.ne_of_lt (Nat.lt_of_lt_of_le (by have := World.block_lt_of_cell? _ _ hw160_3; first | rwa [add_block] at this | exact this) GW162.out)) | (dsimp only; exact Nat.ne_of_lt (Nat.lt_of_lt_of_le (by have := World.block_lt_of_cell? _ _ hw160_3; first | rwa [add_block] at this | exact this) GW162.out))) _).trans (((cell_far (p := ⟨gb162, _, none⟩) (by first | exact Nat.ne_of_lt (Nat.lt_of_lt_of_le (by have := World.block_lt_of_cell? _ _ hw160_3; first | rwa [add_block] at this | exact this) GW162.out) | (rw [add_block]; exact Nat.ne_of_lt (Nat.lt_of_lt_of_le (by have := World.block_lt_of_cell? _ _ hw160_3; first | rwa [add_block] at this | exact this) GW162.out)) | (show (Addr.add _ _).block ≠ _; rw [add_block]; exact Nat.ne_of_lt (Nat.lt_of_lt_of_le (by have := World.block_lt_of_cell? _ _ hw160_3; first | rwa [add_block] at this | exact this) GW162.out)) | (dsimp only; exact Nat.ne_of_lt (Nat.lt_of_lt_of_le (by have := World.block_lt_of_cell? _ _ hw160_3; first | rwa [add_block] at this | exact this) GW162.out))) _).trans (((cell_far (p := ⟨gb162, _, none⟩) (by first | exact Nat.ne_of_lt (Nat.lt_of_lt_of_le (by have := World.block_lt_of_cell? _ _ hw160_3; first | rwa [add_block] at this | exact this) GW162.out) | (rw [add_block]; exact Nat.ne_of_lt (Nat.lt_of_lt_of_le (by have := World.block_lt_of_cell? _ _ hw160_3; first | rwa [add_block] at this | exact this) GW162.out)) | (show (Addr.add _ _).block ≠ _; rw [add_block]; exact Nat.ne_of_lt (Nat.lt_of_lt_of_le (by have := World.block_lt_of_cell? _ _ hw160_3; first | rwa [add_block] at this | exact this) GW162.out)) | (dsimp only; exact Nat.ne_of_lt (Nat.lt_of_lt_of_le (by have := World.block_lt_of_cell? _ _ hw160_3; first | rwa [add_block] at this | exact this) GW162.out))) _).trans (hHeld.2.2.2.1)))))))), ((cell_far (p := ⟨gb162, _, none⟩) (by first | exact Nat.ne_of_lt (Nat.lt_of_lt_of_le (by have := World.block_lt_of_cell? _ _ hw161_0; first | rwa [add_block] at this | exact this) GW162.out) | (rw [add_block]; exact Nat.ne_of_lt (Nat.lt_of_lt_of_le (by have := World.block_lt_of_cell? _ _ hw161_0; first | rwa [add_block] at this | exact this) GW162.out)) | (show (Addr.add _ _).block ≠ _; rw [add_block]; exact Nat.ne_of_lt (Nat.lt_of_lt_of_le (by have := World.block_lt_of_cell? _ _ hw161_0; first | rwa [add_block] at this | exact this) GW162.out)) | (dsimp only; exact Nat.ne_of_lt (Nat.lt_of_lt_of_le (by have := World.block_lt_of_cell? _ _ hw161_0; first | rwa [add_block] at this | exact this) GW162.out))) _).trans (((cell_far (p := ⟨gb162, _, none⟩) (by first | exact Nat.ne_of_lt (Nat.lt_of_lt_of_le (by have := World.block_lt_of_cell? _ _ hw161_0; first | rwa [add_block] at this | exact this) GW162.out) | (rw [add_block]; exact Nat.ne_of_lt (Nat.lt_of_lt_of_le (by have := World.block_lt_of_cell? _ _ hw161_0; first | rwa [add_block] at this | exact this) GW162.out)) | (show (Addr.add _ _).block ≠ _; rw [add_block]; exact Nat.ne_of_lt (Nat.lt_of_lt_of_le (by have := World.block_lt_of_cell? _ _ hw161_0; first | rwa [add_block] at this | exact this) GW162.out)) | (dsimp only; exact Nat.ne_of_lt (Nat.lt_of_lt_of_le (by have := World.block_lt_of_cell? _ _ hw161_0; first | rwa [add_block] at this | exact this) GW162.out))) _).trans (((cell_far (p := ⟨gb162, _, none⟩) (by first | exact Nat.ne_of_lt (Nat.lt_of_lt_of_le (by have := World.block_lt_of_cell? _ _ hw161_0; first | rwa [add_block] at this | exact this) GW162.out) | (rw [add_block]; exact Nat.ne_of_lt (Nat.lt_of_lt_of_le (by have := World.block_lt_of_cell? _ _ hw161_0; first | rwa [add_block] at this | exact this) GW162.out)) | (show (Addr.add _ _).block ≠ _; rw [add_block]; exact Nat.ne_of_lt (Nat.lt_of_lt_of_le (by have := World.block_lt_of_cell? _ _ hw161_0; first | rwa [add_block] at this | exact this) GW162.out)) | (dsimp only; exact Nat.ne_of_lt (Nat.lt_of_lt_of_le (by have := World.block_lt_of_cell? _ _ hw161_0; first | rwa [add_block] at this | exact this) GW162.out))) _).trans (((cell_far (p := ⟨gb162, _, none⟩) (by first | exact Nat.ne_of_lt (Nat.lt_of_lt_of_le (by have := World.block_lt_of_cell? _ _ hw161_0; first | rwa [add_block] at this | exact this) GW162.out) | (rw [add_block]; exact Nat.ne_of_lt (Nat.lt_of_lt_of_le (by have := World.block_lt_of_cell? _ _ hw161_0; first | rwa [add_block] at this | exact this) GW162.out)) | (show (Addr.add _ _).block ≠ _; rw [add_block]; exact Nat.ne_of_lt (Nat.lt_of_lt_of_le (by have := World.block_lt_of_cell? _ _ hw161_0; first | rwa [add_block] at this | exact this) GW162.out)) | (dsimp only; exact Nat.ne_of_lt (Nat.lt_of_lt_of_le (by have := World.block_lt_of_cell? _ _ hw161_0; first | rwa [add_block] at this | exact this) GW162.out))) _).trans (hHeld.2.2.2.2.1)))))))), ((cell_far (p := ⟨gb162, _, none⟩) (by first | exact Nat.ne_of_lt (Nat.lt_of_lt_of_le (by have := World.block_lt_of_cell? _ _ hw161_1; first | rwa [add_block] at this | exact this) GW162.out) | (rw [add_block]; exact Nat.ne_of_lt (Nat.lt_of_lt_of_le (by have := World.block_lt_of_cell? _ _ hw161_1; first | rwa [add_block] at this | exact this) GW162.out)) | (show (Addr.add _ _).block ≠ _; rw [add_block]; exact Nat.ne_of_lt (Nat.lt_of_lt_of_le (by have := World.block_lt_of_cell? _ _ hw161_1; first | rwa [add_block] at this | exact this) GW162.out)) | (dsimp only; exact Nat.ne_of_lt (Nat.lt_of_lt_of_le (by have := World.block_lt_of_cell? _ _ hw161_1; first | rwa [add_block] at this | exact this) GW162.out))) _).trans (((cell_far (p := ⟨gb162, _, none⟩) (by first | exact Nat.ne_of_lt (Nat.lt_of_lt_of_le (by have := World.block_lt_of_cell? _ _ hw161_1; first | rwa [add_block] at this | exact this) GW162.out) | (rw [add_block]; exact Nat.ne_of_lt (Nat.lt_of_lt_of_le (by have := World.block_lt_of_cell? _ _ hw161_1; first | rwa [add_block] at this | exact this) GW162.out)) | (show (Addr.add _ _).block ≠ _; rw [add_block]; exact Nat.ne_of_lt (Nat.lt_of_lt_of_le (by have := World.block_lt_of_cell? _ _ hw161_1; first | rwa [add_block] at this | exact this) GW162.out)) | (dsimp only; exact Nat.ne_of_lt (Nat.lt_of_lt_of_le (by have := World.block_lt_of_cell? _ _ hw161_1; first | rwa [add_block] at this | exact this) GW162.out))) _).trans (((cell_far (p := ⟨gb162, _, none⟩) (by first | exact Nat.ne_of_lt (Nat.lt_of_lt_of_le (by have := World.block_lt_of_cell? _ _ hw161_1; first | rwa [add_block] at this | exact this) GW162.out) | (rw [add_block]; exact Nat.ne_of_lt (Nat.lt_of_lt_of_le (by have := World.block_lt_of_cell? _ _ hw161_1; first | rwa [add_block] at this | exact this) GW162.out)) | (show (Addr.add _ _).block ≠ _; rw [add_block]; exact Nat.ne_of_lt (Nat.lt_of_lt_of_le (by have := World.block_lt_of_cell? _ _ hw161_1; first | rwa [add_block] at this | exact this) GW162.out)) | (dsimp only; exact Nat.ne_of_lt (Nat.lt_of_lt_of_le (by have := World.block_lt_of_cell? _ _ hw161_1; first | rwa [add_block] at this | exact this) GW162.out))) _).trans (((cell_far (p := ⟨gb162, _, none⟩) (by first | exact Nat.ne_of_lt (Nat.lt_of_lt_of_le (by have := World.block_lt_of_cell? _ _ hw161_1; first | rwa [add_block] at this | exact this) GW162.out) | (rw [add_block]; exact Nat.ne_of_lt (Nat.lt_of_lt_of_le (by have := World.block_lt_of_cell? _ _ hw161_1; first | rwa [add_block] at this | exact this) GW162.out)) | (show (Addr.add _ _).block ≠ _; rw [add_block]; exact Nat.ne_of_lt (Nat.lt_of_lt_of_le (by have := World.block_lt_of_cell? _ _ hw161_1; first | rwa [add_block] at this | exact this) GW162.out)) | (dsimp only; exact Nat.ne_of_lt (Nat.lt_of_lt_of_le (by have := World.block_lt_of_cell? _ _ hw161_1; first | rwa [add_block] at this | exact this) GW162.out))) _).trans (hHeld.2.2.2.2.2.1)))))))), ((cell_far (p := ⟨gb162, _, none⟩) (by first | exact Nat.ne_of_lt (Nat.lt_of_lt_of_le (by have := World.block_lt_of_cell? _ _ hw161_2; first | rwa [add_block] at this | exact this) GW162.out) | (rw [add_block]; exact Nat.ne_of_lt (Nat.lt_of_lt_of_le (by have := World.block_lt_of_cell? _ _ hw161_2; first | rwa [add_block] at this | exact this) GW162.out)) | (show (Addr.add _ _).block ≠ _; rw [add_block]; exact Nat.ne_of_lt (Nat.lt_of_lt_of_le (by have := World.block_lt_of_cell? _ _ hw161_2; first | rwa [add_block] at this | exact this) GW162.out)) | (dsimp only; exact Nat.ne_of_lt (Nat.lt_of_lt_of_le (by have := World.block_lt_of_cell? _ _ hw161_2; first | rwa [add_block] at this | exact this) GW162.out))) _).trans (((cell_far (p := ⟨gb162, _, none⟩) (by first | exact Nat.ne_of_lt (Nat.lt_of_lt_of_le (by have := World.block_lt_of_cell? _ _ hw161_2; first | rwa [add_block] at this | exact this) GW162.out) | (rw [add_block]; exact Nat.ne_of_lt (Nat.lt_of_lt_of_le (by have := World.block_lt_of_cell? _ _ hw161_2; first | rwa [add_block] at this | exact this) GW162.out)) | (show (Addr.add _ _).block ≠ _; rw [add_block]; exact Nat.ne_of_lt (Nat.lt_of_lt_of_le (by have := World.block_lt_of_cell? _ _ hw161_2; first | rwa [add_block] at this | exact this) GW162.out)) | (dsimp only; exact Nat.ne_of_lt (Nat.lt_of_lt_of_le (by have := World.block_lt_of_cell? _ _ hw161_2; first | rwa [add_block] at this | exact this) GW162.out))) _).trans (((cell_far (p := ⟨gb162, _, none⟩) (by first | exact Nat.ne_of_lt (Nat.lt_of_lt_of_le (by have := World.block_lt_of_cell? _ _ hw161_2; first | rwa [add_block] at this | exact this) GW162.out) | (rw [add_block]; exact Nat.ne_of_lt (Nat.lt_of_lt_of_le (by have := World.block_lt_of_cell? _ _ hw161_2; first | rwa [add_block] at this | exact this) GW162.out)) | (show (Addr.add _ _).block ≠ _; rw [add_block]; exact Nat.ne_of_lt (Nat.lt_of_lt_of_le (by have := World.block_lt_of_cell? _ _ hw161_2; first | rwa [add_block] at this | exact this) GW162.out)) | (dsimp only; exact Nat.ne_of_lt (Nat.lt_of_lt_of_le (by have := World.block_lt_of_cell? _ _ hw161_2; first | rwa [add_block] at this | exact this) GW162.out))) _).trans (((cell_far (p := ⟨gb162, _, none⟩) (by first | exact Nat.ne_of_lt (Nat.lt_of_lt_of_le (by have := World.block_lt_of_cell? _ _ hw161_2; first | rwa [add_block] at this | exact this) GW162.out) | (rw [add_block]; exact Nat.ne_of_lt (Nat.lt_of_lt_of_le (by have := World.block_lt_of_cell? _ _ hw161_2; first | rwa [add_block] at this | exact this) GW162.out)) | (show (Addr.add _ _).block ≠ _; rw [add_block]; exact Nat.ne_of_lt (Nat.lt_of_lt_of_le (by have := World.block_lt_of_cell? _ _ hw161_2; first | rwa [add_block] at this | exact this) GW162.out)) | (dsimp only; exact Nat.ne_of_lt (Nat.lt_of_lt_of_le (by have := World.block_lt_of_cell? _ _ hw161_2; first | rwa [add_block] at this | exact this) GW162.out))) _).trans (hHeld.2.2.2.2.2.2.1)))))))), ((cell_far (p := ⟨gb162, _, none⟩) (by first | exact Nat.ne_of_lt (Nat.lt_of_lt_of_le (by have := World.block_lt_of_cell? _ _ hw161_3; first | rwa [add_block] at this | exact this) GW162.out) | (rw [add_block]; exact Nat.ne_of_lt (Nat.lt_of_lt_of_le (by have := World.block_lt_of_cell? _ _ hw161_3; first | rwa [add_block] at this | exact this) GW162.out)) | (show (Addr.add _ _).block ≠ _; rw [add_block]; exact Nat.ne_of_lt (Nat.lt_of_lt_of_le (by have := World.block_lt_of_cell? _ _ hw161_3; first | rwa [add_block] at this | exact this) GW162.out)) | (dsimp only; exact Nat.ne_of_lt (Nat.lt_of_lt_of_le (by have := World.block_lt_of_cell? _ _ hw161_3; first | rwa [add_block] at this | exact this) GW162.out))) _).trans (((cell_far (p := ⟨gb162, _, none⟩) (by first | exact Nat.ne_of_lt (Nat.lt_of_lt_of_le (by have := World.block_lt_of_cell? _ _ hw161_3; first | rwa [add_block] at this | exact this) GW162.out) | (rw [add_block]; exact Nat.ne_of_lt (Nat.lt_of_lt_of_le (by have := World.block_lt_of_cell? _ _ hw161_3; first | rwa [add_block] at this | exact this) GW162.out)) | (show (Addr.add _ _).block ≠ _; rw [add_block]; exact Nat.ne_of_lt (Nat.lt_of_lt_of_le (by have := World.block_lt_of_cell? _ _ hw161_3; first | rwa [add_block] at this | exact this) GW162.out)) | (dsimp only; exact Nat.ne_of_lt (Nat.lt_of_lt_of_le (by have := World.block_lt_of_cell? _ _ hw161_3; first | rwa [add_block] at this | exact this) GW162.out))) _).trans (((cell_far (p := ⟨gb162, _, none⟩) (by first | exact Nat.ne_of_lt (Nat.lt_of_lt_of_le (by have := World.block_lt_of_cell? _ _ hw161_3; first | rwa [add_block] at this | exact this) GW162.out) | (rw [add_block]; exact Nat.ne_of_lt (Nat.lt_of_lt_of_le (by have := World.block_lt_of_cell? _ _ hw161_3; first | rwa [add_block] at this | exact this) GW162.out)) | (show (Addr.add _ _).block ≠ _; rw [add_block]; exact Nat.ne_of_lt (Nat.lt_of_lt_of_le (by have := World.block_lt_of_cell? _ _ hw161_3; first | rwa [add_block] at this | exact this) GW162.out)) | (dsimp only; exact Nat.ne_of_lt (Nat.lt_of_lt_of_le (by have := World.block_lt_of_cell? _ _ hw161_3; first | rwa [add_block] at this | exact this) GW162.out))) _).trans (((cell_far (p := ⟨gb162, _, none⟩) (by first | exact Nat.ne_of_lt (Nat.lt_of_lt_of_le (by have := World.block_lt_of_cell? _ _ hw161_3; first | rwa [add_block] at this | exact this) GW162.out) | (rw [add_block]; exact Nat.ne_of_lt (Nat.lt_of_lt_of_le (by have := World.block_lt_of_cell? _ _ hw161_3; first | rwa [add_block] at this | exact this) GW162.out)) | (show (Addr.add _ _).block ≠ _; rw [add_block]; exact Nat.ne_of_lt (Nat.lt_of_lt_of_le (by have := World.block_lt_of_cell? _ _ hw161_3; first | rwa [add_block] at this | exact this) GW162.out)) | (dsimp only; exact Nat.ne_of_lt (Nat.lt_of_lt_of_le (by have := World.block_lt_of_cell? _ _ hw161_3; first | rwa [add_block] at this | exact this) GW162.out))) _).trans (hHeld.2.2.2.2.2.2.2))))))))⟩ (fun hHeld => ?_)
                      clear hK K
                      refine one_ (i := 11) (N := none) m12_12 rfl rfl (one_of HT_.out (by kernel_rfl)) (by decide) (fun K hK => ?_)
                      have hs53 : w48.cell? ⟨gb163, 0, none⟩ = some (.string (⟨#[]⟩ : ByteArray)) := ck BK163.out 0 rfl
                      have hfs53 := blk_frozen BK163.out 0
                      have hns53_0 := NB162_163.out
                      have hms53_0 := NB163_162.out
                      have hs54 : w48.cell? ⟨gb163, 1, none⟩ = some (.int .i64 0) := ck BK163.out 1 rfl
                      have hfs54 := blk_frozen BK163.out 1
                      have hns54_0 := NB162_163.out
                      have hms54_0 := NB163_162.out
                      have hs55 : w48.cell? ⟨gb163, 2, none⟩ = some (.int .i64 0) := ck BK163.out 2 rfl
                      have hfs55 := blk_frozen BK163.out 2
                      have hns55_0 := NB162_163.out
                      have hms55_0 := NB163_162.out
                      have hs56 : w48.cell? ⟨gb163, 3, none⟩ = some (.int .i64 0) := ck BK163.out 3 rfl
                      have hfs56 := blk_frozen BK163.out 3
                      have hns56_0 := NB162_163.out
                      have hms56_0 := NB163_162.out
                      refine skip_ (w1 := ?_) (by rfl) rfl ?_ ?_
                      rotate_left
                      ·
                       go_simp
                       rfl
                      refine hK.out _ _ ⟨((cell_far (p := ⟨gb163, _, none⟩) (by first | exact Nat.ne_of_lt (Nat.lt_of_lt_of_le (by have := World.block_lt_of_cell? _ _ hw160_0; first | rwa [add_block] at this | exact this) GW163.out) | (rw [add_block]; exact Nat.ne_of_lt (Nat.lt_of_lt_of_le (by have := World.block_lt_of_cell? _ _ hw160_0; first | rwa [add_block] at this | exact this) GW163.out)) | (show (Addr.add _ _).block ≠ _; rw [add_block]; exact Nat.ne_of_lt (Nat.lt_of_lt_of_le (by have := World.block_lt_of_cell? _ _ hw160_0; first | rwa [add_block] at this | exact this) GW163.out)) | (dsimp only; exact Nat.ne_of_lt (Nat.lt_of_lt_of_le (by have := World.block_lt_of_cell? _ _ hw160_0; first | rwa [add_block] at this | exact this) GW163.out))) _).trans (((cell_far (p := ⟨gb163, _, none⟩) (by first | exact Nat.ne_of_lt (Nat.lt_of_lt_of_le (by have := World.block_lt_of_cell? _ _ hw160_0; first | rwa [add_block] at this | exact this) GW163.out) | (rw [add_block]; exact Nat.ne_of_lt (Nat.lt_of_lt_of_le (by have := World.block_lt_of_cell? _ _ hw160_0; first | rwa [add_block] at this | exact this) GW163.out)) | (show (Addr.add _ _).block ≠ _; rw [add_block]; exact Nat.ne_of_lt (Nat.lt_of_lt_of_le (by have := World.block_lt_of_cell? _ _ hw160_0; first | rwa [add_block] at this | exact this) GW163.out)) | (dsimp only; exact Nat.ne_of_lt (Nat.lt_of_lt_of_le (by have := World.block_lt_of_cell? _ _ hw160_0; first | rwa [add_block] at this | exact this) GW163.out))) _).trans (((cell_far (p := ⟨gb163, _, none⟩) (by first | exact Nat.ne_of_lt (Nat.lt_of_lt_of_le (by have := World.block_lt_of_cell? _ _ hw160_0; first | rwa [add_block] at this | exact this) GW163.out) | (rw [add_block]; exact Nat.ne_of_lt (Nat.lt_of_lt_of_le (by have := World.block_lt_of_cell? _ _ hw160_0; first | rwa [add_block] at this | exact this) GW163.out)) | (show (Addr.add _ _).block ≠ _; rw [add_block]; exact Nat.ne_of_lt (Nat.lt_of_lt_of_le (by have := World.block_lt_of_cell? _ _ hw160_0; first | rwa [add_block] at this | exact this) GW163.out)) | (dsimp only; exact Nat.ne_of_lt (Nat.lt_of_lt_of_le (by have := World.block_lt_of_cell? _ _ hw160_0; first | rwa [add_block] at this | exact this) GW163.out))) _).trans (((cell_far (p := ⟨gb163, _, none⟩) (by first | exact Nat.ne_of_lt (Nat.lt_of_lt_of_le (by have := World.block_lt_of_cell? _ _ hw160_0; first | rwa [add_block] at this | exact this) GW163.out) | (rw [add_block]; exact Nat.ne_of_lt (Nat.lt_of_lt_of_le (by have := World.block_lt_of_cell? _ _ hw160_0; first | rwa [add_block] at this | exact this) GW163.out)) | (show (Addr.add _ _).block ≠ _; rw [add_block]; exact Nat.ne_of_lt (Nat.lt_of_lt_of_le (by have := World.block_lt_of_cell? _ _ hw160_0; first | rwa [add_block] at this | exact this) GW163.out)) | (dsimp only; exact Nat.ne_of_lt (Nat.lt_of_lt_of_le (by have := World.block_lt_of_cell? _ _ hw160_0; first | rwa [add_block] at this | exact this) GW163.out))) _).trans (hHeld.1)))))))), ((cell_far (p := ⟨gb163, _, none⟩) (by first | exact Nat.ne_of_lt (Nat.lt_of_lt_of_le (by have := World.block_lt_of_cell? _ _ hw160_1; first | rwa [add_block] at this | exact this) GW163.out) | (rw [add_block]; exact Nat.ne_of_lt (Nat.lt_of_lt_of_le (by have := World.block_lt_of_cell? _ _ hw160_1; first | rwa [add_block] at this | exact this) GW163.out)) | (show (Addr.add _ _).block ≠ _; rw [add_block]; exact Nat.ne_of_lt (Nat.lt_of_lt_of_le (by have := World.block_lt_of_cell? _ _ hw160_1; first | rwa [add_block] at this | exact this) GW163.out)) | (dsimp only; exact Nat.ne_of_lt (Nat.lt_of_lt_of_le (by have := World.block_lt_of_cell? _ _ hw160_1; first | rwa [add_block] at this | exact this) GW163.out))) _).trans (((cell_far (p := ⟨gb163, _, none⟩) (by first | exact Nat.ne_of_lt (Nat.lt_of_lt_of_le (by have := World.block_lt_of_cell? _ _ hw160_1; first | rwa [add_block] at this | exact this) GW163.out) | (rw [add_block]; exact Nat.ne_of_lt (Nat.lt_of_lt_of_le (by have := World.block_lt_of_cell? _ _ hw160_1; first | rwa [add_block] at this | exact this) GW163.out)) | (show (Addr.add _ _).block ≠ _; rw [add_block]; exact Nat.ne_of_lt (Nat.lt_of_lt_of_le (by have := World.block_lt_of_cell? _ _ hw160_1; first | rwa [add_block] at this | exact this) GW163.out)) | (dsimp only; exact Nat.ne_of_lt (Nat.lt_of_lt_of_le (by have := World.block_lt_of_cell? _ _ hw160_1; first | rwa [add_block] at this | exact this) GW163.out))) _).trans (((cell_far (p := ⟨gb163, _, none⟩) (by first | exact Nat.ne_of_lt (Nat.lt_of_lt_of_le (by have := World.block_lt_of_cell? _ _ hw160_1; first | rwa [add_block] at this | exact this) GW163.out) | (rw [add_block]; exact Nat.ne_of_lt (Nat.lt_of_lt_of_le (by have := World.block_lt_of_cell? _ _ hw160_1; first | rwa [add_block] at this | exact this) GW163.out)) | (show (Addr.add _ _).block ≠ _; rw [add_block]; exact Nat.ne_of_lt (Nat.lt_of_lt_of_le (by have := World.block_lt_of_cell? _ _ hw160_1; first | rwa [add_block] at this | exact this) GW163.out)) | (dsimp only; exact Nat.ne_of_lt (Nat.lt_of_lt_of_le (by have := World.block_lt_of_cell? _ _ hw160_1; first | rwa [add_block] at this | exact this) GW163.out))) _).trans (((cell_far (p := ⟨gb163, _, none⟩) (by first | exact Nat.ne_of_lt (Nat.lt_of_lt_of_le (by have := World.block_lt_of_cell? _ _ hw160_1; first | rwa [add_block] at this | exact this) GW163.out) | (rw [add_block]; exact Nat.ne_of_lt (Nat.lt_of_lt_of_le (by have := World.block_lt_of_cell? _ _ hw160_1; first | rwa [add_block] at this | exact this) GW163.out)) | (show (Addr.add _ _).block ≠ _; rw [add_block]; exact Nat.ne_of_lt (Nat.lt_of_lt_of_le (by have := World.block_lt_of_cell? _ _ hw160_1; first | rwa [add_block] at this | exact this) GW163.out)) | (dsimp only; exact Nat.ne_of_lt (Nat.lt_of_lt_of_le (by have := World.block_lt_of_cell? _ _ hw160_1; first | rwa [add_block] at this | exact this) GW163.out))) _).trans (hHeld.2.1)))))))), ((cell_far (p := ⟨gb163, _, none⟩) (by first | exact Nat.ne_of_lt (Nat.lt_of_lt_of_le (by have := World.block_lt_of_cell? _ _ hw160_2; first | rwa [add_block] at this | exact this) GW163.out) | (rw [add_block]; exact Nat.ne_of_lt (Nat.lt_of_lt_of_le (by have := World.block_lt_of_cell? _ _ hw160_2; first | rwa [add_block] at this | exact this) GW163.out)) | (show (Addr.add _ _).block ≠ _; rw [add_block]; exact Nat.ne_of_lt (Nat.lt_of_lt_of_le (by have := World.block_lt_of_cell? _ _ hw160_2; first | rwa [add_block] at this | exact this) GW163.out)) | (dsimp only; exact Nat.ne_of_lt (Nat.lt_of_lt_of_le (by have := World.block_lt_of_cell? _ _ hw160_2; first | rwa [add_block] at this | exact this) GW163.out))) _).trans (((cell_far (p := ⟨gb163, _, none⟩) (by first | exact Nat.ne_of_lt (Nat.lt_of_lt_of_le (by have := World.block_lt_of_cell? _ _ hw160_2; first | rwa [add_block] at this | exact this) GW163.out) | (rw [add_block]; exact Nat.ne_of_lt (Nat.lt_of_lt_of_le (by have := World.block_lt_of_cell? _ _ hw160_2; first | rwa [add_block] at this | exact this) GW163.out)) | (show (Addr.add _ _).block ≠ _; rw [add_block]; exact Nat.ne_of_lt (Nat.lt_of_lt_of_le (by have := World.block_lt_of_cell? _ _ hw160_2; first | rwa [add_block] at this | exact this) GW163.out)) | (dsimp only; exact Nat.ne_of_lt (Nat.lt_of_lt_of_le (by have := World.block_lt_of_cell? _ _ hw160_2; first | rwa [add_block] at this | exact this) GW163.out))) _).trans (((cell_far (p := ⟨gb163, _, none⟩) (by first | exact Nat.ne_of_lt (Nat.lt_of_lt_of_le (by have := World.block_lt_of_cell? _ _ hw160_2; first | rwa [add_block] at this | exact this) GW163.out) | (rw [add_block]; exact Nat.ne_of_lt (Nat.lt_of_lt_of_le (by have := World.block_lt_of_cell? _ _ hw160_2; first | rwa [add_block] at this | exact this) GW163.out)) | (show (Addr.add _ _).block ≠ _; rw [add_block]; exact Nat.ne_of_lt (Nat.lt_of_lt_of_le (by have := World.block_lt_of_cell? _ _ hw160_2; first | rwa [add_block] at this | exact this) GW163.out)) | (dsimp only; exact Nat.ne_of_lt (Nat.lt_of_lt_of_le (by have := World.block_lt_of_cell? _ _ hw160_2; first | rwa [add_block] at this | exact this) GW163.out))) _).trans (((cell_far (p := ⟨gb163, _, none⟩) (by first | exact Nat.ne_of_lt (Nat.lt_of_lt_of_le (by have := World.block_lt_of_cell? _ _ hw160_2; first | rwa [add_block] at this | exact this) GW163.out) | (rw [add_block]; exact Nat.ne_of_lt (Nat.lt_of_lt_of_le (by have := World.block_lt_of_cell? _ _ hw160_2; first | rwa [add_block] at this | exact this) GW163.out)) | (show (Addr.add _ _).block ≠ _; rw [add_block]; exact Nat.ne_of_lt (Nat.lt_of_lt_of_le (by have := World.block_lt_of_cell? _ _ hw160_2; first | rwa [add_block] at this | exact this) GW163.out)) | (dsimp only; exact Nat.ne_of_lt (Nat.lt_of_lt_of_le (by have := World.block_lt_of_cell? _ _ hw160_2; first | rwa [add_block] at this | exact this) GW163.out))) _).trans (hHeld.2.2.1)))))))), ((cell_far (p := ⟨gb163, _, none⟩) (by first | exact Nat.ne_of_lt (Nat.lt_of_lt_of_le (by have := World.block_lt_of_cell? _ _ hw160_3; first | rwa [add_block] at this | exact this) GW163.out) | (rw [add_block]; exact Nat.ne_of_lt (Nat.lt_of_lt_of_le (by have := World.block_lt_of_cell? _ _ hw160_3; first | rwa [add_block] at this | exact this) GW163.out)) | (show (Addr.add _ _).block ≠ _; rw [add_block]; exact Nat.ne_of_lt (Nat.lt_of_lt_of_le (by have := World.block_lt_of_cell? _ _ hw160_3; first | rwa [add_block] at this | exact this) GW163.out)) | (dsimp only; exact Nat.ne_of_lt (Nat.lt_of_lt_of_le (by have := World.block_lt_of_cell? _ _ hw160_3; first | rwa [add_block] at this | exact this) GW163.out))) _).trans (((cell_far (p := ⟨gb163, _, none⟩) (by first | exact Nat.ne_of_lt (Nat.lt_of_lt_of_le (by have := World.block_lt_of_cell? _ _ hw160_3; first | rwa [add_block] at this | exact this) GW163.out) | (rw [add_block]; exact Nat.ne_of_lt (Nat.lt_of_lt_of_le (by have := World.block_lt_of_cell? _ _ hw160_3; first | rwa [add_block] at this | exact this) GW163.out)) | (show (Addr.add _ _).block ≠ _; rw [add_block]; exact Nat.ne_of_lt (Nat.lt_of_lt_of_le (by have := World.block_lt_of_cell? _ _ hw160_3; first | rwa [add_block] at this | exact this) GW163.out)) | (dsimp only; exact Nat.ne_of_lt (Nat.lt_of_lt_of_le (by have := World.block_lt_of_cell? _ _ hw160_3; first | rwa [add_block] at this | exact this) GW163.out))) _).trans (((cell_far (p := ⟨gb163, _, none⟩) (by first | exact Nat.ne_of_lt (Nat.lt_of_lt_of_le (by have := World.block_lt_of_cell? _ _ hw160_3; first | rwa [add_block] at this | exact this) GW163.out) | (rw [add_block]; exact Nat.ne_of_lt (Nat.lt_of_lt_of_le (by have := World.block_lt_of_cell? _ _ hw160_3; first | rwa [add_block] at this | exact this) GW163.out)) | (show (Addr.add _ _).block ≠ _; rw [add_block]; exact Nat.ne_of_lt (Nat.lt_of_lt_of_le (by have := World.block_lt_of_cell? _ _ hw160_3; first | rwa [add_block] at this | exact this) GW163.out)) | (dsimp only; exact Nat.ne_of_lt (Nat.lt_of_lt_of_le (by have := World.block_lt_of_cell? _ _ hw160_3; first | rwa [add_block] at this | exact this) GW163.out))) _).trans (((cell_far (p := ⟨gb163, _, none⟩) (by first | exact Nat.ne_of_lt (Nat.lt_of_lt_of_le (by have := World.block_lt_of_cell? _ _ hw160_3; first | rwa [add_block] at this | exact this) GW163.out) | (rw [add_block]; exact Nat.ne_of_lt (Nat.lt_of_lt_of_le (by have := World.block_lt_of_cell? _ _ hw160_3; first | rwa [add_block] at this | exact this) GW163.out)) | (show (Addr.add _ _).block ≠ _; rw [add_block]; exact Nat.ne_of_lt (Nat.lt_of_lt_of_le (by have := World.block_lt_of_cell? _ _ hw160_3; first | rwa [add_block] at this | exact this) GW163.out)) | (dsimp only; exact Nat.ne_of_lt (Nat.lt_of_lt_of_le (by have := World.block_lt_of_cell? _ _ hw160_3; first | rwa [add_block] at this | exact this) GW163.out))) _).trans (hHeld.2.2.2.1)))))))), ((cell_far (p := ⟨gb163, _, none⟩) (by first | exact Nat.ne_of_lt (Nat.lt_of_lt_of_le (by have := World.block_lt_of_cell? _ _ hw161_0; first | rwa [add_block] at this | exact this) GW163.out) | (rw [add_block]; exact Nat.ne_of_lt (Nat.lt_of_lt_of_le (by have := World.block_lt_of_cell? _ _ hw161_0; first | rwa [add_block] at this | exact this) GW163.out)) | (show (Addr.add _ _).block ≠ _; rw [add_block]; exact Nat.ne_of_lt (Nat.lt_of_lt_of_le (by have := World.block_lt_of_cell? _ _ hw161_0; first | rwa [add_block] at this | exact this) GW163.out)) | (dsimp only; exact Nat.ne_of_lt (Nat.lt_of_lt_of_le (by have := World.block_lt_of_cell? _ _ hw161_0; first | rwa [add_block] at this | exact this) GW163.out))) _).trans (((cell_far (p := ⟨gb163, _, none⟩) (by first | exact Nat.ne_of_lt (Nat.lt_of_lt_of_le (by have := World.block_lt_of_cell? _ _ hw161_0; first | rwa [add_block] at this | exact this) GW163.out) | (rw [add_block]; exact Nat.ne_of_lt (Nat.lt_of_lt_of_le (by have := World.block_lt_of_cell? _ _ hw161_0; first | rwa [add_block] at this | exact this) GW163.out)) | (show (Addr.add _ _).block ≠ _; rw [add_block]; exact Nat.ne_of_lt (Nat.lt_of_lt_of_le (by have := World.block_lt_of_cell? _ _ hw161_0; first | rwa [add_block] at this | exact this) GW163.out)) | (dsimp only; exact Nat.ne_of_lt (Nat.lt_of_lt_of_le (by have := World.block_lt_of_cell? _ _ hw161_0; first | rwa [add_block] at this | exact this) GW163.out))) _).trans (((cell_far (p := ⟨gb163, _, none⟩) (by first | exact Nat.ne_of_lt (Nat.lt_of_lt_of_le (by have := World.block_lt_of_cell? _ _ hw161_0; first | rwa [add_block] at this | exact this) GW163.out) | (rw [add_block]; exact Nat.ne_of_lt (Nat.lt_of_lt_of_le (by have := World.block_lt_of_cell? _ _ hw161_0; first | rwa [add_block] at this | exact this) GW163.out)) | (show (Addr.add _ _).block ≠ _; rw [add_block]; exact Nat.ne_of_lt (Nat.lt_of_lt_of_le (by have := World.block_lt_of_cell? _ _ hw161_0; first | rwa [add_block] at this | exact this) GW163.out)) | (dsimp only; exact Nat.ne_of_lt (Nat.lt_of_lt_of_le (by have := World.block_lt_of_cell? _ _ hw161_0; first | rwa [add_block] at this | exact this) GW163.out))) _).trans (((cell_far (p := ⟨gb163, _, none⟩) (by first | exact Nat.ne_of_lt (Nat.lt_of_lt_of_le (by have := World.block_lt_of_cell? _ _ hw161_0; first | rwa [add_block] at this | exact this) GW163.out) | (rw [add_block]; exact Nat.ne_of_lt (Nat.lt_of_lt_of_le (by have := World.block_lt_of_cell? _ _ hw161_0; first | rwa [add_block] at this | exact this) GW163.out)) | (show (Addr.add _ _).block ≠ _; rw [add_block]; exact Nat.ne_of_lt (Nat.lt_of_lt_of_le (by have := World.block_lt_of_cell? _ _ hw161_0; first | rwa [add_block] at this | exact this) GW163.out)) | (dsimp only; exact Nat.ne_of_lt (Nat.lt_of_lt_of_le (by have := World.block_lt_of_cell? _ _ hw161_0; first | rwa [add_block] at this | exact this) GW163.out))) _).trans (hHeld.2.2.2.2.1)))))))), ((cell_far (p := ⟨gb163, _, none⟩) (by first | exact Nat.ne_of_lt (Nat.lt_of_lt_of_le (by have := World.block_lt_of_cell? _ _ hw161_1; first | rwa [add_block] at this | exact this) GW163.out) | (rw [add_block]; exact Nat.ne_of_lt (Nat.lt_of_lt_of_le (by have := World.block_lt_of_cell? _ _ hw161_1; first | rwa [add_block] at this | exact this) GW163.out)) | (show (Addr.add _ _).block ≠ _; rw [add_block]; exact Nat.ne_of_lt (Nat.lt_of_lt_of_le (by have := World.block_lt_of_cell? _ _ hw161_1; first | rwa [add_block] at this | exact this) GW163.out)) | (dsimp only; exact Nat.ne_of_lt (Nat.lt_of_lt_of_le (by have := World.block_lt_of_cell? _ _ hw161_1; first | rwa [add_block] at this | exact this) GW163.out))) _).trans (((cell_far (p := ⟨gb163, _, none⟩) (by first | exact Nat.ne_of_lt (Nat.lt_of_lt_of_le (by have := World.block_lt_of_cell? _ _ hw161_1; first | rwa [add_block] at this | exact this) GW163.out) | (rw [add_block]; exact Nat.ne_of_lt (Nat.lt_of_lt_of_le (by have := World.block_lt_of_cell? _ _ hw161_1; first | rwa [add_block] at this | exact this) GW163.out)) | (show (Addr.add _ _).block ≠ _; rw [add_block]; exact Nat.ne_of_lt (Nat.lt_of_lt_of_le (by have := World.block_lt_of_cell? _ _ hw161_1; first | rwa [add_block] at this | exact this) GW163.out)) | (dsimp only; exact Nat.ne_of_lt (Nat.lt_of_lt_of_le (by have := World.block_lt_of_cell? _ _ hw161_1; first | rwa [add_block] at this | exact this) GW163.out))) _).trans (((cell_far (p := ⟨gb163, _, none⟩) (by first | exact Nat.ne_of_lt (Nat.lt_of_lt_of_le (by have := World.block_lt_of_cell? _ _ hw161_1; first | rwa [add_block] at this | exact this) GW163.out) | (rw [add_block]; exact Nat.ne_of_lt (Nat.lt_of_lt_of_le (by have := World.block_lt_of_cell? _ _ hw161_1; first | rwa [add_block] at this | exact this) GW163.out)) | (show (Addr.add _ _).block ≠ _; rw [add_block]; exact Nat.ne_of_lt (Nat.lt_of_lt_of_le (by have := World.block_lt_of_cell? _ _ hw161_1; first | rwa [add_block] at this | exact this) GW163.out)) | (dsimp only; exact Nat.ne_of_lt (Nat.lt_of_lt_of_le (by have := World.block_lt_of_cell? _ _ hw161_1; first | rwa [add_block] at this | exact this) GW163.out))) _).trans (((cell_far (p := ⟨gb163, _, none⟩) (by first | exact Nat.ne_of_lt (Nat.lt_of_lt_of_le (by have := World.block_lt_of_cell? _ _ hw161_1; first | rwa [add_block] at this | exact this) GW163.out) | (rw [add_block]; exact Nat.ne_of_lt (Nat.lt_of_lt_of_le (by have := World.block_lt_of_cell? _ _ hw161_1; first | rwa [add_block] at this | exact this) GW163.out)) | (show (Addr.add _ _).block ≠ _; rw [add_block]; exact Nat.ne_of_lt (Nat.lt_of_lt_of_le (by have := World.block_lt_of_cell? _ _ hw161_1; first | rwa [add_block] at this | exact this) GW163.out)) | (dsimp only; exact Nat.ne_of_lt (Nat.lt_of_lt_of_le (by have := World.block_lt_of_cell? _ _ hw161_1; first | rwa [add_block] at this | exact this) GW163.out))) _).trans (hHeld.2.2.2.2.2.1)))))))), ((cell_far (p := ⟨gb163, _, none⟩) (by first | exact Nat.ne_of_lt (Nat.lt_of_lt_of_le (by have := World.block_lt_of_cell? _ _ hw161_2; first | rwa [add_block] at this | exact this) GW163.out) | (rw [add_block]; exact Nat.ne_of_lt (Nat.lt_of_lt_of_le (by have := World.block_lt_of_cell? _ _ hw161_2; first | rwa [add_block] at this | exact this) GW163.out)) | (show (Addr.add _ _).block ≠ _; rw [add_block]; exact Nat.ne_of_lt (Nat.lt_of_lt_of_le (by have := World.block_lt_of_cell? _ _ hw161_2; first | rwa [add_block] at this | exact this) GW163.out)) | (dsimp only; exact Nat.ne_of_lt (Nat.lt_of_lt_of_le (by have := World.block_lt_of_cell? _ _ hw161_2; first | rwa [add_block] at this | exact this) GW163.out))) _).trans (((cell_far (p := ⟨gb163, _, none⟩) (by first | exact Nat.ne_of_lt (Nat.lt_of_lt_of_le (by have := World.block_lt_of_cell? _ _ hw161_2; first | rwa [add_block] at this | exact this) GW163.out) | (rw [add_block]; exact Nat.ne_of_lt (Nat.lt_of_lt_of_le (by have := World.block_lt_of_cell? _ _ hw161_2; first | rwa [add_block] at this | exact this) GW163.out)) | (show (Addr.add _ _).block ≠ _; rw [add_block]; exact Nat.ne_of_lt (Nat.lt_of_lt_of_le (by have := World.block_lt_of_cell? _ _ hw161_2; first | rwa [add_block] at this | exact this) GW163.out)) | (dsimp only; exact Nat.ne_of_lt (Nat.lt_of_lt_of_le (by have := World.block_lt_of_cell? _ _ hw161_2; first | rwa [add_block] at this | exact this) GW163.out))) _).trans (((cell_far (p := ⟨gb163, _, none⟩) (by first | exact Nat.ne_of_lt (Nat.lt_of_lt_of_le (by have := World.block_lt_of_cell? _ _ hw161_2; first | rwa [add_block] at this | exact this) GW163.out) | (rw [add_block]; exact Nat.ne_of_lt (Nat.lt_of_lt_of_le (by have := World.block_lt_of_cell? _ _ hw161_2; first | rwa [add_block] at this | exact this) GW163.out)) | (show (Addr.add _ _).block ≠ _; rw [add_block]; exact Nat.ne_of_lt (Nat.lt_of_lt_of_le (by have := World.block_lt_of_cell? _ _ hw161_2; first | rwa [add_block] at this | exact this) GW163.out)) | (dsimp only; exact Nat.ne_of_lt (Nat.lt_of_lt_of_le (by have := World.block_lt_of_cell? _ _ hw161_2; first | rwa [add_block] at this | exact this) GW163.out))) _).trans (((cell_far (p := ⟨gb163, _, none⟩) (by first | exact Nat.ne_of_lt (Nat.lt_of_lt_of_le (by have := World.block_lt_of_cell? _ _ hw161_2; first | rwa [add_block] at this | exact this) GW163.out) | (rw [add_block]; exact Nat.ne_of_lt (Nat.lt_of_lt_of_le (by have := World.block_lt_of_cell? _ _ hw161_2; first | rwa [add_block] at this | exact this) GW163.out)) | (show (Addr.add _ _).block ≠ _; rw [add_block]; exact Nat.ne_of_lt (Nat.lt_of_lt_of_le (by have := World.block_lt_of_cell? _ _ hw161_2; first | rwa [add_block] at this | exact this) GW163.out)) | (dsimp only; exact Nat.ne_of_lt (Nat.lt_of_lt_of_le (by have := World.block_lt_of_cell? _ _ hw161_2; first | rwa [add_block] at this | exact this) GW163.out))) _).trans (hHeld.2.2.2.2.2.2.1)))))))), ((cell_far (p := ⟨gb163, _, none⟩) (by first | exact Nat.ne_of_lt (Nat.lt_of_lt_of_le (by have := World.block_lt_of_cell? _ _ hw161_3; first | rwa [add_block] at this | exact this) GW163.out) | (rw [add_block]; exact Nat.ne_of_lt (Nat.lt_of_lt_of_le (by have := World.block_lt_of_cell? _ _ hw161_3; first | rwa [add_block] at this | exact this) GW163.out)) | (show (Addr.add _ _).block ≠ _; rw [add_block]; exact Nat.ne_of_lt (Nat.lt_of_lt_of_le (by have := World.block_lt_of_cell? _ _ hw161_3; first | rwa [add_block] at this | exact this) GW163.out)) | (dsimp only; exact Nat.ne_of_lt (Nat.lt_of_lt_of_le (by have := World.block_lt_of_cell? _ _ hw161_3; first | rwa [add_block] at this | exact this) GW163.out))) _).trans (((cell_far (p := ⟨gb163, _, none⟩) (by first | exact Nat.ne_of_lt (Nat.lt_of_lt_of_le (by have := World.block_lt_of_cell? _ _ hw161_3; first | rwa [add_block] at this | exact this) GW163.out) | (rw [add_block]; exact Nat.ne_of_lt (Nat.lt_of_lt_of_le (by have := World.block_lt_of_cell? _ _ hw161_3; first | rwa [add_block] at this | exact this) GW163.out)) | (show (Addr.add _ _).block ≠ _; rw [add_block]; exact Nat.ne_of_lt (Nat.lt_of_lt_of_le (by have := World.block_lt_of_cell? _ _ hw161_3; first | rwa [add_block] at this | exact this) GW163.out)) | (dsimp only; exact Nat.ne_of_lt (Nat.lt_of_lt_of_le (by have := World.block_lt_of_cell? _ _ hw161_3; first | rwa [add_block] at this | exact this) GW163.out))) _).trans (((cell_far (p := ⟨gb163, _, none⟩) (by first | exact Nat.ne_of_lt (Nat.lt_of_lt_of_le (by have := World.block_lt_of_cell? _ _ hw161_3; first | rwa [add_block] at this | exact this) GW163.out) | (rw [add_block]; exact Nat.ne_of_lt (Nat.lt_of_lt_of_le (by have := World.block_lt_of_cell? _ _ hw161_3; first | rwa [add_block] at this | exact this) GW163.out)) | (show (Addr.add _ _).block ≠ _; rw [add_block]; exact Nat.ne_of_lt (Nat.lt_of_lt_of_le (by have := World.block_lt_of_cell? _ _ hw161_3; first | rwa [add_block] at this | exact this) GW163.out)) | (dsimp only; exact Nat.ne_of_lt (Nat.lt_of_lt_of_le (by have := World.block_lt_of_cell? _ _ hw161_3; first | rwa [add_block] at this | exact this) GW163.out))) _).trans (((cell_far (p := ⟨gb163, _, none⟩) (by first | exact Nat.ne_of_lt (Nat.lt_of_lt_of_le (by have := World.block_lt_of_cell? _ _ hw161_3; first | rwa [add_block] at this | exact this) GW163.out) | (rw [add_block]; exact Nat.ne_of_lt (Nat.lt_of_lt_of_le (by have := World.block_lt_of_cell? _ _ hw161_3; first | rwa [add_block] at this | exact this) GW163.out)) | (show (Addr.add _ _).block ≠ _; rw [add_block]; exact Nat.ne_of_lt (Nat.lt_of_lt_of_le (by have := World.block_lt_of_cell? _ _ hw161_3; first | rwa [add_block] at this | exact this) GW163.out)) | (dsimp only; exact Nat.ne_of_lt (Nat.lt_of_lt_of_le (by have := World.block_lt_of_cell? _ _ hw161_3; first | rwa [add_block] at this | exact this) GW163.out))) _).trans (hHeld.2.2.2.2.2.2.2))))))))⟩ (fun hHeld => ?_)
                      clear hK K
                      refine done_ (done_of HT_.out (by kernel_rfl)) ?_
                      have hnb57 := NB162_163.out
                      have hnc57 := NB163_162.out
                      obtain ⟨hcz58_0, hcz58_1, hcz58_2, hcz58_3⟩ := ck4 BK162.out
                      obtain ⟨hfz58_0, hfz58_1, hfz58_2, hfz58_3⟩ := fz4 BK162.out
                      obtain ⟨hcz59_0, hcz59_1, hcz59_2, hcz59_3⟩ := ck4 BK163.out
                      obtain ⟨hfz59_0, hfz59_1, hfz59_2, hfz59_3⟩ := fz4 BK163.out
                      go_upto_if 107 with (fail)
                      have H := HC44.out
                      clear HC44
                      by_cases c60 : ((rd_T29 l0 x13_5).f0).toList = ((rd_T31 l1 x10_3).f0).toList
                      ·
                       rw [if_pos c60] at H
                       have c60b0 : (((rd_T29 l0 x13_5).f0).toList == ((rd_T31 l1 x10_3).f0).toList) = true := beq_iff_eq.mpr c60
                       have c60b1 : (((rd_T29 l0 x13_5).f0).toList != ((rd_T31 l1 x10_3).f0).toList) = false := bne_eq_false_iff_eq.mpr c60
                       clear c60
                       (first | rw [c60b0] | (simp only [i64_w, i32_w]; rw [c60b0]) | skip)
                       by_cases c61 : ((rd_T29 l0 x13_5).f1) > 0
                       ·
                        rw [if_pos c61] at H
                        have c61b0 : decide (0 < ((rd_T29 l0 x13_5).f1)) = true := decide_eq_true c61
                        clear c61
                        by_cases c62 : ((rd_T31 l1 x10_3).f1) ≥ ((rd_T29 l0 x13_5).f1)
                        ·
                         rw [if_pos c62] at H
                         have c62b0 : decide (((rd_T29 l0 x13_5).f1) ≤ ((rd_T31 l1 x10_3).f1)) = true := decide_eq_true c62
                         clear c62
                         have H' := Aside0.mk H
                         clear H
                         have hnb63 := NB162_163.out
                         have hnc63 := NB163_162.out
                         obtain ⟨hcz64_0, hcz64_1, hcz64_2, hcz64_3⟩ := ck4 BK162.out
                         obtain ⟨hfz64_0, hfz64_1, hfz64_2, hfz64_3⟩ := fz4 BK162.out
                         obtain ⟨hcz65_0, hcz65_1, hcz65_2, hcz65_3⟩ := ck4 BK163.out
                         obtain ⟨hfz65_0, hfz65_1, hfz65_2, hfz65_3⟩ := fz4 BK163.out
                         go_wp2
                         go_roundg k5
                         case measure => have := HJ2.out; have := HK2.out; have := HK3.out; have := HK4.out; have := HK5.out; omega
                         case rel => exact ⟨(true), (wrap64 (x13_5 + 1)), (by first | rfl | (simp; done) | (simp [*]; done)), (by first | rfl | (simp; done) | (simp [*]; done)), H', ⟨by have := HJ2.out; have := HK2.out; have := HK3.out; have := HK4.out; have := HK5.out; omega⟩, ⟨by (repeat apply rl1); exact Kd.R_mono (Kd.R_far (p := ⟨gb163, 3, none⟩) (Kd.R_far (p := ⟨gb163, 2, none⟩) (Kd.R_far (p := ⟨gb163, 1, none⟩) (Kd.R_far (p := ⟨gb163, 0, none⟩) (Kd.R_far (p := ⟨gb162, 3, none⟩) (Kd.R_far (p := ⟨gb162, 2, none⟩) (Kd.R_far (p := ⟨gb162, 1, none⟩) (Kd.R_far (p := ⟨gb162, 0, none⟩) (Kd.R_types (Kd.R_types HO_6.out BK162.out (by decide)) BK163.out (by decide)) (fun _ hk => hk.1.2) (.string ((rd_T29 l0 x13_5).f0))) (fun _ hk => hk.1.2) (.int .i64 ((rd_T29 l0 x13_5).f1))) (fun _ hk => hk.1.2) (.int .i64 ((rd_T29 l0 x13_5).f2))) (fun _ hk => hk.1.2) (.int .i64 ((rd_T29 l0 x13_5).f3))) (fun _ hk => hk.2) (.string ((rd_T31 l1 x10_3).f0))) (fun _ hk => hk.2) (.int .i64 ((rd_T31 l1 x10_3).f1))) (fun _ hk => hk.2) (.int .i64 ((rd_T31 l1 x10_3).f2))) (fun _ hk => hk.2) (.int .i64 ((rd_T31 l1 x10_3).f3))) (fun _ hk => hk.1.1)⟩, ⟨by (repeat apply rl1); exact Kd.R_mono (Kd.R_far (p := ⟨gb163, 3, none⟩) (Kd.R_far (p := ⟨gb163, 2, none⟩) (Kd.R_far (p := ⟨gb163, 1, none⟩) (Kd.R_far (p := ⟨gb163, 0, none⟩) (Kd.R_far (p := ⟨gb162, 3, none⟩) (Kd.R_far (p := ⟨gb162, 2, none⟩) (Kd.R_far (p := ⟨gb162, 1, none⟩) (Kd.R_far (p := ⟨gb162, 0, none⟩) (Kd.R_types (Kd.R_types HO_9.out BK162.out (by decide)) BK163.out (by decide)) (fun _ hk => hk.1.2) (.string ((rd_T29 l0 x13_5).f0))) (fun _ hk => hk.1.2) (.int .i64 ((rd_T29 l0 x13_5).f1))) (fun _ hk => hk.1.2) (.int .i64 ((rd_T29 l0 x13_5).f2))) (fun _ hk => hk.1.2) (.int .i64 ((rd_T29 l0 x13_5).f3))) (fun _ hk => hk.2) (.string ((rd_T31 l1 x10_3).f0))) (fun _ hk => hk.2) (.int .i64 ((rd_T31 l1 x10_3).f1))) (fun _ hk => hk.2) (.int .i64 ((rd_T31 l1 x10_3).f2))) (fun _ hk => hk.2) (.int .i64 ((rd_T31 l1 x10_3).f3))) (fun _ hk => hk.1.1)⟩, ⟨by repeat with_reducible first | exact bl HB.out | refine below_set ?_ GE162.out | refine below_set ?_ GE163.out | refine bq ?_⟩⟩
                        ·
                         rw [if_neg c62] at H
                         have c62b0 : decide (((rd_T29 l0 x13_5).f1) ≤ ((rd_T31 l1 x10_3).f1)) = false := decide_eq_false c62
                         clear c62
                         by_cases c66 : ((rd_T29 l0 x13_5).f2) > 0
                         ·
                          rw [if_pos c66] at H
                          have c66b0 : decide (0 < ((rd_T29 l0 x13_5).f2)) = true := decide_eq_true c66
                          clear c66
                          by_cases c67 : ((rd_T31 l1 x10_3).f2) ≥ ((rd_T29 l0 x13_5).f2)
                          ·
                           rw [if_pos c67] at H
                           have c67b0 : decide (((rd_T29 l0 x13_5).f2) ≤ ((rd_T31 l1 x10_3).f2)) = true := decide_eq_true c67
                           clear c67
                           have H' := Aside0.mk H
                           clear H
                           have hnb68 := NB162_163.out
                           have hnc68 := NB163_162.out
                           obtain ⟨hcz69_0, hcz69_1, hcz69_2, hcz69_3⟩ := ck4 BK162.out
                           obtain ⟨hfz69_0, hfz69_1, hfz69_2, hfz69_3⟩ := fz4 BK162.out
                           obtain ⟨hcz70_0, hcz70_1, hcz70_2, hcz70_3⟩ := ck4 BK163.out
                           obtain ⟨hfz70_0, hfz70_1, hfz70_2, hfz70_3⟩ := fz4 BK163.out
                           go_wp2
                           go_roundg k5
                           case measure => have := HJ2.out; have := HK2.out; have := HK3.out; have := HK4.out; have := HK5.out; omega
                           case rel => exact ⟨(true), (wrap64 (x13_5 + 1)), (by first | rfl | (simp; done) | (simp [*]; done)), (by first | rfl | (simp; done) | (simp [*]; done)), H', ⟨by have := HJ2.out; have := HK2.out; have := HK3.out; have := HK4.out; have := HK5.out; omega⟩, ⟨by (repeat apply rl1); exact Kd.R_mono (Kd.R_far (p := ⟨gb163, 3, none⟩) (Kd.R_far (p := ⟨gb163, 2, none⟩) (Kd.R_far (p := ⟨gb163, 1, none⟩) (Kd.R_far (p := ⟨gb163, 0, none⟩) (Kd.R_far (p := ⟨gb162, 3, none⟩) (Kd.R_far (p := ⟨gb162, 2, none⟩) (Kd.R_far (p := ⟨gb162, 1, none⟩) (Kd.R_far (p := ⟨gb162, 0, none⟩) (Kd.R_types (Kd.R_types HO_6.out BK162.out (by decide)) BK163.out (by decide)) (fun _ hk => hk.1.2) (.string ((rd_T29 l0 x13_5).f0))) (fun _ hk => hk.1.2) (.int .i64 ((rd_T29 l0 x13_5).f1))) (fun _ hk => hk.1.2) (.int .i64 ((rd_T29 l0 x13_5).f2))) (fun _ hk => hk.1.2) (.int .i64 ((rd_T29 l0 x13_5).f3))) (fun _ hk => hk.2) (.string ((rd_T31 l1 x10_3).f0))) (fun _ hk => hk.2) (.int .i64 ((rd_T31 l1 x10_3).f1))) (fun _ hk => hk.2) (.int .i64 ((rd_T31 l1 x10_3).f2))) (fun _ hk => hk.2) (.int .i64 ((rd_T31 l1 x10_3).f3))) (fun _ hk => hk.1.1)⟩, ⟨by (repeat apply rl1); exact Kd.R_mono (Kd.R_far (p := ⟨gb163, 3, none⟩) (Kd.R_far (p := ⟨gb163, 2, none⟩) (Kd.R_far (p := ⟨gb163, 1, none⟩) (Kd.R_far (p := ⟨gb163, 0, none⟩) (Kd.R_far (p := ⟨gb162, 3, none⟩) (Kd.R_far (p := ⟨gb162, 2, none⟩) (Kd.R_far (p := ⟨gb162, 1, none⟩) (Kd.R_far (p := ⟨gb162, 0, none⟩) (Kd.R_types (Kd.R_types HO_9.out BK162.out (by decide)) BK163.out (by decide)) (fun _ hk => hk.1.2) (.string ((rd_T29 l0 x13_5).f0))) (fun _ hk => hk.1.2) (.int .i64 ((rd_T29 l0 x13_5).f1))) (fun _ hk => hk.1.2) (.int .i64 ((rd_T29 l0 x13_5).f2))) (fun _ hk => hk.1.2) (.int .i64 ((rd_T29 l0 x13_5).f3))) (fun _ hk => hk.2) (.string ((rd_T31 l1 x10_3).f0))) (fun _ hk => hk.2) (.int .i64 ((rd_T31 l1 x10_3).f1))) (fun _ hk => hk.2) (.int .i64 ((rd_T31 l1 x10_3).f2))) (fun _ hk => hk.2) (.int .i64 ((rd_T31 l1 x10_3).f3))) (fun _ hk => hk.1.1)⟩, ⟨by repeat with_reducible first | exact bl HB.out | refine below_set ?_ GE162.out | refine below_set ?_ GE163.out | refine bq ?_⟩⟩
                          ·
                           rw [if_neg c67] at H
                           have c67b0 : decide (((rd_T29 l0 x13_5).f2) ≤ ((rd_T31 l1 x10_3).f2)) = false := decide_eq_false c67
                           clear c67
                           by_cases c71 : ((rd_T29 l0 x13_5).f3) > 0
                           ·
                            rw [if_pos c71] at H
                            have c71b0 : decide (0 < ((rd_T29 l0 x13_5).f3)) = true := decide_eq_true c71
                            clear c71
                            have H' := Aside0.mk H
                            clear H
                            have hnb72 := NB162_163.out
                            have hnc72 := NB163_162.out
                            obtain ⟨hcz73_0, hcz73_1, hcz73_2, hcz73_3⟩ := ck4 BK162.out
                            obtain ⟨hfz73_0, hfz73_1, hfz73_2, hfz73_3⟩ := fz4 BK162.out
                            obtain ⟨hcz74_0, hcz74_1, hcz74_2, hcz74_3⟩ := ck4 BK163.out
                            obtain ⟨hfz74_0, hfz74_1, hfz74_2, hfz74_3⟩ := fz4 BK163.out
                            go_wp2
                            go_roundg k5
                            case measure => have := HJ2.out; have := HK2.out; have := HK3.out; have := HK4.out; have := HK5.out; omega
                            case rel => exact ⟨(decide (((rd_T31 l1 x10_3).f3) ≥ ((rd_T29 l0 x13_5).f3))), (wrap64 (x13_5 + 1)), (by first | rfl | (simp; done) | (simp [*]; done)), (by first | rfl | (simp; done) | (simp [*]; done)), H', ⟨by have := HJ2.out; have := HK2.out; have := HK3.out; have := HK4.out; have := HK5.out; omega⟩, ⟨by (repeat apply rl1); exact Kd.R_mono (Kd.R_far (p := ⟨gb163, 3, none⟩) (Kd.R_far (p := ⟨gb163, 2, none⟩) (Kd.R_far (p := ⟨gb163, 1, none⟩) (Kd.R_far (p := ⟨gb163, 0, none⟩) (Kd.R_far (p := ⟨gb162, 3, none⟩) (Kd.R_far (p := ⟨gb162, 2, none⟩) (Kd.R_far (p := ⟨gb162, 1, none⟩) (Kd.R_far (p := ⟨gb162, 0, none⟩) (Kd.R_types (Kd.R_types HO_6.out BK162.out (by decide)) BK163.out (by decide)) (fun _ hk => hk.1.2) (.string ((rd_T29 l0 x13_5).f0))) (fun _ hk => hk.1.2) (.int .i64 ((rd_T29 l0 x13_5).f1))) (fun _ hk => hk.1.2) (.int .i64 ((rd_T29 l0 x13_5).f2))) (fun _ hk => hk.1.2) (.int .i64 ((rd_T29 l0 x13_5).f3))) (fun _ hk => hk.2) (.string ((rd_T31 l1 x10_3).f0))) (fun _ hk => hk.2) (.int .i64 ((rd_T31 l1 x10_3).f1))) (fun _ hk => hk.2) (.int .i64 ((rd_T31 l1 x10_3).f2))) (fun _ hk => hk.2) (.int .i64 ((rd_T31 l1 x10_3).f3))) (fun _ hk => hk.1.1)⟩, ⟨by (repeat apply rl1); exact Kd.R_mono (Kd.R_far (p := ⟨gb163, 3, none⟩) (Kd.R_far (p := ⟨gb163, 2, none⟩) (Kd.R_far (p := ⟨gb163, 1, none⟩) (Kd.R_far (p := ⟨gb163, 0, none⟩) (Kd.R_far (p := ⟨gb162, 3, none⟩) (Kd.R_far (p := ⟨gb162, 2, none⟩) (Kd.R_far (p := ⟨gb162, 1, none⟩) (Kd.R_far (p := ⟨gb162, 0, none⟩) (Kd.R_types (Kd.R_types HO_9.out BK162.out (by decide)) BK163.out (by decide)) (fun _ hk => hk.1.2) (.string ((rd_T29 l0 x13_5).f0))) (fun _ hk => hk.1.2) (.int .i64 ((rd_T29 l0 x13_5).f1))) (fun _ hk => hk.1.2) (.int .i64 ((rd_T29 l0 x13_5).f2))) (fun _ hk => hk.1.2) (.int .i64 ((rd_T29 l0 x13_5).f3))) (fun _ hk => hk.2) (.string ((rd_T31 l1 x10_3).f0))) (fun _ hk => hk.2) (.int .i64 ((rd_T31 l1 x10_3).f1))) (fun _ hk => hk.2) (.int .i64 ((rd_T31 l1 x10_3).f2))) (fun _ hk => hk.2) (.int .i64 ((rd_T31 l1 x10_3).f3))) (fun _ hk => hk.1.1)⟩, ⟨by repeat with_reducible first | exact bl HB.out | refine below_set ?_ GE162.out | refine below_set ?_ GE163.out | refine bq ?_⟩⟩
                           ·
                            rw [if_neg c71] at H
                            have c71b0 : decide (0 < ((rd_T29 l0 x13_5).f3)) = false := decide_eq_false c71
                            clear c71
                            have H' := Aside0.mk H
                            clear H
                            have hnb75 := NB162_163.out
                            have hnc75 := NB163_162.out
                            obtain ⟨hcz76_0, hcz76_1, hcz76_2, hcz76_3⟩ := ck4 BK162.out
                            obtain ⟨hfz76_0, hfz76_1, hfz76_2, hfz76_3⟩ := fz4 BK162.out
                            obtain ⟨hcz77_0, hcz77_1, hcz77_2, hcz77_3⟩ := ck4 BK163.out
                            obtain ⟨hfz77_0, hfz77_1, hfz77_2, hfz77_3⟩ := fz4 BK163.out
                            go_wp2
                            go_roundg k5
                            case measure => have := HJ2.out; have := HK2.out; have := HK3.out; have := HK4.out; have := HK5.out; omega
                            case rel => exact ⟨(false), (wrap64 (x13_5 + 1)), (by first | rfl | (simp; done) | (simp [*]; done)), (by first | rfl | (simp; done) | (simp [*]; done)), H', ⟨by have := HJ2.out; have := HK2.out; have := HK3.out; have := HK4.out; have := HK5.out; omega⟩, ⟨by (repeat apply rl1); exact Kd.R_mono (Kd.R_far (p := ⟨gb163, 3, none⟩) (Kd.R_far (p := ⟨gb163, 2, none⟩) (Kd.R_far (p := ⟨gb163, 1, none⟩) (Kd.R_far (p := ⟨gb163, 0, none⟩) (Kd.R_far (p := ⟨gb162, 3, none⟩) (Kd.R_far (p := ⟨gb162, 2, none⟩) (Kd.R_far (p := ⟨gb162, 1, none⟩) (Kd.R_far (p := ⟨gb162, 0, none⟩) (Kd.R_types (Kd.R_types HO_6.out BK162.out (by decide)) BK163.out (by decide)) (fun _ hk => hk.1.2) (.string ((rd_T29 l0 x13_5).f0))) (fun _ hk => hk.1.2) (.int .i64 ((rd_T29 l0 x13_5).f1))) (fun _ hk => hk.1.2) (.int .i64 ((rd_T29 l0 x13_5).f2))) (fun _ hk => hk.1.2) (.int .i64 ((rd_T29 l0 x13_5).f3))) (fun _ hk => hk.2) (.string ((rd_T31 l1 x10_3).f0))) (fun _ hk => hk.2) (.int .i64 ((rd_T31 l1 x10_3).f1))) (fun _ hk => hk.2) (.int .i64 ((rd_T31 l1 x10_3).f2))) (fun _ hk => hk.2) (.int .i64 ((rd_T31 l1 x10_3).f3))) (fun _ hk => hk.1.1)⟩, ⟨by (repeat apply rl1); exact Kd.R_mono (Kd.R_far (p := ⟨gb163, 3, none⟩) (Kd.R_far (p := ⟨gb163, 2, none⟩) (Kd.R_far (p := ⟨gb163, 1, none⟩) (Kd.R_far (p := ⟨gb163, 0, none⟩) (Kd.R_far (p := ⟨gb162, 3, none⟩) (Kd.R_far (p := ⟨gb162, 2, none⟩) (Kd.R_far (p := ⟨gb162, 1, none⟩) (Kd.R_far (p := ⟨gb162, 0, none⟩) (Kd.R_types (Kd.R_types HO_9.out BK162.out (by decide)) BK163.out (by decide)) (fun _ hk => hk.1.2) (.string ((rd_T29 l0 x13_5).f0))) (fun _ hk => hk.1.2) (.int .i64 ((rd_T29 l0 x13_5).f1))) (fun _ hk => hk.1.2) (.int .i64 ((rd_T29 l0 x13_5).f2))) (fun _ hk => hk.1.2) (.int .i64 ((rd_T29 l0 x13_5).f3))) (fun _ hk => hk.2) (.string ((rd_T31 l1 x10_3).f0))) (fun _ hk => hk.2) (.int .i64 ((rd_T31 l1 x10_3).f1))) (fun _ hk => hk.2) (.int .i64 ((rd_T31 l1 x10_3).f2))) (fun _ hk => hk.2) (.int .i64 ((rd_T31 l1 x10_3).f3))) (fun _ hk => hk.1.1)⟩, ⟨by repeat with_reducible first | exact bl HB.out | refine below_set ?_ GE162.out | refine below_set ?_ GE163.out | refine bq ?_⟩⟩
                         ·
                          rw [if_neg c66] at H
                          have c66b0 : decide (0 < ((rd_T29 l0 x13_5).f2)) = false := decide_eq_false c66
                          clear c66
                          by_cases c78 : ((rd_T29 l0 x13_5).f3) > 0
                          ·
                           rw [if_pos c78] at H
                           have c78b0 : decide (0 < ((rd_T29 l0 x13_5).f3)) = true := decide_eq_true c78
                           clear c78
                           have H' := Aside0.mk H
                           clear H
                           have hnb79 := NB162_163.out
                           have hnc79 := NB163_162.out
                           obtain ⟨hcz80_0, hcz80_1, hcz80_2, hcz80_3⟩ := ck4 BK162.out
                           obtain ⟨hfz80_0, hfz80_1, hfz80_2, hfz80_3⟩ := fz4 BK162.out
                           obtain ⟨hcz81_0, hcz81_1, hcz81_2, hcz81_3⟩ := ck4 BK163.out
                           obtain ⟨hfz81_0, hfz81_1, hfz81_2, hfz81_3⟩ := fz4 BK163.out
                           go_wp2
                           go_roundg k5
                           case measure => have := HJ2.out; have := HK2.out; have := HK3.out; have := HK4.out; have := HK5.out; omega
                           case rel => exact ⟨(decide (((rd_T31 l1 x10_3).f3) ≥ ((rd_T29 l0 x13_5).f3))), (wrap64 (x13_5 + 1)), (by first | rfl | (simp; done) | (simp [*]; done)), (by first | rfl | (simp; done) | (simp [*]; done)), H', ⟨by have := HJ2.out; have := HK2.out; have := HK3.out; have := HK4.out; have := HK5.out; omega⟩, ⟨by (repeat apply rl1); exact Kd.R_mono (Kd.R_far (p := ⟨gb163, 3, none⟩) (Kd.R_far (p := ⟨gb163, 2, none⟩) (Kd.R_far (p := ⟨gb163, 1, none⟩) (Kd.R_far (p := ⟨gb163, 0, none⟩) (Kd.R_far (p := ⟨gb162, 3, none⟩) (Kd.R_far (p := ⟨gb162, 2, none⟩) (Kd.R_far (p := ⟨gb162, 1, none⟩) (Kd.R_far (p := ⟨gb162, 0, none⟩) (Kd.R_types (Kd.R_types HO_6.out BK162.out (by decide)) BK163.out (by decide)) (fun _ hk => hk.1.2) (.string ((rd_T29 l0 x13_5).f0))) (fun _ hk => hk.1.2) (.int .i64 ((rd_T29 l0 x13_5).f1))) (fun _ hk => hk.1.2) (.int .i64 ((rd_T29 l0 x13_5).f2))) (fun _ hk => hk.1.2) (.int .i64 ((rd_T29 l0 x13_5).f3))) (fun _ hk => hk.2) (.string ((rd_T31 l1 x10_3).f0))) (fun _ hk => hk.2) (.int .i64 ((rd_T31 l1 x10_3).f1))) (fun _ hk => hk.2) (.int .i64 ((rd_T31 l1 x10_3).f2))) (fun _ hk => hk.2) (.int .i64 ((rd_T31 l1 x10_3).f3))) (fun _ hk => hk.1.1)⟩, ⟨by (repeat apply rl1); exact Kd.R_mono (Kd.R_far (p := ⟨gb163, 3, none⟩) (Kd.R_far (p := ⟨gb163, 2, none⟩) (Kd.R_far (p := ⟨gb163, 1, none⟩) (Kd.R_far (p := ⟨gb163, 0, none⟩) (Kd.R_far (p := ⟨gb162, 3, none⟩) (Kd.R_far (p := ⟨gb162, 2, none⟩) (Kd.R_far (p := ⟨gb162, 1, none⟩) (Kd.R_far (p := ⟨gb162, 0, none⟩) (Kd.R_types (Kd.R_types HO_9.out BK162.out (by decide)) BK163.out (by decide)) (fun _ hk => hk.1.2) (.string ((rd_T29 l0 x13_5).f0))) (fun _ hk => hk.1.2) (.int .i64 ((rd_T29 l0 x13_5).f1))) (fun _ hk => hk.1.2) (.int .i64 ((rd_T29 l0 x13_5).f2))) (fun _ hk => hk.1.2) (.int .i64 ((rd_T29 l0 x13_5).f3))) (fun _ hk => hk.2) (.string ((rd_T31 l1 x10_3).f0))) (fun _ hk => hk.2) (.int .i64 ((rd_T31 l1 x10_3).f1))) (fun _ hk => hk.2) (.int .i64 ((rd_T31 l1 x10_3).f2))) (fun _ hk => hk.2) (.int .i64 ((rd_T31 l1 x10_3).f3))) (fun _ hk => hk.1.1)⟩, ⟨by repeat with_reducible first | exact bl HB.out | refine below_set ?_ GE162.out | refine below_set ?_ GE163.out | refine bq ?_⟩⟩
                          ·
                           rw [if_neg c78] at H
                           have c78b0 : decide (0 < ((rd_T29 l0 x13_5).f3)) = false := decide_eq_false c78
                           clear c78
                           have H' := Aside0.mk H
                           clear H
                           have hnb82 := NB162_163.out
                           have hnc82 := NB163_162.out
                           obtain ⟨hcz83_0, hcz83_1, hcz83_2, hcz83_3⟩ := ck4 BK162.out
                           obtain ⟨hfz83_0, hfz83_1, hfz83_2, hfz83_3⟩ := fz4 BK162.out
                           obtain ⟨hcz84_0, hcz84_1, hcz84_2, hcz84_3⟩ := ck4 BK163.out
                           obtain ⟨hfz84_0, hfz84_1, hfz84_2, hfz84_3⟩ := fz4 BK163.out
                           go_wp2
                           go_roundg k5
                           case measure => have := HJ2.out; have := HK2.out; have := HK3.out; have := HK4.out; have := HK5.out; omega
                           case rel => exact ⟨(false), (wrap64 (x13_5 + 1)), (by first | rfl | (simp; done) | (simp [*]; done)), (by first | rfl | (simp; done) | (simp [*]; done)), H', ⟨by have := HJ2.out; have := HK2.out; have := HK3.out; have := HK4.out; have := HK5.out; omega⟩, ⟨by (repeat apply rl1); exact Kd.R_mono (Kd.R_far (p := ⟨gb163, 3, none⟩) (Kd.R_far (p := ⟨gb163, 2, none⟩) (Kd.R_far (p := ⟨gb163, 1, none⟩) (Kd.R_far (p := ⟨gb163, 0, none⟩) (Kd.R_far (p := ⟨gb162, 3, none⟩) (Kd.R_far (p := ⟨gb162, 2, none⟩) (Kd.R_far (p := ⟨gb162, 1, none⟩) (Kd.R_far (p := ⟨gb162, 0, none⟩) (Kd.R_types (Kd.R_types HO_6.out BK162.out (by decide)) BK163.out (by decide)) (fun _ hk => hk.1.2) (.string ((rd_T29 l0 x13_5).f0))) (fun _ hk => hk.1.2) (.int .i64 ((rd_T29 l0 x13_5).f1))) (fun _ hk => hk.1.2) (.int .i64 ((rd_T29 l0 x13_5).f2))) (fun _ hk => hk.1.2) (.int .i64 ((rd_T29 l0 x13_5).f3))) (fun _ hk => hk.2) (.string ((rd_T31 l1 x10_3).f0))) (fun _ hk => hk.2) (.int .i64 ((rd_T31 l1 x10_3).f1))) (fun _ hk => hk.2) (.int .i64 ((rd_T31 l1 x10_3).f2))) (fun _ hk => hk.2) (.int .i64 ((rd_T31 l1 x10_3).f3))) (fun _ hk => hk.1.1)⟩, ⟨by (repeat apply rl1); exact Kd.R_mono (Kd.R_far (p := ⟨gb163, 3, none⟩) (Kd.R_far (p := ⟨gb163, 2, none⟩) (Kd.R_far (p := ⟨gb163, 1, none⟩) (Kd.R_far (p := ⟨gb163, 0, none⟩) (Kd.R_far (p := ⟨gb162, 3, none⟩) (Kd.R_far (p := ⟨gb162, 2, none⟩) (Kd.R_far (p := ⟨gb162, 1, none⟩) (Kd.R_far (p := ⟨gb162, 0, none⟩) (Kd.R_types (Kd.R_types HO_9.out BK162.out (by decide)) BK163.out (by decide)) (fun _ hk => hk.1.2) (.string ((rd_T29 l0 x13_5).f0))) (fun _ hk => hk.1.2) (.int .i64 ((rd_T29 l0 x13_5).f1))) (fun _ hk => hk.1.2) (.int .i64 ((rd_T29 l0 x13_5).f2))) (fun _ hk => hk.1.2) (.int .i64 ((rd_T29 l0 x13_5).f3))) (fun _ hk => hk.2) (.string ((rd_T31 l1 x10_3).f0))) (fun _ hk => hk.2) (.int .i64 ((rd_T31 l1 x10_3).f1))) (fun _ hk => hk.2) (.int .i64 ((rd_T31 l1 x10_3).f2))) (fun _ hk => hk.2) (.int .i64 ((rd_T31 l1 x10_3).f3))) (fun _ hk => hk.1.1)⟩, ⟨by repeat with_reducible first | exact bl HB.out | refine below_set ?_ GE162.out | refine below_set ?_ GE163.out | refine bq ?_⟩⟩
                       ·
                        rw [if_neg c61] at H
                        have c61b0 : decide (0 < ((rd_T29 l0 x13_5).f1)) = false := decide_eq_false c61
                        clear c61
                        by_cases c85 : ((rd_T29 l0 x13_5).f2) > 0
                        ·
                         rw [if_pos c85] at H
                         have c85b0 : decide (0 < ((rd_T29 l0 x13_5).f2)) = true := decide_eq_true c85
                         clear c85
                         by_cases c86 : ((rd_T31 l1 x10_3).f2) ≥ ((rd_T29 l0 x13_5).f2)
                         ·
                          rw [if_pos c86] at H
                          have c86b0 : decide (((rd_T29 l0 x13_5).f2) ≤ ((rd_T31 l1 x10_3).f2)) = true := decide_eq_true c86
                          clear c86
                          have H' := Aside0.mk H
                          clear H
                          have hnb87 := NB162_163.out
                          have hnc87 := NB163_162.out
                          obtain ⟨hcz88_0, hcz88_1, hcz88_2, hcz88_3⟩ := ck4 BK162.out
                          obtain ⟨hfz88_0, hfz88_1, hfz88_2, hfz88_3⟩ := fz4 BK162.out
                          obtain ⟨hcz89_0, hcz89_1, hcz89_2, hcz89_3⟩ := ck4 BK163.out
                          obtain ⟨hfz89_0, hfz89_1, hfz89_2, hfz89_3⟩ := fz4 BK163.out
                          go_wp2
                          go_roundg k5
                          case measure => have := HJ2.out; have := HK2.out; have := HK3.out; have := HK4.out; have := HK5.out; omega
                          case rel => exact ⟨(true), (wrap64 (x13_5 + 1)), (by first | rfl | (simp; done) | (simp [*]; done)), (by first | rfl | (simp; done) | (simp [*]; done)), H', ⟨by have := HJ2.out; have := HK2.out; have := HK3.out; have := HK4.out; have := HK5.out; omega⟩, ⟨by (repeat apply rl1); exact Kd.R_mono (Kd.R_far (p := ⟨gb163, 3, none⟩) (Kd.R_far (p := ⟨gb163, 2, none⟩) (Kd.R_far (p := ⟨gb163, 1, none⟩) (Kd.R_far (p := ⟨gb163, 0, none⟩) (Kd.R_far (p := ⟨gb162, 3, none⟩) (Kd.R_far (p := ⟨gb162, 2, none⟩) (Kd.R_far (p := ⟨gb162, 1, none⟩) (Kd.R_far (p := ⟨gb162, 0, none⟩) (Kd.R_types (Kd.R_types HO_6.out BK162.out (by decide)) BK163.out (by decide)) (fun _ hk => hk.1.2) (.string ((rd_T29 l0 x13_5).f0))) (fun _ hk => hk.1.2) (.int .i64 ((rd_T29 l0 x13_5).f1))) (fun _ hk => hk.1.2) (.int .i64 ((rd_T29 l0 x13_5).f2))) (fun _ hk => hk.1.2) (.int .i64 ((rd_T29 l0 x13_5).f3))) (fun _ hk => hk.2) (.string ((rd_T31 l1 x10_3).f0))) (fun _ hk => hk.2) (.int .i64 ((rd_T31 l1 x10_3).f1))) (fun _ hk => hk.2) (.int .i64 ((rd_T31 l1 x10_3).f2))) (fun _ hk => hk.2) (.int .i64 ((rd_T31 l1 x10_3).f3))) (fun _ hk => hk.1.1)⟩, ⟨by (repeat apply rl1); exact Kd.R_mono (Kd.R_far (p := ⟨gb163, 3, none⟩) (Kd.R_far (p := ⟨gb163, 2, none⟩) (Kd.R_far (p := ⟨gb163, 1, none⟩) (Kd.R_far (p := ⟨gb163, 0, none⟩) (Kd.R_far (p := ⟨gb162, 3, none⟩) (Kd.R_far (p := ⟨gb162, 2, none⟩) (Kd.R_far (p := ⟨gb162, 1, none⟩) (Kd.R_far (p := ⟨gb162, 0, none⟩) (Kd.R_types (Kd.R_types HO_9.out BK162.out (by decide)) BK163.out (by decide)) (fun _ hk => hk.1.2) (.string ((rd_T29 l0 x13_5).f0))) (fun _ hk => hk.1.2) (.int .i64 ((rd_T29 l0 x13_5).f1))) (fun _ hk => hk.1.2) (.int .i64 ((rd_T29 l0 x13_5).f2))) (fun _ hk => hk.1.2) (.int .i64 ((rd_T29 l0 x13_5).f3))) (fun _ hk => hk.2) (.string ((rd_T31 l1 x10_3).f0))) (fun _ hk => hk.2) (.int .i64 ((rd_T31 l1 x10_3).f1))) (fun _ hk => hk.2) (.int .i64 ((rd_T31 l1 x10_3).f2))) (fun _ hk => hk.2) (.int .i64 ((rd_T31 l1 x10_3).f3))) (fun _ hk => hk.1.1)⟩, ⟨by repeat with_reducible first | exact bl HB.out | refine below_set ?_ GE162.out | refine below_set ?_ GE163.out | refine bq ?_⟩⟩
                         ·
                          rw [if_neg c86] at H
                          have c86b0 : decide (((rd_T29 l0 x13_5).f2) ≤ ((rd_T31 l1 x10_3).f2)) = false := decide_eq_false c86
                          clear c86
                          by_cases c90 : ((rd_T29 l0 x13_5).f3) > 0
                          ·
                           rw [if_pos c90] at H
                           have c90b0 : decide (0 < ((rd_T29 l0 x13_5).f3)) = true := decide_eq_true c90
                           clear c90
                           have H' := Aside0.mk H
                           clear H
                           have hnb91 := NB162_163.out
                           have hnc91 := NB163_162.out
                           obtain ⟨hcz92_0, hcz92_1, hcz92_2, hcz92_3⟩ := ck4 BK162.out
                           obtain ⟨hfz92_0, hfz92_1, hfz92_2, hfz92_3⟩ := fz4 BK162.out
                           obtain ⟨hcz93_0, hcz93_1, hcz93_2, hcz93_3⟩ := ck4 BK163.out
                           obtain ⟨hfz93_0, hfz93_1, hfz93_2, hfz93_3⟩ := fz4 BK163.out
                           go_wp2
                           go_roundg k5
                           case measure => have := HJ2.out; have := HK2.out; have := HK3.out; have := HK4.out; have := HK5.out; omega
                           case rel => exact ⟨(decide (((rd_T31 l1 x10_3).f3) ≥ ((rd_T29 l0 x13_5).f3))), (wrap64 (x13_5 + 1)), (by first | rfl | (simp; done) | (simp [*]; done)), (by first | rfl | (simp; done) | (simp [*]; done)), H', ⟨by have := HJ2.out; have := HK2.out; have := HK3.out; have := HK4.out; have := HK5.out; omega⟩, ⟨by (repeat apply rl1); exact Kd.R_mono (Kd.R_far (p := ⟨gb163, 3, none⟩) (Kd.R_far (p := ⟨gb163, 2, none⟩) (Kd.R_far (p := ⟨gb163, 1, none⟩) (Kd.R_far (p := ⟨gb163, 0, none⟩) (Kd.R_far (p := ⟨gb162, 3, none⟩) (Kd.R_far (p := ⟨gb162, 2, none⟩) (Kd.R_far (p := ⟨gb162, 1, none⟩) (Kd.R_far (p := ⟨gb162, 0, none⟩) (Kd.R_types (Kd.R_types HO_6.out BK162.out (by decide)) BK163.out (by decide)) (fun _ hk => hk.1.2) (.string ((rd_T29 l0 x13_5).f0))) (fun _ hk => hk.1.2) (.int .i64 ((rd_T29 l0 x13_5).f1))) (fun _ hk => hk.1.2) (.int .i64 ((rd_T29 l0 x13_5).f2))) (fun _ hk => hk.1.2) (.int .i64 ((rd_T29 l0 x13_5).f3))) (fun _ hk => hk.2) (.string ((rd_T31 l1 x10_3).f0))) (fun _ hk => hk.2) (.int .i64 ((rd_T31 l1 x10_3).f1))) (fun _ hk => hk.2) (.int .i64 ((rd_T31 l1 x10_3).f2))) (fun _ hk => hk.2) (.int .i64 ((rd_T31 l1 x10_3).f3))) (fun _ hk => hk.1.1)⟩, ⟨by (repeat apply rl1); exact Kd.R_mono (Kd.R_far (p := ⟨gb163, 3, none⟩) (Kd.R_far (p := ⟨gb163, 2, none⟩) (Kd.R_far (p := ⟨gb163, 1, none⟩) (Kd.R_far (p := ⟨gb163, 0, none⟩) (Kd.R_far (p := ⟨gb162, 3, none⟩) (Kd.R_far (p := ⟨gb162, 2, none⟩) (Kd.R_far (p := ⟨gb162, 1, none⟩) (Kd.R_far (p := ⟨gb162, 0, none⟩) (Kd.R_types (Kd.R_types HO_9.out BK162.out (by decide)) BK163.out (by decide)) (fun _ hk => hk.1.2) (.string ((rd_T29 l0 x13_5).f0))) (fun _ hk => hk.1.2) (.int .i64 ((rd_T29 l0 x13_5).f1))) (fun _ hk => hk.1.2) (.int .i64 ((rd_T29 l0 x13_5).f2))) (fun _ hk => hk.1.2) (.int .i64 ((rd_T29 l0 x13_5).f3))) (fun _ hk => hk.2) (.string ((rd_T31 l1 x10_3).f0))) (fun _ hk => hk.2) (.int .i64 ((rd_T31 l1 x10_3).f1))) (fun _ hk => hk.2) (.int .i64 ((rd_T31 l1 x10_3).f2))) (fun _ hk => hk.2) (.int .i64 ((rd_T31 l1 x10_3).f3))) (fun _ hk => hk.1.1)⟩, ⟨by repeat with_reducible first | exact bl HB.out | refine below_set ?_ GE162.out | refine below_set ?_ GE163.out | refine bq ?_⟩⟩
                          ·
                           rw [if_neg c90] at H
                           have c90b0 : decide (0 < ((rd_T29 l0 x13_5).f3)) = false := decide_eq_false c90
                           clear c90
                           have H' := Aside0.mk H
                           clear H
                           have hnb94 := NB162_163.out
                           have hnc94 := NB163_162.out
                           obtain ⟨hcz95_0, hcz95_1, hcz95_2, hcz95_3⟩ := ck4 BK162.out
                           obtain ⟨hfz95_0, hfz95_1, hfz95_2, hfz95_3⟩ := fz4 BK162.out
                           obtain ⟨hcz96_0, hcz96_1, hcz96_2, hcz96_3⟩ := ck4 BK163.out
                           obtain ⟨hfz96_0, hfz96_1, hfz96_2, hfz96_3⟩ := fz4 BK163.out
                           go_wp2
                           go_roundg k5
                           case measure => have := HJ2.out; have := HK2.out; have := HK3.out; have := HK4.out; have := HK5.out; omega
                           case rel => exact ⟨(false), (wrap64 (x13_5 + 1)), (by first | rfl | (simp; done) | (simp [*]; done)), (by first | rfl | (simp; done) | (simp [*]; done)), H', ⟨by have := HJ2.out; have := HK2.out; have := HK3.out; have := HK4.out; have := HK5.out; omega⟩, ⟨by (repeat apply rl1); exact Kd.R_mono (Kd.R_far (p := ⟨gb163, 3, none⟩) (Kd.R_far (p := ⟨gb163, 2, none⟩) (Kd.R_far (p := ⟨gb163, 1, none⟩) (Kd.R_far (p := ⟨gb163, 0, none⟩) (Kd.R_far (p := ⟨gb162, 3, none⟩) (Kd.R_far (p := ⟨gb162, 2, none⟩) (Kd.R_far (p := ⟨gb162, 1, none⟩) (Kd.R_far (p := ⟨gb162, 0, none⟩) (Kd.R_types (Kd.R_types HO_6.out BK162.out (by decide)) BK163.out (by decide)) (fun _ hk => hk.1.2) (.string ((rd_T29 l0 x13_5).f0))) (fun _ hk => hk.1.2) (.int .i64 ((rd_T29 l0 x13_5).f1))) (fun _ hk => hk.1.2) (.int .i64 ((rd_T29 l0 x13_5).f2))) (fun _ hk => hk.1.2) (.int .i64 ((rd_T29 l0 x13_5).f3))) (fun _ hk => hk.2) (.string ((rd_T31 l1 x10_3).f0))) (fun _ hk => hk.2) (.int .i64 ((rd_T31 l1 x10_3).f1))) (fun _ hk => hk.2) (.int .i64 ((rd_T31 l1 x10_3).f2))) (fun _ hk => hk.2) (.int .i64 ((rd_T31 l1 x10_3).f3))) (fun _ hk => hk.1.1)⟩, ⟨by (repeat apply rl1); exact Kd.R_mono (Kd.R_far (p := ⟨gb163, 3, none⟩) (Kd.R_far (p := ⟨gb163, 2, none⟩) (Kd.R_far (p := ⟨gb163, 1, none⟩) (Kd.R_far (p := ⟨gb163, 0, none⟩) (Kd.R_far (p := ⟨gb162, 3, none⟩) (Kd.R_far (p := ⟨gb162, 2, none⟩) (Kd.R_far (p := ⟨gb162, 1, none⟩) (Kd.R_far (p := ⟨gb162, 0, none⟩) (Kd.R_types (Kd.R_types HO_9.out BK162.out (by decide)) BK163.out (by decide)) (fun _ hk => hk.1.2) (.string ((rd_T29 l0 x13_5).f0))) (fun _ hk => hk.1.2) (.int .i64 ((rd_T29 l0 x13_5).f1))) (fun _ hk => hk.1.2) (.int .i64 ((rd_T29 l0 x13_5).f2))) (fun _ hk => hk.1.2) (.int .i64 ((rd_T29 l0 x13_5).f3))) (fun _ hk => hk.2) (.string ((rd_T31 l1 x10_3).f0))) (fun _ hk => hk.2) (.int .i64 ((rd_T31 l1 x10_3).f1))) (fun _ hk => hk.2) (.int .i64 ((rd_T31 l1 x10_3).f2))) (fun _ hk => hk.2) (.int .i64 ((rd_T31 l1 x10_3).f3))) (fun _ hk => hk.1.1)⟩, ⟨by repeat with_reducible first | exact bl HB.out | refine below_set ?_ GE162.out | refine below_set ?_ GE163.out | refine bq ?_⟩⟩
                        ·
                         rw [if_neg c85] at H
                         have c85b0 : decide (0 < ((rd_T29 l0 x13_5).f2)) = false := decide_eq_false c85
                         clear c85
                         by_cases c97 : ((rd_T29 l0 x13_5).f3) > 0
                         ·
                          rw [if_pos c97] at H
                          have c97b0 : decide (0 < ((rd_T29 l0 x13_5).f3)) = true := decide_eq_true c97
                          clear c97
                          have H' := Aside0.mk H
                          clear H
                          have hnb98 := NB162_163.out
                          have hnc98 := NB163_162.out
                          obtain ⟨hcz99_0, hcz99_1, hcz99_2, hcz99_3⟩ := ck4 BK162.out
                          obtain ⟨hfz99_0, hfz99_1, hfz99_2, hfz99_3⟩ := fz4 BK162.out
                          obtain ⟨hcz100_0, hcz100_1, hcz100_2, hcz100_3⟩ := ck4 BK163.out
                          obtain ⟨hfz100_0, hfz100_1, hfz100_2, hfz100_3⟩ := fz4 BK163.out
                          go_wp2
                          go_roundg k5
                          case measure => have := HJ2.out; have := HK2.out; have := HK3.out; have := HK4.out; have := HK5.out; omega
                          case rel => exact ⟨(decide (((rd_T31 l1 x10_3).f3) ≥ ((rd_T29 l0 x13_5).f3))), (wrap64 (x13_5 + 1)), (by first | rfl | (simp; done) | (simp [*]; done)), (by first | rfl | (simp; done) | (simp [*]; done)), H', ⟨by have := HJ2.out; have := HK2.out; have := HK3.out; have := HK4.out; have := HK5.out; omega⟩, ⟨by (repeat apply rl1); exact Kd.R_mono (Kd.R_far (p := ⟨gb163, 3, none⟩) (Kd.R_far (p := ⟨gb163, 2, none⟩) (Kd.R_far (p := ⟨gb163, 1, none⟩) (Kd.R_far (p := ⟨gb163, 0, none⟩) (Kd.R_far (p := ⟨gb162, 3, none⟩) (Kd.R_far (p := ⟨gb162, 2, none⟩) (Kd.R_far (p := ⟨gb162, 1, none⟩) (Kd.R_far (p := ⟨gb162, 0, none⟩) (Kd.R_types (Kd.R_types HO_6.out BK162.out (by decide)) BK163.out (by decide)) (fun _ hk => hk.1.2) (.string ((rd_T29 l0 x13_5).f0))) (fun _ hk => hk.1.2) (.int .i64 ((rd_T29 l0 x13_5).f1))) (fun _ hk => hk.1.2) (.int .i64 ((rd_T29 l0 x13_5).f2))) (fun _ hk => hk.1.2) (.int .i64 ((rd_T29 l0 x13_5).f3))) (fun _ hk => hk.2) (.string ((rd_T31 l1 x10_3).f0))) (fun _ hk => hk.2) (.int .i64 ((rd_T31 l1 x10_3).f1))) (fun _ hk => hk.2) (.int .i64 ((rd_T31 l1 x10_3).f2))) (fun _ hk => hk.2) (.int .i64 ((rd_T31 l1 x10_3).f3))) (fun _ hk => hk.1.1)⟩, ⟨by (repeat apply rl1); exact Kd.R_mono (Kd.R_far (p := ⟨gb163, 3, none⟩) (Kd.R_far (p := ⟨gb163, 2, none⟩) (Kd.R_far (p := ⟨gb163, 1, none⟩) (Kd.R_far (p := ⟨gb163, 0, none⟩) (Kd.R_far (p := ⟨gb162, 3, none⟩) (Kd.R_far (p := ⟨gb162, 2, none⟩) (Kd.R_far (p := ⟨gb162, 1, none⟩) (Kd.R_far (p := ⟨gb162, 0, none⟩) (Kd.R_types (Kd.R_types HO_9.out BK162.out (by decide)) BK163.out (by decide)) (fun _ hk => hk.1.2) (.string ((rd_T29 l0 x13_5).f0))) (fun _ hk => hk.1.2) (.int .i64 ((rd_T29 l0 x13_5).f1))) (fun _ hk => hk.1.2) (.int .i64 ((rd_T29 l0 x13_5).f2))) (fun _ hk => hk.1.2) (.int .i64 ((rd_T29 l0 x13_5).f3))) (fun _ hk => hk.2) (.string ((rd_T31 l1 x10_3).f0))) (fun _ hk => hk.2) (.int .i64 ((rd_T31 l1 x10_3).f1))) (fun _ hk => hk.2) (.int .i64 ((rd_T31 l1 x10_3).f2))) (fun _ hk => hk.2) (.int .i64 ((rd_T31 l1 x10_3).f3))) (fun _ hk => hk.1.1)⟩, ⟨by repeat with_reducible first | exact bl HB.out | refine below_set ?_ GE162.out | refine below_set ?_ GE163.out | refine bq ?_⟩⟩
                         ·
                          rw [if_neg c97] at H
                          have c97b0 : decide (0 < ((rd_T29 l0 x13_5).f3)) = false := decide_eq_false c97
                          clear c97
                          have H' := Aside0.mk H
                          clear H
                          have hnb101 := NB162_163.out
                          have hnc101 := NB163_162.out
                          obtain ⟨hcz102_0, hcz102_1, hcz102_2, hcz102_3⟩ := ck4 BK162.out
                          obtain ⟨hfz102_0, hfz102_1, hfz102_2, hfz102_3⟩ := fz4 BK162.out
                          go_wp2
                          go_roundg k5
                          case measure => have := HJ2.out; have := HK2.out; have := HK3.out; have := HK4.out; have := HK5.out; omega
                          case rel => exact ⟨(false), (wrap64 (x13_5 + 1)), (by first | rfl | (simp; done) | (simp [*]; done)), (by first | rfl | (simp; done) | (simp [*]; done)), H', ⟨by have := HJ2.out; have := HK2.out; have := HK3.out; have := HK4.out; have := HK5.out; omega⟩, ⟨by (repeat apply rl1); exact Kd.R_mono (Kd.R_far (p := ⟨gb163, 3, none⟩) (Kd.R_far (p := ⟨gb163, 2, none⟩) (Kd.R_far (p := ⟨gb163, 1, none⟩) (Kd.R_far (p := ⟨gb163, 0, none⟩) (Kd.R_far (p := ⟨gb162, 3, none⟩) (Kd.R_far (p := ⟨gb162, 2, none⟩) (Kd.R_far (p := ⟨gb162, 1, none⟩) (Kd.R_far (p := ⟨gb162, 0, none⟩) (Kd.R_types (Kd.R_types HO_6.out BK162.out (by decide)) BK163.out (by decide)) (fun _ hk => hk.1.2) (.string ((rd_T29 l0 x13_5).f0))) (fun _ hk => hk.1.2) (.int .i64 ((rd_T29 l0 x13_5).f1))) (fun _ hk => hk.1.2) (.int .i64 ((rd_T29 l0 x13_5).f2))) (fun _ hk => hk.1.2) (.int .i64 ((rd_T29 l0 x13_5).f3))) (fun _ hk => hk.2) (.string ((rd_T31 l1 x10_3).f0))) (fun _ hk => hk.2) (.int .i64 ((rd_T31 l1 x10_3).f1))) (fun _ hk => hk.2) (.int .i64 ((rd_T31 l1 x10_3).f2))) (fun _ hk => hk.2) (.int .i64 ((rd_T31 l1 x10_3).f3))) (fun _ hk => hk.1.1)⟩, ⟨by (repeat apply rl1); exact Kd.R_mono (Kd.R_far (p := ⟨gb163, 3, none⟩) (Kd.R_far (p := ⟨gb163, 2, none⟩) (Kd.R_far (p := ⟨gb163, 1, none⟩) (Kd.R_far (p := ⟨gb163, 0, none⟩) (Kd.R_far (p := ⟨gb162, 3, none⟩) (Kd.R_far (p := ⟨gb162, 2, none⟩) (Kd.R_far (p := ⟨gb162, 1, none⟩) (Kd.R_far (p := ⟨gb162, 0, none⟩) (Kd.R_types (Kd.R_types HO_9.out BK162.out (by decide)) BK163.out (by decide)) (fun _ hk => hk.1.2) (.string ((rd_T29 l0 x13_5).f0))) (fun _ hk => hk.1.2) (.int .i64 ((rd_T29 l0 x13_5).f1))) (fun _ hk => hk.1.2) (.int .i64 ((rd_T29 l0 x13_5).f2))) (fun _ hk => hk.1.2) (.int .i64 ((rd_T29 l0 x13_5).f3))) (fun _ hk => hk.2) (.string ((rd_T31 l1 x10_3).f0))) (fun _ hk => hk.2) (.int .i64 ((rd_T31 l1 x10_3).f1))) (fun _ hk => hk.2) (.int .i64 ((rd_T31 l1 x10_3).f2))) (fun _ hk => hk.2) (.int .i64 ((rd_T31 l1 x10_3).f3))) (fun _ hk => hk.1.1)⟩, ⟨by repeat with_reducible first | exact bl HB.out | refine below_set ?_ GE162.out | refine below_set ?_ GE163.out | refine bq ?_⟩⟩
                      ·
                       rw [if_neg c60] at H
                       have c60b0 : (((rd_T29 l0 x13_5).f0).toList == ((rd_T31 l1 x10_3).f0).toList) = false := beq_eq_false_iff_ne.mpr c60
                       have c60b1 : (((rd_T29 l0 x13_5).f0).toList != ((rd_T31 l1 x10_3).f0).toList) = true := bne_iff_ne.mpr c60
                       (first | rw [c60b0] | (simp only [i64_w, i32_w]; rw [c60b0]) | skip)
                       have H' := Aside0.mk H
                       clear H
                       go_wp2
                       go_roundg k5
                       case measure => have := HJ2.out; have := HK2.out; have := HK3.out; have := HK4.out; have := HK5.out; omega
                       case rel => exact ⟨(x12_5), (wrap64 (x13_5 + 1)), (by first | rfl | (simp; done) | (simp [*]; done)), (by first | rfl | (simp; done) | (simp [*]; done)), H', ⟨by have := HJ2.out; have := HK2.out; have := HK3.out; have := HK4.out; have := HK5.out; omega⟩, ⟨by (repeat apply rl1); exact Kd.R_mono (Kd.R_far (p := ⟨gb163, 3, none⟩) (Kd.R_far (p := ⟨gb163, 2, none⟩) (Kd.R_far (p := ⟨gb163, 1, none⟩) (Kd.R_far (p := ⟨gb163, 0, none⟩) (Kd.R_far (p := ⟨gb162, 3, none⟩) (Kd.R_far (p := ⟨gb162, 2, none⟩) (Kd.R_far (p := ⟨gb162, 1, none⟩) (Kd.R_far (p := ⟨gb162, 0, none⟩) (Kd.R_types (Kd.R_types HO_6.out BK162.out (by decide)) BK163.out (by decide)) (fun _ hk => hk.1.2) (.string ((rd_T29 l0 x13_5).f0))) (fun _ hk => hk.1.2) (.int .i64 ((rd_T29 l0 x13_5).f1))) (fun _ hk => hk.1.2) (.int .i64 ((rd_T29 l0 x13_5).f2))) (fun _ hk => hk.1.2) (.int .i64 ((rd_T29 l0 x13_5).f3))) (fun _ hk => hk.2) (.string ((rd_T31 l1 x10_3).f0))) (fun _ hk => hk.2) (.int .i64 ((rd_T31 l1 x10_3).f1))) (fun _ hk => hk.2) (.int .i64 ((rd_T31 l1 x10_3).f2))) (fun _ hk => hk.2) (.int .i64 ((rd_T31 l1 x10_3).f3))) (fun _ hk => hk.1.1)⟩, ⟨by (repeat apply rl1); exact Kd.R_mono (Kd.R_far (p := ⟨gb163, 3, none⟩) (Kd.R_far (p := ⟨gb163, 2, none⟩) (Kd.R_far (p := ⟨gb163, 1, none⟩) (Kd.R_far (p := ⟨gb163, 0, none⟩) (Kd.R_far (p := ⟨gb162, 3, none⟩) (Kd.R_far (p := ⟨gb162, 2, none⟩) (Kd.R_far (p := ⟨gb162, 1, none⟩) (Kd.R_far (p := ⟨gb162, 0, none⟩) (Kd.R_types (Kd.R_types HO_9.out BK162.out (by decide)) BK163.out (by decide)) (fun _ hk => hk.1.2) (.string ((rd_T29 l0 x13_5).f0))) (fun _ hk => hk.1.2) (.int .i64 ((rd_T29 l0 x13_5).f1))) (fun _ hk => hk.1.2) (.int .i64 ((rd_T29 l0 x13_5).f2))) (fun _ hk => hk.1.2) (.int .i64 ((rd_T29 l0 x13_5).f3))) (fun _ hk => hk.2) (.string ((rd_T31 l1 x10_3).f0))) (fun _ hk => hk.2) (.int .i64 ((rd_T31 l1 x10_3).f1))) (fun _ hk => hk.2) (.int .i64 ((rd_T31 l1 x10_3).f2))) (fun _ hk => hk.2) (.int .i64 ((rd_T31 l1 x10_3).f3))) (fun _ hk => hk.1.1)⟩, ⟨by repeat with_reducible first | exact bl HB.out | refine below_set ?_ GE162.out | refine below_set ?_ GE163.out | refine bq ?_⟩⟩
                     ·
                      rw [if_neg c43] at H
                      exact absurd H (by simp)
                    ·
                     rw [if_neg c42] at H
                     exact absurd H (by simp)
                   ·
                    rw [if_neg c41] at H
                    exact absurd H (by simp)
                  ·
                   rw [if_neg c40] at H
                   have c40b0 : decide (x13_5 < (l0.length : Int)) = false := decide_eq_false c40
                   clear c40
                   (first | rw [c40b0] | (simp only [i64_w, i32_w]; rw [c40b0]) | skip)
                   by_cases c103 : x12_5 = true
                   ·
                    subst c103
                    have H1 : (spec_Due6.l5 k5 l0 l1 y146 x9_3 x10_3 0) = some (r1, r2) := by rw [if_pos rfl] at H; exact H
                    clear H
                    have H := H1
                    clear H1
                    have H' := Aside0.mk H
                    clear H
                    go_wp2
                    go_loopg [16] k5 (fun kq v16 w' => ∃ (x16_6 : Int), v16 = .int .i64 x16_6 ∧ Aside0 (spec_Due6.l5 kq l0 l1 y146 x9_3 x10_3 x16_6 = some (r1, r2)) ∧ Aside0 (kq ≤ k5) ∧ Aside0 (Kd.R Kd.string 9 w' w.heap.size (fun k_ => some k_ ≠ (u9 : Value).ownBlock) v147 y146) ∧ Aside0 (Kd.R Kd.string 9 w' w.heap.size (fun k_ => some k_ ≠ (v147 : Value).ownBlock) u9 x9_3) ∧ Aside0 (Below w.heap.size w w'))
                    case atStart => exact ⟨(0), (by first | rfl | (simp; done) | (simp [*]; done)), H', ⟨Nat.le_refl _⟩, ⟨rl HO_6.out⟩, ⟨rl HO_9.out⟩, ⟨bl HB.out⟩⟩
                    case round =>
                     clear H'
                     try clear c1
                     try clear p2
                     try clear c4
                     try clear c5
                     try clear c6
                     try clear p6
                     try clear c7
                     try clear c8
                     try clear c9
                     try clear c10
                     try clear c40
                     try clear c40b0
                     try clear c41
                     try clear c42
                     try clear c43
                     try clear c57
                     try clear c60
                     try clear c60b0
                     try clear c60b1
                     try clear c61
                     try clear c61b0
                     try clear c62
                     try clear c62b0
                     try clear c63
                     try clear p64
                     try clear c66
                     try clear c66b0
                     try clear c67
                     try clear c67b0
                     try clear c68
                     try clear c71
                     try clear c71b0
                     try clear c72
                     try clear c75
                     try clear c78
                     try clear c78b0
                     try clear c79
                     try clear c82
                     try clear c85
                     try clear c85b0
                     try clear c86
                     try clear c86b0
                     try clear c87
                     try clear c90
                     try clear c90b0
                     try clear c91
                     try clear c94
                     try clear c97
                     try clear c97b0
                     try clear c98
                     try clear c101
                     try clear c103
                     try clear hcz100_0 hcz100_1 hcz100_2 hcz100_3 hfz100_0 hfz100_1 hfz100_2 hfz100_3
                     try clear hcz102_0 hcz102_1 hcz102_2 hcz102_3 hfz102_0 hfz102_1 hfz102_2 hfz102_3
                     try clear hcz58_0 hcz58_1 hcz58_2 hcz58_3 hfz58_0 hfz58_1 hfz58_2 hfz58_3
                     try clear hcz59_0 hcz59_1 hcz59_2 hcz59_3 hfz59_0 hfz59_1 hfz59_2 hfz59_3
                     try clear hcz64_0 hcz64_1 hcz64_2 hcz64_3 hfz64_0 hfz64_1 hfz64_2 hfz64_3
                     try clear hcz65_0 hcz65_1 hcz65_2 hcz65_3 hfz65_0 hfz65_1 hfz65_2 hfz65_3
                     try clear hcz69_0 hcz69_1 hcz69_2 hcz69_3 hfz69_0 hfz69_1 hfz69_2 hfz69_3
                     try clear hcz70_0 hcz70_1 hcz70_2 hcz70_3 hfz70_0 hfz70_1 hfz70_2 hfz70_3
                     try clear hcz73_0 hcz73_1 hcz73_2 hcz73_3 hfz73_0 hfz73_1 hfz73_2 hfz73_3
                     try clear hcz74_0 hcz74_1 hcz74_2 hcz74_3 hfz74_0 hfz74_1 hfz74_2 hfz74_3
                     try clear hcz76_0 hcz76_1 hcz76_2 hcz76_3 hfz76_0 hfz76_1 hfz76_2 hfz76_3
                     try clear hcz77_0 hcz77_1 hcz77_2 hcz77_3 hfz77_0 hfz77_1 hfz77_2 hfz77_3
                     try clear hcz80_0 hcz80_1 hcz80_2 hcz80_3 hfz80_0 hfz80_1 hfz80_2 hfz80_3
                     try clear hcz81_0 hcz81_1 hcz81_2 hcz81_3 hfz81_0 hfz81_1 hfz81_2 hfz81_3
                     try clear hcz83_0 hcz83_1 hcz83_2 hcz83_3 hfz83_0 hfz83_1 hfz83_2 hfz83_3
                     try clear hcz84_0 hcz84_1 hcz84_2 hcz84_3 hfz84_0 hfz84_1 hfz84_2 hfz84_3
                     try clear hcz88_0 hcz88_1 hcz88_2 hcz88_3 hfz88_0 hfz88_1 hfz88_2 hfz88_3
                     try clear hcz89_0 hcz89_1 hcz89_2 hcz89_3 hfz89_0 hfz89_1 hfz89_2 hfz89_3
                     try clear hcz92_0 hcz92_1 hcz92_2 hcz92_3 hfz92_0 hfz92_1 hfz92_2 hfz92_3
                     try clear hcz93_0 hcz93_1 hcz93_2 hcz93_3 hfz93_0 hfz93_1 hfz93_2 hfz93_3
                     try clear hcz95_0 hcz95_1 hcz95_2 hcz95_3 hfz95_0 hfz95_1 hfz95_2 hfz95_3
                     try clear hcz96_0 hcz96_1 hcz96_2 hcz96_3 hfz96_0 hfz96_1 hfz96_2 hfz96_3
                     try clear hcz99_0 hcz99_1 hcz99_2 hcz99_3 hfz99_0 hfz99_1 hfz99_2 hfz99_3
                     obtain ⟨x16_6, rfl, HA, HK6, HO_6, HO_9, HB⟩ := hrel
                     cases gk with
                     | zero => exact absurd HA.out (by simp [spec_Due6.l5])
                     | succ k6 =>
                      have H := HA.out
                      clear HA
                      simp only [spec_Due6.l5] at H
                      by_cases c104 : x16_6 < (x9_3.length : Int)
                      ·
                       rw [if_pos c104] at H
                       have c104b0 : decide (x16_6 < (x9_3.length : Int)) = true := decide_eq_true c104
                       clear c104
                       by_cases c105 : 0 ≤ x16_6
                       ·
                        rw [if_pos c105] at H
                        have c105b0 : decide (0 ≤ x16_6) = true := decide_eq_true c105
                        clear c105
                        by_cases c106 : 0 ≤ x10_3
                        ·
                         rw [if_pos c106] at H
                         have c106b0 : decide (0 ≤ x10_3) = true := decide_eq_true c106
                         clear c106
                         by_cases c107 : x10_3 < (l1.length : Int)
                         ·
                          rw [if_pos c107] at H
                          have c107b0 : decide (x10_3 < (l1.length : Int)) = true := decide_eq_true c107
                          clear c107
                          have HC108 := Aside0.mk H
                          clear H
                          try go_wp2
                          have n0_ := Aside0.mk (Kd.R_drew HO_6.out)
                          have n1_ := Aside0.mk (Kd.R_drew HO_9.out)
                          have n2_ := Aside0.mk (below_drew1 HB.out)
                          clear HO_6
                          clear HO_9
                          clear HB
                          have HO_6 := n0_
                          have HO_9 := n1_
                          have HB := n2_
                          clear n0_ n1_ n2_
                          obtain ⟨Ao110, co110, eo110⟩ := Kd.R_slice HO_9.out
                          (first | subst eo110 | (injection eo110 with f1_ f2_ f3_; have f4_ := f1_.symm; have f5_ := f3_.symm; clear f1_ f2_ f3_; subst f4_; subst f5_))
                          have p164 : 0 ≤ (x16_6 : Int) := of_decide_eq_true (by first | (with_reducible assumption) | assumption)
                          have q164 : x16_6 < (x9_3.length : Int) := of_decide_eq_true (by first | (with_reducible assumption) | assumption)
                          obtain ⟨ad164, e164, hx164_0⟩ := Kd.at_string (Kd.R_reads' HO_9.out).2.2 x16_6 p164 q164
                          cases e164
                          replace p164 := eq_true p164
                          replace q164 := eq_true q164
                          have p165 : 0 ≤ (x10_3 : Int) := of_decide_eq_true (by first | (with_reducible assumption) | assumption)
                          have q165 : x10_3 < (l1.length : Int) := of_decide_eq_true (by first | (with_reducible assumption) | assumption)
                          obtain ⟨ad165, e165, hx165_0, hx165_1, hx165_2, hx165_3⟩ := at_T31 HR1.out x10_3 p165 q165
                          have hw165_3 := hx165_3
                          have hw165_2 := hx165_2
                          have hw165_1 := hx165_1
                          have hw165_0 := hx165_0
                          obtain rfl : ad158 = ad165 := (by injection e165)
                          replace hx165_0 := bc HB.out hx165_0
                          replace hx165_1 := bc HB.out hx165_1
                          replace hx165_2 := bc HB.out hx165_2
                          replace hx165_3 := bc HB.out hx165_3
                          replace p165 := eq_true p165
                          replace q165 := eq_true q165
                          refine start_ (n := 16) (S := fun w' => w'.cell? (ad164.add (x16_6).toNat) = some (.string (rdOf ByteArray.empty x9_3 x16_6)) ∧ w'.cell? (ad158.add ((x10_3).toNat * 4)) = some (.string ((rd_T31 l1 x10_3).f0)) ∧ w'.cell? ⟨(ad158.add ((x10_3).toNat * 4)).block, (ad158.add ((x10_3).toNat * 4)).off + 1, none⟩ = some (.int .i64 ((rd_T31 l1 x10_3).f1)) ∧ w'.cell? ⟨(ad158.add ((x10_3).toNat * 4)).block, (ad158.add ((x10_3).toNat * 4)).off + 2, none⟩ = some (.int .i64 ((rd_T31 l1 x10_3).f2)) ∧ w'.cell? ⟨(ad158.add ((x10_3).toNat * 4)).block, (ad158.add ((x10_3).toNat * 4)).off + 3, none⟩ = some (.int .i64 ((rd_T31 l1 x10_3).f3))) (ds := []) m0_16 (by kernel_rfl) rfl rfl ⟨hx164_0, ((HB.out.cell (World.block_lt_of_cell? w _ hw165_0)).trans hw165_0), ((HB.out.cell (World.block_lt_of_cell? w _ hw165_1)).trans hw165_1), ((HB.out.cell (World.block_lt_of_cell? w _ hw165_2)).trans hw165_2), ((HB.out.cell (World.block_lt_of_cell? w _ hw165_3)).trans hw165_3)⟩ (fun hHeld => ?_); refine with_tabW spec_Due6.tab34 spec_Due6.bits34 (fun HT_ HW_ => ?_)
                          generalize wr.drew = w109 at HO_6 HO_9 HB hx164_0 hx165_0 hx165_1 hx165_2 hx165_3 hHeld ⊢
                          refine pq_ HT_.out 0 143 m1_16 ?_
                          refine pq_ HT_.out 1 144 m2_16 ?_
                          refine pq_ HT_.out 2 145 m3_16 ?_
                          refine pq_ HT_.out 3 146 m4_16 ?_
                          refine pq_ HT_.out 4 147 m5_16 ?_
                          refine pq_ HT_.out 5 148 m6_16 ?_
                          refine pq_ HT_.out 6 149 m7_16 ?_
                          refine pq_ HT_.out 7 150 m8_16 ?_
                          refine pq_ HT_.out 9 152 n23 ?_
                          refine pq_ HT_.out 10 153 n24 ?_
                          refine pq_ HT_.out 11 154 n25 ?_
                          refine pq_ HT_.out 12 155 n26 ?_
                          refine tk_ HT_.out HW_.out 8 151 m13_16 rfl rfl (by kernel_rfl) (by rfl) (by rintro w' ⟨s0, s1, s2, s3, s4⟩; go_simp; with_reducible rfl) hHeld (by simp only [sp_]; rfl) (fun _ _ _ h => h) ?_
                          refine tk_ HT_.out HW_.out 13 156 m14_16 rfl rfl (by kernel_rfl) (by rfl) (by rintro w' ⟨s0, s1, s2, s3, s4⟩; go_simp; with_reducible rfl) hHeld (by simp only [sp_]; rfl) (fun _ _ _ h => h) ?_
                          refine pq_ HT_.out 14 157 m15_16 ?_
                          refine pq_ HT_.out 15 158 m16_16 ?_
                          refine done_ (done_of HT_.out (by kernel_rfl)) ?_
                          go_upto_if 158 with (fail)
                          have H := HC108.out
                          clear HC108
                          by_cases c111 : (Op.bytesLess ((rdOf ByteArray.empty x9_3 x16_6).toList) (((rd_T31 l1 x10_3).f0).toList)) = true
                          ·
                           rw [if_pos c111] at H
                           have c111b0 : (Op.bytesLess ((rdOf ByteArray.empty x9_3 x16_6).toList) (((rd_T31 l1 x10_3).f0).toList)) = true := c111
                           clear c111
                           (first | rw [c111b0] | (simp only [i64_w, i32_w]; rw [c111b0]) | skip)
                           have H' := Aside0.mk H
                           clear H
                           go_wp2
                           go_roundg k6
                           case measure => have := HJ2.out; have := HK2.out; have := HK3.out; have := HK4.out; have := HK5.out; have := HK6.out; omega
                           case rel => exact ⟨(wrap64 (x16_6 + 1)), (by first | rfl | (simp; done) | (simp [*]; done)), H', ⟨by have := HJ2.out; have := HK2.out; have := HK3.out; have := HK4.out; have := HK5.out; have := HK6.out; omega⟩, ⟨rl HO_6.out⟩, ⟨rl HO_9.out⟩, ⟨bl HB.out⟩⟩
                          ·
                           rw [if_neg c111] at H
                           have c111b0 : (Op.bytesLess ((rdOf ByteArray.empty x9_3 x16_6).toList) (((rd_T31 l1 x10_3).f0).toList)) = false := by simpa using c111
                           clear c111
                           (first | rw [c111b0] | (simp only [i64_w, i32_w]; rw [c111b0]) | skip)
                           obtain ⟨y167, hy167⟩ : ∃ y_ : List ByteArray, y_ = (([(rd_T31 l1 x10_3).f0] : List ByteArray)) := ⟨_, rfl⟩
                           replace H : (if x16_6 ≤ (x9_3.length : Int) then ((some (x9_3.drop (x16_6 : Int).toNat : List ByteArray)).bind fun y170 => (if y167.length + y170.length < 8796093022208 then ((some (y167 ++ y170 : List ByteArray)).bind fun y174 => ((some (([] : List ByteArray) : List ByteArray)).bind fun y177 => ((some (x9_3.take (x16_6 : Int).toNat : List ByteArray)).bind fun y180 => (if y177.length + y180.length < 8796093022208 then ((some (y177 ++ y180 : List ByteArray)).bind fun y184 => (if y184.length + y174.length < 8796093022208 then (spec_Due6.l2 k6 l0 l1 y146 (y184 ++ y174) (wrap64 (x10_3 + 1))) else (none))) else (none))))) else (none))) else (none)) = some (r1, r2) := by first | (rw [hy167]; with_reducible exact H) | (have H2_ := (Option.bind_some _ _).symm.trans H; rw [hy167]; with_reducible exact H2_) | (have H2_ := (Option.bind_some _ _).symm.trans H; with_reducible exact H2_) | with_reducible exact H | (rw [hy167]; exact H) | exact H
                           have Ny167 := Aside0.mk hy167
                           clear hy167
                           have c112b0 := eq_true (of_decide_eq_true (by first | (with_reducible assumption) | assumption) : 0 ≤ x16_6)
                           by_cases c113 : x16_6 ≤ (x9_3.length : Int)
                           ·
                            rw [if_pos c113] at H
                            have c113b0 := eq_true c113
                            have c113b1 : decide (x16_6 ≤ (x9_3.length : Int)) = true := decide_eq_true c113
                            clear c113
                            obtain ⟨y170, hy170⟩ : ∃ y_ : List ByteArray, y_ = (x9_3.drop (x16_6 : Int).toNat) := ⟨_, rfl⟩
                            replace H : (if y167.length + y170.length < 8796093022208 then ((some (y167 ++ y170 : List ByteArray)).bind fun y174 => ((some (([] : List ByteArray) : List ByteArray)).bind fun y177 => ((some (x9_3.take (x16_6 : Int).toNat : List ByteArray)).bind fun y180 => (if y177.length + y180.length < 8796093022208 then ((some (y177 ++ y180 : List ByteArray)).bind fun y184 => (if y184.length + y174.length < 8796093022208 then (spec_Due6.l2 k6 l0 l1 y146 (y184 ++ y174) (wrap64 (x10_3 + 1))) else (none))) else (none))))) else (none)) = some (r1, r2) := by first | (rw [hy170]; with_reducible exact H) | (have H2_ := (Option.bind_some _ _).symm.trans H; rw [hy170]; with_reducible exact H2_) | (have H2_ := (Option.bind_some _ _).symm.trans H; with_reducible exact H2_) | with_reducible exact H | (rw [hy170]; exact H) | exact H
                            have Ny170 := Aside0.mk hy170
                            clear hy170
                            by_cases c114 : y167.length + y170.length < 8796093022208
                            ·
                             rw [if_pos c114] at H
                             have LMc114 := Aside0.mk c114
                             clear c114
                             obtain ⟨y174, hy174⟩ : ∃ y_ : List ByteArray, y_ = (y167 ++ y170) := ⟨_, rfl⟩
                             replace H : ((some (([] : List ByteArray) : List ByteArray)).bind fun y177 => ((some (x9_3.take (x16_6 : Int).toNat : List ByteArray)).bind fun y180 => (if y177.length + y180.length < 8796093022208 then ((some (y177 ++ y180 : List ByteArray)).bind fun y184 => (if y184.length + y174.length < 8796093022208 then (spec_Due6.l2 k6 l0 l1 y146 (y184 ++ y174) (wrap64 (x10_3 + 1))) else (none))) else (none)))) = some (r1, r2) := by first | (rw [hy174]; with_reducible exact H) | (have H2_ := (Option.bind_some _ _).symm.trans H; rw [hy174]; with_reducible exact H2_) | (have H2_ := (Option.bind_some _ _).symm.trans H; with_reducible exact H2_) | with_reducible exact H | (rw [hy174]; exact H) | exact H
                             have Ny174 := Aside0.mk hy174
                             clear hy174
                             obtain ⟨y177, hy177⟩ : ∃ y_ : List ByteArray, y_ = (([] : List ByteArray)) := ⟨_, rfl⟩
                             replace H : ((some (x9_3.take (x16_6 : Int).toNat : List ByteArray)).bind fun y180 => (if y177.length + y180.length < 8796093022208 then ((some (y177 ++ y180 : List ByteArray)).bind fun y184 => (if y184.length + y174.length < 8796093022208 then (spec_Due6.l2 k6 l0 l1 y146 (y184 ++ y174) (wrap64 (x10_3 + 1))) else (none))) else (none))) = some (r1, r2) := by first | (rw [hy177]; with_reducible exact H) | (have H2_ := (Option.bind_some _ _).symm.trans H; rw [hy177]; with_reducible exact H2_) | (have H2_ := (Option.bind_some _ _).symm.trans H; with_reducible exact H2_) | with_reducible exact H | (rw [hy177]; exact H) | exact H
                             have Ny177 := Aside0.mk hy177
                             clear hy177
                             have c115b0 := eq_true (of_decide_eq_true (by first | (with_reducible assumption) | assumption) : 0 ≤ x16_6)
                             have c116b0 := eq_true (of_decide_eq_true (by first | (with_reducible assumption) | assumption) : x16_6 ≤ (x9_3.length : Int))
                             obtain ⟨y180, hy180⟩ : ∃ y_ : List ByteArray, y_ = (x9_3.take (x16_6 : Int).toNat) := ⟨_, rfl⟩
                             replace H : (if y177.length + y180.length < 8796093022208 then ((some (y177 ++ y180 : List ByteArray)).bind fun y184 => (if y184.length + y174.length < 8796093022208 then (spec_Due6.l2 k6 l0 l1 y146 (y184 ++ y174) (wrap64 (x10_3 + 1))) else (none))) else (none)) = some (r1, r2) := by first | (rw [hy180]; with_reducible exact H) | (have H2_ := (Option.bind_some _ _).symm.trans H; rw [hy180]; with_reducible exact H2_) | (have H2_ := (Option.bind_some _ _).symm.trans H; with_reducible exact H2_) | with_reducible exact H | (rw [hy180]; exact H) | exact H
                             have Ny180 := Aside0.mk hy180
                             clear hy180
                             by_cases c117 : y177.length + y180.length < 8796093022208
                             ·
                              rw [if_pos c117] at H
                              have LMc117 := Aside0.mk c117
                              clear c117
                              obtain ⟨y184, hy184⟩ : ∃ y_ : List ByteArray, y_ = (y177 ++ y180) := ⟨_, rfl⟩
                              replace H : (if y184.length + y174.length < 8796093022208 then (spec_Due6.l2 k6 l0 l1 y146 (y184 ++ y174) (wrap64 (x10_3 + 1))) else (none)) = some (r1, r2) := by first | (rw [hy184]; with_reducible exact H) | (have H2_ := (Option.bind_some _ _).symm.trans H; rw [hy184]; with_reducible exact H2_) | (have H2_ := (Option.bind_some _ _).symm.trans H; with_reducible exact H2_) | with_reducible exact H | (rw [hy184]; exact H) | exact H
                              have Ny184 := Aside0.mk hy184
                              clear hy184
                              by_cases c118 : y184.length + y174.length < 8796093022208
                              ·
                               rw [if_pos c118] at H
                               have LMc118 := Aside0.mk c118
                               clear c118
                               obtain ⟨y187, hy187⟩ : ∃ y_ : List ByteArray, y_ = (y184 ++ y174) := ⟨_, rfl⟩
                               replace H : (spec_Due6.l2 k6 l0 l1 y146 y187 (wrap64 (x10_3 + 1))) = some (r1, r2) := by first | (rw [hy187]; with_reducible exact H) | (have H2_ := (Option.bind_some _ _).symm.trans H; rw [hy187]; with_reducible exact H2_) | (have H2_ := (Option.bind_some _ _).symm.trans H; with_reducible exact H2_) | with_reducible exact H | (rw [hy187]; exact H) | exact H
                               have Ny187 := Aside0.mk hy187
                               clear hy187
                               have H' := Aside0.mk H
                               clear H
                               try go_wp2
                               have n0_ := Aside0.mk (Kd.R_drew HO_6.out)
                               have n1_ := Aside0.mk (Kd.R_drew HO_9.out)
                               have n2_ := Aside0.mk (below_drew1 HB.out)
                               clear HO_6
                               clear HO_9
                               clear HB
                               have HO_6 := n0_
                               have HO_9 := n1_
                               have HB := n2_
                               clear n0_ n1_ n2_
                               have p166 : 0 ≤ (x10_3 : Int) := of_decide_eq_true (by first | (with_reducible assumption) | assumption)
                               have q166 : x10_3 < (l1.length : Int) := of_decide_eq_true (by first | (with_reducible assumption) | assumption)
                               obtain ⟨ad166, e166, hx166_0, hx166_1, hx166_2, hx166_3⟩ := at_T31 HR1.out x10_3 p166 q166
                               have hw166_3 := hx166_3
                               have hw166_2 := hx166_2
                               have hw166_1 := hx166_1
                               have hw166_0 := hx166_0
                               obtain rfl : ad158 = ad166 := (by injection e166)
                               replace hx166_0 := bc HB.out hx166_0
                               replace hx166_1 := bc HB.out hx166_1
                               replace hx166_2 := bc HB.out hx166_2
                               replace hx166_3 := bc HB.out hx166_3
                               replace p166 := eq_true p166
                               replace q166 := eq_true q166
                               have q120 : (x16_6 : Int) ≤ ((x9_3.length : Int) : Int) := of_decide_eq_true (by first | (with_reducible assumption) | assumption)
                               obtain ⟨i0120, hi0120, _, hsz120, _⟩ := info_parts info9
                               have hroom120 : x9_3.length ≤ co110 := (Kd.R_reads' HO_9.out).2.1
                               have hC120 : Kd.C Kd.string _ (some ad164) x9_3.length x9_3 := (Kd.R_reads' HO_9.out).2.2
                               have q0120 : (0 : Int) ≤ (x16_6 : Int) := of_decide_eq_true (by first | (with_reducible assumption) | assumption)
                               have hcut120 := cut_from (P := Try.prog) 37 9 .i64 Try.underlying37 hi0120 1 hsz120 (some ad164) x9_3.length co110 x16_6 q0120 q120
                               have hr120 := Kd.C_drop (m := (x16_6 : Int).toNat) (c := co110) hC120 (by omega) hroom120
                               obtain ⟨A120, hA120⟩ : ∃ A1, A1 = (if co110 = (x16_6 : Int).toNat then (some ad164) else ((some ad164) : Option Addr).map (·.add ((x16_6 : Int).toNat * 1))) := ⟨_, rfl⟩
                               obtain ⟨c120, hc120⟩ : ∃ c1, c1 = co110 - (x16_6 : Int).toNat := ⟨_, rfl⟩
                               have hy120 : y170.length = x9_3.length - (x16_6 : Int).toNat := (by rw [Ny170.out, List.length_drop] <;> omega)
                               rw [show (x9_3).drop (x16_6 : Int).toNat = y170 from Ny170.out.symm] at hr120
                               replace hr120 : Kd.C Kd.string _ A120 y170.length y170 := (by rw [hA120]; exact hr120)
                               rw [← hy120, ← hA120, ← hc120] at hcut120
                               have HR173 := Aside0.mk hr120
                               have HC173 := Aside0.mk (show y170.length ≤ c120 from by rw [hy120, hc120]; exact Nat.sub_le_sub_right hroom120 _)
                               clear hr120 hC120 hroom120 hi0120 hsz120 hc120
                               have KY120 := Aside0.mk hy120
                               have KA120 := Aside0.mk hA120
                               clear hy120 hA120
                               have KL120 := Aside0.mk (show (x16_6 : Int).toNat ≤ x9_3.length from by omega)
                               replace q120 := eq_true q120
                               refine start_ (n := 11) (S := fun w' => w'.cell? (ad158.add ((x10_3).toNat * 4)) = some (.string ((rd_T31 l1 x10_3).f0)) ∧ w'.cell? ⟨(ad158.add ((x10_3).toNat * 4)).block, (ad158.add ((x10_3).toNat * 4)).off + 1, none⟩ = some (.int .i64 ((rd_T31 l1 x10_3).f1)) ∧ w'.cell? ⟨(ad158.add ((x10_3).toNat * 4)).block, (ad158.add ((x10_3).toNat * 4)).off + 2, none⟩ = some (.int .i64 ((rd_T31 l1 x10_3).f2)) ∧ w'.cell? ⟨(ad158.add ((x10_3).toNat * 4)).block, (ad158.add ((x10_3).toNat * 4)).off + 3, none⟩ = some (.int .i64 ((rd_T31 l1 x10_3).f3))) (ds := []) m0_11 (by kernel_rfl) rfl rfl ⟨((HB.out.cell (World.block_lt_of_cell? w _ hw166_0)).trans hw166_0), ((HB.out.cell (World.block_lt_of_cell? w _ hw166_1)).trans hw166_1), ((HB.out.cell (World.block_lt_of_cell? w _ hw166_2)).trans hw166_2), ((HB.out.cell (World.block_lt_of_cell? w _ hw166_3)).trans hw166_3)⟩ (fun hHeld => ?_); refine with_tabW spec_Due6.tab36 spec_Due6.bits36 (fun HT_ HW_ => ?_)
                               generalize w109.drew = w119 at HO_6 HO_9 HB HR173 hx166_0 hx166_1 hx166_2 hx166_3 hHeld ⊢
                               refine pq_ HT_.out 0 161 m1_11 ?_
                               refine pq_ HT_.out 1 162 m2_11 ?_
                               refine pq_ HT_.out 2 163 m3_11 ?_
                               refine pq_ HT_.out 3 164 m4_11 ?_
                               refine pq_ HT_.out 6 167 n29 ?_
                               refine pq_ HT_.out 7 168 n30 ?_
                               refine pq_ HT_.out 8 169 n31 ?_
                               refine tk_ HT_.out HW_.out 4 165 n42 rfl rfl (by kernel_rfl) (by rfl) (by rintro w' ⟨s0, s1, s2, s3⟩; go_simp; with_reducible rfl) hHeld (by simp only [sp_]; rfl) (fun _ _ _ h => h) ?_
                               refine one_ (i := 5) (N := some 166) m9_11 rfl rfl (one_of HT_.out (by kernel_rfl)) (by decide) (fun K hK => ?_)
                               refine Kd.R_lit_step Kd.string _ 9 ?hg (N := 166) ?hd (xs := ([(rd_T31 l1 x10_3).f0] : List ByteArray)) (inner := [.string ((rd_T31 l1 x10_3).f0)]) (ok := fun _ => True) (okp := fun _ => True) ?hr ?hp (fun _ hk => hk) trivial (Below.refl _ _) (Nat.le_refl _) (by simp) ?_; (case hd => rfl); (case hg => rfl); (case hr => first | (go_simp; done) | (go_simp; rfl)); (case hp => exact (Reps.one (show Kd.M Kd.string _ _ _ ((rd_T31 l1 x10_3).f0) [.string ((rd_T31 l1 x10_3).f0)] from rfl) (Reps.none _ _)))
                               intro v168 w121 ho122 hb hg_ hnew_
                               clear hg_ hnew_
                               (first | rw [← Ny167.out] at ho122 | (simp only [Int.reduceToNat] at ho122; rw [← Ny167.out] at ho122))
                               have n0_ := Aside0.mk (Kd.R_elder' (rl HO_6.out) (Kd.R_base ho122) hb)
                               have n1_ := Aside0.mk (Kd.R_elder' (rl HO_9.out) (Kd.R_base ho122) hb)
                               have n2_ := Aside0.mk (Kd.R_lower (Kd.R_new' (Kd.R_new' ho122 (Kd.R_lt (by (repeat apply rl1); exact HO_6.out))) (Kd.R_lt (by (repeat apply rl1); exact HO_9.out))) (below_size (bl HB.out)))
                               have n3_ := Aside0.mk (Kd.C_below (by repeat (first | (with_reducible exact HR173.out) | (with_reducible refine Kd.C_alloc ?_ _) | (with_reducible refine Kd.C_drewN ?_ _) | (with_reducible refine Kd.C_drew ?_) | exact HR173.out)) hb)
                               have n4_ := Aside0.mk (below_step (bl HB.out) hb)
                               clear HO_6
                               clear HO_9
                               clear HR173
                               clear HB
                               have HO_6 := n0_
                               have HO_9 := n1_
                               have HO169 := n2_
                               have HR173 := n3_
                               have HB := n4_
                               clear n0_ n1_ n2_ n3_ n4_
                               clear hb ho122
                               refine hK.out _ _ ⟨((HB.out.cell (World.block_lt_of_cell? w _ hw166_0)).trans hw166_0), ((HB.out.cell (World.block_lt_of_cell? w _ hw166_1)).trans hw166_1), ((HB.out.cell (World.block_lt_of_cell? w _ hw166_2)).trans hw166_2), ((HB.out.cell (World.block_lt_of_cell? w _ hw166_3)).trans hw166_3)⟩ (fun hHeld => ?_)
                               clear hK K
                               refine norm_ (a' := ?_) ?_ ?_
                               rotate_left
                               ·
                                show Act.put _ (some 166) _ = _
                                simp only [sp_]
                                rfl
                               refine one_ (i := 9) (N := some 170) m10_11 rfl rfl (one_of HT_.out (by kernel_rfl)) (by decide) (fun K hK => ?_)
                               refine Kd.R_append_rows_step Kd.string (w0 := w) w.heap.size (by rfl) (.tmp 166) (.tmp 169) 37 9 (.string ⟨#[]⟩) 16 rfl Try.underlying37 info9 rfl (by decide) (by omega) v168 y167 y170 _ _ _ (fun k_ => some k_ ≠ (v147 : Value).ownBlock ∧ some k_ ≠ (.slice (some ad164) x9_3.length co110 : Value).ownBlock) (fun _ => False) rfl rfl ?aO ?aR (fun _ _ h => h) (fun _ h => h.elim) ?aF ?aB ?aS ?aL ?_
                               (case aR => repeat (first | exact (by repeat (first | (with_reducible exact HR173.out) | (with_reducible refine Kd.C_alloc ?_ _) | (with_reducible refine Kd.C_drewN ?_ _) | (with_reducible refine Kd.C_drew ?_) | exact HR173.out)) | (with_reducible refine Kd.C_alloc ?_ _) | (with_reducible refine Kd.C_drewN ?_ _) | (with_reducible refine Kd.C_drew ?_)))
                               (case aB => exact (bl HB.out))
                               (case aF => exact (fun k_ hk => ⟨Kd.fresh' (Kd.R_lt (by (repeat apply rl1); exact HO_6.out)) k_ hk, Kd.fresh' (Kd.R_lt (by (repeat apply rl1); exact HO_9.out)) k_ hk⟩))
                               (case aO => exact (by (repeat apply rl1); exact Kd.R_mono HO169.out (fun _ hk => ⟨hk.1.2, hk.2⟩)))
                               (case aS => exact (below_size (bl HB.out)))
                               (case aL => have := LMc114.out; omega)
                               intro v175 w123 ho hb hg hat
                               rw [← Ny174.out] at ho
                               have n0_ := Aside0.mk (Kd.R_after (ok := (fun k_ => some k_ ≠ (.slice (some ad164) x9_3.length co110 : Value).ownBlock)) (rl HO_6.out) hg hat)
                               have n1_ := Aside0.mk (Kd.R_after (ok := (fun k_ => some k_ ≠ (v147 : Value).ownBlock)) (rl HO_9.out) hg hat)
                               have n2_ := Aside0.mk (hb)
                               have n3_ := Aside0.mk ((show Kd.C Kd.string w123 A120 y170.length y170 from by rw [Ny170.out, KA120.out]; exact Kd.C_drop (m := (x16_6 : Int).toNat) (c := co110) ((Kd.R_reads' (Kd.R_after (ok := (fun k_ => some k_ ≠ (v147 : Value).ownBlock)) (rl HO_9.out) hg hat)).2.2) KL120.out ((Kd.R_reads' (Kd.R_after (ok := (fun k_ => some k_ ≠ (v147 : Value).ownBlock)) (rl HO_9.out) hg hat)).2.1)))
                               have n4_ := Aside0.mk (ho)
                               clear HO_6
                               clear HO_9
                               clear HB
                               clear HR173
                               clear HO169
                               have HO_6 := n0_
                               have HO_9 := n1_
                               have HB := n2_
                               have HR173 := n3_
                               have HO176 := n4_
                               clear n0_ n1_ n2_ n3_ n4_
                               clear ho hb hg hat
                               refine hK.out _ _ ⟨((HB.out.cell (World.block_lt_of_cell? w _ hw166_0)).trans hw166_0), ((HB.out.cell (World.block_lt_of_cell? w _ hw166_1)).trans hw166_1), ((HB.out.cell (World.block_lt_of_cell? w _ hw166_2)).trans hw166_2), ((HB.out.cell (World.block_lt_of_cell? w _ hw166_3)).trans hw166_3)⟩ (fun hHeld => ?_)
                               clear hK K
                               refine norm_ (a' := ?_) ?_ ?_
                               rotate_left
                               ·
                                show Act.put _ (some 170) _ = _
                                simp only [sp_]
                                rfl
                               refine pq_ HT_.out 10 17 m11_11 ?_
                               refine done_ (done_of HT_.out (by kernel_rfl)) ?_
                               try go_wp2_with (first | ((with_reducible refine gate_dst (N := 171) rfl ?_); (try (refine gate_guard (by rfl) ?_; dsimp only)); refine Kd.R_lit Kd.string _ 9 ?hg (N := 171) ?hd (xs := ([] : List ByteArray)) (inner := []) (ok := fun _ => True) (okp := fun _ => True) ?hr ?hp (fun _ hk => hk) trivial (Below.refl _ _) (Nat.le_refl _) (by simp) ?_; (case hd => rfl); (case hg => rfl); (case hr => first | (go_simp; done) | (go_simp; rfl)); (case hp => exact (Reps.none _ _)); intro v178 w124 ho125 hb hg_ hnew_; clear hg_ hnew_; (first | rw [← Ny177.out] at ho125 | (simp only [Int.reduceToNat] at ho125; rw [← Ny177.out] at ho125)); have HO179 := Aside0.mk (Kd.R_lower (Kd.R_new' (Kd.R_new' (Kd.R_new' ho125 (Kd.R_lt (by (repeat apply rl1); exact HO_6.out))) (Kd.R_lt (by (repeat apply rl1); exact HO_9.out))) (Kd.R_lt (by (repeat apply rl1); exact HO176.out))) (below_size (bl HB.out))); replace HO_6 := Aside0.mk (Kd.R_elder' (rl HO_6.out) (Kd.R_base ho125) hb); replace HO_9 := Aside0.mk (Kd.R_elder' (rl HO_9.out) (Kd.R_base ho125) hb); replace HO176 := Aside0.mk (Kd.R_elder' (rl HO176.out) (Kd.R_base ho125) hb); replace HR173 := Aside0.mk (Kd.C_below (by repeat (first | (with_reducible exact HR173.out) | (with_reducible refine Kd.C_alloc ?_ _) | (with_reducible refine Kd.C_drewN ?_ _) | (with_reducible refine Kd.C_drew ?_) | exact HR173.out)) hb); replace HB := Aside0.mk (below_step (bl HB.out) hb); clear hb ho125; have q126 : (x16_6 : Int) ≤ ((x9_3.length : Int) : Int) := of_decide_eq_true (by first | (with_reducible assumption) | assumption); obtain ⟨i0126, hi0126, _, hsz126, _⟩ := info_parts info9; have hroom126 : x9_3.length ≤ co110 := (Kd.R_reads' HO_9.out).2.1; have hC126 : Kd.C Kd.string _ (some ad164) x9_3.length x9_3 := (Kd.R_reads' HO_9.out).2.2; have hcut126 := cut_to (P := Try.prog) 37 9 .i64 Try.underlying37 hi0126 (some ad164) x9_3.length co110 x16_6 (of_decide_eq_true (by first | (with_reducible assumption) | assumption)) q126 hroom126; have hr126 := Kd.C_take (m := (x16_6 : Int).toNat) hC126 (by omega); have hy126 : y180.length = (x16_6 : Int).toNat := (by rw [Ny180.out, List.length_take]; omega); rw [← Ny180.out] at hr126; rw [← hy126] at hcut126; have HR183 := Aside0.mk hr126; have HC183 := Aside0.mk (show y180.length ≤ co110 from by omega); clear hr126 hC126 hroom126 hi0126 hsz126; have KY126 := Aside0.mk hy126; clear hy126; have KL126 := Aside0.mk (show (x16_6 : Int).toNat ≤ x9_3.length from by omega); replace q126 := eq_true q126) | ((with_reducible refine gate_builtin (b := .append) (xs := #[.tmp 171, .tmp 174]) rfl ?_); (try (refine gate_guard (by rfl) ?_; dsimp only)); at_builtin; refine Kd.R_append_rows Kd.string (w0 := w) w.heap.size rfl (.tmp 171) (.tmp 174) 37 9 (.string ⟨#[]⟩) 16 rfl Try.underlying37 info9 rfl (by decide) (by omega) v178 y177 y180 _ _ _ (fun k_ => some k_ ≠ (v147 : Value).ownBlock ∧ some k_ ≠ (.slice (some ad164) x9_3.length co110 : Value).ownBlock ∧ some k_ ≠ (v175 : Value).ownBlock) (fun _ => False) rfl rfl ?aO ?aR (fun _ _ h => h) (fun _ h => h.elim) ?aF ?aB ?aS ?aL ?_; (case aR => repeat (first | exact (by repeat (first | (with_reducible exact HR183.out) | (with_reducible refine Kd.C_alloc ?_ _) | (with_reducible refine Kd.C_drewN ?_ _) | (with_reducible refine Kd.C_drew ?_) | exact HR183.out)) | (with_reducible refine Kd.C_alloc ?_ _) | (with_reducible refine Kd.C_drewN ?_ _) | (with_reducible refine Kd.C_drew ?_))); (case aB => exact (bl HB.out)); (case aF => exact (fun k_ hk => ⟨Kd.fresh' (Kd.R_lt (by (repeat apply rl1); exact HO_6.out)) k_ hk, Kd.fresh' (Kd.R_lt (by (repeat apply rl1); exact HO_9.out)) k_ hk, Kd.fresh' (Kd.R_lt (by (repeat apply rl1); exact HO176.out)) k_ hk⟩)); (case aO => exact (by (repeat apply rl1); exact Kd.R_mono HO179.out (fun _ hk => ⟨hk.1.1.2, ⟨hk.1.2, hk.2⟩⟩))); (case aS => exact (below_size (bl HB.out))); (case aL => have := LMc117.out; omega); intro v185 w127 ho hb hg hat; rw [← Ny184.out] at ho; replace HO_6 := Aside0.mk (Kd.R_after (ok := (fun k_ => some k_ ≠ (.slice (some ad164) x9_3.length co110 : Value).ownBlock ∧ some k_ ≠ (v175 : Value).ownBlock)) (rl HO_6.out) hg hat); replace HO176 := Aside0.mk (Kd.R_after (ok := (fun k_ => some k_ ≠ (v147 : Value).ownBlock ∧ some k_ ≠ (.slice (some ad164) x9_3.length co110 : Value).ownBlock)) (rl HO176.out) hg hat); replace HB := Aside0.mk (hb); replace HR173 := Aside0.mk ((show Kd.C Kd.string w127 A120 y170.length y170 from by rw [Ny170.out, KA120.out]; exact Kd.C_drop (m := (x16_6 : Int).toNat) (c := co110) ((Kd.R_reads' (Kd.R_after (ok := (fun k_ => some k_ ≠ (v147 : Value).ownBlock ∧ some k_ ≠ (v175 : Value).ownBlock)) (rl HO_9.out) hg hat)).2.2) KL120.out ((Kd.R_reads' (Kd.R_after (ok := (fun k_ => some k_ ≠ (v147 : Value).ownBlock ∧ some k_ ≠ (v175 : Value).ownBlock)) (rl HO_9.out) hg hat)).2.1))); replace HR183 := Aside0.mk ((show Kd.C Kd.string w127 (some ad164) y180.length y180 from by rw [Ny180.out]; exact Kd.C_take (m := (x16_6 : Int).toNat) ((Kd.R_reads' (Kd.R_after (ok := (fun k_ => some k_ ≠ (v147 : Value).ownBlock ∧ some k_ ≠ (v175 : Value).ownBlock)) (rl HO_9.out) hg hat)).2.2) KL126.out)); replace HO_9 := Aside0.mk (Kd.R_after (ok := (fun k_ => some k_ ≠ (v147 : Value).ownBlock ∧ some k_ ≠ (v175 : Value).ownBlock)) (rl HO_9.out) hg hat); have HO186 := Aside0.mk (ho); clear HO179; clear ho hb hg hat; obtain ⟨Ao129, co129, eo129⟩ := Kd.R_slice HO176.out; subst eo129) | ((with_reducible refine gate_builtin (b := .append) (xs := #[.tmp 175, .tmp 176]) rfl ?_); (try (refine gate_guard (by rfl) ?_; dsimp only)); at_builtin; refine Kd.R_append_rows Kd.string (w0 := w) w.heap.size rfl (.tmp 175) (.tmp 176) 37 9 (.string ⟨#[]⟩) 16 rfl Try.underlying37 info9 rfl (by decide) (by omega) v185 y184 y174 _ _ _ (fun k_ => some k_ ≠ (v147 : Value).ownBlock ∧ some k_ ≠ (.slice (some ad164) x9_3.length co110 : Value).ownBlock ∧ some k_ ≠ (.slice Ao129 y174.length co129 : Value).ownBlock) (fun _ => False) rfl rfl ?aO ?aR (fun _ _ h => h) (fun _ h => h.elim) ?aF ?aB ?aS ?aL ?_; (case aR => exact rc (Kd.R_reads' HO176.out).2.2); (case aB => exact (bl HB.out)); (case aF => exact (fun k_ hk => ⟨Kd.fresh' (Kd.R_lt (by (repeat apply rl1); exact HO_6.out)) k_ hk, Kd.fresh' (Kd.R_lt (by (repeat apply rl1); exact HO_9.out)) k_ hk, Kd.fresh' (Kd.R_lt (by (repeat apply rl1); exact HO176.out)) k_ hk⟩)); (case aO => exact (rl HO186.out)); (case aS => exact (below_size (bl HB.out))); (case aL => have := LMc118.out; omega); intro v188 w128 ho hb hg hat; rw [← Ny187.out] at ho; replace HO_6 := Aside0.mk (Kd.R_after (ok := (fun k_ => some k_ ≠ (.slice (some ad164) x9_3.length co110 : Value).ownBlock ∧ some k_ ≠ (.slice Ao129 y174.length co129 : Value).ownBlock)) (rl HO_6.out) hg hat); replace HO176 := Aside0.mk (Kd.R_after (ok := (fun k_ => some k_ ≠ (v147 : Value).ownBlock ∧ some k_ ≠ (.slice (some ad164) x9_3.length co110 : Value).ownBlock)) (rl HO176.out) hg hat); replace HB := Aside0.mk (hb); replace HR173 := Aside0.mk ((show Kd.C Kd.string w128 A120 y170.length y170 from by rw [Ny170.out, KA120.out]; exact Kd.C_drop (m := (x16_6 : Int).toNat) (c := co110) ((Kd.R_reads' (Kd.R_after (ok := (fun k_ => some k_ ≠ (v147 : Value).ownBlock ∧ some k_ ≠ (.slice Ao129 y174.length co129 : Value).ownBlock)) (rl HO_9.out) hg hat)).2.2) KL120.out ((Kd.R_reads' (Kd.R_after (ok := (fun k_ => some k_ ≠ (v147 : Value).ownBlock ∧ some k_ ≠ (.slice Ao129 y174.length co129 : Value).ownBlock)) (rl HO_9.out) hg hat)).2.1))); replace HR183 := Aside0.mk ((show Kd.C Kd.string w128 (some ad164) y180.length y180 from by rw [Ny180.out]; exact Kd.C_take (m := (x16_6 : Int).toNat) ((Kd.R_reads' (Kd.R_after (ok := (fun k_ => some k_ ≠ (v147 : Value).ownBlock ∧ some k_ ≠ (.slice Ao129 y174.length co129 : Value).ownBlock)) (rl HO_9.out) hg hat)).2.2) KL126.out)); replace HO_9 := Aside0.mk (Kd.R_after (ok := (fun k_ => some k_ ≠ (v147 : Value).ownBlock ∧ some k_ ≠ (.slice Ao129 y174.length co129 : Value).ownBlock)) (rl HO_9.out) hg hat); have HO189 := Aside0.mk (ho); clear HO186; clear ho hb hg hat))
                               go_roundg k6
                               case measure => have := HJ2.out; have := HK2.out; have := HK3.out; have := HK4.out; have := HK5.out; have := HK6.out; omega
                               case rel => exact ⟨(y187), (wrap64 (x10_3 + 1)), (by first | rfl | (simp; done) | (simp [*]; done)), H', ⟨by have := HJ2.out; have := HK2.out; have := HK3.out; have := HK4.out; have := HK5.out; have := HK6.out; omega⟩, ⟨by (repeat apply rl1); exact Kd.R_mono HO_6.out (fun _ hk => hk.2)⟩, ⟨by (repeat apply rl1); exact Kd.R_mono HO189.out (fun _ hk => hk.1)⟩, ⟨bl HB.out⟩⟩
                              ·
                               rw [if_neg c118] at H
                               exact absurd H (by simp)
                             ·
                              rw [if_neg c117] at H
                              exact absurd H (by simp)
                            ·
                             rw [if_neg c114] at H
                             exact absurd H (by simp)
                           ·
                            rw [if_neg c113] at H
                            exact absurd H (by simp)
                         ·
                          rw [if_neg c107] at H
                          exact absurd H (by simp)
                        ·
                         rw [if_neg c106] at H
                         exact absurd H (by simp)
                       ·
                        rw [if_neg c105] at H
                        exact absurd H (by simp)
                      ·
                       rw [if_neg c104] at H
                       have c104b0 : decide (x16_6 < (x9_3.length : Int)) = false := decide_eq_false c104
                       clear c104
                       by_cases c130 : 0 ≤ x10_3
                       ·
                        rw [if_pos c130] at H
                        have c130b0 : decide (0 ≤ x10_3) = true := decide_eq_true c130
                        clear c130
                        by_cases c131 : x10_3 < (l1.length : Int)
                        ·
                         rw [if_pos c131] at H
                         have c131b0 : decide (x10_3 < (l1.length : Int)) = true := decide_eq_true c131
                         clear c131
                         obtain ⟨y191, hy191⟩ : ∃ y_ : List ByteArray, y_ = (([(rd_T31 l1 x10_3).f0] : List ByteArray)) := ⟨_, rfl⟩
                         replace H : (if 0 ≤ x16_6 then (if x16_6 ≤ (x9_3.length : Int) then ((some (x9_3.drop (x16_6 : Int).toNat : List ByteArray)).bind fun y194 => (if y191.length + y194.length < 8796093022208 then ((some (y191 ++ y194 : List ByteArray)).bind fun y198 => ((some (([] : List ByteArray) : List ByteArray)).bind fun y201 => ((some (x9_3.take (x16_6 : Int).toNat : List ByteArray)).bind fun y204 => (if y201.length + y204.length < 8796093022208 then ((some (y201 ++ y204 : List ByteArray)).bind fun y208 => (if y208.length + y198.length < 8796093022208 then (spec_Due6.l2 k6 l0 l1 y146 (y208 ++ y198) (wrap64 (x10_3 + 1))) else (none))) else (none))))) else (none))) else (none)) else (none)) = some (r1, r2) := by first | (rw [hy191]; with_reducible exact H) | (have H2_ := (Option.bind_some _ _).symm.trans H; rw [hy191]; with_reducible exact H2_) | (have H2_ := (Option.bind_some _ _).symm.trans H; with_reducible exact H2_) | with_reducible exact H | (rw [hy191]; exact H) | exact H
                         have Ny191 := Aside0.mk hy191
                         clear hy191
                         by_cases c132 : 0 ≤ x16_6
                         ·
                          rw [if_pos c132] at H
                          have c132b0 := eq_true c132
                          have c132b1 : decide (0 ≤ x16_6) = true := decide_eq_true c132
                          clear c132
                          by_cases c133 : x16_6 ≤ (x9_3.length : Int)
                          ·
                           rw [if_pos c133] at H
                           have c133b0 := eq_true c133
                           have c133b1 : decide (x16_6 ≤ (x9_3.length : Int)) = true := decide_eq_true c133
                           clear c133
                           obtain ⟨y194, hy194⟩ : ∃ y_ : List ByteArray, y_ = (x9_3.drop (x16_6 : Int).toNat) := ⟨_, rfl⟩
                           replace H : (if y191.length + y194.length < 8796093022208 then ((some (y191 ++ y194 : List ByteArray)).bind fun y198 => ((some (([] : List ByteArray) : List ByteArray)).bind fun y201 => ((some (x9_3.take (x16_6 : Int).toNat : List ByteArray)).bind fun y204 => (if y201.length + y204.length < 8796093022208 then ((some (y201 ++ y204 : List ByteArray)).bind fun y208 => (if y208.length + y198.length < 8796093022208 then (spec_Due6.l2 k6 l0 l1 y146 (y208 ++ y198) (wrap64 (x10_3 + 1))) else (none))) else (none))))) else (none)) = some (r1, r2) := by first | (rw [hy194]; with_reducible exact H) | (have H2_ := (Option.bind_some _ _).symm.trans H; rw [hy194]; with_reducible exact H2_) | (have H2_ := (Option.bind_some _ _).symm.trans H; with_reducible exact H2_) | with_reducible exact H | (rw [hy194]; exact H) | exact H
                           have Ny194 := Aside0.mk hy194
                           clear hy194
                           by_cases c134 : y191.length + y194.length < 8796093022208
                           ·
                            rw [if_pos c134] at H
                            have LMc134 := Aside0.mk c134
                            clear c134
                            obtain ⟨y198, hy198⟩ : ∃ y_ : List ByteArray, y_ = (y191 ++ y194) := ⟨_, rfl⟩
                            replace H : ((some (([] : List ByteArray) : List ByteArray)).bind fun y201 => ((some (x9_3.take (x16_6 : Int).toNat : List ByteArray)).bind fun y204 => (if y201.length + y204.length < 8796093022208 then ((some (y201 ++ y204 : List ByteArray)).bind fun y208 => (if y208.length + y198.length < 8796093022208 then (spec_Due6.l2 k6 l0 l1 y146 (y208 ++ y198) (wrap64 (x10_3 + 1))) else (none))) else (none)))) = some (r1, r2) := by first | (rw [hy198]; with_reducible exact H) | (have H2_ := (Option.bind_some _ _).symm.trans H; rw [hy198]; with_reducible exact H2_) | (have H2_ := (Option.bind_some _ _).symm.trans H; with_reducible exact H2_) | with_reducible exact H | (rw [hy198]; exact H) | exact H
                            have Ny198 := Aside0.mk hy198
                            clear hy198
                            obtain ⟨y201, hy201⟩ : ∃ y_ : List ByteArray, y_ = (([] : List ByteArray)) := ⟨_, rfl⟩
                            replace H : ((some (x9_3.take (x16_6 : Int).toNat : List ByteArray)).bind fun y204 => (if y201.length + y204.length < 8796093022208 then ((some (y201 ++ y204 : List ByteArray)).bind fun y208 => (if y208.length + y198.length < 8796093022208 then (spec_Due6.l2 k6 l0 l1 y146 (y208 ++ y198) (wrap64 (x10_3 + 1))) else (none))) else (none))) = some (r1, r2) := by first | (rw [hy201]; with_reducible exact H) | (have H2_ := (Option.bind_some _ _).symm.trans H; rw [hy201]; with_reducible exact H2_) | (have H2_ := (Option.bind_some _ _).symm.trans H; with_reducible exact H2_) | with_reducible exact H | (rw [hy201]; exact H) | exact H
                            have Ny201 := Aside0.mk hy201
                            clear hy201
                            have c135b0 := eq_true (of_decide_eq_true (by first | (with_reducible assumption) | assumption) : 0 ≤ x16_6)
                            have c136b0 := eq_true (of_decide_eq_true (by first | (with_reducible assumption) | assumption) : x16_6 ≤ (x9_3.length : Int))
                            obtain ⟨y204, hy204⟩ : ∃ y_ : List ByteArray, y_ = (x9_3.take (x16_6 : Int).toNat) := ⟨_, rfl⟩
                            replace H : (if y201.length + y204.length < 8796093022208 then ((some (y201 ++ y204 : List ByteArray)).bind fun y208 => (if y208.length + y198.length < 8796093022208 then (spec_Due6.l2 k6 l0 l1 y146 (y208 ++ y198) (wrap64 (x10_3 + 1))) else (none))) else (none)) = some (r1, r2) := by first | (rw [hy204]; with_reducible exact H) | (have H2_ := (Option.bind_some _ _).symm.trans H; rw [hy204]; with_reducible exact H2_) | (have H2_ := (Option.bind_some _ _).symm.trans H; with_reducible exact H2_) | with_reducible exact H | (rw [hy204]; exact H) | exact H
                            have Ny204 := Aside0.mk hy204
                            clear hy204
                            by_cases c137 : y201.length + y204.length < 8796093022208
                            ·
                             rw [if_pos c137] at H
                             have LMc137 := Aside0.mk c137
                             clear c137
                             obtain ⟨y208, hy208⟩ : ∃ y_ : List ByteArray, y_ = (y201 ++ y204) := ⟨_, rfl⟩
                             replace H : (if y208.length + y198.length < 8796093022208 then (spec_Due6.l2 k6 l0 l1 y146 (y208 ++ y198) (wrap64 (x10_3 + 1))) else (none)) = some (r1, r2) := by first | (rw [hy208]; with_reducible exact H) | (have H2_ := (Option.bind_some _ _).symm.trans H; rw [hy208]; with_reducible exact H2_) | (have H2_ := (Option.bind_some _ _).symm.trans H; with_reducible exact H2_) | with_reducible exact H | (rw [hy208]; exact H) | exact H
                             have Ny208 := Aside0.mk hy208
                             clear hy208
                             by_cases c138 : y208.length + y198.length < 8796093022208
                             ·
                              rw [if_pos c138] at H
                              have LMc138 := Aside0.mk c138
                              clear c138
                              obtain ⟨y211, hy211⟩ : ∃ y_ : List ByteArray, y_ = (y208 ++ y198) := ⟨_, rfl⟩
                              replace H : (spec_Due6.l2 k6 l0 l1 y146 y211 (wrap64 (x10_3 + 1))) = some (r1, r2) := by first | (rw [hy211]; with_reducible exact H) | (have H2_ := (Option.bind_some _ _).symm.trans H; rw [hy211]; with_reducible exact H2_) | (have H2_ := (Option.bind_some _ _).symm.trans H; with_reducible exact H2_) | with_reducible exact H | (rw [hy211]; exact H) | exact H
                              have Ny211 := Aside0.mk hy211
                              clear hy211
                              have H' := Aside0.mk H
                              clear H
                              try go_wp2
                              have n0_ := Aside0.mk (Kd.R_drew HO_6.out)
                              have n1_ := Aside0.mk (Kd.R_drew HO_9.out)
                              have n2_ := Aside0.mk (below_drew1 HB.out)
                              clear HO_6
                              clear HO_9
                              clear HB
                              have HO_6 := n0_
                              have HO_9 := n1_
                              have HB := n2_
                              clear n0_ n1_ n2_
                              obtain ⟨Ao140, co140, eo140⟩ := Kd.R_slice HO_9.out
                              (first | subst eo140 | (injection eo140 with f1_ f2_ f3_; have f4_ := f1_.symm; have f5_ := f3_.symm; clear f1_ f2_ f3_; subst f4_; subst f5_))
                              refine start_ (n := 16) (S := fun w' => True) (ds := []) m0_16 (by kernel_rfl) rfl rfl trivial (fun hHeld => ?_); refine with_tabW spec_Due6.tab34 spec_Due6.bits34 (fun HT_ HW_ => ?_)
                              generalize wr.drew = w139 at HO_6 HO_9 HB hHeld ⊢
                              refine pq_ HT_.out 0 143 m1_16 ?_
                              refine pq_ HT_.out 1 144 m2_16 ?_
                              refine pq_ HT_.out 2 145 m3_16 ?_
                              refine pq_ HT_.out 3 146 m4_16 ?_
                              refine pq_ HT_.out 4 147 m5_16 ?_
                              refine pv_ HT_.out 5 148 m6_16 ?_
                              refine pv_ HT_.out 6 149 m7_16 ?_
                              refine pv_ HT_.out 7 150 m8_16 ?_
                              refine pv_ HT_.out 8 151 m9_16 ?_
                              refine pv_ HT_.out 9 152 m10_16 ?_
                              refine pv_ HT_.out 10 153 m11_16 ?_
                              refine pv_ HT_.out 11 154 m12_16 ?_
                              refine pv_ HT_.out 12 155 m13_16 ?_
                              refine pv_ HT_.out 13 156 m14_16 ?_
                              refine pv_ HT_.out 14 157 m15_16 ?_
                              refine pq_ HT_.out 15 158 m16_16 ?_
                              refine done_ (done_of HT_.out (by kernel_rfl)) ?_
                              try go_wp2
                              have n0_ := Aside0.mk (Kd.R_drew HO_6.out)
                              have n1_ := Aside0.mk (Kd.R_drew HO_9.out)
                              have n2_ := Aside0.mk (below_drew1 HB.out)
                              clear HO_6
                              clear HO_9
                              clear HB
                              have HO_6 := n0_
                              have HO_9 := n1_
                              have HB := n2_
                              clear n0_ n1_ n2_
                              have p190 : 0 ≤ (x10_3 : Int) := of_decide_eq_true (by first | (with_reducible assumption) | assumption)
                              have q190 : x10_3 < (l1.length : Int) := of_decide_eq_true (by first | (with_reducible assumption) | assumption)
                              obtain ⟨ad190, e190, hx190_0, hx190_1, hx190_2, hx190_3⟩ := at_T31 HR1.out x10_3 p190 q190
                              have hw190_3 := hx190_3
                              have hw190_2 := hx190_2
                              have hw190_1 := hx190_1
                              have hw190_0 := hx190_0
                              obtain rfl : ad158 = ad190 := (by injection e190)
                              replace hx190_0 := bc HB.out hx190_0
                              replace hx190_1 := bc HB.out hx190_1
                              replace hx190_2 := bc HB.out hx190_2
                              replace hx190_3 := bc HB.out hx190_3
                              replace p190 := eq_true p190
                              replace q190 := eq_true q190
                              have q142 : (x16_6 : Int) ≤ ((x9_3.length : Int) : Int) := of_decide_eq_true (by first | (with_reducible assumption) | assumption)
                              obtain ⟨i0142, hi0142, _, hsz142, _⟩ := info_parts info9
                              have hroom142 : x9_3.length ≤ co140 := (Kd.R_reads' HO_9.out).2.1
                              have hC142 : Kd.C Kd.string _ Ao140 x9_3.length x9_3 := (Kd.R_reads' HO_9.out).2.2
                              have q0142 : (0 : Int) ≤ (x16_6 : Int) := of_decide_eq_true (by first | (with_reducible assumption) | assumption)
                              have hcut142 := cut_from (P := Try.prog) 37 9 .i64 Try.underlying37 hi0142 1 hsz142 Ao140 x9_3.length co140 x16_6 q0142 q142
                              have hr142 := Kd.C_drop (m := (x16_6 : Int).toNat) (c := co140) hC142 (by omega) hroom142
                              obtain ⟨A142, hA142⟩ : ∃ A1, A1 = (if co140 = (x16_6 : Int).toNat then Ao140 else (Ao140 : Option Addr).map (·.add ((x16_6 : Int).toNat * 1))) := ⟨_, rfl⟩
                              obtain ⟨c142, hc142⟩ : ∃ c1, c1 = co140 - (x16_6 : Int).toNat := ⟨_, rfl⟩
                              have hy142 : y194.length = x9_3.length - (x16_6 : Int).toNat := (by rw [Ny194.out, List.length_drop] <;> omega)
                              rw [show (x9_3).drop (x16_6 : Int).toNat = y194 from Ny194.out.symm] at hr142
                              replace hr142 : Kd.C Kd.string _ A142 y194.length y194 := (by rw [hA142]; exact hr142)
                              rw [← hy142, ← hA142, ← hc142] at hcut142
                              have HR197 := Aside0.mk hr142
                              have HC197 := Aside0.mk (show y194.length ≤ c142 from by rw [hy142, hc142]; exact Nat.sub_le_sub_right hroom142 _)
                              clear hr142 hC142 hroom142 hi0142 hsz142 hc142
                              have KY142 := Aside0.mk hy142
                              have KA142 := Aside0.mk hA142
                              clear hy142 hA142
                              have KL142 := Aside0.mk (show (x16_6 : Int).toNat ≤ x9_3.length from by omega)
                              replace q142 := eq_true q142
                              refine start_ (n := 11) (S := fun w' => w'.cell? (ad158.add ((x10_3).toNat * 4)) = some (.string ((rd_T31 l1 x10_3).f0)) ∧ w'.cell? ⟨(ad158.add ((x10_3).toNat * 4)).block, (ad158.add ((x10_3).toNat * 4)).off + 1, none⟩ = some (.int .i64 ((rd_T31 l1 x10_3).f1)) ∧ w'.cell? ⟨(ad158.add ((x10_3).toNat * 4)).block, (ad158.add ((x10_3).toNat * 4)).off + 2, none⟩ = some (.int .i64 ((rd_T31 l1 x10_3).f2)) ∧ w'.cell? ⟨(ad158.add ((x10_3).toNat * 4)).block, (ad158.add ((x10_3).toNat * 4)).off + 3, none⟩ = some (.int .i64 ((rd_T31 l1 x10_3).f3))) (ds := []) m0_11 (by kernel_rfl) rfl rfl ⟨((HB.out.cell (World.block_lt_of_cell? w _ hw190_0)).trans hw190_0), ((HB.out.cell (World.block_lt_of_cell? w _ hw190_1)).trans hw190_1), ((HB.out.cell (World.block_lt_of_cell? w _ hw190_2)).trans hw190_2), ((HB.out.cell (World.block_lt_of_cell? w _ hw190_3)).trans hw190_3)⟩ (fun hHeld => ?_); refine with_tabW spec_Due6.tab36 spec_Due6.bits36 (fun HT_ HW_ => ?_)
                              generalize w139.drew = w141 at HO_6 HO_9 HB HR197 hx190_0 hx190_1 hx190_2 hx190_3 hHeld ⊢
                              refine pq_ HT_.out 0 161 m1_11 ?_
                              refine pq_ HT_.out 1 162 m2_11 ?_
                              refine pq_ HT_.out 2 163 m3_11 ?_
                              refine pq_ HT_.out 3 164 m4_11 ?_
                              refine pq_ HT_.out 6 167 n29 ?_
                              refine pq_ HT_.out 7 168 n30 ?_
                              refine pq_ HT_.out 8 169 n31 ?_
                              refine tk_ HT_.out HW_.out 4 165 n42 rfl rfl (by kernel_rfl) (by rfl) (by rintro w' ⟨s0, s1, s2, s3⟩; go_simp; with_reducible rfl) hHeld (by simp only [sp_]; rfl) (fun _ _ _ h => h) ?_
                              refine one_ (i := 5) (N := some 166) m9_11 rfl rfl (one_of HT_.out (by kernel_rfl)) (by decide) (fun K hK => ?_)
                              refine Kd.R_lit_step Kd.string _ 9 ?hg (N := 166) ?hd (xs := ([(rd_T31 l1 x10_3).f0] : List ByteArray)) (inner := [.string ((rd_T31 l1 x10_3).f0)]) (ok := fun _ => True) (okp := fun _ => True) ?hr ?hp (fun _ hk => hk) trivial (Below.refl _ _) (Nat.le_refl _) (by simp) ?_; (case hd => rfl); (case hg => rfl); (case hr => first | (go_simp; done) | (go_simp; rfl)); (case hp => exact (Reps.one (show Kd.M Kd.string _ _ _ ((rd_T31 l1 x10_3).f0) [.string ((rd_T31 l1 x10_3).f0)] from rfl) (Reps.none _ _)))
                              intro v192 w143 ho144 hb hg_ hnew_
                              clear hg_ hnew_
                              (first | rw [← Ny191.out] at ho144 | (simp only [Int.reduceToNat] at ho144; rw [← Ny191.out] at ho144))
                              have n0_ := Aside0.mk (Kd.R_elder' (rl HO_6.out) (Kd.R_base ho144) hb)
                              have n1_ := Aside0.mk (Kd.R_elder' (rl HO_9.out) (Kd.R_base ho144) hb)
                              have n2_ := Aside0.mk (Kd.R_lower (Kd.R_new' (Kd.R_new' ho144 (Kd.R_lt (by (repeat apply rl1); exact HO_6.out))) (Kd.R_lt (by (repeat apply rl1); exact HO_9.out))) (below_size (bl HB.out)))
                              have n3_ := Aside0.mk (Kd.C_below (by repeat (first | (with_reducible exact HR197.out) | (with_reducible refine Kd.C_alloc ?_ _) | (with_reducible refine Kd.C_drewN ?_ _) | (with_reducible refine Kd.C_drew ?_) | exact HR197.out)) hb)
                              have n4_ := Aside0.mk (below_step (bl HB.out) hb)
                              clear HO_6
                              clear HO_9
                              clear HR197
                              clear HB
                              have HO_6 := n0_
                              have HO_9 := n1_
                              have HO193 := n2_
                              have HR197 := n3_
                              have HB := n4_
                              clear n0_ n1_ n2_ n3_ n4_
                              clear hb ho144
                              refine hK.out _ _ ⟨((HB.out.cell (World.block_lt_of_cell? w _ hw190_0)).trans hw190_0), ((HB.out.cell (World.block_lt_of_cell? w _ hw190_1)).trans hw190_1), ((HB.out.cell (World.block_lt_of_cell? w _ hw190_2)).trans hw190_2), ((HB.out.cell (World.block_lt_of_cell? w _ hw190_3)).trans hw190_3)⟩ (fun hHeld => ?_)
                              clear hK K
                              refine norm_ (a' := ?_) ?_ ?_
                              rotate_left
                              ·
                               show Act.put _ (some 166) _ = _
                               simp only [sp_]
                               rfl
                              refine one_ (i := 9) (N := some 170) m10_11 rfl rfl (one_of HT_.out (by kernel_rfl)) (by decide) (fun K hK => ?_)
                              refine Kd.R_append_rows_step Kd.string (w0 := w) w.heap.size (by rfl) (.tmp 166) (.tmp 169) 37 9 (.string ⟨#[]⟩) 16 rfl Try.underlying37 info9 rfl (by decide) (by omega) v192 y191 y194 _ _ _ (fun k_ => some k_ ≠ (v147 : Value).ownBlock ∧ some k_ ≠ (.slice Ao140 x9_3.length co140 : Value).ownBlock) (fun _ => False) rfl rfl ?aO ?aR (fun _ _ h => h) (fun _ h => h.elim) ?aF ?aB ?aS ?aL ?_
                              (case aR => repeat (first | exact (by repeat (first | (with_reducible exact HR197.out) | (with_reducible refine Kd.C_alloc ?_ _) | (with_reducible refine Kd.C_drewN ?_ _) | (with_reducible refine Kd.C_drew ?_) | exact HR197.out)) | (with_reducible refine Kd.C_alloc ?_ _) | (with_reducible refine Kd.C_drewN ?_ _) | (with_reducible refine Kd.C_drew ?_)))
                              (case aB => exact (bl HB.out))
                              (case aF => exact (fun k_ hk => ⟨Kd.fresh' (Kd.R_lt (by (repeat apply rl1); exact HO_6.out)) k_ hk, Kd.fresh' (Kd.R_lt (by (repeat apply rl1); exact HO_9.out)) k_ hk⟩))
                              (case aO => exact (by (repeat apply rl1); exact Kd.R_mono HO193.out (fun _ hk => ⟨hk.1.2, hk.2⟩)))
                              (case aS => exact (below_size (bl HB.out)))
                              (case aL => have := LMc134.out; omega)
                              intro v199 w145 ho hb hg hat
                              rw [← Ny198.out] at ho
                              have n0_ := Aside0.mk (Kd.R_after (ok := (fun k_ => some k_ ≠ (.slice Ao140 x9_3.length co140 : Value).ownBlock)) (rl HO_6.out) hg hat)
                              have n1_ := Aside0.mk (Kd.R_after (ok := (fun k_ => some k_ ≠ (v147 : Value).ownBlock)) (rl HO_9.out) hg hat)
                              have n2_ := Aside0.mk (hb)
                              have n3_ := Aside0.mk ((show Kd.C Kd.string w145 A142 y194.length y194 from by rw [Ny194.out, KA142.out]; exact Kd.C_drop (m := (x16_6 : Int).toNat) (c := co140) ((Kd.R_reads' (Kd.R_after (ok := (fun k_ => some k_ ≠ (v147 : Value).ownBlock)) (rl HO_9.out) hg hat)).2.2) KL142.out ((Kd.R_reads' (Kd.R_after (ok := (fun k_ => some k_ ≠ (v147 : Value).ownBlock)) (rl HO_9.out) hg hat)).2.1)))
                              have n4_ := Aside0.mk (ho)
                              clear HO_6
                              clear HO_9
                              clear HB
                              clear HR197
                              clear HO193
                              have HO_6 := n0_
                              have HO_9 := n1_
                              have HB := n2_
                              have HR197 := n3_
                              have HO200 := n4_
                              clear n0_ n1_ n2_ n3_ n4_
                              clear ho hb hg hat
                              refine hK.out _ _ ⟨((HB.out.cell (World.block_lt_of_cell? w _ hw190_0)).trans hw190_0), ((HB.out.cell (World.block_lt_of_cell? w _ hw190_1)).trans hw190_1), ((HB.out.cell (World.block_lt_of_cell? w _ hw190_2)).trans hw190_2), ((HB.out.cell (World.block_lt_of_cell? w _ hw190_3)).trans hw190_3)⟩ (fun hHeld => ?_)
                              clear hK K
                              refine norm_ (a' := ?_) ?_ ?_
                              rotate_left
                              ·
                               show Act.put _ (some 170) _ = _
                               simp only [sp_]
                               rfl
                              refine pq_ HT_.out 10 17 m11_11 ?_
                              refine done_ (done_of HT_.out (by kernel_rfl)) ?_
                              try go_wp2_with (first | ((with_reducible refine gate_dst (N := 171) rfl ?_); (try (refine gate_guard (by rfl) ?_; dsimp only)); refine Kd.R_lit Kd.string _ 9 ?hg (N := 171) ?hd (xs := ([] : List ByteArray)) (inner := []) (ok := fun _ => True) (okp := fun _ => True) ?hr ?hp (fun _ hk => hk) trivial (Below.refl _ _) (Nat.le_refl _) (by simp) ?_; (case hd => rfl); (case hg => rfl); (case hr => first | (go_simp; done) | (go_simp; rfl)); (case hp => exact (Reps.none _ _)); intro v202 w146 ho147 hb hg_ hnew_; clear hg_ hnew_; (first | rw [← Ny201.out] at ho147 | (simp only [Int.reduceToNat] at ho147; rw [← Ny201.out] at ho147)); have HO203 := Aside0.mk (Kd.R_lower (Kd.R_new' (Kd.R_new' (Kd.R_new' ho147 (Kd.R_lt (by (repeat apply rl1); exact HO_6.out))) (Kd.R_lt (by (repeat apply rl1); exact HO_9.out))) (Kd.R_lt (by (repeat apply rl1); exact HO200.out))) (below_size (bl HB.out))); replace HO_6 := Aside0.mk (Kd.R_elder' (rl HO_6.out) (Kd.R_base ho147) hb); replace HO_9 := Aside0.mk (Kd.R_elder' (rl HO_9.out) (Kd.R_base ho147) hb); replace HO200 := Aside0.mk (Kd.R_elder' (rl HO200.out) (Kd.R_base ho147) hb); replace HR197 := Aside0.mk (Kd.C_below (by repeat (first | (with_reducible exact HR197.out) | (with_reducible refine Kd.C_alloc ?_ _) | (with_reducible refine Kd.C_drewN ?_ _) | (with_reducible refine Kd.C_drew ?_) | exact HR197.out)) hb); replace HB := Aside0.mk (below_step (bl HB.out) hb); clear hb ho147; have q148 : (x16_6 : Int) ≤ ((x9_3.length : Int) : Int) := of_decide_eq_true (by first | (with_reducible assumption) | assumption); obtain ⟨i0148, hi0148, _, hsz148, _⟩ := info_parts info9; have hroom148 : x9_3.length ≤ co140 := (Kd.R_reads' HO_9.out).2.1; have hC148 : Kd.C Kd.string _ Ao140 x9_3.length x9_3 := (Kd.R_reads' HO_9.out).2.2; have hcut148 := cut_to (P := Try.prog) 37 9 .i64 Try.underlying37 hi0148 Ao140 x9_3.length co140 x16_6 (of_decide_eq_true (by first | (with_reducible assumption) | assumption)) q148 hroom148; have hr148 := Kd.C_take (m := (x16_6 : Int).toNat) hC148 (by omega); have hy148 : y204.length = (x16_6 : Int).toNat := (by rw [Ny204.out, List.length_take]; omega); rw [← Ny204.out] at hr148; rw [← hy148] at hcut148; have HR207 := Aside0.mk hr148; have HC207 := Aside0.mk (show y204.length ≤ co140 from by omega); clear hr148 hC148 hroom148 hi0148 hsz148; have KY148 := Aside0.mk hy148; clear hy148; have KL148 := Aside0.mk (show (x16_6 : Int).toNat ≤ x9_3.length from by omega); replace q148 := eq_true q148) | ((with_reducible refine gate_builtin (b := .append) (xs := #[.tmp 171, .tmp 174]) rfl ?_); (try (refine gate_guard (by rfl) ?_; dsimp only)); at_builtin; refine Kd.R_append_rows Kd.string (w0 := w) w.heap.size rfl (.tmp 171) (.tmp 174) 37 9 (.string ⟨#[]⟩) 16 rfl Try.underlying37 info9 rfl (by decide) (by omega) v202 y201 y204 _ _ _ (fun k_ => some k_ ≠ (v147 : Value).ownBlock ∧ some k_ ≠ (.slice Ao140 x9_3.length co140 : Value).ownBlock ∧ some k_ ≠ (v199 : Value).ownBlock) (fun _ => False) rfl rfl ?aO ?aR (fun _ _ h => h) (fun _ h => h.elim) ?aF ?aB ?aS ?aL ?_; (case aR => repeat (first | exact (by repeat (first | (with_reducible exact HR207.out) | (with_reducible refine Kd.C_alloc ?_ _) | (with_reducible refine Kd.C_drewN ?_ _) | (with_reducible refine Kd.C_drew ?_) | exact HR207.out)) | (with_reducible refine Kd.C_alloc ?_ _) | (with_reducible refine Kd.C_drewN ?_ _) | (with_reducible refine Kd.C_drew ?_))); (case aB => exact (bl HB.out)); (case aF => exact (fun k_ hk => ⟨Kd.fresh' (Kd.R_lt (by (repeat apply rl1); exact HO_6.out)) k_ hk, Kd.fresh' (Kd.R_lt (by (repeat apply rl1); exact HO_9.out)) k_ hk, Kd.fresh' (Kd.R_lt (by (repeat apply rl1); exact HO200.out)) k_ hk⟩)); (case aO => exact (by (repeat apply rl1); exact Kd.R_mono HO203.out (fun _ hk => ⟨hk.1.1.2, ⟨hk.1.2, hk.2⟩⟩))); (case aS => exact (below_size (bl HB.out))); (case aL => have := LMc137.out; omega); intro v209 w149 ho hb hg hat; rw [← Ny208.out] at ho; replace HO_6 := Aside0.mk (Kd.R_after (ok := (fun k_ => some k_ ≠ (.slice Ao140 x9_3.length co140 : Value).ownBlock ∧ some k_ ≠ (v199 : Value).ownBlock)) (rl HO_6.out) hg hat); replace HO200 := Aside0.mk (Kd.R_after (ok := (fun k_ => some k_ ≠ (v147 : Value).ownBlock ∧ some k_ ≠ (.slice Ao140 x9_3.length co140 : Value).ownBlock)) (rl HO200.out) hg hat); replace HB := Aside0.mk (hb); replace HR197 := Aside0.mk ((show Kd.C Kd.string w149 A142 y194.length y194 from by rw [Ny194.out, KA142.out]; exact Kd.C_drop (m := (x16_6 : Int).toNat) (c := co140) ((Kd.R_reads' (Kd.R_after (ok := (fun k_ => some k_ ≠ (v147 : Value).ownBlock ∧ some k_ ≠ (v199 : Value).ownBlock)) (rl HO_9.out) hg hat)).2.2) KL142.out ((Kd.R_reads' (Kd.R_after (ok := (fun k_ => some k_ ≠ (v147 : Value).ownBlock ∧ some k_ ≠ (v199 : Value).ownBlock)) (rl HO_9.out) hg hat)).2.1))); replace HR207 := Aside0.mk ((show Kd.C Kd.string w149 Ao140 y204.length y204 from by rw [Ny204.out]; exact Kd.C_take (m := (x16_6 : Int).toNat) ((Kd.R_reads' (Kd.R_after (ok := (fun k_ => some k_ ≠ (v147 : Value).ownBlock ∧ some k_ ≠ (v199 : Value).ownBlock)) (rl HO_9.out) hg hat)).2.2) KL148.out)); replace HO_9 := Aside0.mk (Kd.R_after (ok := (fun k_ => some k_ ≠ (v147 : Value).ownBlock ∧ some k_ ≠ (v199 : Value).ownBlock)) (rl HO_9.out) hg hat); have HO210 := Aside0.mk (ho); clear HO203; clear ho hb hg hat; obtain ⟨Ao151, co151, eo151⟩ := Kd.R_slice HO200.out; subst eo151) | ((with_reducible refine gate_builtin (b := .append) (xs := #[.tmp 175, .tmp 176]) rfl ?_); (try (refine gate_guard (by rfl) ?_; dsimp only)); at_builtin; refine Kd.R_append_rows Kd.string (w0 := w) w.heap.size rfl (.tmp 175) (.tmp 176) 37 9 (.string ⟨#[]⟩) 16 rfl Try.underlying37 info9 rfl (by decide) (by omega) v209 y208 y198 _ _ _ (fun k_ => some k_ ≠ (v147 : Value).ownBlock ∧ some k_ ≠ (.slice Ao140 x9_3.length co140 : Value).ownBlock ∧ some k_ ≠ (.slice Ao151 y198.length co151 : Value).ownBlock) (fun _ => False) rfl rfl ?aO ?aR (fun _ _ h => h) (fun _ h => h.elim) ?aF ?aB ?aS ?aL ?_; (case aR => exact rc (Kd.R_reads' HO200.out).2.2); (case aB => exact (bl HB.out)); (case aF => exact (fun k_ hk => ⟨Kd.fresh' (Kd.R_lt (by (repeat apply rl1); exact HO_6.out)) k_ hk, Kd.fresh' (Kd.R_lt (by (repeat apply rl1); exact HO_9.out)) k_ hk, Kd.fresh' (Kd.R_lt (by (repeat apply rl1); exact HO200.out)) k_ hk⟩)); (case aO => exact (rl HO210.out)); (case aS => exact (below_size (bl HB.out))); (case aL => have := LMc138.out; omega); intro v212 w150 ho hb hg hat; rw [← Ny211.out] at ho; replace HO_6 := Aside0.mk (Kd.R_after (ok := (fun k_ => some k_ ≠ (.slice Ao140 x9_3.length co140 : Value).ownBlock ∧ some k_ ≠ (.slice Ao151 y198.length co151 : Value).ownBlock)) (rl HO_6.out) hg hat); replace HO200 := Aside0.mk (Kd.R_after (ok := (fun k_ => some k_ ≠ (v147 : Value).ownBlock ∧ some k_ ≠ (.slice Ao140 x9_3.length co140 : Value).ownBlock)) (rl HO200.out) hg hat); replace HB := Aside0.mk (hb); replace HR197 := Aside0.mk ((show Kd.C Kd.string w150 A142 y194.length y194 from by rw [Ny194.out, KA142.out]; exact Kd.C_drop (m := (x16_6 : Int).toNat) (c := co140) ((Kd.R_reads' (Kd.R_after (ok := (fun k_ => some k_ ≠ (v147 : Value).ownBlock ∧ some k_ ≠ (.slice Ao151 y198.length co151 : Value).ownBlock)) (rl HO_9.out) hg hat)).2.2) KL142.out ((Kd.R_reads' (Kd.R_after (ok := (fun k_ => some k_ ≠ (v147 : Value).ownBlock ∧ some k_ ≠ (.slice Ao151 y198.length co151 : Value).ownBlock)) (rl HO_9.out) hg hat)).2.1))); replace HR207 := Aside0.mk ((show Kd.C Kd.string w150 Ao140 y204.length y204 from by rw [Ny204.out]; exact Kd.C_take (m := (x16_6 : Int).toNat) ((Kd.R_reads' (Kd.R_after (ok := (fun k_ => some k_ ≠ (v147 : Value).ownBlock ∧ some k_ ≠ (.slice Ao151 y198.length co151 : Value).ownBlock)) (rl HO_9.out) hg hat)).2.2) KL148.out)); replace HO_9 := Aside0.mk (Kd.R_after (ok := (fun k_ => some k_ ≠ (v147 : Value).ownBlock ∧ some k_ ≠ (.slice Ao151 y198.length co151 : Value).ownBlock)) (rl HO_9.out) hg hat); have HO213 := Aside0.mk (ho); clear HO210; clear ho hb hg hat))
                              go_roundg k6
                              case measure => have := HJ2.out; have := HK2.out; have := HK3.out; have := HK4.out; have := HK5.out; have := HK6.out; omega
                              case rel => exact ⟨(y211), (wrap64 (x10_3 + 1)), (by first | rfl | (simp; done) | (simp [*]; done)), H', ⟨by have := HJ2.out; have := HK2.out; have := HK3.out; have := HK4.out; have := HK5.out; have := HK6.out; omega⟩, ⟨by (repeat apply rl1); exact Kd.R_mono HO_6.out (fun _ hk => hk.2)⟩, ⟨by (repeat apply rl1); exact Kd.R_mono HO213.out (fun _ hk => hk.1)⟩, ⟨bl HB.out⟩⟩
                             ·
                              rw [if_neg c138] at H
                              exact absurd H (by simp)
                            ·
                             rw [if_neg c137] at H
                             exact absurd H (by simp)
                           ·
                            rw [if_neg c134] at H
                            exact absurd H (by simp)
                          ·
                           rw [if_neg c133] at H
                           exact absurd H (by simp)
                         ·
                          rw [if_neg c132] at H
                          exact absurd H (by simp)
                        ·
                         rw [if_neg c131] at H
                         exact absurd H (by simp)
                       ·
                        rw [if_neg c130] at H
                        exact absurd H (by simp)
                   ·
                    replace c103 := Bool.eq_false_iff.mpr c103
                    subst c103
                    have H1 : (spec_Due6.l2 k5 l0 l1 y146 x9_3 (wrap64 (x10_3 + 1))) = some (r1, r2) := by rw [if_neg (show ¬ (false = true) by decide)] at H; exact H
                    clear H
                    have H := H1
                    clear H1
                    have H' := Aside0.mk H
                    clear H
                    go_wp2
                    go_roundg k5
                    case measure => have := HJ2.out; have := HK2.out; have := HK3.out; have := HK4.out; have := HK5.out; omega
                    case rel => exact ⟨(x9_3), (wrap64 (x10_3 + 1)), (by first | rfl | (simp; done) | (simp [*]; done)), H', ⟨by have := HJ2.out; have := HK2.out; have := HK3.out; have := HK4.out; have := HK5.out; omega⟩, ⟨rl HO_6.out⟩, ⟨rl HO_9.out⟩, ⟨bl HB.out⟩⟩
               ·
                replace c39 := Bool.eq_false_iff.mpr c39
                subst c39
                have H1 : (some (y146, false)) = some (r1, r2) := by rw [if_neg (show ¬ (false = true) by decide)] at H; exact H
                clear H
                have H := H1
                clear H1
                simp only [Option.some.injEq, Prod.mk.injEq] at H
                obtain ⟨rfl, rfl⟩ := H
                go_wp2
                go_ret2
                exact ⟨_, by first | rfl | (simp [errW_none, errW_some] <;> rfl) | (simp [*, errW_none, errW_some] <;> rfl), by (repeat apply rl1); exact Kd.R_mono HO_6.out (fun _ hk => trivial), bl HB.out⟩
              ·
               rw [if_neg c35] at H
               exact absurd H (by simp)
             ·
              rw [if_neg c34] at H
              exact absurd H (by simp)
         ·
          rw [if_neg c25] at H
          have c25b0 : decide (x10_3 < (l1.length : Int)) = false := decide_eq_false c25
          clear c25
          simp only [Option.some.injEq, Prod.mk.injEq] at H
          obtain ⟨rfl, rfl⟩ := H
          go_wp2
          go_ret2
          exact ⟨_, by first | rfl | (simp [errW_none, errW_some] <;> rfl) | (simp [*, errW_none, errW_some] <;> rfl), by (repeat apply rl1); exact Kd.R_mono HO_9.out (fun _ hk => trivial), bl HB.out⟩

end Go.Proofs.Ytfhielgfgmcdiaa.PFnExactDue6
