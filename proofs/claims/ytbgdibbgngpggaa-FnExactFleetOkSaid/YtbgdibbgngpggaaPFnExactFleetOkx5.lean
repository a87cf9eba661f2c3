-- Written by a program of this session (wip/xprint.py) out of the translation; Lean checks it.
import Derived.Test.YtbgdibbgngpggaaPFnExactFleetOkx0
import Derived.Test.YtbgdibbgngpggaaPFnExactFleetOkx1
import Derived.Test.YtbgdibbgngpggaaPFnExactFleetOkx2
import Derived.Test.YtbgdibbgngpggaaPFnExactFleetOkx3
import Derived.Test.YtbgdibbgngpggaaPFnExactFleetOkx4
namespace Go.Proofs.Ytbgdibbgngpggaa.PFnExactFleetOk
open Go.RowKit Go.Proofs.YtbgdibbgngpggaaW.PrintWords Go.Proofs.YtbgdibbgngpggaaW.PrintLast Go.Proofs.YtbgdibbgngpggaaW.PrintMore Go.Proofs.Ytbgdibbgngpggaa.Sq
attribute [local go_sem] max2_int min2_int max_two min_two max_three min_three max_four min_four   -- for this text's walks alone
set_option linter.unusedVariables false
set_option linter.unusedSimpArgs false

/-! ### spec_FleetOk: function 29 -/
mutual
def spec_FleetOk.j0 : Nat → Bool → List (S33) → List (S70) → List (S72) → Int → Int → Int → Option (Bool)
 | 0, _, _, _, _, _, _, _ => none
 | k + 1, x28, x139000, x139001, x139002, x139003, x139004, x139005 => if x28 = true then (some false) else (spec_FleetOk.l0 k 0 x139000 x139001 x139002 x139003 x139004 x139005)
def spec_FleetOk.l0 : Nat → Int → List (S33) → List (S70) → List (S72) → Int → Int → Int → Option (Bool)
 | 0, _, _, _, _, _, _, _ => none
 | k + 1, x3, x139000, x139001, x139002, x139003, x139004, x139005 => if x3 < (x139000.length : Int) then (if 0 ≤ x3 then ((spec_TaskOk.f k ((rd_T33 x139000 x3).f0) ((rd_T33 x139000 x3).f1) ((rd_T33 x139000 x3).f2) ((rd_T33 x139000 x3).f3) ((rd_T33 x139000 x3).f4.f0) ((rd_T33 x139000 x3).f4.f1) ((rd_T33 x139000 x3).f4.f2)).bind fun t143 => (if t143 = true then ((spec_l19Behind.f ((rd_T33 x139000 x3).f4.f0) ((rd_T33 x139000 x3).f4.f1) ((rd_T33 x139000 x3).f4.f2) x139003 x139004 x139005).bind fun t144 => (if t144 = true then (if x3 > 0 then (if 0 ≤ (wrap64 (x3 - 1)) then (if (wrap64 (x3 - 1)) < (x139000.length : Int) then (spec_FleetOk.j2 k x3 (!(Op.bytesLess (((rd_T33 x139000 (wrap64 (x3 - 1))).f0).toList) (((rd_T33 x139000 x3).f0).toList))) x139000 x139001 x139002 x139003 x139004 x139005) else (none)) else (none)) else (spec_FleetOk.j2 k x3 false x139000 x139001 x139002 x139003 x139004 x139005)) else (spec_FleetOk.j2 k x3 true x139000 x139001 x139002 x139003 x139004 x139005))) else (spec_FleetOk.j2 k x3 true x139000 x139001 x139002 x139003 x139004 x139005))) else (none)) else (spec_FleetOk.l1 k 0 x139000 x139001 x139002 x139003 x139004 x139005)
def spec_FleetOk.j2 : Nat → Int → Bool → List (S33) → List (S70) → List (S72) → Int → Int → Int → Option (Bool)
 | 0, _, _, _, _, _, _, _, _ => none
 | k + 1, x3, x67, x139000, x139001, x139002, x139003, x139004, x139005 => if x67 = true then (some false) else (spec_FleetOk.l0 k (wrap64 (x3 + 1)) x139000 x139001 x139002 x139003 x139004 x139005)
def spec_FleetOk.l1 : Nat → Int → List (S33) → List (S70) → List (S72) → Int → Int → Int → Option (Bool)
 | 0, _, _, _, _, _, _, _ => none
 | k + 1, x5, x139000, x139001, x139002, x139003, x139004, x139005 => if x5 < (x139002.length : Int) then (if 0 ≤ x5 then ((spec_l1Name.f k ((rd_T72 x139002 x5).f0)).bind fun t148 => (if t148 = true then ((spec_l1In.f ((rd_T72 x139002 x5).f1) 1 1000000).bind fun t149 => (if t149 = true then (if x5 > 0 then (if 0 ≤ (wrap64 (x5 - 1)) then (if (wrap64 (x5 - 1)) < (x139002.length : Int) then (if ((rd_T72 x139002 (wrap64 (x5 - 1))).f1) ≥ ((rd_T72 x139002 x5).f1) then (spec_FleetOk.j4 k x5 true x139000 x139001 x139002 x139003 x139004 x139005) else ((spec_l1In.f ((rd_T72 x139002 x5).f2) 0 x139005).bind fun t151 => (spec_FleetOk.j4 k x5 (!t151) x139000 x139001 x139002 x139003 x139004 x139005))) else (none)) else (none)) else ((spec_l1In.f ((rd_T72 x139002 x5).f2) 0 x139005).bind fun t152 => (spec_FleetOk.j4 k x5 (!t152) x139000 x139001 x139002 x139003 x139004 x139005))) else (spec_FleetOk.j4 k x5 true x139000 x139001 x139002 x139003 x139004 x139005))) else (spec_FleetOk.j4 k x5 true x139000 x139001 x139002 x139003 x139004 x139005))) else (none)) else (some true)
def spec_FleetOk.j4 : Nat → Int → Bool → List (S33) → List (S70) → List (S72) → Int → Int → Int → Option (Bool)
 | 0, _, _, _, _, _, _, _, _ => none
 | k + 1, x5, x114, x139000, x139001, x139002, x139003, x139004, x139005 => if x114 = true then (some false) else (spec_FleetOk.l1 k (wrap64 (x5 + 1)) x139000 x139001 x139002 x139003 x139004 x139005)
end
def spec_FleetOk.f (k : Nat) (l0_0 : List (S33)) (l0_1 : List (S70)) (l0_2 : List (S72)) (a0_3 : Int) (a0_4 : Int) (a0_5 : Int) : Option (Bool) := (spec_ClockOk.f a0_3 a0_4 a0_5).bind fun t139 => (if t139 = true then ((spec_CarryOk.f k l0_1).bind fun t140 => (if t140 = true then (if (l0_0.length : Int) > 40 then (spec_FleetOk.j0 k true l0_0 l0_1 l0_2 a0_3 a0_4 a0_5) else (spec_FleetOk.j0 k (decide ((l0_2.length : Int) > 20)) l0_0 l0_1 l0_2 a0_3 a0_4 a0_5)) else (spec_FleetOk.j0 k true l0_0 l0_1 l0_2 a0_3 a0_4 a0_5))) else (spec_FleetOk.j0 k true l0_0 l0_1 l0_2 a0_3 a0_4 a0_5))
theorem spec_FleetOk.mono_l : ∀ k, (∀ y0 y1 y2 y3 y4 y5 y6, LeO (spec_FleetOk.j0 k y0 y1 y2 y3 y4 y5 y6) (spec_FleetOk.j0 (k + 1) y0 y1 y2 y3 y4 y5 y6)) ∧ (∀ y0 y1 y2 y3 y4 y5 y6, LeO (spec_FleetOk.l0 k y0 y1 y2 y3 y4 y5 y6) (spec_FleetOk.l0 (k + 1) y0 y1 y2 y3 y4 y5 y6)) ∧ (∀ y0 y1 y2 y3 y4 y5 y6 y7, LeO (spec_FleetOk.j2 k y0 y1 y2 y3 y4 y5 y6 y7) (spec_FleetOk.j2 (k + 1) y0 y1 y2 y3 y4 y5 y6 y7)) ∧ (∀ y0 y1 y2 y3 y4 y5 y6, LeO (spec_FleetOk.l1 k y0 y1 y2 y3 y4 y5 y6) (spec_FleetOk.l1 (k + 1) y0 y1 y2 y3 y4 y5 y6)) ∧ (∀ y0 y1 y2 y3 y4 y5 y6 y7, LeO (spec_FleetOk.j4 k y0 y1 y2 y3 y4 y5 y6 y7) (spec_FleetOk.j4 (k + 1) y0 y1 y2 y3 y4 y5 y6 y7))
 | 0 => ⟨fun _ _ _ _ _ _ _ r h => by simp [spec_FleetOk.j0] at h, fun _ _ _ _ _ _ _ r h => by simp [spec_FleetOk.l0] at h, fun _ _ _ _ _ _ _ _ r h => by simp [spec_FleetOk.j2] at h, fun _ _ _ _ _ _ _ r h => by simp [spec_FleetOk.l1] at h, fun _ _ _ _ _ _ _ _ r h => by simp [spec_FleetOk.j4] at h⟩
 | k + 1 => by
  obtain ⟨ih0, ih1, ih2, ih3, ih4⟩ := spec_FleetOk.mono_l k
  refine ⟨?_, ?_, ?_, ?_, ?_⟩
  ·
   intro y0 y1 y2 y3 y4 y5 y6
   unfold spec_FleetOk.j0
   repeat' first
   | (with_reducible exact ih0 _ _ _ _ _ _ _)
   | (with_reducible exact ih1 _ _ _ _ _ _ _)
   | (with_reducible exact ih2 _ _ _ _ _ _ _ _)
   | (with_reducible exact ih3 _ _ _ _ _ _ _)
   | (with_reducible exact ih4 _ _ _ _ _ _ _ _)
   | (with_reducible exact spec_CarryOk.mono _ _)
   | (with_reducible exact spec_TaskOk.mono _ _ _ _ _ _ _ _)
   | (with_reducible exact spec_l1Name.mono _ _)
   | (with_reducible exact LeO.refl _)
   | (with_reducible exact LeO.none _)
   | (with_reducible refine LeO.ite ?_ ?_)
   | (with_reducible refine LeO.bind ?_ (fun _ => ?_))
   | exact ih0 _ _ _ _ _ _ _
   | exact ih1 _ _ _ _ _ _ _
   | exact ih2 _ _ _ _ _ _ _ _
   | exact ih3 _ _ _ _ _ _ _
   | exact ih4 _ _ _ _ _ _ _ _
   | exact spec_CarryOk.mono _ _
   | exact spec_TaskOk.mono _ _ _ _ _ _ _ _
   | exact spec_l1Name.mono _ _
   | exact LeO.none _
   | refine LeO.ite ?_ ?_
   | refine LeO.bind ?_ (fun _ => ?_)
  ·
   intro y0 y1 y2 y3 y4 y5 y6
   unfold spec_FleetOk.l0
   repeat' first
   | (with_reducible exact ih0 _ _ _ _ _ _ _)
   | (with_reducible exact ih1 _ _ _ _ _ _ _)
   | (with_reducible exact ih2 _ _ _ _ _ _ _ _)
   | (with_reducible exact ih3 _ _ _ _ _ _ _)
   | (with_reducible exact ih4 _ _ _ _ _ _ _ _)
   | (with_reducible exact spec_CarryOk.mono _ _)
   | (with_reducible exact spec_TaskOk.mono _ _ _ _ _ _ _ _)
   | (with_reducible exact spec_l1Name.mono _ _)
   | (with_reducible exact LeO.refl _)
   | (with_reducible exact LeO.none _)
   | (with_reducible refine LeO.ite ?_ ?_)
   | (with_reducible refine LeO.bind ?_ (fun _ => ?_))
   | exact ih0 _ _ _ _ _ _ _
   | exact ih1 _ _ _ _ _ _ _
   | exact ih2 _ _ _ _ _ _ _ _
   | exact ih3 _ _ _ _ _ _ _
   | exact ih4 _ _ _ _ _ _ _ _
   | exact spec_CarryOk.mono _ _
   | exact spec_TaskOk.mono _ _ _ _ _ _ _ _
   | exact spec_l1Name.mono _ _
   | exact LeO.none _
   | refine LeO.ite ?_ ?_
   | refine LeO.bind ?_ (fun _ => ?_)
  ·
   intro y0 y1 y2 y3 y4 y5 y6 y7
   unfold spec_FleetOk.j2
   repeat' first
   | (with_reducible exact ih0 _ _ _ _ _ _ _)
   | (with_reducible exact ih1 _ _ _ _ _ _ _)
   | (with_reducible exact ih2 _ _ _ _ _ _ _ _)
   | (with_reducible exact ih3 _ _ _ _ _ _ _)
   | (with_reducible exact ih4 _ _ _ _ _ _ _ _)
   | (with_reducible exact spec_CarryOk.mono _ _)
   | (with_reducible exact spec_TaskOk.mono _ _ _ _ _ _ _ _)
   | (with_reducible exact spec_l1Name.mono _ _)
   | (with_reducible exact LeO.refl _)
   | (with_reducible exact LeO.none _)
   | (with_reducible refine LeO.ite ?_ ?_)
   | (with_reducible refine LeO.bind ?_ (fun _ => ?_))
   | exact ih0 _ _ _ _ _ _ _
   | exact ih1 _ _ _ _ _ _ _
   | exact ih2 _ _ _ _ _ _ _ _
   | exact ih3 _ _ _ _ _ _ _
   | exact ih4 _ _ _ _ _ _ _ _
   | exact spec_CarryOk.mono _ _
   | exact spec_TaskOk.mono _ _ _ _ _ _ _ _
   | exact spec_l1Name.mono _ _
   | exact LeO.none _
   | refine LeO.ite ?_ ?_
   | refine LeO.bind ?_ (fun _ => ?_)
  ·
   intro y0 y1 y2 y3 y4 y5 y6
   unfold spec_FleetOk.l1
   repeat' first
   | (with_reducible exact ih0 _ _ _ _ _ _ _)
   | (with_reducible exact ih1 _ _ _ _ _ _ _)
   | (with_reducible exact ih2 _ _ _ _ _ _ _ _)
   | (with_reducible exact ih3 _ _ _ _ _ _ _)
   | (with_reducible exact ih4 _ _ _ _ _ _ _ _)
   | (with_reducible exact spec_CarryOk.mono _ _)
   | (with_reducible exact spec_TaskOk.mono _ _ _ _ _ _ _ _)
   | (with_reducible exact spec_l1Name.mono _ _)
   | (with_reducible exact LeO.refl _)
   | (with_reducible exact LeO.none _)
   | (with_reducible refine LeO.ite ?_ ?_)
   | (with_reducible refine LeO.bind ?_ (fun _ => ?_))
   | exact ih0 _ _ _ _ _ _ _
   | exact ih1 _ _ _ _ _ _ _
   | exact ih2 _ _ _ _ _ _ _ _
   | exact ih3 _ _ _ _ _ _ _
   | exact ih4 _ _ _ _ _ _ _ _
   | exact spec_CarryOk.mono _ _
   | exact spec_TaskOk.mono _ _ _ _ _ _ _ _
   | exact spec_l1Name.mono _ _
   | exact LeO.none _
   | refine LeO.ite ?_ ?_
   | refine LeO.bind ?_ (fun _ => ?_)
  ·
   intro y0 y1 y2 y3 y4 y5 y6 y7
   unfold spec_FleetOk.j4
   repeat' first
   | (with_reducible exact ih0 _ _ _ _ _ _ _)
   | (with_reducible exact ih1 _ _ _ _ _ _ _)
   | (with_reducible exact ih2 _ _ _ _ _ _ _ _)
   | (with_reducible exact ih3 _ _ _ _ _ _ _)
   | (with_reducible exact ih4 _ _ _ _ _ _ _ _)
   | (with_reducible exact spec_CarryOk.mono _ _)
   | (with_reducible exact spec_TaskOk.mono _ _ _ _ _ _ _ _)
   | (with_reducible exact spec_l1Name.mono _ _)
   | (with_reducible exact LeO.refl _)
   | (with_reducible exact LeO.none _)
   | (with_reducible refine LeO.ite ?_ ?_)
   | (with_reducible refine LeO.bind ?_ (fun _ => ?_))
   | exact ih0 _ _ _ _ _ _ _
   | exact ih1 _ _ _ _ _ _ _
   | exact ih2 _ _ _ _ _ _ _ _
   | exact ih3 _ _ _ _ _ _ _
   | exact ih4 _ _ _ _ _ _ _ _
   | exact spec_CarryOk.mono _ _
   | exact spec_TaskOk.mono _ _ _ _ _ _ _ _
   | exact spec_l1Name.mono _ _
   | exact LeO.none _
   | refine LeO.ite ?_ ?_
   | refine LeO.bind ?_ (fun _ => ?_)
theorem spec_FleetOk.mono : ∀ a0 a1 a2 a3 a4 a5 k, LeO (spec_FleetOk.f k a0 a1 a2 a3 a4 a5) (spec_FleetOk.f (k + 1) a0 a1 a2 a3 a4 a5) := by
 intro a0 a1 a2 a3 a4 a5 k
 obtain ⟨ih0, ih1, ih2, ih3, ih4⟩ := spec_FleetOk.mono_l k
 unfold spec_FleetOk.f
 repeat' first
   | (with_reducible exact ih0 _ _ _ _ _ _ _)
   | (with_reducible exact ih1 _ _ _ _ _ _ _)
   | (with_reducible exact ih2 _ _ _ _ _ _ _ _)
   | (with_reducible exact ih3 _ _ _ _ _ _ _)
   | (with_reducible exact ih4 _ _ _ _ _ _ _ _)
   | (with_reducible exact spec_CarryOk.mono _ _)
   | (with_reducible exact spec_TaskOk.mono _ _ _ _ _ _ _ _)
   | (with_reducible exact spec_l1Name.mono _ _)
   | (with_reducible exact LeO.refl _)
   | (with_reducible exact LeO.none _)
   | (with_reducible refine LeO.ite ?_ ?_)
   | (with_reducible refine LeO.bind ?_ (fun _ => ?_))
   | exact ih0 _ _ _ _ _ _ _
   | exact ih1 _ _ _ _ _ _ _
   | exact ih2 _ _ _ _ _ _ _ _
   | exact ih3 _ _ _ _ _ _ _
   | exact ih4 _ _ _ _ _ _ _ _
   | exact spec_CarryOk.mono _ _
   | exact spec_TaskOk.mono _ _ _ _ _ _ _ _
   | exact spec_l1Name.mono _ _
   | exact LeO.none _
   | refine LeO.ite ?_ ?_
   | refine LeO.bind ?_ (fun _ => ?_)
def spec_FleetOk.T7 : Bool × List (List Nat × List Nat) := (true, [([], []), ([0], [0]), ([1], [1]), ([2, 1], [2]), ([3], [3]), ([4, 3], [3, 4]), ([3], [3]), ([6, 3], [3, 6]), ([5, 7, 3, 3], [3, 5, 7]), ([8, 3], [3, 8]), ([3, 9], [3, 9]), ([10, 8], [10]), ([11], [11]), ([12, 11], [11, 12]), ([13, 11, 11], [11, 13]), ([14], [14]), ([15, 14], [14, 15]), ([14], [14]), ([17, 14], [14, 17]), ([16, 18, 14], [14, 16, 18]), ([19, 14], [14, 19]), ([20, 14], [14, 20]), ([14], [14]), ([22, 14], [14, 22]), ([21, 23, 14], [14, 21, 23]), ([14, 24, 11], [11, 14, 24]), ([11, 25], [11, 25])])
def spec_FleetOk.B7 : List Nat := [0, 1, 3, 7, 15, 31, 15, 79, 255, 511, 1023, 2047, 4095, 8191, 16383, 32767, 65535, 32767, 163839, 524287, 1048575, 2097151, 32767, 4227071, 16777215, 33554431, 67108863]
theorem spec_FleetOk.tab7 : rtab .any (opsOf Try.f29 7) = spec_FleetOk.T7 := by kernel_rfl
theorem spec_FleetOk.bits7 : waitsOk spec_FleetOk.T7.2 spec_FleetOk.B7 = true := by kernel_rfl
def spec_FleetOk.T13 : Bool × List (List Nat × List Nat) := (true, [([], []), ([0], [0]), ([1], [1]), ([2], [2]), ([3, 2], [3]), ([4], [4]), ([5, 4], [4, 5]), ([6, 4, 4], [4, 6]), ([7, 4], [4, 7]), ([4, 8], [4, 8]), ([9, 7], [9]), ([10], [10]), ([11, 10], [10, 11]), ([12, 10, 10], [10, 12]), ([13], [13]), ([14, 13], [13, 14]), ([13], [13]), ([16, 13], [13, 16]), ([15, 17, 13], [13, 15, 17]), ([18, 13], [13, 18]), ([19, 13], [13, 19]), ([13], [13]), ([21, 13], [13, 21]), ([20, 22, 13], [13, 20, 22]), ([13, 23, 10], [10, 13, 23]), ([10, 24], [10, 24]), ([25, 13], [25]), ([26], [26]), ([27, 26], [26, 27]), ([26], [26]), ([29, 26], [26, 29]), ([30, 26], [26, 30]), ([28, 31, 26, 26], [26, 28, 31]), ([32, 26], [26, 32]), ([26, 33], [26, 33])])
def spec_FleetOk.B13 : List Nat := [0, 1, 3, 7, 15, 31, 63, 127, 255, 511, 1023, 2047, 4095, 8191, 16383, 32767, 16383, 81919, 262143, 524287, 1048575, 16383, 2113535, 8388607, 16777215, 33554431, 67108863, 134217727, 268435455, 134217727, 671088639, 1744830463, 4294967295, 8589934591, 17179869183]
theorem spec_FleetOk.tab13 : rtab .any (opsOf Try.f29 13) = spec_FleetOk.T13 := by kernel_rfl
theorem spec_FleetOk.bits13 : waitsOk spec_FleetOk.T13.2 spec_FleetOk.B13 = true := by kernel_rfl
set_option maxHeartbeats 8000000 in
set_option maxRecDepth 100000 in
theorem spec_FleetOk.calls (k : Nat) (A0_0 : Option Addr) (c0_0 : Nat) (l0_0 : List (S33)) (A0_1 : Option Addr) (c0_1 : Nat) (l0_1 : List (S70)) (A0_2 : Option Addr) (c0_2 : Nat) (l0_2 : List (S72)) (a0_3 : Int) (a0_4 : Int) (a0_5 : Int) (r : Bool) (w : World) (hr0_0 : Kd.C k33 w A0_0 l0_0.length l0_0) (hc0_0 : l0_0.length ≤ c0_0) (hr0_1 : Kd.C k70 w A0_1 l0_1.length l0_1) (hc0_1 : l0_1.length ≤ c0_1) (hr0_2 : Kd.C k72 w A0_2 l0_2.length l0_2) (hc0_2 : l0_2.length ≤ c0_2) (h : spec_FleetOk.f k l0_0 l0_1 l0_2 a0_3 a0_4 a0_5 = some r) :
  Calls Try.prog 29 #[.agg #[.slice A0_0 l0_0.length c0_0, .slice A0_1 l0_1.length c0_1, .slice A0_2 l0_2.length c0_2, .int .i64 a0_3, .int .i64 a0_4, .int .i64 a0_5]] w fun e w' => e = .returned (.bool r) ∧ Below w.heap.size w w' := by
 have hu56 := Try.underlying56
 have hu25 := Try.underlying25
 have hu33 := Try.underlying33
 have hu72 := Try.underlying72
 have HR0_0 := Aside0.mk hr0_0
 have HC0_0 := Aside0.mk hc0_0
 clear hr0_0 hc0_0
 have HR0_1 := Aside0.mk hr0_1
 have HC0_1 := Aside0.mk hc0_1
 clear hr0_1 hc0_1
 have HR0_2 := Aside0.mk hr0_2
 have HC0_2 := Aside0.mk hc0_2
 clear hr0_2 hc0_2
 have HB := Aside0.mk (Below.refl w.heap.size w)
 have H : ((spec_ClockOk.f a0_3 a0_4 a0_5).bind fun t139 => (if t139 = true then ((spec_CarryOk.f k l0_1).bind fun t140 => (if t140 = true then (if (l0_0.length : Int) > 40 then (spec_FleetOk.j0 k true l0_0 l0_1 l0_2 a0_3 a0_4 a0_5) else (spec_FleetOk.j0 k (decide ((l0_2.length : Int) > 20)) l0_0 l0_1 l0_2 a0_3 a0_4 a0_5)) else (spec_FleetOk.j0 k true l0_0 l0_1 l0_2 a0_3 a0_4 a0_5))) else (spec_FleetOk.j0 k true l0_0 l0_1 l0_2 a0_3 a0_4 a0_5))) = some r := h
 clear h
 have HC2 := Aside0.mk H
 clear H
 go_enter Try.func29, Try.ntmps29
 go_upto_region 1 with (first | ((with_reducible refine gate_dst (N := 1) rfl ?_); (try (refine gate_guard (by rfl) ?_; dsimp only)); refine box_event ?hg (N := 1) ?hd (cs := #[.slice A0_0 l0_0.length c0_0, .slice A0_1 l0_1.length c0_1, .slice A0_2 l0_2.length c0_2, .int .i64 a0_3, .int .i64 a0_4, .int .i64 a0_5]) (t := 56) ?hr ?_; (case hd => rfl); (case hg => rfl); (case hr => first | (go_simp; done) | (go_simp; rfl)); intro gb138 hg w3 hbox hb; have n0_ := Aside0.mk (below_step (bl HB.out) hb); have n1_ := Aside0.mk (hbox); have n2_ := Aside0.mk ((by rw [hg]; exact (below_size (bl HB.out)) : w.heap.size ≤ gb138)); have n3_ := Aside0.mk ((by rw [hg]; exact (below_size (bl HB.out)) : w.heap.size ≤ gb138)); clear HB; have HB := n0_; have BK138 := n1_; have GW138 := n2_; have GE138 := n3_; clear n0_ n1_ n2_ n3_; clear hb hbox hg))
 (try simp only [Act.put, List.setIfInBounds_toArray, List.set_cons_zero, List.set_cons_succ])
 go_cut [28] (fun v28 wc => ∃ (kq : Nat) (x28_1 : Bool), v28 = .bool x28_1 ∧ Aside0 (spec_FleetOk.j0 kq x28_1 l0_0 l0_1 l0_2 a0_3 a0_4 a0_5 = some r) ∧ Aside0 (kq ≤ k) ∧ Aside0 (wc.heap[gb138]? = some (.cells #[(.slice A0_0 l0_0.length c0_0), (.slice A0_1 l0_1.length c0_1), (.slice A0_2 l0_2.length c0_2), .int .i64 a0_3, .int .i64 a0_4, .int .i64 a0_5] 56 (0, 0))) ∧ Aside0 (Below w.heap.size w wc))
 case first =>
  have H := HC2.out
  clear HC2
  replace H := Option.bind_eq_some_iff.mp H
  obtain ⟨t139, A40, H⟩ := H
  replace H : (if t139 = true then ((spec_CarryOk.f k l0_1).bind fun t140 => (if t140 = true then (if (l0_0.length : Int) > 40 then (spec_FleetOk.j0 k true l0_0 l0_1 l0_2 a0_3 a0_4 a0_5) else (spec_FleetOk.j0 k (decide ((l0_2.length : Int) > 20)) l0_0 l0_1 l0_2 a0_3 a0_4 a0_5)) else (spec_FleetOk.j0 k true l0_0 l0_1 l0_2 a0_3 a0_4 a0_5))) else (spec_FleetOk.j0 k true l0_0 l0_1 l0_2 a0_3 a0_4 a0_5)) = some r := H
  have A4 := Aside0.mk A40
  clear A40
  by_cases c5 : t139 = true
  ·
   subst c5
   have H1 : ((spec_CarryOk.f k l0_1).bind fun t140 => (if t140 = true then (if (l0_0.length : Int) > 40 then (spec_FleetOk.j0 k true l0_0 l0_1 l0_2 a0_3 a0_4 a0_5) else (spec_FleetOk.j0 k (decide ((l0_2.length : Int) > 20)) l0_0 l0_1 l0_2 a0_3 a0_4 a0_5)) else (spec_FleetOk.j0 k true l0_0 l0_1 l0_2 a0_3 a0_4 a0_5))) = some r := by rw [if_pos rfl] at H; exact H
   clear H
   have H := H1
   clear H1
   replace H := Option.bind_eq_some_iff.mp H
   obtain ⟨t140, A60, H⟩ := H
   replace H : (if t140 = true then (if (l0_0.length : Int) > 40 then (spec_FleetOk.j0 k true l0_0 l0_1 l0_2 a0_3 a0_4 a0_5) else (spec_FleetOk.j0 k (decide ((l0_2.length : Int) > 20)) l0_0 l0_1 l0_2 a0_3 a0_4 a0_5)) else (spec_FleetOk.j0 k true l0_0 l0_1 l0_2 a0_3 a0_4 a0_5)) = some r := H
   have A6 := Aside0.mk A60
   clear A60
   by_cases c7 : t140 = true
   ·
    subst c7
    have H1 : (if (l0_0.length : Int) > 40 then (spec_FleetOk.j0 k true l0_0 l0_1 l0_2 a0_3 a0_4 a0_5) else (spec_FleetOk.j0 k (decide ((l0_2.length : Int) > 20)) l0_0 l0_1 l0_2 a0_3 a0_4 a0_5)) = some r := by rw [if_pos rfl] at H; exact H
    clear H
    have H := H1
    clear H1
    by_cases c8 : (l0_0.length : Int) > 40
    ·
     rw [if_pos c8] at H
     have c8b0 : decide (40 < (l0_0.length : Int)) = true := decide_eq_true c8
     have c8b1 : decide (40 < l0_0.length) = true := decide_eq_true (by omega)
     clear c8
     (first | rw [c8b0] | (simp only [i64_w, i32_w]; rw [c8b0]) | rw [c8b1] | skip)
     have H' := Aside0.mk H
     clear H
     have hcz9_0 := ck (v := .slice A0_0 l0_0.length c0_0) BK138.out 0 rfl
     have hcz9_1 := ck (v := .slice A0_1 l0_1.length c0_1) BK138.out 1 rfl
     have hcz9_2 := ck (v := .slice A0_2 l0_2.length c0_2) BK138.out 2 rfl
     have hcz9_3 := ck (v := .int .i64 a0_3) BK138.out 3 rfl
     have hcz9_4 := ck (v := .int .i64 a0_4) BK138.out 4 rfl
     have hcz9_5 := ck (v := .int .i64 a0_5) BK138.out 5 rfl
     have hfz9_0 := blk_frozen BK138.out 0
     have hfz9_1 := blk_frozen BK138.out 1
     have hfz9_2 := blk_frozen BK138.out 2
     have hfz9_3 := blk_frozen BK138.out 3
     have hfz9_4 := blk_frozen BK138.out 4
     have hfz9_5 := blk_frozen BK138.out 5
     go_wp2_with (first | ((with_reducible refine gate_callee (f := 13) rfl ?_); refine goesL_ (some 9) rfl rfl Try.func13 (by kernel_rfl) rfl #[.agg #[.int .i64 a0_3, .int .i64 a0_4, .int .i64 a0_5]] rfl (by (try simp only [am_]); first | done | rfl) ?_; (with_reducible refine (spec_ClockOk.calls a0_3 a0_4 a0_5 true _ A4.out).mono ?_); rintro e w10 ⟨rfl, hb⟩; refine ⟨_, rfl, ?_⟩; have n0_ := Aside0.mk (blk_below (bk BK138.out) hb); have n1_ := Aside0.mk (below_step (by repeat with_reducible first | exact bl HB.out | refine below_set ?_ GE138.out | refine bq ?_) hb); clear BK138; clear HB; have BK138 := n0_; have HB := n1_; clear n0_ n1_; (try clear hb); (try clear hb2); (try clear hk); (try clear hi); have hcz11_0 := ck (v := .slice A0_0 l0_0.length c0_0) BK138.out 0 rfl; have hcz11_1 := ck (v := .slice A0_1 l0_1.length c0_1) BK138.out 1 rfl; have hcz11_2 := ck (v := .slice A0_2 l0_2.length c0_2) BK138.out 2 rfl; have hcz11_3 := ck (v := .int .i64 a0_3) BK138.out 3 rfl; have hcz11_4 := ck (v := .int .i64 a0_4) BK138.out 4 rfl; have hcz11_5 := ck (v := .int .i64 a0_5) BK138.out 5 rfl; have hfz11_0 := blk_frozen BK138.out 0; have hfz11_1 := blk_frozen BK138.out 1; have hfz11_2 := blk_frozen BK138.out 2; have hfz11_3 := blk_frozen BK138.out 3; have hfz11_4 := blk_frozen BK138.out 4; have hfz11_5 := blk_frozen BK138.out 5) | (go_at_call 21; (with_reducible refine (spec_CarryOk.calls k _ _ l0_1 true _ ?side1 ?side2 A6.out).mono ?_); (case side1 => exact rc (Kd.C_below HR0_1.out HB.out)); (case side2 => exact HC0_1.out); rintro e w12 ⟨rfl, hb⟩; have n0_ := Aside0.mk (blk_below (bk BK138.out) hb); have n1_ := Aside0.mk (below_step (by repeat with_reducible first | exact bl HB.out | refine below_set ?_ GE138.out | refine bq ?_) hb); clear BK138; clear HB; have BK138 := n0_; have HB := n1_; clear n0_ n1_; (try clear hb); (try clear hb2); (try clear hk); (try clear hi); have hcz13_0 := ck (v := .slice A0_0 l0_0.length c0_0) BK138.out 0 rfl; have hcz13_1 := ck (v := .slice A0_1 l0_1.length c0_1) BK138.out 1 rfl; have hcz13_2 := ck (v := .slice A0_2 l0_2.length c0_2) BK138.out 2 rfl; have hcz13_3 := ck (v := .int .i64 a0_3) BK138.out 3 rfl; have hcz13_4 := ck (v := .int .i64 a0_4) BK138.out 4 rfl; have hcz13_5 := ck (v := .int .i64 a0_5) BK138.out 5 rfl; have hfz13_0 := blk_frozen BK138.out 0; have hfz13_1 := blk_frozen BK138.out 1; have hfz13_2 := blk_frozen BK138.out 2; have hfz13_3 := blk_frozen BK138.out 3; have hfz13_4 := blk_frozen BK138.out 4; have hfz13_5 := blk_frozen BK138.out 5))
     go_meet
     case rel => exact ⟨_, (true), (by first | rfl | (simp; done) | (simp [*]; done)), H', ⟨by first | omega | exact Nat.le_refl _⟩, ⟨bk BK138.out⟩, ⟨by repeat with_reducible first | exact bl HB.out | refine below_set ?_ GE138.out | refine bq ?_⟩⟩
    ·
     rw [if_neg c8] at H
     have c8b0 : decide (40 < (l0_0.length : Int)) = false := decide_eq_false c8
     have c8b1 : decide (40 < l0_0.length) = false := decide_eq_false (by omega)
     clear c8
     (first | rw [c8b0] | (simp only [i64_w, i32_w]; rw [c8b0]) | rw [c8b1] | skip)
     have H' := Aside0.mk H
     clear H
     have hcz14_0 := ck (v := .slice A0_0 l0_0.length c0_0) BK138.out 0 rfl
     have hcz14_1 := ck (v := .slice A0_1 l0_1.length c0_1) BK138.out 1 rfl
     have hcz14_2 := ck (v := .slice A0_2 l0_2.length c0_2) BK138.out 2 rfl
     have hcz14_3 := ck (v := .int .i64 a0_3) BK138.out 3 rfl
     have hcz14_4 := ck (v := .int .i64 a0_4) BK138.out 4 rfl
     have hcz14_5 := ck (v := .int .i64 a0_5) BK138.out 5 rfl
     have hfz14_0 := blk_frozen BK138.out 0
     have hfz14_1 := blk_frozen BK138.out 1
     have hfz14_2 := blk_frozen BK138.out 2
     have hfz14_3 := blk_frozen BK138.out 3
     have hfz14_4 := blk_frozen BK138.out 4
     have hfz14_5 := blk_frozen BK138.out 5
     go_wp2_with (first | ((with_reducible refine gate_callee (f := 13) rfl ?_); refine goesL_ (some 9) rfl rfl Try.func13 (by kernel_rfl) rfl #[.agg #[.int .i64 a0_3, .int .i64 a0_4, .int .i64 a0_5]] rfl (by (try simp only [am_]); first | done | rfl) ?_; (with_reducible refine (spec_ClockOk.calls a0_3 a0_4 a0_5 true _ A4.out).mono ?_); rintro e w15 ⟨rfl, hb⟩; refine ⟨_, rfl, ?_⟩; have n0_ := Aside0.mk (blk_below (bk BK138.out) hb); have n1_ := Aside0.mk (below_step (by repeat with_reducible first | exact bl HB.out | refine below_set ?_ GE138.out | refine bq ?_) hb); clear BK138; clear HB; have BK138 := n0_; have HB := n1_; clear n0_ n1_; (try clear hb); (try clear hb2); (try clear hk); (try clear hi); have hcz16_0 := ck (v := .slice A0_0 l0_0.length c0_0) BK138.out 0 rfl; have hcz16_1 := ck (v := .slice A0_1 l0_1.length c0_1) BK138.out 1 rfl; have hcz16_2 := ck (v := .slice A0_2 l0_2.length c0_2) BK138.out 2 rfl; have hcz16_3 := ck (v := .int .i64 a0_3) BK138.out 3 rfl; have hcz16_4 := ck (v := .int .i64 a0_4) BK138.out 4 rfl; have hcz16_5 := ck (v := .int .i64 a0_5) BK138.out 5 rfl; have hfz16_0 := blk_frozen BK138.out 0; have hfz16_1 := blk_frozen BK138.out 1; have hfz16_2 := blk_frozen BK138.out 2; have hfz16_3 := blk_frozen BK138.out 3; have hfz16_4 := blk_frozen BK138.out 4; have hfz16_5 := blk_frozen BK138.out 5) | (go_at_call 21; (with_reducible refine (spec_CarryOk.calls k _ _ l0_1 true _ ?side1 ?side2 A6.out).mono ?_); (case side1 => exact rc (Kd.C_below HR0_1.out HB.out)); (case side2 => exact HC0_1.out); rintro e w17 ⟨rfl, hb⟩; have n0_ := Aside0.mk (blk_below (bk BK138.out) hb); have n1_ := Aside0.mk (below_step (by repeat with_reducible first | exact bl HB.out | refine below_set ?_ GE138.out | refine bq ?_) hb); clear BK138; clear HB; have BK138 := n0_; have HB := n1_; clear n0_ n1_; (try clear hb); (try clear hb2); (try clear hk); (try clear hi); have hcz18_0 := ck (v := .slice A0_0 l0_0.length c0_0) BK138.out 0 rfl; have hcz18_1 := ck (v := .slice A0_1 l0_1.length c0_1) BK138.out 1 rfl; have hcz18_2 := ck (v := .slice A0_2 l0_2.length c0_2) BK138.out 2 rfl; have hcz18_3 := ck (v := .int .i64 a0_3) BK138.out 3 rfl; have hcz18_4 := ck (v := .int .i64 a0_4) BK138.out 4 rfl; have hcz18_5 := ck (v := .int .i64 a0_5) BK138.out 5 rfl; have hfz18_0 := blk_frozen BK138.out 0; have hfz18_1 := blk_frozen BK138.out 1; have hfz18_2 := blk_frozen BK138.out 2; have hfz18_3 := blk_frozen BK138.out 3; have hfz18_4 := blk_frozen BK138.out 4; have hfz18_5 := blk_frozen BK138.out 5))
     go_meet
     case rel => exact ⟨_, (decide ((l0_2.length : Int) > 20)), (by first | rfl | (simp; done) | (simp [*]; done)), H', ⟨by first | omega | exact Nat.le_refl _⟩, ⟨bk BK138.out⟩, ⟨by repeat with_reducible first | exact bl HB.out | refine below_set ?_ GE138.out | refine bq ?_⟩⟩
   ·
    replace c7 := Bool.eq_false_iff.mpr c7
    subst c7
    have H1 : (spec_FleetOk.j0 k true l0_0 l0_1 l0_2 a0_3 a0_4 a0_5) = some r := by rw [if_neg (show ¬ (false = true) by decide)] at H; exact H
    clear H
    have H := H1
    clear H1
    have H' := Aside0.mk H
    clear H
    have hcz19_0 := ck (v := .slice A0_0 l0_0.length c0_0) BK138.out 0 rfl
    have hcz19_1 := ck (v := .slice A0_1 l0_1.length c0_1) BK138.out 1 rfl
    have hcz19_2 := ck (v := .slice A0_2 l0_2.length c0_2) BK138.out 2 rfl
    have hcz19_3 := ck (v := .int .i64 a0_3) BK138.out 3 rfl
    have hcz19_4 := ck (v := .int .i64 a0_4) BK138.out 4 rfl
    have hcz19_5 := ck (v := .int .i64 a0_5) BK138.out 5 rfl
    have hfz19_0 := blk_frozen BK138.out 0
    have hfz19_1 := blk_frozen BK138.out 1
    have hfz19_2 := blk_frozen BK138.out 2
    have hfz19_3 := blk_frozen BK138.out 3
    have hfz19_4 := blk_frozen BK138.out 4
    have hfz19_5 := blk_frozen BK138.out 5
    go_wp2_with (first | ((with_reducible refine gate_callee (f := 13) rfl ?_); refine goesL_ (some 9) rfl rfl Try.func13 (by kernel_rfl) rfl #[.agg #[.int .i64 a0_3, .int .i64 a0_4, .int .i64 a0_5]] rfl (by (try simp only [am_]); first | done | rfl) ?_; (with_reducible refine (spec_ClockOk.calls a0_3 a0_4 a0_5 true _ A4.out).mono ?_); rintro e w20 ⟨rfl, hb⟩; refine ⟨_, rfl, ?_⟩; have n0_ := Aside0.mk (blk_below (bk BK138.out) hb); have n1_ := Aside0.mk (below_step (by repeat with_reducible first | exact bl HB.out | refine below_set ?_ GE138.out | refine bq ?_) hb); clear BK138; clear HB; have BK138 := n0_; have HB := n1_; clear n0_ n1_; (try clear hb); (try clear hb2); (try clear hk); (try clear hi); have hcz21_0 := ck (v := .slice A0_0 l0_0.length c0_0) BK138.out 0 rfl; have hcz21_1 := ck (v := .slice A0_1 l0_1.length c0_1) BK138.out 1 rfl; have hcz21_2 := ck (v := .slice A0_2 l0_2.length c0_2) BK138.out 2 rfl; have hcz21_3 := ck (v := .int .i64 a0_3) BK138.out 3 rfl; have hcz21_4 := ck (v := .int .i64 a0_4) BK138.out 4 rfl; have hcz21_5 := ck (v := .int .i64 a0_5) BK138.out 5 rfl; have hfz21_0 := blk_frozen BK138.out 0; have hfz21_1 := blk_frozen BK138.out 1; have hfz21_2 := blk_frozen BK138.out 2; have hfz21_3 := blk_frozen BK138.out 3; have hfz21_4 := blk_frozen BK138.out 4; have hfz21_5 := blk_frozen BK138.out 5) | (go_at_call 21; (with_reducible refine (spec_CarryOk.calls k _ _ l0_1 false _ ?side1 ?side2 A6.out).mono ?_); (case side1 => exact rc (Kd.C_below HR0_1.out HB.out)); (case side2 => exact HC0_1.out); rintro e w22 ⟨rfl, hb⟩; have n0_ := Aside0.mk (blk_below (bk BK138.out) hb); have n1_ := Aside0.mk (below_step (by repeat with_reducible first | exact bl HB.out | refine below_set ?_ GE138.out | refine bq ?_) hb); clear BK138; clear HB; have BK138 := n0_; have HB := n1_; clear n0_ n1_; (try clear hb); (try clear hb2); (try clear hk); (try clear hi)))
    go_meet
    case rel => exact ⟨_, (true), (by first | rfl | (simp; done) | (simp [*]; done)), H', ⟨by first | omega | exact Nat.le_refl _⟩, ⟨bk BK138.out⟩, ⟨by repeat with_reducible first | exact bl HB.out | refine below_set ?_ GE138.out | refine bq ?_⟩⟩
  ·
   replace c5 := Bool.eq_false_iff.mpr c5
   subst c5
   have H1 : (spec_FleetOk.j0 k true l0_0 l0_1 l0_2 a0_3 a0_4 a0_5) = some r := by rw [if_neg (show ¬ (false = true) by decide)] at H; exact H
   clear H
   have H := H1
   clear H1
   have H' := Aside0.mk H
   clear H
   have hcz23_0 := ck (v := .slice A0_0 l0_0.length c0_0) BK138.out 0 rfl
   have hcz23_1 := ck (v := .slice A0_1 l0_1.length c0_1) BK138.out 1 rfl
   have hcz23_2 := ck (v := .slice A0_2 l0_2.length c0_2) BK138.out 2 rfl
   have hcz23_3 := ck (v := .int .i64 a0_3) BK138.out 3 rfl
   have hcz23_4 := ck (v := .int .i64 a0_4) BK138.out 4 rfl
   have hcz23_5 := ck (v := .int .i64 a0_5) BK138.out 5 rfl
   have hfz23_0 := blk_frozen BK138.out 0
   have hfz23_1 := blk_frozen BK138.out 1
   have hfz23_2 := blk_frozen BK138.out 2
   have hfz23_3 := blk_frozen BK138.out 3
   have hfz23_4 := blk_frozen BK138.out 4
   have hfz23_5 := blk_frozen BK138.out 5
   go_wp2_with (first | ((with_reducible refine gate_callee (f := 13) rfl ?_); refine goesL_ (some 9) rfl rfl Try.func13 (by kernel_rfl) rfl #[.agg #[.int .i64 a0_3, .int .i64 a0_4, .int .i64 a0_5]] rfl (by (try simp only [am_]); first | done | rfl) ?_; (with_reducible refine (spec_ClockOk.calls a0_3 a0_4 a0_5 false _ A4.out).mono ?_); rintro e w24 ⟨rfl, hb⟩; refine ⟨_, rfl, ?_⟩; have n0_ := Aside0.mk (blk_below (bk BK138.out) hb); have n1_ := Aside0.mk (below_step (by repeat with_reducible first | exact bl HB.out | refine below_set ?_ GE138.out | refine bq ?_) hb); clear BK138; clear HB; have BK138 := n0_; have HB := n1_; clear n0_ n1_; (try clear hb); (try clear hb2); (try clear hk); (try clear hi)))
   go_meet
   case rel => exact ⟨_, (true), (by first | rfl | (simp; done) | (simp [*]; done)), H', ⟨by first | omega | exact Nat.le_refl _⟩, ⟨bk BK138.out⟩, ⟨by repeat with_reducible first | exact bl HB.out | refine below_set ?_ GE138.out | refine bq ?_⟩⟩
 case rest =>
  clear HC2
  try clear c1
  try clear c2
  try clear p2
  try clear c5
  try clear c7
  try clear c8
  try clear c8b0
  try clear c8b1
  try clear c13
  try clear hcz11_0
  try clear hcz11_1
  try clear hcz11_2
  try clear hcz11_3
  try clear hcz11_4
  try clear hcz11_5
  try clear hcz13_0
  try clear hcz13_1
  try clear hcz13_2
  try clear hcz13_3
  try clear hcz13_4
  try clear hcz13_5
  try clear hcz14_0
  try clear hcz14_1
  try clear hcz14_2
  try clear hcz14_3
  try clear hcz14_4
  try clear hcz14_5
  try clear hcz16_0
  try clear hcz16_1
  try clear hcz16_2
  try clear hcz16_3
  try clear hcz16_4
  try clear hcz16_5
  try clear hcz18_0
  try clear hcz18_1
  try clear hcz18_2
  try clear hcz18_3
  try clear hcz18_4
  try clear hcz18_5
  try clear hcz19_0
  try clear hcz19_1
  try clear hcz19_2
  try clear hcz19_3
  try clear hcz19_4
  try clear hcz19_5
  try clear hcz21_0
  try clear hcz21_1
  try clear hcz21_2
  try clear hcz21_3
  try clear hcz21_4
  try clear hcz21_5
  try clear hcz23_0
  try clear hcz23_1
  try clear hcz23_2
  try clear hcz23_3
  try clear hcz23_4
  try clear hcz23_5
  try clear hcz9_0
  try clear hcz9_1
  try clear hcz9_2
  try clear hcz9_3
  try clear hcz9_4
  try clear hcz9_5
  try clear hfz11_0
  try clear hfz11_1
  try clear hfz11_2
  try clear hfz11_3
  try clear hfz11_4
  try clear hfz11_5
  try clear hfz13_0
  try clear hfz13_1
  try clear hfz13_2
  try clear hfz13_3
  try clear hfz13_4
  try clear hfz13_5
  try clear hfz14_0
  try clear hfz14_1
  try clear hfz14_2
  try clear hfz14_3
  try clear hfz14_4
  try clear hfz14_5
  try clear hfz16_0
  try clear hfz16_1
  try clear hfz16_2
  try clear hfz16_3
  try clear hfz16_4
  try clear hfz16_5
  try clear hfz18_0
  try clear hfz18_1
  try clear hfz18_2
  try clear hfz18_3
  try clear hfz18_4
  try clear hfz18_5
  try clear hfz19_0
  try clear hfz19_1
  try clear hfz19_2
  try clear hfz19_3
  try clear hfz19_4
  try clear hfz19_5
  try clear hfz21_0
  try clear hfz21_1
  try clear hfz21_2
  try clear hfz21_3
  try clear hfz21_4
  try clear hfz21_5
  try clear hfz23_0
  try clear hfz23_1
  try clear hfz23_2
  try clear hfz23_3
  try clear hfz23_4
  try clear hfz23_5
  try clear hfz9_0
  try clear hfz9_1
  try clear hfz9_2
  try clear hfz9_3
  try clear hfz9_4
  try clear hfz9_5
  obtain ⟨kq, x28_1, rfl, HA, HJ1, BK138, HB⟩ := hcut
  cases kq with
  | zero => exact absurd HA.out (by simp [spec_FleetOk.j0])
  | succ kj1 =>
   have H := HA.out
   clear HA
   simp only [spec_FleetOk.j0] at H
   by_cases c25 : x28_1 = true
   ·
    subst c25
    have H1 : (some false) = some r := by rw [if_pos rfl] at H; exact H
    clear H
    have H := H1
    clear H1
    obtain rfl := Option.some.inj H
    go_wp2
    go_ret
    exact ⟨by first | rfl | (simp [errW_none, errW_some] <;> rfl) | (simp [*, errW_none, errW_some] <;> rfl), by repeat with_reducible first | exact bl HB.out | refine below_set ?_ GE138.out | refine bq ?_⟩
   ·
    replace c25 := Bool.eq_false_iff.mpr c25
    subst c25
    have H1 : (spec_FleetOk.l0 kj1 0 l0_0 l0_1 l0_2 a0_3 a0_4 a0_5) = some r := by rw [if_neg (show ¬ (false = true) by decide)] at H; exact H
    clear H
    have H := H1
    clear H1
    have H' := Aside0.mk H
    clear H
    go_wp2
    go_loopg [3] kj1 (fun kq v3 w' => ∃ (x3_2 : Int), v3 = .int .i64 x3_2 ∧ Aside0 (spec_FleetOk.l0 kq x3_2 l0_0 l0_1 l0_2 a0_3 a0_4 a0_5 = some r) ∧ Aside0 (kq ≤ kj1) ∧ Aside0 (w'.heap[gb138]? = some (.cells #[(.slice A0_0 l0_0.length c0_0), (.slice A0_1 l0_1.length c0_1), (.slice A0_2 l0_2.length c0_2), .int .i64 a0_3, .int .i64 a0_4, .int .i64 a0_5] 56 (0, 0))) ∧ Aside0 (Below w.heap.size w w'))
    case atStart => exact ⟨(0), (by first | rfl | (simp; done) | (simp [*]; done)), H', ⟨Nat.le_refl _⟩, ⟨bk BK138.out⟩, ⟨by repeat with_reducible first | exact bl HB.out | refine below_set ?_ GE138.out | refine bq ?_⟩⟩
    case round =>
     clear H'
     try clear c1
     try clear c2
     try clear p2
     try clear c5
     try clear c7
     try clear c8
     try clear c8b0
     try clear c8b1
     try clear c13
     try clear c25
     try clear hcz11_0
     try clear hcz11_1
     try clear hcz11_2
     try clear hcz11_3
     try clear hcz11_4
     try clear hcz11_5
     try clear hcz13_0
     try clear hcz13_1
     try clear hcz13_2
     try clear hcz13_3
     try clear hcz13_4
     try clear hcz13_5
     try clear hcz14_0
     try clear hcz14_1
     try clear hcz14_2
     try clear hcz14_3
     try clear hcz14_4
     try clear hcz14_5
     try clear hcz16_0
     try clear hcz16_1
     try clear hcz16_2
     try clear hcz16_3
     try clear hcz16_4
     try clear hcz16_5
     try clear hcz18_0
     try clear hcz18_1
     try clear hcz18_2
     try clear hcz18_3
     try clear hcz18_4
     try clear hcz18_5
     try clear hcz19_0
     try clear hcz19_1
     try clear hcz19_2
     try clear hcz19_3
     try clear hcz19_4
     try clear hcz19_5
     try clear hcz21_0
     try clear hcz21_1
     try clear hcz21_2
     try clear hcz21_3
     try clear hcz21_4
     try clear hcz21_5
     try clear hcz23_0
     try clear hcz23_1
     try clear hcz23_2
     try clear hcz23_3
     try clear hcz23_4
     try clear hcz23_5
     try clear hcz9_0
     try clear hcz9_1
     try clear hcz9_2
     try clear hcz9_3
     try clear hcz9_4
     try clear hcz9_5
     try clear hfz11_0
     try clear hfz11_1
     try clear hfz11_2
     try clear hfz11_3
     try clear hfz11_4
     try clear hfz11_5
     try clear hfz13_0
     try clear hfz13_1
     try clear hfz13_2
     try clear hfz13_3
     try clear hfz13_4
     try clear hfz13_5
     try clear hfz14_0
     try clear hfz14_1
     try clear hfz14_2
     try clear hfz14_3
     try clear hfz14_4
     try clear hfz14_5
     try clear hfz16_0
     try clear hfz16_1
     try clear hfz16_2
     try clear hfz16_3
     try clear hfz16_4
     try clear hfz16_5
     try clear hfz18_0
     try clear hfz18_1
     try clear hfz18_2
     try clear hfz18_3
     try clear hfz18_4
     try clear hfz18_5
     try clear hfz19_0
     try clear hfz19_1
     try clear hfz19_2
     try clear hfz19_3
     try clear hfz19_4
     try clear hfz19_5
     try clear hfz21_0
     try clear hfz21_1
     try clear hfz21_2
     try clear hfz21_3
     try clear hfz21_4
     try clear hfz21_5
     try clear hfz23_0
     try clear hfz23_1
     try clear hfz23_2
     try clear hfz23_3
     try clear hfz23_4
     try clear hfz23_5
     try clear hfz9_0
     try clear hfz9_1
     try clear hfz9_2
     try clear hfz9_3
     try clear hfz9_4
     try clear hfz9_5
     try clear p2
     obtain ⟨x3_2, rfl, HA, HK2, BK138, HB⟩ := hrel
     cases gk with
     | zero => exact absurd HA.out (by simp [spec_FleetOk.l0])
     | succ k2 =>
      have H := HA.out
      clear HA
      simp only [spec_FleetOk.l0] at H
      by_cases c26 : x3_2 < (l0_0.length : Int)
      ·
       rw [if_pos c26] at H
       have c26b0 : decide (x3_2 < (l0_0.length : Int)) = true := decide_eq_true c26
       clear c26
       by_cases c27 : 0 ≤ x3_2
       ·
        rw [if_pos c27] at H
        have c27b0 : decide (0 ≤ x3_2) = true := decide_eq_true c27
        clear c27
        have HC28 := Aside0.mk H
        clear H
        have hcz29_0 := ck (v := .slice A0_0 l0_0.length c0_0) BK138.out 0 rfl
        have hcz29_1 := ck (v := .slice A0_1 l0_1.length c0_1) BK138.out 1 rfl
        have hcz29_2 := ck (v := .slice A0_2 l0_2.length c0_2) BK138.out 2 rfl
        have hcz29_3 := ck (v := .int .i64 a0_3) BK138.out 3 rfl
        have hcz29_4 := ck (v := .int .i64 a0_4) BK138.out 4 rfl
        have hcz29_5 := ck (v := .int .i64 a0_5) BK138.out 5 rfl
        have hfz29_0 := blk_frozen BK138.out 0
        have hfz29_1 := blk_frozen BK138.out 1
        have hfz29_2 := blk_frozen BK138.out 2
        have hfz29_3 := blk_frozen BK138.out 3
        have hfz29_4 := blk_frozen BK138.out 4
        have hfz29_5 := blk_frozen BK138.out 5
        have p141 : 0 ≤ (x3_2 : Int) := of_decide_eq_true (by first | (with_reducible assumption) | assumption)
        have q141 : x3_2 < (l0_0.length : Int) := of_decide_eq_true (by first | (with_reducible assumption) | assumption)
        obtain ⟨ad141, e141, hx141_0, hx141_1, hx141_2, hx141_3, hx141_4, hx141_5, hx141_6⟩ := at_T33 HR0_0.out x3_2 p141 q141
        cases e141
        replace hx141_0 := (HB.out.cell (World.block_lt_of_cell? w _ hx141_0)).trans hx141_0
        replace hx141_1 := (HB.out.cell (World.block_lt_of_cell? w _ hx141_1)).trans hx141_1
        replace hx141_2 := (HB.out.cell (World.block_lt_of_cell? w _ hx141_2)).trans hx141_2
        replace hx141_3 := (HB.out.cell (World.block_lt_of_cell? w _ hx141_3)).trans hx141_3
        replace hx141_4 := (HB.out.cell (World.block_lt_of_cell? w _ hx141_4)).trans hx141_4
        replace hx141_5 := (HB.out.cell (World.block_lt_of_cell? w _ hx141_5)).trans hx141_5
        replace hx141_6 := (HB.out.cell (World.block_lt_of_cell? w _ hx141_6)).trans hx141_6
        replace p141 := eq_true p141
        replace q141 := eq_true q141
        go_upto_region 7 with (first | ((with_reducible refine gate_dst (N := 4) rfl ?_); (try (refine gate_guard (by rfl) ?_; dsimp only)); refine box_event ?hg (N := 4) ?hd (cs := #[.string (⟨#[]⟩ : ByteArray), .int .i64 0, .int .i64 0, .int .i64 0, .int .i64 0, .int .i64 0, .int .i64 0]) (t := 33) ?hr ?_; (case hd => rfl); (case hg => rfl); (case hr => first | (go_simp; done) | (go_simp; rfl)); intro gb142 hg w30 hbox hb; have n0_ := Aside0.mk (blk_below (bk BK138.out) hb); have n1_ := Aside0.mk (below_step (by repeat with_reducible first | exact bl HB.out | refine below_set ?_ GE138.out | refine bq ?_) hb); have n2_ := Aside0.mk (hbox); have n3_ := Aside0.mk ((by rw [hg]; exact (below_size (by repeat with_reducible first | exact bl HB.out | refine below_set ?_ GE138.out | refine bq ?_)) : w.heap.size ≤ gb142)); have n4_ := Aside0.mk ((by rw [hg]; exact (below_size (by repeat with_reducible first | exact bl HB.out | refine below_set ?_ GE138.out | refine bq ?_)) : w.heap.size ≤ gb142)); have n5_ := Aside0.mk ((by rw [hg]; exact Nat.ne_of_lt (blk_lt (g := gb138) (o := .cells #[.slice (some ad141) l0_0.length c0_0, .slice A0_1 l0_1.length c0_1, .slice A0_2 l0_2.length c0_2, .int .i64 a0_3, .int .i64 a0_4, .int .i64 a0_5] 56 (0, 0)) (bk BK138.out)) : gb138 ≠ gb142)); have n6_ := Aside0.mk ((by rw [hg]; exact Nat.ne_of_gt (blk_lt (g := gb138) (o := .cells #[.slice (some ad141) l0_0.length c0_0, .slice A0_1 l0_1.length c0_1, .slice A0_2 l0_2.length c0_2, .int .i64 a0_3, .int .i64 a0_4, .int .i64 a0_5] 56 (0, 0)) (bk BK138.out)) : gb142 ≠ gb138)); clear BK138; clear HB; have BK138 := n0_; have HB := n1_; have BK142 := n2_; have GW142 := n3_; have GE142 := n4_; have NB138_142 := n5_; have NB142_138 := n6_; clear n0_ n1_ n2_ n3_ n4_ n5_ n6_; clear hb hbox hg; have hnb31 := NB142_138.out; have hnc31 := NB138_142.out; have hcz32_0 := ck (v := .string (⟨#[]⟩ : ByteArray)) BK142.out 0 rfl; have hcz32_1 := ck (v := .int .i64 0) BK142.out 1 rfl; have hcz32_2 := ck (v := .int .i64 0) BK142.out 2 rfl; have hcz32_3 := ck (v := .int .i64 0) BK142.out 3 rfl; have hcz32_4 := ck (v := .int .i64 0) BK142.out 4 rfl; have hcz32_5 := ck (v := .int .i64 0) BK142.out 5 rfl; have hcz32_6 := ck (v := .int .i64 0) BK142.out 6 rfl; have hfz32_0 := blk_frozen BK142.out 0; have hfz32_1 := blk_frozen BK142.out 1; have hfz32_2 := blk_frozen BK142.out 2; have hfz32_3 := blk_frozen BK142.out 3; have hfz32_4 := blk_frozen BK142.out 4; have hfz32_5 := blk_frozen BK142.out 5; have hfz32_6 := blk_frozen BK142.out 6))
        (try simp only [Act.put, List.setIfInBounds_toArray, List.set_cons_zero, List.set_cons_succ])
        go_cut [67] (fun v67 wc => ∃ (kq : Nat) (x67_27 : Bool), v67 = .bool x67_27 ∧ Aside0 (spec_FleetOk.j2 kq x3_2 x67_27 l0_0 l0_1 l0_2 a0_3 a0_4 a0_5 = some r) ∧ Aside0 (kq ≤ k2) ∧ Aside0 (wc.heap[gb138]? = some (.cells #[(.slice (some ad141) l0_0.length c0_0), (.slice A0_1 l0_1.length c0_1), (.slice A0_2 l0_2.length c0_2), .int .i64 a0_3, .int .i64 a0_4, .int .i64 a0_5] 56 (0, 0))) ∧ Aside0 (wc.heap[gb142]? = some (.cells #[.string ((rd_T33 l0_0 x3_2).f0), .int .i64 ((rd_T33 l0_0 x3_2).f1), .int .i64 ((rd_T33 l0_0 x3_2).f2), .int .i64 ((rd_T33 l0_0 x3_2).f3), .int .i64 ((rd_T33 l0_0 x3_2).f4.f0), .int .i64 ((rd_T33 l0_0 x3_2).f4.f1), .int .i64 ((rd_T33 l0_0 x3_2).f4.f2)] 33 (0, 0))) ∧ Aside0 (Below w.heap.size w wc))
        case first =>
         have H := HC28.out
         clear HC28
         replace H := Option.bind_eq_some_iff.mp H
         obtain ⟨t143, A330, H⟩ := H
         replace H : (if t143 = true then ((spec_l19Behind.f ((rd_T33 l0_0 x3_2).f4.f0) ((rd_T33 l0_0 x3_2).f4.f1) ((rd_T33 l0_0 x3_2).f4.f2) a0_3 a0_4 a0_5).bind fun t144 => (if t144 = true then (if x3_2 > 0 then (if 0 ≤ (wrap64 (x3_2 - 1)) then (if (wrap64 (x3_2 - 1)) < (l0_0.length : Int) then (spec_FleetOk.j2 k2 x3_2 (!(Op.bytesLess (((rd_T33 l0_0 (wrap64 (x3_2 - 1))).f0).toList) (((rd_T33 l0_0 x3_2).f0).toList))) l0_0 l0_1 l0_2 a0_3 a0_4 a0_5) else (none)) else (none)) else (spec_FleetOk.j2 k2 x3_2 false l0_0 l0_1 l0_2 a0_3 a0_4 a0_5)) else (spec_FleetOk.j2 k2 x3_2 true l0_0 l0_1 l0_2 a0_3 a0_4 a0_5))) else (spec_FleetOk.j2 k2 x3_2 true l0_0 l0_1 l0_2 a0_3 a0_4 a0_5)) = some r := H
         have A33 := Aside0.mk A330
         clear A330
         by_cases c34 : t143 = true
         ·
          subst c34
          have H1 : ((spec_l19Behind.f ((rd_T33 l0_0 x3_2).f4.f0) ((rd_T33 l0_0 x3_2).f4.f1) ((rd_T33 l0_0 x3_2).f4.f2) a0_3 a0_4 a0_5).bind fun t144 => (if t144 = true then (if x3_2 > 0 then (if 0 ≤ (wrap64 (x3_2 - 1)) then (if (wrap64 (x3_2 - 1)) < (l0_0.length : Int) then (spec_FleetOk.j2 k2 x3_2 (!(Op.bytesLess (((rd_T33 l0_0 (wrap64 (x3_2 - 1))).f0).toList) (((rd_T33 l0_0 x3_2).f0).toList))) l0_0 l0_1 l0_2 a0_3 a0_4 a0_5) else (none)) else (none)) else (spec_FleetOk.j2 k2 x3_2 false l0_0 l0_1 l0_2 a0_3 a0_4 a0_5)) else (spec_FleetOk.j2 k2 x3_2 true l0_0 l0_1 l0_2 a0_3 a0_4 a0_5))) = some r := by rw [if_pos rfl] at H; exact H
          clear H
          have H := H1
          clear H1
          replace H := Option.bind_eq_some_iff.mp H
          obtain ⟨t144, A350, H⟩ := H
          replace H : (if t144 = true then (if x3_2 > 0 then (if 0 ≤ (wrap64 (x3_2 - 1)) then (if (wrap64 (x3_2 - 1)) < (l0_0.length : Int) then (spec_FleetOk.j2 k2 x3_2 (!(Op.bytesLess (((rd_T33 l0_0 (wrap64 (x3_2 - 1))).f0).toList) (((rd_T33 l0_0 x3_2).f0).toList))) l0_0 l0_1 l0_2 a0_3 a0_4 a0_5) else (none)) else (none)) else (spec_FleetOk.j2 k2 x3_2 false l0_0 l0_1 l0_2 a0_3 a0_4 a0_5)) else (spec_FleetOk.j2 k2 x3_2 true l0_0 l0_1 l0_2 a0_3 a0_4 a0_5)) = some r := H
          have A35 := Aside0.mk A350
          clear A350
          by_cases c36 : t144 = true
          ·
           subst c36
           have H1 : (if x3_2 > 0 then (if 0 ≤ (wrap64 (x3_2 - 1)) then (if (wrap64 (x3_2 - 1)) < (l0_0.length : Int) then (spec_FleetOk.j2 k2 x3_2 (!(Op.bytesLess (((rd_T33 l0_0 (wrap64 (x3_2 - 1))).f0).toList) (((rd_T33 l0_0 x3_2).f0).toList))) l0_0 l0_1 l0_2 a0_3 a0_4 a0_5) else (none)) else (none)) else (spec_FleetOk.j2 k2 x3_2 false l0_0 l0_1 l0_2 a0_3 a0_4 a0_5)) = some r := by rw [if_pos rfl] at H; exact H
           clear H
           have H := H1
           clear H1
           by_cases c37 : x3_2 > 0
           ·
            rw [if_pos c37] at H
            have c37b0 : decide (0 < x3_2) = true := decide_eq_true c37
            clear c37
            (first | rw [c37b0] | (simp only [i64_w, i32_w]; rw [c37b0]) | skip)
            obtain ⟨ji38, hji38⟩ : ∃ j_ : Int, (wrap64 (x3_2 - 1)) = j_ := ⟨_, rfl⟩
            replace H : (if 0 ≤ (ji38) then (if (ji38) < (l0_0.length : Int) then (spec_FleetOk.j2 k2 x3_2 (!(Op.bytesLess (((rd_T33 l0_0 (ji38)).f0).toList) (((rd_T33 l0_0 x3_2).f0).toList))) l0_0 l0_1 l0_2 a0_3 a0_4 a0_5) else (none)) else (none)) = some r := by first | (rw [hji38] at H; exact H) | (simp only [hji38] at H ⊢; exact H)
            (try rw [hji38] at A33)
            (try rw [hji38] at A35)
            have hji38w : (IntKind.i64.wrap (x3_2 - 1)) = ji38 := (i64_w _).trans hji38
            by_cases c39 : 0 ≤ (ji38)
            ·
             rw [if_pos c39] at H
             have c39b0 : decide (0 ≤ (ji38)) = true := decide_eq_true c39
             clear c39
             by_cases c40 : (ji38) < (l0_0.length : Int)
             ·
              rw [if_pos c40] at H
              have c40b0 : decide ((ji38) < (l0_0.length : Int)) = true := decide_eq_true c40
              clear c40
              have H' := Aside0.mk H
              clear H
              try go_wp2
              have n0_ : Aside0 ((((((((w30.setCell ⟨gb142, 0, none⟩ (.string ((rd_T33 l0_0 x3_2).f0))).setCell ⟨gb142, 1, none⟩ (.int .i64 ((rd_T33 l0_0 x3_2).f1))).setCell ⟨gb142, 2, none⟩ (.int .i64 ((rd_T33 l0_0 x3_2).f2))).setCell ⟨gb142, 3, none⟩ (.int .i64 ((rd_T33 l0_0 x3_2).f3))).setCell ⟨gb142, 4, none⟩ (.int .i64 ((rd_T33 l0_0 x3_2).f4.f0))).setCell ⟨gb142, 5, none⟩ (.int .i64 ((rd_T33 l0_0 x3_2).f4.f1))).setCell ⟨gb142, 6, none⟩ (.int .i64 ((rd_T33 l0_0 x3_2).f4.f2))).heap[gb138]? = some (.cells #[.slice (some ad141) l0_0.length c0_0, .slice A0_1 l0_1.length c0_1, .slice A0_2 l0_2.length c0_2, .int .i64 a0_3, .int .i64 a0_4, .int .i64 a0_5] 56 (0, 0))) := ⟨by (repeat refine bk1 ?_); refine blk_far ?_ NB138_142.out _; (repeat refine bk1 ?_); refine blk_far ?_ NB138_142.out _; (repeat refine bk1 ?_); refine blk_far ?_ NB138_142.out _; (repeat refine bk1 ?_); refine blk_far ?_ NB138_142.out _; (repeat refine bk1 ?_); refine blk_far ?_ NB138_142.out _; (repeat refine bk1 ?_); refine blk_far ?_ NB138_142.out _; (repeat refine bk1 ?_); refine blk_far ?_ NB138_142.out _; (repeat refine bk1 ?_); exact BK138.out⟩
              have n1_ : Aside0 ((((((((w30.setCell ⟨gb142, 0, none⟩ (.string ((rd_T33 l0_0 x3_2).f0))).setCell ⟨gb142, 1, none⟩ (.int .i64 ((rd_T33 l0_0 x3_2).f1))).setCell ⟨gb142, 2, none⟩ (.int .i64 ((rd_T33 l0_0 x3_2).f2))).setCell ⟨gb142, 3, none⟩ (.int .i64 ((rd_T33 l0_0 x3_2).f3))).setCell ⟨gb142, 4, none⟩ (.int .i64 ((rd_T33 l0_0 x3_2).f4.f0))).setCell ⟨gb142, 5, none⟩ (.int .i64 ((rd_T33 l0_0 x3_2).f4.f1))).setCell ⟨gb142, 6, none⟩ (.int .i64 ((rd_T33 l0_0 x3_2).f4.f2))).heap[gb142]? = some (.cells #[.string ((rd_T33 l0_0 x3_2).f0), .int .i64 ((rd_T33 l0_0 x3_2).f1), .int .i64 ((rd_T33 l0_0 x3_2).f2), .int .i64 ((rd_T33 l0_0 x3_2).f3), .int .i64 ((rd_T33 l0_0 x3_2).f4.f0), .int .i64 ((rd_T33 l0_0 x3_2).f4.f1), .int .i64 ((rd_T33 l0_0 x3_2).f4.f2)] 33 (0, 0))) := ⟨by (repeat refine bk1 ?_); refine blk_put (cs := #[.string ((rd_T33 l0_0 x3_2).f0), .int .i64 ((rd_T33 l0_0 x3_2).f1), .int .i64 ((rd_T33 l0_0 x3_2).f2), .int .i64 ((rd_T33 l0_0 x3_2).f3), .int .i64 ((rd_T33 l0_0 x3_2).f4.f0), .int .i64 ((rd_T33 l0_0 x3_2).f4.f1), .int .i64 0]) ?_ 6 _ rfl; (repeat refine bk1 ?_); refine blk_put (cs := #[.string ((rd_T33 l0_0 x3_2).f0), .int .i64 ((rd_T33 l0_0 x3_2).f1), .int .i64 ((rd_T33 l0_0 x3_2).f2), .int .i64 ((rd_T33 l0_0 x3_2).f3), .int .i64 ((rd_T33 l0_0 x3_2).f4.f0), .int .i64 0, .int .i64 0]) ?_ 5 _ rfl; (repeat refine bk1 ?_); refine blk_put (cs := #[.string ((rd_T33 l0_0 x3_2).f0), .int .i64 ((rd_T33 l0_0 x3_2).f1), .int .i64 ((rd_T33 l0_0 x3_2).f2), .int .i64 ((rd_T33 l0_0 x3_2).f3), .int .i64 0, .int .i64 0, .int .i64 0]) ?_ 4 _ rfl; (repeat refine bk1 ?_); refine blk_put (cs := #[.string ((rd_T33 l0_0 x3_2).f0), .int .i64 ((rd_T33 l0_0 x3_2).f1), .int .i64 ((rd_T33 l0_0 x3_2).f2), .int .i64 0, .int .i64 0, .int .i64 0, .int .i64 0]) ?_ 3 _ rfl; (repeat refine bk1 ?_); refine blk_put (cs := #[.string ((rd_T33 l0_0 x3_2).f0), .int .i64 ((rd_T33 l0_0 x3_2).f1), .int .i64 0, .int .i64 0, .int .i64 0, .int .i64 0, .int .i64 0]) ?_ 2 _ rfl; (repeat refine bk1 ?_); refine blk_put (cs := #[.string ((rd_T33 l0_0 x3_2).f0), .int .i64 0, .int .i64 0, .int .i64 0, .int .i64 0, .int .i64 0, .int .i64 0]) ?_ 1 _ rfl; (repeat refine bk1 ?_); refine blk_put (cs := #[.string (⟨#[]⟩ : ByteArray), .int .i64 0, .int .i64 0, .int .i64 0, .int .i64 0, .int .i64 0, .int .i64 0]) ?_ 0 _ rfl; (repeat refine bk1 ?_); exact BK142.out⟩
              have n2_ : Aside0 (Below w.heap.size w (((((((w30.setCell ⟨gb142, 0, none⟩ (.string ((rd_T33 l0_0 x3_2).f0))).setCell ⟨gb142, 1, none⟩ (.int .i64 ((rd_T33 l0_0 x3_2).f1))).setCell ⟨gb142, 2, none⟩ (.int .i64 ((rd_T33 l0_0 x3_2).f2))).setCell ⟨gb142, 3, none⟩ (.int .i64 ((rd_T33 l0_0 x3_2).f3))).setCell ⟨gb142, 4, none⟩ (.int .i64 ((rd_T33 l0_0 x3_2).f4.f0))).setCell ⟨gb142, 5, none⟩ (.int .i64 ((rd_T33 l0_0 x3_2).f4.f1))).setCell ⟨gb142, 6, none⟩ (.int .i64 ((rd_T33 l0_0 x3_2).f4.f2)))) := ⟨by repeat with_reducible first | exact bl HB.out | refine below_set ?_ GE138.out | refine below_set ?_ GE142.out | refine bq ?_⟩
              (try clear BK138)
              (try clear BK142)
              (try clear HB)
              generalize (((((((w30.setCell ⟨gb142, 0, none⟩ (.string ((rd_T33 l0_0 x3_2).f0))).setCell ⟨gb142, 1, none⟩ (.int .i64 ((rd_T33 l0_0 x3_2).f1))).setCell ⟨gb142, 2, none⟩ (.int .i64 ((rd_T33 l0_0 x3_2).f2))).setCell ⟨gb142, 3, none⟩ (.int .i64 ((rd_T33 l0_0 x3_2).f3))).setCell ⟨gb142, 4, none⟩ (.int .i64 ((rd_T33 l0_0 x3_2).f4.f0))).setCell ⟨gb142, 5, none⟩ (.int .i64 ((rd_T33 l0_0 x3_2).f4.f1))).setCell ⟨gb142, 6, none⟩ (.int .i64 ((rd_T33 l0_0 x3_2).f4.f2))) = w41 at n0_ n1_ n2_ ⊢
              have BK138 := n0_
              have BK142 := n1_
              have HB := n2_
              clear n0_ n1_ n2_
              have n0_ := Aside0.mk (blk_drew BK138.out)
              have n1_ := Aside0.mk (blk_drew BK142.out)
              have n2_ := Aside0.mk (below_drew1 HB.out)
              clear BK138
              clear BK142
              clear HB
              have BK138 := n0_
              have BK142 := n1_
              have HB := n2_
              clear n0_ n1_ n2_
              have p145 : 0 ≤ ((ji38) : Int) := of_decide_eq_true (by first | (with_reducible assumption) | assumption)
              have q145 : (ji38) < (l0_0.length : Int) := of_decide_eq_true (by first | (with_reducible assumption) | assumption)
              obtain ⟨ad145, e145, hx145_0, hx145_1, hx145_2, hx145_3, hx145_4, hx145_5, hx145_6⟩ := at_T33 HR0_0.out (ji38) p145 q145
              have hw145_6 := hx145_6
              have hw145_5 := hx145_5
              have hw145_4 := hx145_4
              have hw145_3 := hx145_3
              have hw145_2 := hx145_2
              have hw145_1 := hx145_1
              have hw145_0 := hx145_0
              obtain rfl : ad141 = ad145 := (by injection e145)
              replace hx145_0 := (HB.out.cell (World.block_lt_of_cell? w _ hx145_0)).trans hx145_0
              replace hx145_1 := (HB.out.cell (World.block_lt_of_cell? w _ hx145_1)).trans hx145_1
              replace hx145_2 := (HB.out.cell (World.block_lt_of_cell? w _ hx145_2)).trans hx145_2
              replace hx145_3 := (HB.out.cell (World.block_lt_of_cell? w _ hx145_3)).trans hx145_3
              replace hx145_4 := (HB.out.cell (World.block_lt_of_cell? w _ hx145_4)).trans hx145_4
              replace hx145_5 := (HB.out.cell (World.block_lt_of_cell? w _ hx145_5)).trans hx145_5
              replace hx145_6 := (HB.out.cell (World.block_lt_of_cell? w _ hx145_6)).trans hx145_6
              replace p145 := eq_true p145
              replace q145 := eq_true q145
              refine start_ (n := 27) (S := fun w' => w'.cell? ⟨gb142, 0, none⟩ = some (.string ((rd_T33 l0_0 x3_2).f0)) ∧ w'.cell? ⟨gb142, 1, none⟩ = some (.int .i64 ((rd_T33 l0_0 x3_2).f1)) ∧ w'.cell? ⟨gb142, 2, none⟩ = some (.int .i64 ((rd_T33 l0_0 x3_2).f2)) ∧ w'.cell? ⟨gb142, 3, none⟩ = some (.int .i64 ((rd_T33 l0_0 x3_2).f3)) ∧ w'.cell? ⟨gb142, 4, none⟩ = some (.int .i64 ((rd_T33 l0_0 x3_2).f4.f0)) ∧ w'.cell? ⟨gb142, 5, none⟩ = some (.int .i64 ((rd_T33 l0_0 x3_2).f4.f1)) ∧ w'.cell? ⟨gb142, 6, none⟩ = some (.int .i64 ((rd_T33 l0_0 x3_2).f4.f2)) ∧ w'.cell? ⟨gb138, 0, none⟩ = some (.slice (some ad141) l0_0.length c0_0) ∧ w'.cell? ⟨gb138, 1, none⟩ = some (.slice A0_1 l0_1.length c0_1) ∧ w'.cell? ⟨gb138, 2, none⟩ = some (.slice A0_2 l0_2.length c0_2) ∧ w'.cell? ⟨gb138, 3, none⟩ = some (.int .i64 a0_3) ∧ w'.cell? ⟨gb138, 4, none⟩ = some (.int .i64 a0_4) ∧ w'.cell? ⟨gb138, 5, none⟩ = some (.int .i64 a0_5) ∧ w'.cell? (ad141.add (((ji38)).toNat * 7)) = some (.string ((rd_T33 l0_0 (ji38)).f0)) ∧ w'.cell? ⟨(ad141.add (((ji38)).toNat * 7)).block, (ad141.add (((ji38)).toNat * 7)).off + 1, none⟩ = some (.int .i64 ((rd_T33 l0_0 (ji38)).f1)) ∧ w'.cell? ⟨(ad141.add (((ji38)).toNat * 7)).block, (ad141.add (((ji38)).toNat * 7)).off + 2, none⟩ = some (.int .i64 ((rd_T33 l0_0 (ji38)).f2)) ∧ w'.cell? ⟨(ad141.add (((ji38)).toNat * 7)).block, (ad141.add (((ji38)).toNat * 7)).off + 3, none⟩ = some (.int .i64 ((rd_T33 l0_0 (ji38)).f3)) ∧ w'.cell? ⟨(ad141.add (((ji38)).toNat * 7)).block, (ad141.add (((ji38)).toNat * 7)).off + 4, none⟩ = some (.int .i64 ((rd_T33 l0_0 (ji38)).f4.f0)) ∧ w'.cell? ⟨(ad141.add (((ji38)).toNat * 7)).block, (ad141.add (((ji38)).toNat * 7)).off + 5, none⟩ = some (.int .i64 ((rd_T33 l0_0 (ji38)).f4.f1)) ∧ w'.cell? ⟨(ad141.add (((ji38)).toNat * 7)).block, (ad141.add (((ji38)).toNat * 7)).off + 6, none⟩ = some (.int .i64 ((rd_T33 l0_0 (ji38)).f4.f2))) (ds := []) m0_27 (by kernel_rfl) rfl rfl ⟨ck BK142.out 0 rfl, ck BK142.out 1 rfl, ck BK142.out 2 rfl, ck BK142.out 3 rfl, ck BK142.out 4 rfl, ck BK142.out 5 rfl, ck BK142.out 6 rfl, ck BK138.out 0 rfl, ck BK138.out 1 rfl, ck BK138.out 2 rfl, ck BK138.out 3 rfl, ck BK138.out 4 rfl, ck BK138.out 5 rfl, ((HB.out.cell (World.block_lt_of_cell? w _ hw145_0)).trans hw145_0), ((HB.out.cell (World.block_lt_of_cell? w _ hw145_1)).trans hw145_1), ((HB.out.cell (World.block_lt_of_cell? w _ hw145_2)).trans hw145_2), ((HB.out.cell (World.block_lt_of_cell? w _ hw145_3)).trans hw145_3), ((HB.out.cell (World.block_lt_of_cell? w _ hw145_4)).trans hw145_4), ((HB.out.cell (World.block_lt_of_cell? w _ hw145_5)).trans hw145_5), ((HB.out.cell (World.block_lt_of_cell? w _ hw145_6)).trans hw145_6)⟩ (fun hHeld => ?_); refine with_tabW spec_FleetOk.tab7 spec_FleetOk.bits7 (fun HT_ HW_ => ?_)
              generalize w41.drew = w42 at BK138 BK142 HB hx145_0 hx145_1 hx145_2 hx145_3 hx145_4 hx145_5 hx145_6 hHeld ⊢
              refine tk_ HT_.out HW_.out 0 41 m1_27 rfl rfl (by kernel_rfl) (by rfl) (by rintro w' ⟨s0, s1, s2, s3, s4, s5, s6, s7, s8, s9, s10, s11, s12, s13, s14, s15, s16, s17, s18, s19⟩; go_simp; with_reducible rfl) hHeld (by simp only [sp_]; rfl) (fun _ _ _ h => h) ?_
              refine one_ (i := 1) (N := some 42) m2_27 rfl rfl (one_of HT_.out (by kernel_rfl)) (by decide) (fun K hK => ?_)
              refine goes_ Try.func17 (by kernel_rfl) rfl #[.agg #[.string ((rd_T33 l0_0 x3_2).f0), .int .i64 ((rd_T33 l0_0 x3_2).f1), .int .i64 ((rd_T33 l0_0 x3_2).f2), .int .i64 ((rd_T33 l0_0 x3_2).f3), .int .i64 ((rd_T33 l0_0 x3_2).f4.f0), .int .i64 ((rd_T33 l0_0 x3_2).f4.f1), .int .i64 ((rd_T33 l0_0 x3_2).f4.f2)]] (by rfl) rfl rfl (by (try simp only [am_]); first | done | rfl) ?_
              with_reducible refine (spec_TaskOk.calls k2 ((rd_T33 l0_0 x3_2).f0) ((rd_T33 l0_0 x3_2).f1) ((rd_T33 l0_0 x3_2).f2) ((rd_T33 l0_0 x3_2).f3) ((rd_T33 l0_0 x3_2).f4.f0) ((rd_T33 l0_0 x3_2).f4.f1) ((rd_T33 l0_0 x3_2).f4.f2) true _ A33.out).mono ?_
              rintro e w43 ⟨rfl, hb⟩
              refine ⟨_, rfl, ?_⟩
              have n0_ := Aside0.mk (blk_below (bk BK138.out) hb)
              have n1_ := Aside0.mk (blk_below (bk BK142.out) hb)
              have n2_ := Aside0.mk (below_step (by repeat with_reducible first | exact bl HB.out | refine below_set ?_ GE138.out | refine below_set ?_ GE142.out | refine bq ?_) hb)
              clear BK138
              clear BK142
              clear HB
              have BK138 := n0_
              have BK142 := n1_
              have HB := n2_
              clear n0_ n1_ n2_
              (try clear hb)
              (try clear hb2)
              (try clear hk)
              (try clear hi)
              refine hK.out _ _ ⟨ck BK142.out 0 rfl, ck BK142.out 1 rfl, ck BK142.out 2 rfl, ck BK142.out 3 rfl, ck BK142.out 4 rfl, ck BK142.out 5 rfl, ck BK142.out 6 rfl, ck BK138.out 0 rfl, ck BK138.out 1 rfl, ck BK138.out 2 rfl, ck BK138.out 3 rfl, ck BK138.out 4 rfl, ck BK138.out 5 rfl, ((HB.out.cell (World.block_lt_of_cell? w _ hw145_0)).trans hw145_0), ((HB.out.cell (World.block_lt_of_cell? w _ hw145_1)).trans hw145_1), ((HB.out.cell (World.block_lt_of_cell? w _ hw145_2)).trans hw145_2), ((HB.out.cell (World.block_lt_of_cell? w _ hw145_3)).trans hw145_3), ((HB.out.cell (World.block_lt_of_cell? w _ hw145_4)).trans hw145_4), ((HB.out.cell (World.block_lt_of_cell? w _ hw145_5)).trans hw145_5), ((HB.out.cell (World.block_lt_of_cell? w _ hw145_6)).trans hw145_6)⟩ (fun hHeld => ?_)
              clear hK K
              refine norm_ (a' := ?_) ?_ ?_
              rotate_left
              ·
               show Act.put _ (some 42) _ = _
               simp only [sp_]
               rfl
              refine pp_ HT_.out 2 43 m3_27 rfl rfl (by kernel_rfl) (by rfl) (by intro w'; go_simp; with_reducible rfl) (by simp only [sp_]; rfl) (fun _ _ _ h => h) ?_
              refine pp_ HT_.out 3 44 m4_27 rfl rfl (by kernel_rfl) (by rfl) (by intro w'; go_simp; with_reducible rfl) (by simp only [sp_]; rfl) (fun _ _ _ h => h) ?_
              refine pp_ HT_.out 4 45 m5_27 rfl rfl (by kernel_rfl) (by rfl) (by intro w'; go_simp; with_reducible rfl) (by simp only [sp_]; rfl) (fun _ _ _ h => h) ?_
              refine pp_ HT_.out 6 47 n36 rfl rfl (by kernel_rfl) (by rfl) (by intro w'; go_simp; with_reducible rfl) (by simp only [sp_]; rfl) (fun _ _ _ h => h) ?_
              refine tk_ HT_.out HW_.out 5 46 m7_27 rfl rfl (by kernel_rfl) (by rfl) (by rintro w' ⟨s0, s1, s2, s3, s4, s5, s6, s7, s8, s9, s10, s11, s12, s13, s14, s15, s16, s17, s18, s19⟩; go_simp; with_reducible rfl) hHeld (by simp only [sp_]; rfl) (fun _ _ _ h => h) ?_
              refine tk_ HT_.out HW_.out 7 48 m8_27 rfl rfl (by kernel_rfl) (by rfl) (by rintro w' ⟨s0, s1, s2, s3, s4, s5, s6, s7, s8, s9, s10, s11, s12, s13, s14, s15, s16, s17, s18, s19⟩; go_simp; with_reducible rfl) hHeld (by simp only [sp_]; rfl) (fun _ _ _ h => h) ?_
              refine one_ (i := 8) (N := some 49) m9_27 rfl rfl (one_of HT_.out (by kernel_rfl)) (by decide) (fun K hK => ?_)
              refine goes_ Try.func57 (by kernel_rfl) rfl #[.agg #[.int .i64 ((rd_T33 l0_0 x3_2).f4.f0), .int .i64 ((rd_T33 l0_0 x3_2).f4.f1), .int .i64 ((rd_T33 l0_0 x3_2).f4.f2)], .agg #[.int .i64 a0_3, .int .i64 a0_4, .int .i64 a0_5]] (by rfl) rfl rfl (by (try simp only [am_]); first | done | rfl) ?_
              with_reducible refine (spec_l19Behind.calls ((rd_T33 l0_0 x3_2).f4.f0) ((rd_T33 l0_0 x3_2).f4.f1) ((rd_T33 l0_0 x3_2).f4.f2) a0_3 a0_4 a0_5 true _ A35.out).mono ?_
              rintro e w44 ⟨rfl, hb⟩
              refine ⟨_, rfl, ?_⟩
              have n0_ := Aside0.mk (blk_below (bk BK138.out) hb)
              have n1_ := Aside0.mk (blk_below (bk BK142.out) hb)
              have n2_ := Aside0.mk (below_step (by repeat with_reducible first | exact bl HB.out | refine below_set ?_ GE138.out | refine below_set ?_ GE142.out | refine bq ?_) hb)
              clear BK138
              clear BK142
              clear HB
              have BK138 := n0_
              have BK142 := n1_
              have HB := n2_
              clear n0_ n1_ n2_
              (try clear hb)
              (try clear hb2)
              (try clear hk)
              (try clear hi)
              refine hK.out _ _ ⟨ck BK142.out 0 rfl, ck BK142.out 1 rfl, ck BK142.out 2 rfl, ck BK142.out 3 rfl, ck BK142.out 4 rfl, ck BK142.out 5 rfl, ck BK142.out 6 rfl, ck BK138.out 0 rfl, ck BK138.out 1 rfl, ck BK138.out 2 rfl, ck BK138.out 3 rfl, ck BK138.out 4 rfl, ck BK138.out 5 rfl, ((HB.out.cell (World.block_lt_of_cell? w _ hw145_0)).trans hw145_0), ((HB.out.cell (World.block_lt_of_cell? w _ hw145_1)).trans hw145_1), ((HB.out.cell (World.block_lt_of_cell? w _ hw145_2)).trans hw145_2), ((HB.out.cell (World.block_lt_of_cell? w _ hw145_3)).trans hw145_3), ((HB.out.cell (World.block_lt_of_cell? w _ hw145_4)).trans hw145_4), ((HB.out.cell (World.block_lt_of_cell? w _ hw145_5)).trans hw145_5), ((HB.out.cell (World.block_lt_of_cell? w _ hw145_6)).trans hw145_6)⟩ (fun hHeld => ?_)
              clear hK K
              refine norm_ (a' := ?_) ?_ ?_
              rotate_left
              ·
               show Act.put _ (some 49) _ = _
               simp only [sp_]
               rfl
              refine pp_ HT_.out 9 50 m10_27 rfl rfl (by kernel_rfl) (by rfl) (by intro w'; go_simp; with_reducible rfl) (by simp only [sp_]; rfl) (fun _ _ _ h => h) ?_
              refine pp_ HT_.out 10 51 m11_27 rfl rfl (by kernel_rfl) (by rfl) (by intro w'; go_simp; with_reducible rfl) (by simp only [sp_]; rfl) (fun _ _ _ h => h) ?_
              refine pp_ HT_.out 11 52 m12_27 rfl rfl (by kernel_rfl) (by rfl) (by intro w'; go_simp; with_reducible rfl) (by simp only [sp_]; rfl) (fun _ _ _ h => h) ?_
              refine pp_ HT_.out 12 53 m13_27 rfl rfl (by kernel_rfl) (by rfl) (by intro w'; go_simp; with_reducible rfl) (by simp only [sp_]; rfl) (fun _ _ _ h => h) ?_
              refine pp_ HT_.out 13 54 m14_27 rfl rfl (by kernel_rfl) (by rfl) (by intro w'; go_simp; with_reducible rfl) (by simp only [sp_]; rfl) (fun _ _ _ h => h) ?_
              refine pp_ HT_.out 14 55 m15_27 rfl rfl (by kernel_rfl) (by rfl) (by intro w'; go_simp; with_reducible rfl) (by simp only [sp_]; rfl) (fun _ _ _ h => h) ?_
              refine pp_ HT_.out 15 56 m16_27 rfl rfl (by kernel_rfl) (by rfl) (by intro w'; go_simp; with_reducible rfl) (by simp only [sp_]; rfl) (fun _ _ _ h => h) ?_
              refine pp_ HT_.out 17 58 n44 rfl rfl (by kernel_rfl) (by rfl) (by intro w'; go_simp; with_reducible rfl) (by simp only [sp_]; rfl) (fun _ _ _ h => h) ?_
              refine pp_ HT_.out 18 59 n45 rfl rfl (by kernel_rfl) (by rfl) (by intro w'; go_simp; with_reducible rfl) (by simp only [sp_]; rfl) (fun _ _ _ h => h) ?_
              refine pp_ HT_.out 22 63 n46 rfl rfl (by kernel_rfl) (by rfl) (by intro w'; go_simp; with_reducible rfl) (by simp only [sp_]; rfl) (fun _ _ _ h => h) ?_
              refine tk_ HT_.out HW_.out 16 57 n105 rfl rfl (by kernel_rfl) (by rfl) (by rintro w' ⟨s0, s1, s2, s3, s4, s5, s6, s7, s8, s9, s10, s11, s12, s13, s14, s15, s16, s17, s18, s19⟩; go_simp; with_reducible rfl) hHeld (by simp only [sp_]; rfl) (fun _ _ _ h => h) ?_
              refine pp_ HT_.out 19 60 n47 rfl rfl (by kernel_rfl) (by rfl) (by intro w'; go_simp; with_reducible rfl) (by simp only [sp_]; rfl) (fun _ _ _ h => h) ?_
              refine pp_ HT_.out 20 61 n48 rfl rfl (by kernel_rfl) (by rfl) (by intro w'; go_simp; with_reducible rfl) (by simp only [sp_]; rfl) (fun _ _ _ h => h) ?_
              refine tk_ HT_.out HW_.out 21 62 m23_27 rfl rfl (by kernel_rfl) (by rfl) (by rintro w' ⟨s0, s1, s2, s3, s4, s5, s6, s7, s8, s9, s10, s11, s12, s13, s14, s15, s16, s17, s18, s19⟩; go_simp; with_reducible rfl) hHeld (by simp only [sp_]; rfl) (fun _ _ _ h => h) ?_
              refine tk_ HT_.out HW_.out 23 64 m24_27 rfl rfl (by kernel_rfl) (by rfl) (by rintro w' ⟨s0, s1, s2, s3, s4, s5, s6, s7, s8, s9, s10, s11, s12, s13, s14, s15, s16, s17, s18, s19⟩; go_simp; with_reducible rfl) hHeld (by simp only [sp_]; rfl) (fun _ _ _ h => h) ?_
              refine pp_ HT_.out 24 65 m25_27 rfl rfl (by kernel_rfl) (by rfl) (by intro w'; go_simp; with_reducible rfl) (by simp only [sp_]; rfl) (fun _ _ _ h => h) ?_
              refine pp_ HT_.out 25 66 m26_27 rfl rfl (by kernel_rfl) (by rfl) (by intro w'; go_simp; with_reducible rfl) (by simp only [sp_]; rfl) (fun _ _ _ h => h) ?_
              refine pp_ HT_.out 26 67 m27_27 rfl rfl (by kernel_rfl) (by rfl) (by intro w'; go_simp; with_reducible rfl) (by simp only [sp_]; rfl) (fun _ _ _ h => h) ?_
              refine done_ (done_of HT_.out (by kernel_rfl)) ?_
              try go_wp2
              go_meet
              case rel => exact ⟨_, (!(Op.bytesLess (((rd_T33 l0_0 (ji38)).f0).toList) (((rd_T33 l0_0 x3_2).f0).toList))), (by first | rfl | (simp; done) | (simp only [← hji38] <;> (first | rfl | simp)) | (simp [*]; done)), H', ⟨by have := HJ1.out; have := HK2.out; first | omega | exact Nat.le_refl _⟩, ⟨bk BK138.out⟩, ⟨bk BK142.out⟩, ⟨by repeat with_reducible first | exact bl HB.out | refine below_set ?_ GE138.out | refine below_set ?_ GE142.out | refine bq ?_⟩⟩
             ·
              rw [if_neg c40] at H
              exact absurd H (by simp)
            ·
             rw [if_neg c39] at H
             exact absurd H (by simp)
           ·
            rw [if_neg c37] at H
            have c37b0 : decide (0 < x3_2) = false := decide_eq_false c37
            clear c37
            (first | rw [c37b0] | (simp only [i64_w, i32_w]; rw [c37b0]) | skip)
            have H' := Aside0.mk H
            clear H
            try go_wp2
            have n0_ : Aside0 ((((((((w30.setCell ⟨gb142, 0, none⟩ (.string ((rd_T33 l0_0 x3_2).f0))).setCell ⟨gb142, 1, none⟩ (.int .i64 ((rd_T33 l0_0 x3_2).f1))).setCell ⟨gb142, 2, none⟩ (.int .i64 ((rd_T33 l0_0 x3_2).f2))).setCell ⟨gb142, 3, none⟩ (.int .i64 ((rd_T33 l0_0 x3_2).f3))).setCell ⟨gb142, 4, none⟩ (.int .i64 ((rd_T33 l0_0 x3_2).f4.f0))).setCell ⟨gb142, 5, none⟩ (.int .i64 ((rd_T33 l0_0 x3_2).f4.f1))).setCell ⟨gb142, 6, none⟩ (.int .i64 ((rd_T33 l0_0 x3_2).f4.f2))).heap[gb138]? = some (.cells #[.slice (some ad141) l0_0.length c0_0, .slice A0_1 l0_1.length c0_1, .slice A0_2 l0_2.length c0_2, .int .i64 a0_3, .int .i64 a0_4, .int .i64 a0_5] 56 (0, 0))) := ⟨by (repeat refine bk1 ?_); refine blk_far ?_ NB138_142.out _; (repeat refine bk1 ?_); refine blk_far ?_ NB138_142.out _; (repeat refine bk1 ?_); refine blk_far ?_ NB138_142.out _; (repeat refine bk1 ?_); refine blk_far ?_ NB138_142.out _; (repeat refine bk1 ?_); refine blk_far ?_ NB138_142.out _; (repeat refine bk1 ?_); refine blk_far ?_ NB138_142.out _; (repeat refine bk1 ?_); refine blk_far ?_ NB138_142.out _; (repeat refine bk1 ?_); exact BK138.out⟩
            have n1_ : Aside0 ((((((((w30.setCell ⟨gb142, 0, none⟩ (.string ((rd_T33 l0_0 x3_2).f0))).setCell ⟨gb142, 1, none⟩ (.int .i64 ((rd_T33 l0_0 x3_2).f1))).setCell ⟨gb142, 2, none⟩ (.int .i64 ((rd_T33 l0_0 x3_2).f2))).setCell ⟨gb142, 3, none⟩ (.int .i64 ((rd_T33 l0_0 x3_2).f3))).setCell ⟨gb142, 4, none⟩ (.int .i64 ((rd_T33 l0_0 x3_2).f4.f0))).setCell ⟨gb142, 5, none⟩ (.int .i64 ((rd_T33 l0_0 x3_2).f4.f1))).setCell ⟨gb142, 6, none⟩ (.int .i64 ((rd_T33 l0_0 x3_2).f4.f2))).heap[gb142]? = some (.cells #[.string ((rd_T33 l0_0 x3_2).f0), .int .i64 ((rd_T33 l0_0 x3_2).f1), .int .i64 ((rd_T33 l0_0 x3_2).f2), .int .i64 ((rd_T33 l0_0 x3_2).f3), .int .i64 ((rd_T33 l0_0 x3_2).f4.f0), .int .i64 ((rd_T33 l0_0 x3_2).f4.f1), .int .i64 ((rd_T33 l0_0 x3_2).f4.f2)] 33 (0, 0))) := ⟨by (repeat refine bk1 ?_); refine blk_put (cs := #[.string ((rd_T33 l0_0 x3_2).f0), .int .i64 ((rd_T33 l0_0 x3_2).f1), .int .i64 ((rd_T33 l0_0 x3_2).f2), .int .i64 ((rd_T33 l0_0 x3_2).f3), .int .i64 ((rd_T33 l0_0 x3_2).f4.f0), .int .i64 ((rd_T33 l0_0 x3_2).f4.f1), .int .i64 0]) ?_ 6 _ rfl; (repeat refine bk1 ?_); refine blk_put (cs := #[.string ((rd_T33 l0_0 x3_2).f0), .int .i64 ((rd_T33 l0_0 x3_2).f1), .int .i64 ((rd_T33 l0_0 x3_2).f2), .int .i64 ((rd_T33 l0_0 x3_2).f3), .int .i64 ((rd_T33 l0_0 x3_2).f4.f0), .int .i64 0, .int .i64 0]) ?_ 5 _ rfl; (repeat refine bk1 ?_); refine blk_put (cs := #[.string ((rd_T33 l0_0 x3_2).f0), .int .i64 ((rd_T33 l0_0 x3_2).f1), .int .i64 ((rd_T33 l0_0 x3_2).f2), .int .i64 ((rd_T33 l0_0 x3_2).f3), .int .i64 0, .int .i64 0, .int .i64 0]) ?_ 4 _ rfl; (repeat refine bk1 ?_); refine blk_put (cs := #[.string ((rd_T33 l0_0 x3_2).f0), .int .i64 ((rd_T33 l0_0 x3_2).f1), .int .i64 ((rd_T33 l0_0 x3_2).f2), .int .i64 0, .int .i64 0, .int .i64 0, .int .i64 0]) ?_ 3 _ rfl; (repeat refine bk1 ?_); refine blk_put (cs := #[.string ((rd_T33 l0_0 x3_2).f0), .int .i64 ((rd_T33 l0_0 x3_2).f1), .int .i64 0, .int .i64 0, .int .i64 0, .int .i64 0, .int .i64 0]) ?_ 2 _ rfl; (repeat refine bk1 ?_); refine blk_put (cs := #[.string ((rd_T33 l0_0 x3_2).f0), .int .i64 0, .int .i64 0, .int .i64 0, .int .i64 0, .int .i64 0, .int .i64 0]) ?_ 1 _ rfl; (repeat refine bk1 ?_); refine blk_put (cs := #[.string (⟨#[]⟩ : ByteArray), .int .i64 0, .int .i64 0, .int .i64 0, .int .i64 0, .int .i64 0, .int .i64 0]) ?_ 0 _ rfl; (repeat refine bk1 ?_); exact BK142.out⟩
            have n2_ : Aside0 (Below w.heap.size w (((((((w30.setCell ⟨gb142, 0, none⟩ (.string ((rd_T33 l0_0 x3_2).f0))).setCell ⟨gb142, 1, none⟩ (.int .i64 ((rd_T33 l0_0 x3_2).f1))).setCell ⟨gb142, 2, none⟩ (.int .i64 ((rd_T33 l0_0 x3_2).f2))).setCell ⟨gb142, 3, none⟩ (.int .i64 ((rd_T33 l0_0 x3_2).f3))).setCell ⟨gb142, 4, none⟩ (.int .i64 ((rd_T33 l0_0 x3_2).f4.f0))).setCell ⟨gb142, 5, none⟩ (.int .i64 ((rd_T33 l0_0 x3_2).f4.f1))).setCell ⟨gb142, 6, none⟩ (.int .i64 ((rd_T33 l0_0 x3_2).f4.f2)))) := ⟨by repeat with_reducible first | exact bl HB.out | refine below_set ?_ GE138.out | refine below_set ?_ GE142.out | refine bq ?_⟩
            (try clear BK138)
            (try clear BK142)
            (try clear HB)
            generalize (((((((w30.setCell ⟨gb142, 0, none⟩ (.string ((rd_T33 l0_0 x3_2).f0))).setCell ⟨gb142, 1, none⟩ (.int .i64 ((rd_T33 l0_0 x3_2).f1))).setCell ⟨gb142, 2, none⟩ (.int .i64 ((rd_T33 l0_0 x3_2).f2))).setCell ⟨gb142, 3, none⟩ (.int .i64 ((rd_T33 l0_0 x3_2).f3))).setCell ⟨gb142, 4, none⟩ (.int .i64 ((rd_T33 l0_0 x3_2).f4.f0))).setCell ⟨gb142, 5, none⟩ (.int .i64 ((rd_T33 l0_0 x3_2).f4.f1))).setCell ⟨gb142, 6, none⟩ (.int .i64 ((rd_T33 l0_0 x3_2).f4.f2))) = w45 at n0_ n1_ n2_ ⊢
            have BK138 := n0_
            have BK142 := n1_
            have HB := n2_
            clear n0_ n1_ n2_
            have n0_ := Aside0.mk (blk_drew BK138.out)
            have n1_ := Aside0.mk (blk_drew BK142.out)
            have n2_ := Aside0.mk (below_drew1 HB.out)
            clear BK138
            clear BK142
            clear HB
            have BK138 := n0_
            have BK142 := n1_
            have HB := n2_
            clear n0_ n1_ n2_
            refine start_ (n := 27) (S := fun w' => w'.cell? ⟨gb142, 0, none⟩ = some (.string ((rd_T33 l0_0 x3_2).f0)) ∧ w'.cell? ⟨gb142, 1, none⟩ = some (.int .i64 ((rd_T33 l0_0 x3_2).f1)) ∧ w'.cell? ⟨gb142, 2, none⟩ = some (.int .i64 ((rd_T33 l0_0 x3_2).f2)) ∧ w'.cell? ⟨gb142, 3, none⟩ = some (.int .i64 ((rd_T33 l0_0 x3_2).f3)) ∧ w'.cell? ⟨gb142, 4, none⟩ = some (.int .i64 ((rd_T33 l0_0 x3_2).f4.f0)) ∧ w'.cell? ⟨gb142, 5, none⟩ = some (.int .i64 ((rd_T33 l0_0 x3_2).f4.f1)) ∧ w'.cell? ⟨gb142, 6, none⟩ = some (.int .i64 ((rd_T33 l0_0 x3_2).f4.f2)) ∧ w'.cell? ⟨gb138, 0, none⟩ = some (.slice (some ad141) l0_0.length c0_0) ∧ w'.cell? ⟨gb138, 1, none⟩ = some (.slice A0_1 l0_1.length c0_1) ∧ w'.cell? ⟨gb138, 2, none⟩ = some (.slice A0_2 l0_2.length c0_2) ∧ w'.cell? ⟨gb138, 3, none⟩ = some (.int .i64 a0_3) ∧ w'.cell? ⟨gb138, 4, none⟩ = some (.int .i64 a0_4) ∧ w'.cell? ⟨gb138, 5, none⟩ = some (.int .i64 a0_5)) (ds := []) m0_27 (by kernel_rfl) rfl rfl ⟨ck BK142.out 0 rfl, ck BK142.out 1 rfl, ck BK142.out 2 rfl, ck BK142.out 3 rfl, ck BK142.out 4 rfl, ck BK142.out 5 rfl, ck BK142.out 6 rfl, ck BK138.out 0 rfl, ck BK138.out 1 rfl, ck BK138.out 2 rfl, ck BK138.out 3 rfl, ck BK138.out 4 rfl, ck BK138.out 5 rfl⟩ (fun hHeld => ?_); refine with_tabW spec_FleetOk.tab7 spec_FleetOk.bits7 (fun HT_ HW_ => ?_)
            generalize w45.drew = w46 at BK138 BK142 HB hHeld ⊢
            refine tk_ HT_.out HW_.out 0 41 m1_27 rfl rfl (by kernel_rfl) (by rfl) (by rintro w' ⟨s0, s1, s2, s3, s4, s5, s6, s7, s8, s9, s10, s11, s12⟩; go_simp; with_reducible rfl) hHeld (by simp only [sp_]; rfl) (fun _ _ _ h => h) ?_
            refine one_ (i := 1) (N := some 42) m2_27 rfl rfl (one_of HT_.out (by kernel_rfl)) (by decide) (fun K hK => ?_)
            refine goes_ Try.func17 (by kernel_rfl) rfl #[.agg #[.string ((rd_T33 l0_0 x3_2).f0), .int .i64 ((rd_T33 l0_0 x3_2).f1), .int .i64 ((rd_T33 l0_0 x3_2).f2), .int .i64 ((rd_T33 l0_0 x3_2).f3), .int .i64 ((rd_T33 l0_0 x3_2).f4.f0), .int .i64 ((rd_T33 l0_0 x3_2).f4.f1), .int .i64 ((rd_T33 l0_0 x3_2).f4.f2)]] (by rfl) rfl rfl (by (try simp only [am_]); first | done | rfl) ?_
            with_reducible refine (spec_TaskOk.calls k2 ((rd_T33 l0_0 x3_2).f0) ((rd_T33 l0_0 x3_2).f1) ((rd_T33 l0_0 x3_2).f2) ((rd_T33 l0_0 x3_2).f3) ((rd_T33 l0_0 x3_2).f4.f0) ((rd_T33 l0_0 x3_2).f4.f1) ((rd_T33 l0_0 x3_2).f4.f2) true _ A33.out).mono ?_
            rintro e w47 ⟨rfl, hb⟩
            refine ⟨_, rfl, ?_⟩
            have n0_ := Aside0.mk (blk_below (bk BK138.out) hb)
            have n1_ := Aside0.mk (blk_below (bk BK142.out) hb)
            have n2_ := Aside0.mk (below_step (by repeat with_reducible first | exact bl HB.out | refine below_set ?_ GE138.out | refine below_set ?_ GE142.out | refine bq ?_) hb)
            clear BK138
            clear BK142
            clear HB
            have BK138 := n0_
            have BK142 := n1_
            have HB := n2_
            clear n0_ n1_ n2_
            (try clear hb)
            (try clear hb2)
            (try clear hk)
            (try clear hi)
            refine hK.out _ _ ⟨ck BK142.out 0 rfl, ck BK142.out 1 rfl, ck BK142.out 2 rfl, ck BK142.out 3 rfl, ck BK142.out 4 rfl, ck BK142.out 5 rfl, ck BK142.out 6 rfl, ck BK138.out 0 rfl, ck BK138.out 1 rfl, ck BK138.out 2 rfl, ck BK138.out 3 rfl, ck BK138.out 4 rfl, ck BK138.out 5 rfl⟩ (fun hHeld => ?_)
            clear hK K
            refine norm_ (a' := ?_) ?_ ?_
            rotate_left
            ·
             show Act.put _ (some 42) _ = _
             simp only [sp_]
             rfl
            refine pp_ HT_.out 2 43 m3_27 rfl rfl (by kernel_rfl) (by rfl) (by intro w'; go_simp; with_reducible rfl) (by simp only [sp_]; rfl) (fun _ _ _ h => h) ?_
            refine pp_ HT_.out 3 44 m4_27 rfl rfl (by kernel_rfl) (by rfl) (by intro w'; go_simp; with_reducible rfl) (by simp only [sp_]; rfl) (fun _ _ _ h => h) ?_
            refine pp_ HT_.out 4 45 m5_27 rfl rfl (by kernel_rfl) (by rfl) (by intro w'; go_simp; with_reducible rfl) (by simp only [sp_]; rfl) (fun _ _ _ h => h) ?_
            refine pp_ HT_.out 6 47 n36 rfl rfl (by kernel_rfl) (by rfl) (by intro w'; go_simp; with_reducible rfl) (by simp only [sp_]; rfl) (fun _ _ _ h => h) ?_
            refine tk_ HT_.out HW_.out 5 46 m7_27 rfl rfl (by kernel_rfl) (by rfl) (by rintro w' ⟨s0, s1, s2, s3, s4, s5, s6, s7, s8, s9, s10, s11, s12⟩; go_simp; with_reducible rfl) hHeld (by simp only [sp_]; rfl) (fun _ _ _ h => h) ?_
            refine tk_ HT_.out HW_.out 7 48 m8_27 rfl rfl (by kernel_rfl) (by rfl) (by rintro w' ⟨s0, s1, s2, s3, s4, s5, s6, s7, s8, s9, s10, s11, s12⟩; go_simp; with_reducible rfl) hHeld (by simp only [sp_]; rfl) (fun _ _ _ h => h) ?_
            refine one_ (i := 8) (N := some 49) m9_27 rfl rfl (one_of HT_.out (by kernel_rfl)) (by decide) (fun K hK => ?_)
            refine goes_ Try.func57 (by kernel_rfl) rfl #[.agg #[.int .i64 ((rd_T33 l0_0 x3_2).f4.f0), .int .i64 ((rd_T33 l0_0 x3_2).f4.f1), .int .i64 ((rd_T33 l0_0 x3_2).f4.f2)], .agg #[.int .i64 a0_3, .int .i64 a0_4, .int .i64 a0_5]] (by rfl) rfl rfl (by (try simp only [am_]); first | done | rfl) ?_
            with_reducible refine (spec_l19Behind.calls ((rd_T33 l0_0 x3_2).f4.f0) ((rd_T33 l0_0 x3_2).f4.f1) ((rd_T33 l0_0 x3_2).f4.f2) a0_3 a0_4 a0_5 true _ A35.out).mono ?_
            rintro e w48 ⟨rfl, hb⟩
            refine ⟨_, rfl, ?_⟩
            have n0_ := Aside0.mk (blk_below (bk BK138.out) hb)
            have n1_ := Aside0.mk (blk_below (bk BK142.out) hb)
            have n2_ := Aside0.mk (below_step (by repeat with_reducible first | exact bl HB.out | refine below_set ?_ GE138.out | refine below_set ?_ GE142.out | refine bq ?_) hb)
            clear BK138
            clear BK142
            clear HB
            have BK138 := n0_
            have BK142 := n1_
            have HB := n2_
            clear n0_ n1_ n2_
            (try clear hb)
            (try clear hb2)
            (try clear hk)
            (try clear hi)
            refine hK.out _ _ ⟨ck BK142.out 0 rfl, ck BK142.out 1 rfl, ck BK142.out 2 rfl, ck BK142.out 3 rfl, ck BK142.out 4 rfl, ck BK142.out 5 rfl, ck BK142.out 6 rfl, ck BK138.out 0 rfl, ck BK138.out 1 rfl, ck BK138.out 2 rfl, ck BK138.out 3 rfl, ck BK138.out 4 rfl, ck BK138.out 5 rfl⟩ (fun hHeld => ?_)
            clear hK K
            refine norm_ (a' := ?_) ?_ ?_
            rotate_left
            ·
             show Act.put _ (some 49) _ = _
             simp only [sp_]
             rfl
            refine pp_ HT_.out 9 50 m10_27 rfl rfl (by kernel_rfl) (by rfl) (by intro w'; go_simp; with_reducible rfl) (by simp only [sp_]; rfl) (fun _ _ _ h => h) ?_
            refine pp_ HT_.out 10 51 m11_27 rfl rfl (by kernel_rfl) (by rfl) (by intro w'; go_simp; with_reducible rfl) (by simp only [sp_]; rfl) (fun _ _ _ h => h) ?_
            refine pp_ HT_.out 11 52 m12_27 rfl rfl (by kernel_rfl) (by rfl) (by intro w'; go_simp; with_reducible rfl) (by simp only [sp_]; rfl) (fun _ _ _ h => h) ?_
            refine pp_ HT_.out 12 53 m13_27 rfl rfl (by kernel_rfl) (by rfl) (by intro w'; go_simp; with_reducible rfl) (by simp only [sp_]; rfl) (fun _ _ _ h => h) ?_
            refine pp_ HT_.out 13 54 m14_27 rfl rfl (by kernel_rfl) (by rfl) (by intro w'; go_simp; with_reducible rfl) (by simp only [sp_]; rfl) (fun _ _ _ h => h) ?_
            refine pp_ HT_.out 14 55 m15_27 rfl rfl (by kernel_rfl) (by rfl) (by intro w'; go_simp; with_reducible rfl) (by simp only [sp_]; rfl) (fun _ _ _ h => h) ?_
            refine pu_ HT_.out 15 56 m16_27 rfl rfl (by kernel_rfl) (by rfl) (by simp only [sp_]; rfl) (fun _ _ _ h => h) ?_
            refine pu_ HT_.out 16 57 m17_27 rfl rfl (by kernel_rfl) (by rfl) (by simp only [sp_]; rfl) (fun _ _ _ h => h) ?_
            refine pu_ HT_.out 17 58 m18_27 rfl rfl (by kernel_rfl) (by rfl) (by simp only [sp_]; rfl) (fun _ _ _ h => h) ?_
            refine pu_ HT_.out 18 59 m19_27 rfl rfl (by kernel_rfl) (by rfl) (by simp only [sp_]; rfl) (fun _ _ _ h => h) ?_
            refine pu_ HT_.out 19 60 m20_27 rfl rfl (by kernel_rfl) (by rfl) (by simp only [sp_]; rfl) (fun _ _ _ h => h) ?_
            refine pu_ HT_.out 20 61 m21_27 rfl rfl (by kernel_rfl) (by rfl) (by simp only [sp_]; rfl) (fun _ _ _ h => h) ?_
            refine pu_ HT_.out 21 62 m22_27 rfl rfl (by kernel_rfl) (by rfl) (by simp only [sp_]; rfl) (fun _ _ _ h => h) ?_
            refine pu_ HT_.out 22 63 m23_27 rfl rfl (by kernel_rfl) (by rfl) (by simp only [sp_]; rfl) (fun _ _ _ h => h) ?_
            refine pu_ HT_.out 23 64 m24_27 rfl rfl (by kernel_rfl) (by rfl) (by simp only [sp_]; rfl) (fun _ _ _ h => h) ?_
            refine pu_ HT_.out 24 65 m25_27 rfl rfl (by kernel_rfl) (by rfl) (by simp only [sp_]; rfl) (fun _ _ _ h => h) ?_
            refine pp_ HT_.out 25 66 m26_27 rfl rfl (by kernel_rfl) (by rfl) (by intro w'; go_simp; with_reducible rfl) (by simp only [sp_]; rfl) (fun _ _ _ h => h) ?_
            refine pp_ HT_.out 26 67 m27_27 rfl rfl (by kernel_rfl) (by rfl) (by intro w'; go_simp; with_reducible rfl) (by simp only [sp_]; rfl) (fun _ _ _ h => h) ?_
            refine done_ (done_of HT_.out (by kernel_rfl)) ?_
            try go_wp2
            go_meet
            case rel => exact ⟨_, (false), (by first | rfl | (simp; done) | (simp [*]; done)), H', ⟨by have := HJ1.out; have := HK2.out; first | omega | exact Nat.le_refl _⟩, ⟨bk BK138.out⟩, ⟨bk BK142.out⟩, ⟨by repeat with_reducible first | exact bl HB.out | refine below_set ?_ GE138.out | refine below_set ?_ GE142.out | refine bq ?_⟩⟩
          ·
           replace c36 := Bool.eq_false_iff.mpr c36
           subst c36
           have H1 : (spec_FleetOk.j2 k2 x3_2 true l0_0 l0_1 l0_2 a0_3 a0_4 a0_5) = some r := by rw [if_neg (show ¬ (false = true) by decide)] at H; exact H
           clear H
           have H := H1
           clear H1
           have H' := Aside0.mk H
           clear H
           try go_wp2
           have n0_ : Aside0 ((((((((w30.setCell ⟨gb142, 0, none⟩ (.string ((rd_T33 l0_0 x3_2).f0))).setCell ⟨gb142, 1, none⟩ (.int .i64 ((rd_T33 l0_0 x3_2).f1))).setCell ⟨gb142, 2, none⟩ (.int .i64 ((rd_T33 l0_0 x3_2).f2))).setCell ⟨gb142, 3, none⟩ (.int .i64 ((rd_T33 l0_0 x3_2).f3))).setCell ⟨gb142, 4, none⟩ (.int .i64 ((rd_T33 l0_0 x3_2).f4.f0))).setCell ⟨gb142, 5, none⟩ (.int .i64 ((rd_T33 l0_0 x3_2).f4.f1))).setCell ⟨gb142, 6, none⟩ (.int .i64 ((rd_T33 l0_0 x3_2).f4.f2))).heap[gb138]? = some (.cells #[.slice (some ad141) l0_0.length c0_0, .slice A0_1 l0_1.length c0_1, .slice A0_2 l0_2.length c0_2, .int .i64 a0_3, .int .i64 a0_4, .int .i64 a0_5] 56 (0, 0))) := ⟨by (repeat refine bk1 ?_); refine blk_far ?_ NB138_142.out _; (repeat refine bk1 ?_); refine blk_far ?_ NB138_142.out _; (repeat refine bk1 ?_); refine blk_far ?_ NB138_142.out _; (repeat refine bk1 ?_); refine blk_far ?_ NB138_142.out _; (repeat refine bk1 ?_); refine blk_far ?_ NB138_142.out _; (repeat refine bk1 ?_); refine blk_far ?_ NB138_142.out _; (repeat refine bk1 ?_); refine blk_far ?_ NB138_142.out _; (repeat refine bk1 ?_); exact BK138.out⟩
           have n1_ : Aside0 ((((((((w30.setCell ⟨gb142, 0, none⟩ (.string ((rd_T33 l0_0 x3_2).f0))).setCell ⟨gb142, 1, none⟩ (.int .i64 ((rd_T33 l0_0 x3_2).f1))).setCell ⟨gb142, 2, none⟩ (.int .i64 ((rd_T33 l0_0 x3_2).f2))).setCell ⟨gb142, 3, none⟩ (.int .i64 ((rd_T33 l0_0 x3_2).f3))).setCell ⟨gb142, 4, none⟩ (.int .i64 ((rd_T33 l0_0 x3_2).f4.f0))).setCell ⟨gb142, 5, none⟩ (.int .i64 ((rd_T33 l0_0 x3_2).f4.f1))).setCell ⟨gb142, 6, none⟩ (.int .i64 ((rd_T33 l0_0 x3_2).f4.f2))).heap[gb142]? = some (.cells #[.string ((rd_T33 l0_0 x3_2).f0), .int .i64 ((rd_T33 l0_0 x3_2).f1), .int .i64 ((rd_T33 l0_0 x3_2).f2), .int .i64 ((rd_T33 l0_0 x3_2).f3), .int .i64 ((rd_T33 l0_0 x3_2).f4.f0), .int .i64 ((rd_T33 l0_0 x3_2).f4.f1), .int .i64 ((rd_T33 l0_0 x3_2).f4.f2)] 33 (0, 0))) := ⟨by (repeat refine bk1 ?_); refine blk_put (cs := #[.string ((rd_T33 l0_0 x3_2).f0), .int .i64 ((rd_T33 l0_0 x3_2).f1), .int .i64 ((rd_T33 l0_0 x3_2).f2), .int .i64 ((rd_T33 l0_0 x3_2).f3), .int .i64 ((rd_T33 l0_0 x3_2).f4.f0), .int .i64 ((rd_T33 l0_0 x3_2).f4.f1), .int .i64 0]) ?_ 6 _ rfl; (repeat refine bk1 ?_); refine blk_put (cs := #[.string ((rd_T33 l0_0 x3_2).f0), .int .i64 ((rd_T33 l0_0 x3_2).f1), .int .i64 ((rd_T33 l0_0 x3_2).f2), .int .i64 ((rd_T33 l0_0 x3_2).f3), .int .i64 ((rd_T33 l0_0 x3_2).f4.f0), .int .i64 0, .int .i64 0]) ?_ 5 _ rfl; (repeat refine bk1 ?_); refine blk_put (cs := #[.string ((rd_T33 l0_0 x3_2).f0), .int .i64 ((rd_T33 l0_0 x3_2).f1), .int .i64 ((rd_T33 l0_0 x3_2).f2), .int .i64 ((rd_T33 l0_0 x3_2).f3), .int .i64 0, .int .i64 0, .int .i64 0]) ?_ 4 _ rfl; (repeat refine bk1 ?_); refine blk_put (cs := #[.string ((rd_T33 l0_0 x3_2).f0), .int .i64 ((rd_T33 l0_0 x3_2).f1), .int .i64 ((rd_T33 l0_0 x3_2).f2), .int .i64 0, .int .i64 0, .int .i64 0, .int .i64 0]) ?_ 3 _ rfl; (repeat refine bk1 ?_); refine blk_put (cs := #[.string ((rd_T33 l0_0 x3_2).f0), .int .i64 ((rd_T33 l0_0 x3_2).f1), .int .i64 0, .int .i64 0, .int .i64 0, .int .i64 0, .int .i64 0]) ?_ 2 _ rfl; (repeat refine bk1 ?_); refine blk_put (cs := #[.string ((rd_T33 l0_0 x3_2).f0), .int .i64 0, .int .i64 0, .int .i64 0, .int .i64 0, .int .i64 0, .int .i64 0]) ?_ 1 _ rfl; (repeat refine bk1 ?_); refine blk_put (cs := #[.string (⟨#[]⟩ : ByteArray), .int .i64 0, .int .i64 0, .int .i64 0, .int .i64 0, .int .i64 0, .int .i64 0]) ?_ 0 _ rfl; (repeat refine bk1 ?_); exact BK142.out⟩
           have n2_ : Aside0 (Below w.heap.size w (((((((w30.setCell ⟨gb142, 0, none⟩ (.string ((rd_T33 l0_0 x3_2).f0))).setCell ⟨gb142, 1, none⟩ (.int .i64 ((rd_T33 l0_0 x3_2).f1))).setCell ⟨gb142, 2, none⟩ (.int .i64 ((rd_T33 l0_0 x3_2).f2))).setCell ⟨gb142, 3, none⟩ (.int .i64 ((rd_T33 l0_0 x3_2).f3))).setCell ⟨gb142, 4, none⟩ (.int .i64 ((rd_T33 l0_0 x3_2).f4.f0))).setCell ⟨gb142, 5, none⟩ (.int .i64 ((rd_T33 l0_0 x3_2).f4.f1))).setCell ⟨gb142, 6, none⟩ (.int .i64 ((rd_T33 l0_0 x3_2).f4.f2)))) := ⟨by repeat with_reducible first | exact bl HB.out | refine below_set ?_ GE138.out | refine below_set ?_ GE142.out | refine bq ?_⟩
           (try clear BK138)
           (try clear BK142)
           (try clear HB)
           generalize (((((((w30.setCell ⟨gb142, 0, none⟩ (.string ((rd_T33 l0_0 x3_2).f0))).setCell ⟨gb142, 1, none⟩ (.int .i64 ((rd_T33 l0_0 x3_2).f1))).setCell ⟨gb142, 2, none⟩ (.int .i64 ((rd_T33 l0_0 x3_2).f2))).setCell ⟨gb142, 3, none⟩ (.int .i64 ((rd_T33 l0_0 x3_2).f3))).setCell ⟨gb142, 4, none⟩ (.int .i64 ((rd_T33 l0_0 x3_2).f4.f0))).setCell ⟨gb142, 5, none⟩ (.int .i64 ((rd_T33 l0_0 x3_2).f4.f1))).setCell ⟨gb142, 6, none⟩ (.int .i64 ((rd_T33 l0_0 x3_2).f4.f2))) = w49 at n0_ n1_ n2_ ⊢
           have BK138 := n0_
           have BK142 := n1_
           have HB := n2_
           clear n0_ n1_ n2_
           have n0_ := Aside0.mk (blk_drew BK138.out)
           have n1_ := Aside0.mk (blk_drew BK142.out)
           have n2_ := Aside0.mk (below_drew1 HB.out)
           clear BK138
           clear BK142
           clear HB
           have BK138 := n0_
           have BK142 := n1_
           have HB := n2_
           clear n0_ n1_ n2_
           refine start_ (n := 27) (S := fun w' => w'.cell? ⟨gb142, 0, none⟩ = some (.string ((rd_T33 l0_0 x3_2).f0)) ∧ w'.cell? ⟨gb142, 1, none⟩ = some (.int .i64 ((rd_T33 l0_0 x3_2).f1)) ∧ w'.cell? ⟨gb142, 2, none⟩ = some (.int .i64 ((rd_T33 l0_0 x3_2).f2)) ∧ w'.cell? ⟨gb142, 3, none⟩ = some (.int .i64 ((rd_T33 l0_0 x3_2).f3)) ∧ w'.cell? ⟨gb142, 4, none⟩ = some (.int .i64 ((rd_T33 l0_0 x3_2).f4.f0)) ∧ w'.cell? ⟨gb142, 5, none⟩ = some (.int .i64 ((rd_T33 l0_0 x3_2).f4.f1)) ∧ w'.cell? ⟨gb142, 6, none⟩ = some (.int .i64 ((rd_T33 l0_0 x3_2).f4.f2)) ∧ w'.cell? ⟨gb138, 0, none⟩ = some (.slice (some ad141) l0_0.length c0_0) ∧ w'.cell? ⟨gb138, 1, none⟩ = some (.slice A0_1 l0_1.length c0_1) ∧ w'.cell? ⟨gb138, 2, none⟩ = some (.slice A0_2 l0_2.length c0_2) ∧ w'.cell? ⟨gb138, 3, none⟩ = some (.int .i64 a0_3) ∧ w'.cell? ⟨gb138, 4, none⟩ = some (.int .i64 a0_4) ∧ w'.cell? ⟨gb138, 5, none⟩ = some (.int .i64 a0_5)) (ds := []) m0_27 (by kernel_rfl) rfl rfl ⟨ck BK142.out 0 rfl, ck BK142.out 1 rfl, ck BK142.out 2 rfl, ck BK142.out 3 rfl, ck BK142.out 4 rfl, ck BK142.out 5 rfl, ck BK142.out 6 rfl, ck BK138.out 0 rfl, ck BK138.out 1 rfl, ck BK138.out 2 rfl, ck BK138.out 3 rfl, ck BK138.out 4 rfl, ck BK138.out 5 rfl⟩ (fun hHeld => ?_); refine with_tabW spec_FleetOk.tab7 spec_FleetOk.bits7 (fun HT_ HW_ => ?_)
           generalize w49.drew = w50 at BK138 BK142 HB hHeld ⊢
           refine tk_ HT_.out HW_.out 0 41 m1_27 rfl rfl (by kernel_rfl) (by rfl) (by rintro w' ⟨s0, s1, s2, s3, s4, s5, s6, s7, s8, s9, s10, s11, s12⟩; go_simp; with_reducible rfl) hHeld (by simp only [sp_]; rfl) (fun _ _ _ h => h) ?_
           refine one_ (i := 1) (N := some 42) m2_27 rfl rfl (one_of HT_.out (by kernel_rfl)) (by decide) (fun K hK => ?_)
           refine goes_ Try.func17 (by kernel_rfl) rfl #[.agg #[.string ((rd_T33 l0_0 x3_2).f0), .int .i64 ((rd_T33 l0_0 x3_2).f1), .int .i64 ((rd_T33 l0_0 x3_2).f2), .int .i64 ((rd_T33 l0_0 x3_2).f3), .int .i64 ((rd_T33 l0_0 x3_2).f4.f0), .int .i64 ((rd_T33 l0_0 x3_2).f4.f1), .int .i64 ((rd_T33 l0_0 x3_2).f4.f2)]] (by rfl) rfl rfl (by (try simp only [am_]); first | done | rfl) ?_
           with_reducible refine (spec_TaskOk.calls k2 ((rd_T33 l0_0 x3_2).f0) ((rd_T33 l0_0 x3_2).f1) ((rd_T33 l0_0 x3_2).f2) ((rd_T33 l0_0 x3_2).f3) ((rd_T33 l0_0 x3_2).f4.f0) ((rd_T33 l0_0 x3_2).f4.f1) ((rd_T33 l0_0 x3_2).f4.f2) true _ A33.out).mono ?_
           rintro e w51 ⟨rfl, hb⟩
           refine ⟨_, rfl, ?_⟩
           have n0_ := Aside0.mk (blk_below (bk BK138.out) hb)
           have n1_ := Aside0.mk (blk_below (bk BK142.out) hb)
           have n2_ := Aside0.mk (below_step (by repeat with_reducible first | exact bl HB.out | refine below_set ?_ GE138.out | refine below_set ?_ GE142.out | refine bq ?_) hb)
           clear BK138
           clear BK142
           clear HB
           have BK138 := n0_
           have BK142 := n1_
           have HB := n2_
           clear n0_ n1_ n2_
           (try clear hb)
           (try clear hb2)
           (try clear hk)
           (try clear hi)
           refine hK.out _ _ ⟨ck BK142.out 0 rfl, ck BK142.out 1 rfl, ck BK142.out 2 rfl, ck BK142.out 3 rfl, ck BK142.out 4 rfl, ck BK142.out 5 rfl, ck BK142.out 6 rfl, ck BK138.out 0 rfl, ck BK138.out 1 rfl, ck BK138.out 2 rfl, ck BK138.out 3 rfl, ck BK138.out 4 rfl, ck BK138.out 5 rfl⟩ (fun hHeld => ?_)
           clear hK K
           refine norm_ (a' := ?_) ?_ ?_
           rotate_left
           ·
            show Act.put _ (some 42) _ = _
            simp only [sp_]
            rfl
           refine pp_ HT_.out 2 43 m3_27 rfl rfl (by kernel_rfl) (by rfl) (by intro w'; go_simp; with_reducible rfl) (by simp only [sp_]; rfl) (fun _ _ _ h => h) ?_
           refine pp_ HT_.out 3 44 m4_27 rfl rfl (by kernel_rfl) (by rfl) (by intro w'; go_simp; with_reducible rfl) (by simp only [sp_]; rfl) (fun _ _ _ h => h) ?_
           refine pp_ HT_.out 4 45 m5_27 rfl rfl (by kernel_rfl) (by rfl) (by intro w'; go_simp; with_reducible rfl) (by simp only [sp_]; rfl) (fun _ _ _ h => h) ?_
           refine pp_ HT_.out 6 47 n36 rfl rfl (by kernel_rfl) (by rfl) (by intro w'; go_simp; with_reducible rfl) (by simp only [sp_]; rfl) (fun _ _ _ h => h) ?_
           refine tk_ HT_.out HW_.out 5 46 m7_27 rfl rfl (by kernel_rfl) (by rfl) (by rintro w' ⟨s0, s1, s2, s3, s4, s5, s6, s7, s8, s9, s10, s11, s12⟩; go_simp; with_reducible rfl) hHeld (by simp only [sp_]; rfl) (fun _ _ _ h => h) ?_
           refine tk_ HT_.out HW_.out 7 48 m8_27 rfl rfl (by kernel_rfl) (by rfl) (by rintro w' ⟨s0, s1, s2, s3, s4, s5, s6, s7, s8, s9, s10, s11, s12⟩; go_simp; with_reducible rfl) hHeld (by simp only [sp_]; rfl) (fun _ _ _ h => h) ?_
           refine one_ (i := 8) (N := some 49) m9_27 rfl rfl (one_of HT_.out (by kernel_rfl)) (by decide) (fun K hK => ?_)
           refine goes_ Try.func57 (by kernel_rfl) rfl #[.agg #[.int .i64 ((rd_T33 l0_0 x3_2).f4.f0), .int .i64 ((rd_T33 l0_0 x3_2).f4.f1), .int .i64 ((rd_T33 l0_0 x3_2).f4.f2)], .agg #[.int .i64 a0_3, .int .i64 a0_4, .int .i64 a0_5]] (by rfl) rfl rfl (by (try simp only [am_]); first | done | rfl) ?_
           with_reducible refine (spec_l19Behind.calls ((rd_T33 l0_0 x3_2).f4.f0) ((rd_T33 l0_0 x3_2).f4.f1) ((rd_T33 l0_0 x3_2).f4.f2) a0_3 a0_4 a0_5 false _ A35.out).mono ?_
           rintro e w52 ⟨rfl, hb⟩
           refine ⟨_, rfl, ?_⟩
           have n0_ := Aside0.mk (blk_below (bk BK138.out) hb)
           have n1_ := Aside0.mk (blk_below (bk BK142.out) hb)
           have n2_ := Aside0.mk (below_step (by repeat with_reducible first | exact bl HB.out | refine below_set ?_ GE138.out | refine below_set ?_ GE142.out | refine bq ?_) hb)
           clear BK138
           clear BK142
           clear HB
           have BK138 := n0_
           have BK142 := n1_
           have HB := n2_
           clear n0_ n1_ n2_
           (try clear hb)
           (try clear hb2)
           (try clear hk)
           (try clear hi)
           refine hK.out _ _ ⟨ck BK142.out 0 rfl, ck BK142.out 1 rfl, ck BK142.out 2 rfl, ck BK142.out 3 rfl, ck BK142.out 4 rfl, ck BK142.out 5 rfl, ck BK142.out 6 rfl, ck BK138.out 0 rfl, ck BK138.out 1 rfl, ck BK138.out 2 rfl, ck BK138.out 3 rfl, ck BK138.out 4 rfl, ck BK138.out 5 rfl⟩ (fun hHeld => ?_)
           clear hK K
           refine norm_ (a' := ?_) ?_ ?_
           rotate_left
           ·
            show Act.put _ (some 49) _ = _
            simp only [sp_]
            rfl
           refine pp_ HT_.out 9 50 m10_27 rfl rfl (by kernel_rfl) (by rfl) (by intro w'; go_simp; with_reducible rfl) (by simp only [sp_]; rfl) (fun _ _ _ h => h) ?_
           refine pp_ HT_.out 10 51 m11_27 rfl rfl (by kernel_rfl) (by rfl) (by intro w'; go_simp; with_reducible rfl) (by simp only [sp_]; rfl) (fun _ _ _ h => h) ?_
           refine pp_ HT_.out 11 52 m12_27 rfl rfl (by kernel_rfl) (by rfl) (by intro w'; go_simp; with_reducible rfl) (by simp only [sp_]; rfl) (fun _ _ _ h => h) ?_
           refine pu_ HT_.out 12 53 m13_27 rfl rfl (by kernel_rfl) (by rfl) (by simp only [sp_]; rfl) (fun _ _ _ h => h) ?_
           refine pu_ HT_.out 13 54 m14_27 rfl rfl (by kernel_rfl) (by rfl) (by simp only [sp_]; rfl) (fun _ _ _ h => h) ?_
           refine pu_ HT_.out 14 55 m15_27 rfl rfl (by kernel_rfl) (by rfl) (by simp only [sp_]; rfl) (fun _ _ _ h => h) ?_
           refine pu_ HT_.out 15 56 m16_27 rfl rfl (by kernel_rfl) (by rfl) (by simp only [sp_]; rfl) (fun _ _ _ h => h) ?_
           refine pu_ HT_.out 16 57 m17_27 rfl rfl (by kernel_rfl) (by rfl) (by simp only [sp_]; rfl) (fun _ _ _ h => h) ?_
           refine pu_ HT_.out 17 58 m18_27 rfl rfl (by kernel_rfl) (by rfl) (by simp only [sp_]; rfl) (fun _ _ _ h => h) ?_
           refine pu_ HT_.out 18 59 m19_27 rfl rfl (by kernel_rfl) (by rfl) (by simp only [sp_]; rfl) (fun _ _ _ h => h) ?_
           refine pu_ HT_.out 19 60 m20_27 rfl rfl (by kernel_rfl) (by rfl) (by simp only [sp_]; rfl) (fun _ _ _ h => h) ?_
           refine pu_ HT_.out 20 61 m21_27 rfl rfl (by kernel_rfl) (by rfl) (by simp only [sp_]; rfl) (fun _ _ _ h => h) ?_
           refine pu_ HT_.out 21 62 m22_27 rfl rfl (by kernel_rfl) (by rfl) (by simp only [sp_]; rfl) (fun _ _ _ h => h) ?_
           refine pu_ HT_.out 22 63 m23_27 rfl rfl (by kernel_rfl) (by rfl) (by simp only [sp_]; rfl) (fun _ _ _ h => h) ?_
           refine pu_ HT_.out 23 64 m24_27 rfl rfl (by kernel_rfl) (by rfl) (by simp only [sp_]; rfl) (fun _ _ _ h => h) ?_
           refine pu_ HT_.out 24 65 m25_27 rfl rfl (by kernel_rfl) (by rfl) (by simp only [sp_]; rfl) (fun _ _ _ h => h) ?_
           refine pu_ HT_.out 25 66 m26_27 rfl rfl (by kernel_rfl) (by rfl) (by simp only [sp_]; rfl) (fun _ _ _ h => h) ?_
           refine pp_ HT_.out 26 67 m27_27 rfl rfl (by kernel_rfl) (by rfl) (by intro w'; go_simp; with_reducible rfl) (by simp only [sp_]; rfl) (fun _ _ _ h => h) ?_
           refine done_ (done_of HT_.out (by kernel_rfl)) ?_
           try go_wp2
           go_meet
           case rel => exact ⟨_, (true), (by first | rfl | (simp; done) | (simp [*]; done)), H', ⟨by have := HJ1.out; have := HK2.out; first | omega | exact Nat.le_refl _⟩, ⟨bk BK138.out⟩, ⟨bk BK142.out⟩, ⟨by repeat with_reducible first | exact bl HB.out | refine below_set ?_ GE138.out | refine below_set ?_ GE142.out | refine bq ?_⟩⟩
         ·
          replace c34 := Bool.eq_false_iff.mpr c34
          subst c34
          have H1 : (spec_FleetOk.j2 k2 x3_2 true l0_0 l0_1 l0_2 a0_3 a0_4 a0_5) = some r := by rw [if_neg (show ¬ (false = true) by decide)] at H; exact H
          clear H
          have H := H1
          clear H1
          have H' := Aside0.mk H
          clear H
          try go_wp2
          have n0_ : Aside0 ((((((((w30.setCell ⟨gb142, 0, none⟩ (.string ((rd_T33 l0_0 x3_2).f0))).setCell ⟨gb142, 1, none⟩ (.int .i64 ((rd_T33 l0_0 x3_2).f1))).setCell ⟨gb142, 2, none⟩ (.int .i64 ((rd_T33 l0_0 x3_2).f2))).setCell ⟨gb142, 3, none⟩ (.int .i64 ((rd_T33 l0_0 x3_2).f3))).setCell ⟨gb142, 4, none⟩ (.int .i64 ((rd_T33 l0_0 x3_2).f4.f0))).setCell ⟨gb142, 5, none⟩ (.int .i64 ((rd_T33 l0_0 x3_2).f4.f1))).setCell ⟨gb142, 6, none⟩ (.int .i64 ((rd_T33 l0_0 x3_2).f4.f2))).heap[gb138]? = some (.cells #[.slice (some ad141) l0_0.length c0_0, .slice A0_1 l0_1.length c0_1, .slice A0_2 l0_2.length c0_2, .int .i64 a0_3, .int .i64 a0_4, .int .i64 a0_5] 56 (0, 0))) := ⟨by (repeat refine bk1 ?_); refine blk_far ?_ NB138_142.out _; (repeat refine bk1 ?_); refine blk_far ?_ NB138_142.out _; (repeat refine bk1 ?_); refine blk_far ?_ NB138_142.out _; (repeat refine bk1 ?_); refine blk_far ?_ NB138_142.out _; (repeat refine bk1 ?_); refine blk_far ?_ NB138_142.out _; (repeat refine bk1 ?_); refine blk_far ?_ NB138_142.out _; (repeat refine bk1 ?_); refine blk_far ?_ NB138_142.out _; (repeat refine bk1 ?_); exact BK138.out⟩
          have n1_ : Aside0 ((((((((w30.setCell ⟨gb142, 0, none⟩ (.string ((rd_T33 l0_0 x3_2).f0))).setCell ⟨gb142, 1, none⟩ (.int .i64 ((rd_T33 l0_0 x3_2).f1))).setCell ⟨gb142, 2, none⟩ (.int .i64 ((rd_T33 l0_0 x3_2).f2))).setCell ⟨gb142, 3, none⟩ (.int .i64 ((rd_T33 l0_0 x3_2).f3))).setCell ⟨gb142, 4, none⟩ (.int .i64 ((rd_T33 l0_0 x3_2).f4.f0))).setCell ⟨gb142, 5, none⟩ (.int .i64 ((rd_T33 l0_0 x3_2).f4.f1))).setCell ⟨gb142, 6, none⟩ (.int .i64 ((rd_T33 l0_0 x3_2).f4.f2))).heap[gb142]? = some (.cells #[.string ((rd_T33 l0_0 x3_2).f0), .int .i64 ((rd_T33 l0_0 x3_2).f1), .int .i64 ((rd_T33 l0_0 x3_2).f2), .int .i64 ((rd_T33 l0_0 x3_2).f3), .int .i64 ((rd_T33 l0_0 x3_2).f4.f0), .int .i64 ((rd_T33 l0_0 x3_2).f4.f1), .int .i64 ((rd_T33 l0_0 x3_2).f4.f2)] 33 (0, 0))) := ⟨by (repeat refine bk1 ?_); refine blk_put (cs := #[.string ((rd_T33 l0_0 x3_2).f0), .int .i64 ((rd_T33 l0_0 x3_2).f1), .int .i64 ((rd_T33 l0_0 x3_2).f2), .int .i64 ((rd_T33 l0_0 x3_2).f3), .int .i64 ((rd_T33 l0_0 x3_2).f4.f0), .int .i64 ((rd_T33 l0_0 x3_2).f4.f1), .int .i64 0]) ?_ 6 _ rfl; (repeat refine bk1 ?_); refine blk_put (cs := #[.string ((rd_T33 l0_0 x3_2).f0), .int .i64 ((rd_T33 l0_0 x3_2).f1), .int .i64 ((rd_T33 l0_0 x3_2).f2), .int .i64 ((rd_T33 l0_0 x3_2).f3), .int .i64 ((rd_T33 l0_0 x3_2).f4.f0), .int .i64 0, .int .i64 0]) ?_ 5 _ rfl; (repeat refine bk1 ?_); refine blk_put (cs := #[.string ((rd_T33 l0_0 x3_2).f0), .int .i64 ((rd_T33 l0_0 x3_2).f1), .int .i64 ((rd_T33 l0_0 x3_2).f2), .int .i64 ((rd_T33 l0_0 x3_2).f3), .int .i64 0, .int .i64 0, .int .i64 0]) ?_ 4 _ rfl; (repeat refine bk1 ?_); refine blk_put (cs := #[.string ((rd_T33 l0_0 x3_2).f0), .int .i64 ((rd_T33 l0_0 x3_2).f1), .int .i64 ((rd_T33 l0_0 x3_2).f2), .int .i64 0, .int .i64 0, .int .i64 0, .int .i64 0]) ?_ 3 _ rfl; (repeat refine bk1 ?_); refine blk_put (cs := #[.string ((rd_T33 l0_0 x3_2).f0), .int .i64 ((rd_T33 l0_0 x3_2).f1), .int .i64 0, .int .i64 0, .int .i64 0, .int .i64 0, .int .i64 0]) ?_ 2 _ rfl; (repeat refine bk1 ?_); refine blk_put (cs := #[.string ((rd_T33 l0_0 x3_2).f0), .int .i64 0, .int .i64 0, .int .i64 0, .int .i64 0, .int .i64 0, .int .i64 0]) ?_ 1 _ rfl; (repeat refine bk1 ?_); refine blk_put (cs := #[.string (⟨#[]⟩ : ByteArray), .int .i64 0, .int .i64 0, .int .i64 0, .int .i64 0, .int .i64 0, .int .i64 0]) ?_ 0 _ rfl; (repeat refine bk1 ?_); exact BK142.out⟩
          have n2_ : Aside0 (Below w.heap.size w (((((((w30.setCell ⟨gb142, 0, none⟩ (.string ((rd_T33 l0_0 x3_2).f0))).setCell ⟨gb142, 1, none⟩ (.int .i64 ((rd_T33 l0_0 x3_2).f1))).setCell ⟨gb142, 2, none⟩ (.int .i64 ((rd_T33 l0_0 x3_2).f2))).setCell ⟨gb142, 3, none⟩ (.int .i64 ((rd_T33 l0_0 x3_2).f3))).setCell ⟨gb142, 4, none⟩ (.int .i64 ((rd_T33 l0_0 x3_2).f4.f0))).setCell ⟨gb142, 5, none⟩ (.int .i64 ((rd_T33 l0_0 x3_2).f4.f1))).setCell ⟨gb142, 6, none⟩ (.int .i64 ((rd_T33 l0_0 x3_2).f4.f2)))) := ⟨by repeat with_reducible first | exact bl HB.out | refine below_set ?_ GE138.out | refine below_set ?_ GE142.out | refine bq ?_⟩
          (try clear BK138)
          (try clear BK142)
          (try clear HB)
          generalize (((((((w30.setCell ⟨gb142, 0, none⟩ (.string ((rd_T33 l0_0 x3_2).f0))).setCell ⟨gb142, 1, none⟩ (.int .i64 ((rd_T33 l0_0 x3_2).f1))).setCell ⟨gb142, 2, none⟩ (.int .i64 ((rd_T33 l0_0 x3_2).f2))).setCell ⟨gb142, 3, none⟩ (.int .i64 ((rd_T33 l0_0 x3_2).f3))).setCell ⟨gb142, 4, none⟩ (.int .i64 ((rd_T33 l0_0 x3_2).f4.f0))).setCell ⟨gb142, 5, none⟩ (.int .i64 ((rd_T33 l0_0 x3_2).f4.f1))).setCell ⟨gb142, 6, none⟩ (.int .i64 ((rd_T33 l0_0 x3_2).f4.f2))) = w53 at n0_ n1_ n2_ ⊢
          have BK138 := n0_
          have BK142 := n1_
          have HB := n2_
          clear n0_ n1_ n2_
          have n0_ := Aside0.mk (blk_drew BK138.out)
          have n1_ := Aside0.mk (blk_drew BK142.out)
          have n2_ := Aside0.mk (below_drew1 HB.out)
          clear BK138
          clear BK142
          clear HB
          have BK138 := n0_
          have BK142 := n1_
          have HB := n2_
          clear n0_ n1_ n2_
          refine start_ (n := 27) (S := fun w' => w'.cell? ⟨gb142, 0, none⟩ = some (.string ((rd_T33 l0_0 x3_2).f0)) ∧ w'.cell? ⟨gb142, 1, none⟩ = some (.int .i64 ((rd_T33 l0_0 x3_2).f1)) ∧ w'.cell? ⟨gb142, 2, none⟩ = some (.int .i64 ((rd_T33 l0_0 x3_2).f2)) ∧ w'.cell? ⟨gb142, 3, none⟩ = some (.int .i64 ((rd_T33 l0_0 x3_2).f3)) ∧ w'.cell? ⟨gb142, 4, none⟩ = some (.int .i64 ((rd_T33 l0_0 x3_2).f4.f0)) ∧ w'.cell? ⟨gb142, 5, none⟩ = some (.int .i64 ((rd_T33 l0_0 x3_2).f4.f1)) ∧ w'.cell? ⟨gb142, 6, none⟩ = some (.int .i64 ((rd_T33 l0_0 x3_2).f4.f2))) (ds := []) m0_27 (by kernel_rfl) rfl rfl ⟨ck BK142.out 0 rfl, ck BK142.out 1 rfl, ck BK142.out 2 rfl, ck BK142.out 3 rfl, ck BK142.out 4 rfl, ck BK142.out 5 rfl, ck BK142.out 6 rfl⟩ (fun hHeld => ?_); refine with_tabW spec_FleetOk.tab7 spec_FleetOk.bits7 (fun HT_ HW_ => ?_)
          generalize w53.drew = w54 at BK138 BK142 HB hHeld ⊢
          refine tk_ HT_.out HW_.out 0 41 m1_27 rfl rfl (by kernel_rfl) (by rfl) (by rintro w' ⟨s0, s1, s2, s3, s4, s5, s6⟩; go_simp; with_reducible rfl) hHeld (by simp only [sp_]; rfl) (fun _ _ _ h => h) ?_
          refine one_ (i := 1) (N := some 42) m2_27 rfl rfl (one_of HT_.out (by kernel_rfl)) (by decide) (fun K hK => ?_)
          refine goes_ Try.func17 (by kernel_rfl) rfl #[.agg #[.string ((rd_T33 l0_0 x3_2).f0), .int .i64 ((rd_T33 l0_0 x3_2).f1), .int .i64 ((rd_T33 l0_0 x3_2).f2), .int .i64 ((rd_T33 l0_0 x3_2).f3), .int .i64 ((rd_T33 l0_0 x3_2).f4.f0), .int .i64 ((rd_T33 l0_0 x3_2).f4.f1), .int .i64 ((rd_T33 l0_0 x3_2).f4.f2)]] (by rfl) rfl rfl (by (try simp only [am_]); first | done | rfl) ?_
          with_reducible refine (spec_TaskOk.calls k2 ((rd_T33 l0_0 x3_2).f0) ((rd_T33 l0_0 x3_2).f1) ((rd_T33 l0_0 x3_2).f2) ((rd_T33 l0_0 x3_2).f3) ((rd_T33 l0_0 x3_2).f4.f0) ((rd_T33 l0_0 x3_2).f4.f1) ((rd_T33 l0_0 x3_2).f4.f2) false _ A33.out).mono ?_
          rintro e w55 ⟨rfl, hb⟩
          refine ⟨_, rfl, ?_⟩
          have n0_ := Aside0.mk (blk_below (bk BK138.out) hb)
          have n1_ := Aside0.mk (blk_below (bk BK142.out) hb)
          have n2_ := Aside0.mk (below_step (by repeat with_reducible first | exact bl HB.out | refine below_set ?_ GE138.out | refine below_set ?_ GE142.out | refine bq ?_) hb)
          clear BK138
          clear BK142
          clear HB
          have BK138 := n0_
          have BK142 := n1_
          have HB := n2_
          clear n0_ n1_ n2_
          (try clear hb)
          (try clear hb2)
          (try clear hk)
          (try clear hi)
          refine hK.out _ _ ⟨ck BK142.out 0 rfl, ck BK142.out 1 rfl, ck BK142.out 2 rfl, ck BK142.out 3 rfl, ck BK142.out 4 rfl, ck BK142.out 5 rfl, ck BK142.out 6 rfl⟩ (fun hHeld => ?_)
          clear hK K
          refine norm_ (a' := ?_) ?_ ?_
          rotate_left
          ·
           show Act.put _ (some 42) _ = _
           simp only [sp_]
           rfl
          refine pp_ HT_.out 2 43 m3_27 rfl rfl (by kernel_rfl) (by rfl) (by intro w'; go_simp; with_reducible rfl) (by simp only [sp_]; rfl) (fun _ _ _ h => h) ?_
          refine pp_ HT_.out 3 44 m4_27 rfl rfl (by kernel_rfl) (by rfl) (by intro w'; go_simp; with_reducible rfl) (by simp only [sp_]; rfl) (fun _ _ _ h => h) ?_
          refine pu_ HT_.out 4 45 m5_27 rfl rfl (by kernel_rfl) (by rfl) (by simp only [sp_]; rfl) (fun _ _ _ h => h) ?_
          refine pu_ HT_.out 5 46 m6_27 rfl rfl (by kernel_rfl) (by rfl) (by simp only [sp_]; rfl) (fun _ _ _ h => h) ?_
          refine pu_ HT_.out 6 47 m7_27 rfl rfl (by kernel_rfl) (by rfl) (by simp only [sp_]; rfl) (fun _ _ _ h => h) ?_
          refine pu_ HT_.out 7 48 m8_27 rfl rfl (by kernel_rfl) (by rfl) (by simp only [sp_]; rfl) (fun _ _ _ h => h) ?_
          refine pu_ HT_.out 8 49 m9_27 rfl rfl (by kernel_rfl) (by rfl) (by simp only [sp_]; rfl) (fun _ _ _ h => h) ?_
          refine pu_ HT_.out 9 50 m10_27 rfl rfl (by kernel_rfl) (by rfl) (by simp only [sp_]; rfl) (fun _ _ _ h => h) ?_
          refine pp_ HT_.out 10 51 m11_27 rfl rfl (by kernel_rfl) (by rfl) (by intro w'; go_simp; with_reducible rfl) (by simp only [sp_]; rfl) (fun _ _ _ h => h) ?_
          refine pp_ HT_.out 11 52 m12_27 rfl rfl (by kernel_rfl) (by rfl) (by intro w'; go_simp; with_reducible rfl) (by simp only [sp_]; rfl) (fun _ _ _ h => h) ?_
          refine pu_ HT_.out 12 53 m13_27 rfl rfl (by kernel_rfl) (by rfl) (by simp only [sp_]; rfl) (fun _ _ _ h => h) ?_
          refine pu_ HT_.out 13 54 m14_27 rfl rfl (by kernel_rfl) (by rfl) (by simp only [sp_]; rfl) (fun _ _ _ h => h) ?_
          refine pu_ HT_.out 14 55 m15_27 rfl rfl (by kernel_rfl) (by rfl) (by simp only [sp_]; rfl) (fun _ _ _ h => h) ?_
          refine pu_ HT_.out 15 56 m16_27 rfl rfl (by kernel_rfl) (by rfl) (by simp only [sp_]; rfl) (fun _ _ _ h => h) ?_
          refine pu_ HT_.out 16 57 m17_27 rfl rfl (by kernel_rfl) (by rfl) (by simp only [sp_]; rfl) (fun _ _ _ h => h) ?_
          refine pu_ HT_.out 17 58 m18_27 rfl rfl (by kernel_rfl) (by rfl) (by simp only [sp_]; rfl) (fun _ _ _ h => h) ?_
          refine pu_ HT_.out 18 59 m19_27 rfl rfl (by kernel_rfl) (by rfl) (by simp only [sp_]; rfl) (fun _ _ _ h => h) ?_
          refine pu_ HT_.out 19 60 m20_27 rfl rfl (by kernel_rfl) (by rfl) (by simp only [sp_]; rfl) (fun _ _ _ h => h) ?_
          refine pu_ HT_.out 20 61 m21_27 rfl rfl (by kernel_rfl) (by rfl) (by simp only [sp_]; rfl) (fun _ _ _ h => h) ?_
          refine pu_ HT_.out 21 62 m22_27 rfl rfl (by kernel_rfl) (by rfl) (by simp only [sp_]; rfl) (fun _ _ _ h => h) ?_
          refine pu_ HT_.out 22 63 m23_27 rfl rfl (by kernel_rfl) (by rfl) (by simp only [sp_]; rfl) (fun _ _ _ h => h) ?_
          refine pu_ HT_.out 23 64 m24_27 rfl rfl (by kernel_rfl) (by rfl) (by simp only [sp_]; rfl) (fun _ _ _ h => h) ?_
          refine pu_ HT_.out 24 65 m25_27 rfl rfl (by kernel_rfl) (by rfl) (by simp only [sp_]; rfl) (fun _ _ _ h => h) ?_
          refine pu_ HT_.out 25 66 m26_27 rfl rfl (by kernel_rfl) (by rfl) (by simp only [sp_]; rfl) (fun _ _ _ h => h) ?_
          refine pp_ HT_.out 26 67 m27_27 rfl rfl (by kernel_rfl) (by rfl) (by intro w'; go_simp; with_reducible rfl) (by simp only [sp_]; rfl) (fun _ _ _ h => h) ?_
          refine done_ (done_of HT_.out (by kernel_rfl)) ?_
          try go_wp2
          go_meet
          case rel => exact ⟨_, (true), (by first | rfl | (simp; done) | (simp [*]; done)), H', ⟨by have := HJ1.out; have := HK2.out; first | omega | exact Nat.le_refl _⟩, ⟨bk BK138.out⟩, ⟨bk BK142.out⟩, ⟨by repeat with_reducible first | exact bl HB.out | refine below_set ?_ GE138.out | refine below_set ?_ GE142.out | refine bq ?_⟩⟩
        case rest =>
         clear HC28
         try clear c1
         try clear p2
         try clear c3
         try clear c5
         try clear c17
         try clear c34
         try clear c36
         obtain ⟨kq, x67_27, rfl, HA, HJ27, BK138, BK142, HB⟩ := hcut
         cases kq with
         | zero => exact absurd HA.out (by simp [spec_FleetOk.j2])
         | succ kj27 =>
          have H := HA.out
          clear HA
          simp only [spec_FleetOk.j2] at H
          by_cases c56 : x67_27 = true
          ·
           subst c56
           have H1 : (some false) = some r := by rw [if_pos rfl] at H; exact H
           clear H
           have H := H1
           clear H1
           obtain rfl := Option.some.inj H
           go_wp2
           go_ret
           exact ⟨by first | rfl | (simp [errW_none, errW_some] <;> rfl) | (simp [*, errW_none, errW_some] <;> rfl), by repeat with_reducible first | exact bl HB.out | refine below_set ?_ GE138.out | refine below_set ?_ GE142.out | refine bq ?_⟩
          ·
           replace c56 := Bool.eq_false_iff.mpr c56
           subst c56
           have H1 : (spec_FleetOk.l0 kj27 (wrap64 (x3_2 + 1)) l0_0 l0_1 l0_2 a0_3 a0_4 a0_5) = some r := by rw [if_neg (show ¬ (false = true) by decide)] at H; exact H
           clear H
           have H := H1
           clear H1
           have H' := Aside0.mk H
           clear H
           go_wp2
           go_roundg kj27
           case measure => have := HJ1.out; have := HK2.out; have := HJ27.out; omega
           case rel => exact ⟨(wrap64 (x3_2 + 1)), (by first | rfl | (simp; done) | (simp [*]; done)), H', ⟨by have := HJ1.out; have := HK2.out; have := HJ27.out; omega⟩, ⟨bk BK138.out⟩, ⟨by repeat with_reducible first | exact bl HB.out | refine below_set ?_ GE138.out | refine below_set ?_ GE142.out | refine bq ?_⟩⟩
       ·
        rw [if_neg c27] at H
        exact absurd H (by simp)
      ·
       rw [if_neg c26] at H
       have c26b0 : decide (x3_2 < (l0_0.length : Int)) = false := decide_eq_false c26
       clear c26
       have H' := Aside0.mk H
       clear H
       have hcz57_0 := ck (v := .slice A0_0 l0_0.length c0_0) BK138.out 0 rfl
       have hcz57_1 := ck (v := .slice A0_1 l0_1.length c0_1) BK138.out 1 rfl
       have hcz57_2 := ck (v := .slice A0_2 l0_2.length c0_2) BK138.out 2 rfl
       have hcz57_3 := ck (v := .int .i64 a0_3) BK138.out 3 rfl
       have hcz57_4 := ck (v := .int .i64 a0_4) BK138.out 4 rfl
       have hcz57_5 := ck (v := .int .i64 a0_5) BK138.out 5 rfl
       have hfz57_0 := blk_frozen BK138.out 0
       have hfz57_1 := blk_frozen BK138.out 1
       have hfz57_2 := blk_frozen BK138.out 2
       have hfz57_3 := blk_frozen BK138.out 3
       have hfz57_4 := blk_frozen BK138.out 4
       have hfz57_5 := blk_frozen BK138.out 5
       go_wp2
       go_loopg [5] k2 (fun kq v5 w' => ∃ (x5_3 : Int), v5 = .int .i64 x5_3 ∧ Aside0 (spec_FleetOk.l1 kq x5_3 l0_0 l0_1 l0_2 a0_3 a0_4 a0_5 = some r) ∧ Aside0 (kq ≤ k2) ∧ Aside0 (w'.heap[gb138]? = some (.cells #[(.slice A0_0 l0_0.length c0_0), (.slice A0_1 l0_1.length c0_1), (.slice A0_2 l0_2.length c0_2), .int .i64 a0_3, .int .i64 a0_4, .int .i64 a0_5] 56 (0, 0))) ∧ Aside0 (Below w.heap.size w w'))
       case atStart => exact ⟨(0), (by first | rfl | (simp; done) | (simp [*]; done)), H', ⟨Nat.le_refl _⟩, ⟨bk BK138.out⟩, ⟨by repeat with_reducible first | exact bl HB.out | refine below_set ?_ GE138.out | refine bq ?_⟩⟩
       case round =>
        clear H'
        try clear c1
        try clear c2
        try clear p2
        try clear c3
        try clear c5
        try clear p6
        try clear c17
        try clear c26
        try clear c26b0
        try clear c27
        try clear c34
        try clear c36
        try clear c56
        try clear c57
        try clear hcz57_0
        try clear hcz57_1
        try clear hcz57_2
        try clear hcz57_3
        try clear hcz57_4
        try clear hcz57_5
        try clear hfz57_0
        try clear hfz57_1
        try clear hfz57_2
        try clear hfz57_3
        try clear hfz57_4
        try clear hfz57_5
        try clear p2
        obtain ⟨x5_3, rfl, HA, HK3, BK138, HB⟩ := hrel
        cases gk with
        | zero => exact absurd HA.out (by simp [spec_FleetOk.l1])
        | succ k3 =>
         have H := HA.out
         clear HA
         simp only [spec_FleetOk.l1] at H
         by_cases c58 : x5_3 < (l0_2.length : Int)
         ·
          rw [if_pos c58] at H
          have c58b0 : decide (x5_3 < (l0_2.length : Int)) = true := decide_eq_true c58
          clear c58
          by_cases c59 : 0 ≤ x5_3
          ·
           rw [if_pos c59] at H
           have c59b0 : decide (0 ≤ x5_3) = true := decide_eq_true c59
           clear c59
           have HC60 := Aside0.mk H
           clear H
           have hcz61_0 := ck (v := .slice A0_0 l0_0.length c0_0) BK138.out 0 rfl
           have hcz61_1 := ck (v := .slice A0_1 l0_1.length c0_1) BK138.out 1 rfl
           have hcz61_2 := ck (v := .slice A0_2 l0_2.length c0_2) BK138.out 2 rfl
           have hcz61_3 := ck (v := .int .i64 a0_3) BK138.out 3 rfl
           have hcz61_4 := ck (v := .int .i64 a0_4) BK138.out 4 rfl
           have hcz61_5 := ck (v := .int .i64 a0_5) BK138.out 5 rfl
           have hfz61_0 := blk_frozen BK138.out 0
           have hfz61_1 := blk_frozen BK138.out 1
           have hfz61_2 := blk_frozen BK138.out 2
           have hfz61_3 := blk_frozen BK138.out 3
           have hfz61_4 := blk_frozen BK138.out 4
           have hfz61_5 := blk_frozen BK138.out 5
           have p146 : 0 ≤ (x5_3 : Int) := of_decide_eq_true (by first | (with_reducible assumption) | assumption)
           have q146 : x5_3 < (l0_2.length : Int) := of_decide_eq_true (by first | (with_reducible assumption) | assumption)
           obtain ⟨ad146, e146, hx146_0, hx146_1, hx146_2⟩ := at_T72 HR0_2.out x5_3 p146 q146
           cases e146
           replace hx146_0 := (HB.out.cell (World.block_lt_of_cell? w _ hx146_0)).trans hx146_0
           replace hx146_1 := (HB.out.cell (World.block_lt_of_cell? w _ hx146_1)).trans hx146_1
           replace hx146_2 := (HB.out.cell (World.block_lt_of_cell? w _ hx146_2)).trans hx146_2
           replace p146 := eq_true p146
           replace q146 := eq_true q146
           go_upto_region 13 with (first | ((with_reducible refine gate_dst (N := 6) rfl ?_); (try (refine gate_guard (by rfl) ?_; dsimp only)); refine box_event ?hg (N := 6) ?hd (cs := #[.string (⟨#[]⟩ : ByteArray), .int .i64 0, .int .i64 0]) (t := 72) ?hr ?_; (case hd => rfl); (case hg => rfl); (case hr => first | (go_simp; done) | (go_simp; rfl)); intro gb147 hg w62 hbox hb; have n0_ := Aside0.mk (blk_below (bk BK138.out) hb); have n1_ := Aside0.mk (below_step (by repeat with_reducible first | exact bl HB.out | refine below_set ?_ GE138.out | refine bq ?_) hb); have n2_ := Aside0.mk (hbox); have n3_ := Aside0.mk ((by rw [hg]; exact (below_size (by repeat with_reducible first | exact bl HB.out | refine below_set ?_ GE138.out | refine bq ?_)) : w.heap.size ≤ gb147)); have n4_ := Aside0.mk ((by rw [hg]; exact (below_size (by repeat with_reducible first | exact bl HB.out | refine below_set ?_ GE138.out | refine bq ?_)) : w.heap.size ≤ gb147)); have n5_ := Aside0.mk ((by rw [hg]; exact Nat.ne_of_lt (blk_lt (g := gb138) (o := .cells #[.slice A0_0 l0_0.length c0_0, .slice A0_1 l0_1.length c0_1, .slice (some ad146) l0_2.length c0_2, .int .i64 a0_3, .int .i64 a0_4, .int .i64 a0_5] 56 (0, 0)) (bk BK138.out)) : gb138 ≠ gb147)); have n6_ := Aside0.mk ((by rw [hg]; exact Nat.ne_of_gt (blk_lt (g := gb138) (o := .cells #[.slice A0_0 l0_0.length c0_0, .slice A0_1 l0_1.length c0_1, .slice (some ad146) l0_2.length c0_2, .int .i64 a0_3, .int .i64 a0_4, .int .i64 a0_5] 56 (0, 0)) (bk BK138.out)) : gb147 ≠ gb138)); clear BK138; clear HB; have BK138 := n0_; have HB := n1_; have BK147 := n2_; have GW147 := n3_; have GE147 := n4_; have NB138_147 := n5_; have NB147_138 := n6_; clear n0_ n1_ n2_ n3_ n4_ n5_ n6_; clear hb hbox hg; have hnb63 := NB147_138.out; have hnc63 := NB138_147.out; have hcz64_0 := ck (v := .string (⟨#[]⟩ : ByteArray)) BK147.out 0 rfl; have hcz64_1 := ck (v := .int .i64 0) BK147.out 1 rfl; have hcz64_2 := ck (v := .int .i64 0) BK147.out 2 rfl; have hfz64_0 := blk_frozen BK147.out 0; have hfz64_1 := blk_frozen BK147.out 1; have hfz64_2 := blk_frozen BK147.out 2))
           (try simp only [Act.put, List.setIfInBounds_toArray, List.set_cons_zero, List.set_cons_succ])
           go_cut [114] (fun v114 wc => ∃ (kq : Nat) (x114_59 : Bool), v114 = .bool x114_59 ∧ Aside0 (spec_FleetOk.j4 kq x5_3 x114_59 l0_0 l0_1 l0_2 a0_3 a0_4 a0_5 = some r) ∧ Aside0 (kq ≤ k3) ∧ Aside0 (wc.heap[gb138]? = some (.cells #[(.slice A0_0 l0_0.length c0_0), (.slice A0_1 l0_1.length c0_1), (.slice (some ad146) l0_2.length c0_2), .int .i64 a0_3, .int .i64 a0_4, .int .i64 a0_5] 56 (0, 0))) ∧ Aside0 (wc.heap[gb147]? = some (.cells #[.string ((rd_T72 l0_2 x5_3).f0), .int .i64 ((rd_T72 l0_2 x5_3).f1), .int .i64 ((rd_T72 l0_2 x5_3).f2)] 72 (0, 0))) ∧ Aside0 (Below w.heap.size w wc))
           case first =>
            have H := HC60.out
            clear HC60
            replace H := Option.bind_eq_some_iff.mp H
            obtain ⟨t148, A650, H⟩ := H
            replace H : (if t148 = true then ((spec_l1In.f ((rd_T72 l0_2 x5_3).f1) 1 1000000).bind fun t149 => (if t149 = true then (if x5_3 > 0 then (if 0 ≤ (wrap64 (x5_3 - 1)) then (if (wrap64 (x5_3 - 1)) < (l0_2.length : Int) then (if ((rd_T72 l0_2 (wrap64 (x5_3 - 1))).f1) ≥ ((rd_T72 l0_2 x5_3).f1) then (spec_FleetOk.j4 k3 x5_3 true l0_0 l0_1 l0_2 a0_3 a0_4 a0_5) else ((spec_l1In.f ((rd_T72 l0_2 x5_3).f2) 0 a0_5).bind fun t151 => (spec_FleetOk.j4 k3 x5_3 (!t151) l0_0 l0_1 l0_2 a0_3 a0_4 a0_5))) else (none)) else (none)) else ((spec_l1In.f ((rd_T72 l0_2 x5_3).f2) 0 a0_5).bind fun t152 => (spec_FleetOk.j4 k3 x5_3 (!t152) l0_0 l0_1 l0_2 a0_3 a0_4 a0_5))) else (spec_FleetOk.j4 k3 x5_3 true l0_0 l0_1 l0_2 a0_3 a0_4 a0_5))) else (spec_FleetOk.j4 k3 x5_3 true l0_0 l0_1 l0_2 a0_3 a0_4 a0_5)) = some r := H
            have A65 := Aside0.mk A650
            clear A650
            by_cases c66 : t148 = true
            ·
             subst c66
             have H1 : ((spec_l1In.f ((rd_T72 l0_2 x5_3).f1) 1 1000000).bind fun t149 => (if t149 = true then (if x5_3 > 0 then (if 0 ≤ (wrap64 (x5_3 - 1)) then (if (wrap64 (x5_3 - 1)) < (l0_2.length : Int) then (if ((rd_T72 l0_2 (wrap64 (x5_3 - 1))).f1) ≥ ((rd_T72 l0_2 x5_3).f1) then (spec_FleetOk.j4 k3 x5_3 true l0_0 l0_1 l0_2 a0_3 a0_4 a0_5) else ((spec_l1In.f ((rd_T72 l0_2 x5_3).f2) 0 a0_5).bind fun t151 => (spec_FleetOk.j4 k3 x5_3 (!t151) l0_0 l0_1 l0_2 a0_3 a0_4 a0_5))) else (none)) else (none)) else ((spec_l1In.f ((rd_T72 l0_2 x5_3).f2) 0 a0_5).bind fun t152 => (spec_FleetOk.j4 k3 x5_3 (!t152) l0_0 l0_1 l0_2 a0_3 a0_4 a0_5))) else (spec_FleetOk.j4 k3 x5_3 true l0_0 l0_1 l0_2 a0_3 a0_4 a0_5))) = some r := by rw [if_pos rfl] at H; exact H
             clear H
             have H := H1
             clear H1
             replace H := Option.bind_eq_some_iff.mp H
             obtain ⟨t149, A670, H⟩ := H
             replace H : (if t149 = true then (if x5_3 > 0 then (if 0 ≤ (wrap64 (x5_3 - 1)) then (if (wrap64 (x5_3 - 1)) < (l0_2.length : Int) then (if ((rd_T72 l0_2 (wrap64 (x5_3 - 1))).f1) ≥ ((rd_T72 l0_2 x5_3).f1) then (spec_FleetOk.j4 k3 x5_3 true l0_0 l0_1 l0_2 a0_3 a0_4 a0_5) else ((spec_l1In.f ((rd_T72 l0_2 x5_3).f2) 0 a0_5).bind fun t151 => (spec_FleetOk.j4 k3 x5_3 (!t151) l0_0 l0_1 l0_2 a0_3 a0_4 a0_5))) else (none)) else (none)) else ((spec_l1In.f ((rd_T72 l0_2 x5_3).f2) 0 a0_5).bind fun t152 => (spec_FleetOk.j4 k3 x5_3 (!t152) l0_0 l0_1 l0_2 a0_3 a0_4 a0_5))) else (spec_FleetOk.j4 k3 x5_3 true l0_0 l0_1 l0_2 a0_3 a0_4 a0_5)) = some r := H
             have A67 := Aside0.mk A670
             clear A670
             by_cases c68 : t149 = true
             ·
              subst c68
              have H1 : (if x5_3 > 0 then (if 0 ≤ (wrap64 (x5_3 - 1)) then (if (wrap64 (x5_3 - 1)) < (l0_2.length : Int) then (if ((rd_T72 l0_2 (wrap64 (x5_3 - 1))).f1) ≥ ((rd_T72 l0_2 x5_3).f1) then (spec_FleetOk.j4 k3 x5_3 true l0_0 l0_1 l0_2 a0_3 a0_4 a0_5) else ((spec_l1In.f ((rd_T72 l0_2 x5_3).f2) 0 a0_5).bind fun t151 => (spec_FleetOk.j4 k3 x5_3 (!t151) l0_0 l0_1 l0_2 a0_3 a0_4 a0_5))) else (none)) else (none)) else ((spec_l1In.f ((rd_T72 l0_2 x5_3).f2) 0 a0_5).bind fun t152 => (spec_FleetOk.j4 k3 x5_3 (!t152) l0_0 l0_1 l0_2 a0_3 a0_4 a0_5))) = some r := by rw [if_pos rfl] at H; exact H
              clear H
              have H := H1
              clear H1
              by_cases c69 : x5_3 > 0
              ·
               rw [if_pos c69] at H
               have c69b0 : decide (0 < x5_3) = true := decide_eq_true c69
               clear c69
               (first | rw [c69b0] | (simp only [i64_w, i32_w]; rw [c69b0]) | skip)
               obtain ⟨ji70, hji70⟩ : ∃ j_ : Int, (wrap64 (x5_3 - 1)) = j_ := ⟨_, rfl⟩
               replace H : (if 0 ≤ (ji70) then (if (ji70) < (l0_2.length : Int) then (if ((rd_T72 l0_2 (ji70)).f1) ≥ ((rd_T72 l0_2 x5_3).f1) then (spec_FleetOk.j4 k3 x5_3 true l0_0 l0_1 l0_2 a0_3 a0_4 a0_5) else ((spec_l1In.f ((rd_T72 l0_2 x5_3).f2) 0 a0_5).bind fun t151 => (spec_FleetOk.j4 k3 x5_3 (!t151) l0_0 l0_1 l0_2 a0_3 a0_4 a0_5))) else (none)) else (none)) = some r := by first | (rw [hji70] at H; exact H) | (simp only [hji70] at H ⊢; exact H)
               (try rw [hji70] at A65)
               (try rw [hji70] at A67)
               have hji70w : (IntKind.i64.wrap (x5_3 - 1)) = ji70 := (i64_w _).trans hji70
               by_cases c71 : 0 ≤ (ji70)
               ·
                rw [if_pos c71] at H
                have c71b0 : decide (0 ≤ (ji70)) = true := decide_eq_true c71
                clear c71
                by_cases c72 : (ji70) < (l0_2.length : Int)
                ·
                 rw [if_pos c72] at H
                 have c72b0 : decide ((ji70) < (l0_2.length : Int)) = true := decide_eq_true c72
                 clear c72
                 by_cases c73 : ((rd_T72 l0_2 (ji70)).f1) ≥ ((rd_T72 l0_2 x5_3).f1)
                 ·
                  rw [if_pos c73] at H
                  have c73b0 : decide (((rd_T72 l0_2 x5_3).f1) ≤ ((rd_T72 l0_2 (ji70)).f1)) = true := decide_eq_true c73
                  clear c73
                  have H' := Aside0.mk H
                  clear H
                  try go_wp2
                  have n0_ : Aside0 ((((w62.setCell ⟨gb147, 0, none⟩ (.string ((rd_T72 l0_2 x5_3).f0))).setCell ⟨gb147, 1, none⟩ (.int .i64 ((rd_T72 l0_2 x5_3).f1))).setCell ⟨gb147, 2, none⟩ (.int .i64 ((rd_T72 l0_2 x5_3).f2))).heap[gb138]? = some (.cells #[.slice A0_0 l0_0.length c0_0, .slice A0_1 l0_1.length c0_1, .slice (some ad146) l0_2.length c0_2, .int .i64 a0_3, .int .i64 a0_4, .int .i64 a0_5] 56 (0, 0))) := ⟨by (repeat refine bk1 ?_); refine blk_far ?_ NB138_147.out _; (repeat refine bk1 ?_); refine blk_far ?_ NB138_147.out _; (repeat refine bk1 ?_); refine blk_far ?_ NB138_147.out _; (repeat refine bk1 ?_); exact BK138.out⟩
                  have n1_ : Aside0 ((((w62.setCell ⟨gb147, 0, none⟩ (.string ((rd_T72 l0_2 x5_3).f0))).setCell ⟨gb147, 1, none⟩ (.int .i64 ((rd_T72 l0_2 x5_3).f1))).setCell ⟨gb147, 2, none⟩ (.int .i64 ((rd_T72 l0_2 x5_3).f2))).heap[gb147]? = some (.cells #[.string ((rd_T72 l0_2 x5_3).f0), .int .i64 ((rd_T72 l0_2 x5_3).f1), .int .i64 ((rd_T72 l0_2 x5_3).f2)] 72 (0, 0))) := ⟨by (repeat refine bk1 ?_); refine blk_put (cs := #[.string ((rd_T72 l0_2 x5_3).f0), .int .i64 ((rd_T72 l0_2 x5_3).f1), .int .i64 0]) ?_ 2 _ rfl; (repeat refine bk1 ?_); refine blk_put (cs := #[.string ((rd_T72 l0_2 x5_3).f0), .int .i64 0, .int .i64 0]) ?_ 1 _ rfl; (repeat refine bk1 ?_); refine blk_put (cs := #[.string (⟨#[]⟩ : ByteArray), .int .i64 0, .int .i64 0]) ?_ 0 _ rfl; (repeat refine bk1 ?_); exact BK147.out⟩
                  have n2_ : Aside0 (Below w.heap.size w (((w62.setCell ⟨gb147, 0, none⟩ (.string ((rd_T72 l0_2 x5_3).f0))).setCell ⟨gb147, 1, none⟩ (.int .i64 ((rd_T72 l0_2 x5_3).f1))).setCell ⟨gb147, 2, none⟩ (.int .i64 ((rd_T72 l0_2 x5_3).f2)))) := ⟨by repeat with_reducible first | exact bl HB.out | refine below_set ?_ GE138.out | refine below_set ?_ GE147.out | refine bq ?_⟩
                  (try clear BK138)
                  (try clear BK147)
                  (try clear HB)
                  generalize (((w62.setCell ⟨gb147, 0, none⟩ (.string ((rd_T72 l0_2 x5_3).f0))).setCell ⟨gb147, 1, none⟩ (.int .i64 ((rd_T72 l0_2 x5_3).f1))).setCell ⟨gb147, 2, none⟩ (.int .i64 ((rd_T72 l0_2 x5_3).f2))) = w74 at n0_ n1_ n2_ ⊢
                  have BK138 := n0_
                  have BK147 := n1_
                  have HB := n2_
                  clear n0_ n1_ n2_
                  have n0_ := Aside0.mk (blk_drew BK138.out)
                  have n1_ := Aside0.mk (blk_drew BK147.out)
                  have n2_ := Aside0.mk (below_drew1 HB.out)
                  clear BK138
                  clear BK147
                  clear HB
                  have BK138 := n0_
                  have BK147 := n1_
                  have HB := n2_
                  clear n0_ n1_ n2_
                  have p150 : 0 ≤ ((ji70) : Int) := of_decide_eq_true (by first | (with_reducible assumption) | assumption)
                  have q150 : (ji70) < (l0_2.length : Int) := of_decide_eq_true (by first | (with_reducible assumption) | assumption)
                  obtain ⟨ad150, e150, hx150_0, hx150_1, hx150_2⟩ := at_T72 HR0_2.out (ji70) p150 q150
                  have hw150_2 := hx150_2
                  have hw150_1 := hx150_1
                  have hw150_0 := hx150_0
                  obtain rfl : ad146 = ad150 := (by injection e150)
                  replace hx150_0 := (HB.out.cell (World.block_lt_of_cell? w _ hx150_0)).trans hx150_0
                  replace hx150_1 := (HB.out.cell (World.block_lt_of_cell? w _ hx150_1)).trans hx150_1
                  replace hx150_2 := (HB.out.cell (World.block_lt_of_cell? w _ hx150_2)).trans hx150_2
                  replace p150 := eq_true p150
                  replace q150 := eq_true q150
                  refine start_ (n := 35) (S := fun w' => w'.cell? ⟨gb147, 0, none⟩ = some (.string ((rd_T72 l0_2 x5_3).f0)) ∧ w'.cell? ⟨gb147, 1, none⟩ = some (.int .i64 ((rd_T72 l0_2 x5_3).f1)) ∧ w'.cell? ⟨gb147, 2, none⟩ = some (.int .i64 ((rd_T72 l0_2 x5_3).f2)) ∧ w'.cell? ⟨gb138, 0, none⟩ = some (.slice A0_0 l0_0.length c0_0) ∧ w'.cell? ⟨gb138, 1, none⟩ = some (.slice A0_1 l0_1.length c0_1) ∧ w'.cell? ⟨gb138, 2, none⟩ = some (.slice (some ad146) l0_2.length c0_2) ∧ w'.cell? ⟨gb138, 3, none⟩ = some (.int .i64 a0_3) ∧ w'.cell? ⟨gb138, 4, none⟩ = some (.int .i64 a0_4) ∧ w'.cell? ⟨gb138, 5, none⟩ = some (.int .i64 a0_5) ∧ w'.cell? (ad146.add (((ji70)).toNat * 3)) = some (.string ((rd_T72 l0_2 (ji70)).f0)) ∧ w'.cell? ⟨(ad146.add (((ji70)).toNat * 3)).block, (ad146.add (((ji70)).toNat * 3)).off + 1, none⟩ = some (.int .i64 ((rd_T72 l0_2 (ji70)).f1)) ∧ w'.cell? ⟨(ad146.add (((ji70)).toNat * 3)).block, (ad146.add (((ji70)).toNat * 3)).off + 2, none⟩ = some (.int .i64 ((rd_T72 l0_2 (ji70)).f2))) (ds := []) m0_35 (by kernel_rfl) rfl rfl ⟨ck BK147.out 0 rfl, ck BK147.out 1 rfl, ck BK147.out 2 rfl, ck BK138.out 0 rfl, ck BK138.out 1 rfl, ck BK138.out 2 rfl, ck BK138.out 3 rfl, ck BK138.out 4 rfl, ck BK138.out 5 rfl, ((HB.out.cell (World.block_lt_of_cell? w _ hw150_0)).trans hw150_0), ((HB.out.cell (World.block_lt_of_cell? w _ hw150_1)).trans hw150_1), ((HB.out.cell (World.block_lt_of_cell? w _ hw150_2)).trans hw150_2)⟩ (fun hHeld => ?_); refine with_tabW spec_FleetOk.tab13 spec_FleetOk.bits13 (fun HT_ HW_ => ?_)
                  generalize w74.drew = w75 at BK138 BK147 HB hx150_0 hx150_1 hx150_2 hHeld ⊢
                  refine pp_ HT_.out 0 80 m1_35 rfl rfl (by kernel_rfl) (by rfl) (by intro w'; go_simp; with_reducible rfl) (by simp only [sp_]; rfl) (fun _ _ _ h => h) ?_
                  refine tk_ HT_.out HW_.out 1 81 m2_35 rfl rfl (by kernel_rfl) (by rfl) (by rintro w' ⟨s0, s1, s2, s3, s4, s5, s6, s7, s8, s9, s10, s11⟩; go_simp; with_reducible rfl) hHeld (by simp only [sp_]; rfl) (fun _ _ _ h => h) ?_
                  refine one_ (i := 2) (N := some 82) m3_35 rfl rfl (one_of HT_.out (by kernel_rfl)) (by decide) (fun K hK => ?_)
                  refine goes_ Try.func49 (by kernel_rfl) rfl #[.string ((rd_T72 l0_2 x5_3).f0)] (by rfl) rfl rfl (by (try simp only [am_]); first | done | rfl) ?_
                  with_reducible refine (spec_l1Name.calls k3 ((rd_T72 l0_2 x5_3).f0) true _ A65.out).mono ?_
                  rintro e w' ⟨rfl, ⟨nd, rfl⟩⟩
                  refine ⟨_, rfl, ?_⟩
                  refine hK.out _ _ ⟨ck BK147.out 0 rfl, ck BK147.out 1 rfl, ck BK147.out 2 rfl, ck BK138.out 0 rfl, ck BK138.out 1 rfl, ck BK138.out 2 rfl, ck BK138.out 3 rfl, ck BK138.out 4 rfl, ck BK138.out 5 rfl, ((HB.out.cell (World.block_lt_of_cell? w _ hw150_0)).trans hw150_0), ((HB.out.cell (World.block_lt_of_cell? w _ hw150_1)).trans hw150_1), ((HB.out.cell (World.block_lt_of_cell? w _ hw150_2)).trans hw150_2)⟩ (fun hHeld => ?_)
                  clear hK K
                  refine norm_ (a' := ?_) ?_ ?_
                  rotate_left
                  ·
                   show Act.put _ (some 82) _ = _
                   simp only [sp_]
                   rfl
                  refine pp_ HT_.out 3 83 m4_35 rfl rfl (by kernel_rfl) (by rfl) (by intro w'; go_simp; with_reducible rfl) (by simp only [sp_]; rfl) (fun _ _ _ h => h) ?_
                  refine pp_ HT_.out 4 84 m5_35 rfl rfl (by kernel_rfl) (by rfl) (by intro w'; go_simp; with_reducible rfl) (by simp only [sp_]; rfl) (fun _ _ _ h => h) ?_
                  refine pp_ HT_.out 5 85 m6_35 rfl rfl (by kernel_rfl) (by rfl) (by intro w'; go_simp; with_reducible rfl) (by simp only [sp_]; rfl) (fun _ _ _ h => h) ?_
                  refine tk_ HT_.out HW_.out 6 86 m7_35 rfl rfl (by kernel_rfl) (by rfl) (by rintro w' ⟨s0, s1, s2, s3, s4, s5, s6, s7, s8, s9, s10, s11⟩; go_simp; with_reducible rfl) hHeld (by simp only [sp_]; rfl) (fun _ _ _ h => h) ?_
                  refine one_ (i := 7) (N := some 87) m8_35 rfl rfl (one_of HT_.out (by kernel_rfl)) (by decide) (fun K hK => ?_)
                  refine goes_ Try.func46 (by kernel_rfl) rfl #[.int .i64 ((rd_T72 l0_2 x5_3).f1), .int .i64 1, .int .i64 1000000] (by rfl) rfl rfl (by (try simp only [am_]); first | done | rfl) ?_
                  with_reducible refine (spec_l1In.calls ((rd_T72 l0_2 x5_3).f1) 1 1000000 true _ A67.out).mono ?_
                  rintro e w' ⟨rfl, ⟨nd, rfl⟩⟩
                  refine ⟨_, rfl, ?_⟩
                  refine hK.out _ _ ⟨ck BK147.out 0 rfl, ck BK147.out 1 rfl, ck BK147.out 2 rfl, ck BK138.out 0 rfl, ck BK138.out 1 rfl, ck BK138.out 2 rfl, ck BK138.out 3 rfl, ck BK138.out 4 rfl, ck BK138.out 5 rfl, ((HB.out.cell (World.block_lt_of_cell? w _ hw150_0)).trans hw150_0), ((HB.out.cell (World.block_lt_of_cell? w _ hw150_1)).trans hw150_1), ((HB.out.cell (World.block_lt_of_cell? w _ hw150_2)).trans hw150_2)⟩ (fun hHeld => ?_)
                  clear hK K
                  refine norm_ (a' := ?_) ?_ ?_
                  rotate_left
                  ·
                   show Act.put _ (some 87) _ = _
                   simp only [sp_]
                   rfl
                  refine pp_ HT_.out 8 88 m9_35 rfl rfl (by kernel_rfl) (by rfl) (by intro w'; go_simp; with_reducible rfl) (by simp only [sp_]; rfl) (fun _ _ _ h => h) ?_
                  refine pp_ HT_.out 9 89 m10_35 rfl rfl (by kernel_rfl) (by rfl) (by intro w'; go_simp; with_reducible rfl) (by simp only [sp_]; rfl) (fun _ _ _ h => h) ?_
                  refine pp_ HT_.out 10 90 m11_35 rfl rfl (by kernel_rfl) (by rfl) (by intro w'; go_simp; with_reducible rfl) (by simp only [sp_]; rfl) (fun _ _ _ h => h) ?_
                  refine pp_ HT_.out 11 91 m12_35 rfl rfl (by kernel_rfl) (by rfl) (by intro w'; go_simp; with_reducible rfl) (by simp only [sp_]; rfl) (fun _ _ _ h => h) ?_
                  refine pp_ HT_.out 12 92 m13_35 rfl rfl (by kernel_rfl) (by rfl) (by intro w'; go_simp; with_reducible rfl) (by simp only [sp_]; rfl) (fun _ _ _ h => h) ?_
                  refine pp_ HT_.out 13 93 m14_35 rfl rfl (by kernel_rfl) (by rfl) (by intro w'; go_simp; with_reducible rfl) (by simp only [sp_]; rfl) (fun _ _ _ h => h) ?_
                  refine pp_ HT_.out 14 94 m15_35 rfl rfl (by kernel_rfl) (by rfl) (by intro w'; go_simp; with_reducible rfl) (by simp only [sp_]; rfl) (fun _ _ _ h => h) ?_
                  refine pp_ HT_.out 16 96 n63 rfl rfl (by kernel_rfl) (by rfl) (by intro w'; go_simp; with_reducible rfl) (by simp only [sp_]; rfl) (fun _ _ _ h => h) ?_
                  refine pp_ HT_.out 17 97 n64 rfl rfl (by kernel_rfl) (by rfl) (by intro w'; go_simp; with_reducible rfl) (by simp only [sp_]; rfl) (fun _ _ _ h => h) ?_
                  refine pp_ HT_.out 21 101 n65 rfl rfl (by kernel_rfl) (by rfl) (by intro w'; go_simp; with_reducible rfl) (by simp only [sp_]; rfl) (fun _ _ _ h => h) ?_
                  refine tk_ HT_.out HW_.out 15 95 n107 rfl rfl (by kernel_rfl) (by rfl) (by rintro w' ⟨s0, s1, s2, s3, s4, s5, s6, s7, s8, s9, s10, s11⟩; go_simp; with_reducible rfl) hHeld (by simp only [sp_]; rfl) (fun _ _ _ h => h) ?_
                  refine pp_ HT_.out 18 98 n66 rfl rfl (by kernel_rfl) (by rfl) (by intro w'; go_simp; with_reducible rfl) (by simp only [sp_]; rfl) (fun _ _ _ h => h) ?_
                  refine pp_ HT_.out 19 99 n67 rfl rfl (by kernel_rfl) (by rfl) (by intro w'; go_simp; with_reducible rfl) (by simp only [sp_]; rfl) (fun _ _ _ h => h) ?_
                  refine tk_ HT_.out HW_.out 20 100 m22_35 rfl rfl (by kernel_rfl) (by rfl) (by rintro w' ⟨s0, s1, s2, s3, s4, s5, s6, s7, s8, s9, s10, s11⟩; go_simp; with_reducible rfl) hHeld (by simp only [sp_]; rfl) (fun _ _ _ h => h) ?_
                  refine tk_ HT_.out HW_.out 22 102 m23_35 rfl rfl (by kernel_rfl) (by rfl) (by rintro w' ⟨s0, s1, s2, s3, s4, s5, s6, s7, s8, s9, s10, s11⟩; go_simp; with_reducible rfl) hHeld (by simp only [sp_]; rfl) (fun _ _ _ h => h) ?_
                  refine pp_ HT_.out 23 103 m24_35 rfl rfl (by kernel_rfl) (by rfl) (by intro w'; go_simp; with_reducible rfl) (by simp only [sp_]; rfl) (fun _ _ _ h => h) ?_
                  refine pp_ HT_.out 24 104 m25_35 rfl rfl (by kernel_rfl) (by rfl) (by intro w'; go_simp; with_reducible rfl) (by simp only [sp_]; rfl) (fun _ _ _ h => h) ?_
                  refine pp_ HT_.out 25 105 m26_35 rfl rfl (by kernel_rfl) (by rfl) (by intro w'; go_simp; with_reducible rfl) (by simp only [sp_]; rfl) (fun _ _ _ h => h) ?_
                  refine pp_ HT_.out 26 106 m27_35 rfl rfl (by kernel_rfl) (by rfl) (by intro w'; go_simp; with_reducible rfl) (by simp only [sp_]; rfl) (fun _ _ _ h => h) ?_
                  refine pu_ HT_.out 27 107 m28_35 rfl rfl (by kernel_rfl) (by rfl) (by simp only [sp_]; rfl) (fun _ _ _ h => h) ?_
                  refine pu_ HT_.out 28 108 m29_35 rfl rfl (by kernel_rfl) (by rfl) (by simp only [sp_]; rfl) (fun _ _ _ h => h) ?_
                  refine pu_ HT_.out 29 109 m30_35 rfl rfl (by kernel_rfl) (by rfl) (by simp only [sp_]; rfl) (fun _ _ _ h => h) ?_
                  refine pu_ HT_.out 30 110 m31_35 rfl rfl (by kernel_rfl) (by rfl) (by simp only [sp_]; rfl) (fun _ _ _ h => h) ?_
                  refine pu_ HT_.out 31 111 m32_35 rfl rfl (by kernel_rfl) (by rfl) (by simp only [sp_]; rfl) (fun _ _ _ h => h) ?_
                  refine pu_ HT_.out 32 112 m33_35 rfl rfl (by kernel_rfl) (by rfl) (by simp only [sp_]; rfl) (fun _ _ _ h => h) ?_
                  refine pu_ HT_.out 33 113 m34_35 rfl rfl (by kernel_rfl) (by rfl) (by simp only [sp_]; rfl) (fun _ _ _ h => h) ?_
                  refine pp_ HT_.out 34 114 m35_35 rfl rfl (by kernel_rfl) (by rfl) (by intro w'; go_simp; with_reducible rfl) (by simp only [sp_]; rfl) (fun _ _ _ h => h) ?_
                  refine done_ (done_of HT_.out (by kernel_rfl)) ?_
                  try go_wp2
                  go_meet
                  case rel => exact ⟨_, (true), (by first | rfl | (simp; done) | (simp [*]; done)), H', ⟨by have := HJ1.out; have := HK2.out; have := HK3.out; first | omega | exact Nat.le_refl _⟩, ⟨bk BK138.out⟩, ⟨bk BK147.out⟩, ⟨by repeat with_reducible first | exact bl HB.out | refine below_set ?_ GE138.out | refine below_set ?_ GE147.out | refine bq ?_⟩⟩
                 ·
                  rw [if_neg c73] at H
                  have c73b0 : decide (((rd_T72 l0_2 x5_3).f1) ≤ ((rd_T72 l0_2 (ji70)).f1)) = false := decide_eq_false c73
                  clear c73
                  replace H := Option.bind_eq_some_iff.mp H
                  obtain ⟨t151, A760, H⟩ := H
                  replace H : (spec_FleetOk.j4 k3 x5_3 (!t151) l0_0 l0_1 l0_2 a0_3 a0_4 a0_5) = some r := H
                  have A76 := Aside0.mk A760
                  clear A760
                  have H' := Aside0.mk H
                  clear H
                  try go_wp2
                  have n0_ : Aside0 ((((w62.setCell ⟨gb147, 0, none⟩ (.string ((rd_T72 l0_2 x5_3).f0))).setCell ⟨gb147, 1, none⟩ (.int .i64 ((rd_T72 l0_2 x5_3).f1))).setCell ⟨gb147, 2, none⟩ (.int .i64 ((rd_T72 l0_2 x5_3).f2))).heap[gb138]? = some (.cells #[.slice A0_0 l0_0.length c0_0, .slice A0_1 l0_1.length c0_1, .slice (some ad146) l0_2.length c0_2, .int .i64 a0_3, .int .i64 a0_4, .int .i64 a0_5] 56 (0, 0))) := ⟨by (repeat refine bk1 ?_); refine blk_far ?_ NB138_147.out _; (repeat refine bk1 ?_); refine blk_far ?_ NB138_147.out _; (repeat refine bk1 ?_); refine blk_far ?_ NB138_147.out _; (repeat refine bk1 ?_); exact BK138.out⟩
                  have n1_ : Aside0 ((((w62.setCell ⟨gb147, 0, none⟩ (.string ((rd_T72 l0_2 x5_3).f0))).setCell ⟨gb147, 1, none⟩ (.int .i64 ((rd_T72 l0_2 x5_3).f1))).setCell ⟨gb147, 2, none⟩ (.int .i64 ((rd_T72 l0_2 x5_3).f2))).heap[gb147]? = some (.cells #[.string ((rd_T72 l0_2 x5_3).f0), .int .i64 ((rd_T72 l0_2 x5_3).f1), .int .i64 ((rd_T72 l0_2 x5_3).f2)] 72 (0, 0))) := ⟨by (repeat refine bk1 ?_); refine blk_put (cs := #[.string ((rd_T72 l0_2 x5_3).f0), .int .i64 ((rd_T72 l0_2 x5_3).f1), .int .i64 0]) ?_ 2 _ rfl; (repeat refine bk1 ?_); refine blk_put (cs := #[.string ((rd_T72 l0_2 x5_3).f0), .int .i64 0, .int .i64 0]) ?_ 1 _ rfl; (repeat refine bk1 ?_); refine blk_put (cs := #[.string (⟨#[]⟩ : ByteArray), .int .i64 0, .int .i64 0]) ?_ 0 _ rfl; (repeat refine bk1 ?_); exact BK147.out⟩
                  have n2_ : Aside0 (Below w.heap.size w (((w62.setCell ⟨gb147, 0, none⟩ (.string ((rd_T72 l0_2 x5_3).f0))).setCell ⟨gb147, 1, none⟩ (.int .i64 ((rd_T72 l0_2 x5_3).f1))).setCell ⟨gb147, 2, none⟩ (.int .i64 ((rd_T72 l0_2 x5_3).f2)))) := ⟨by repeat with_reducible first | exact bl HB.out | refine below_set ?_ GE138.out | refine below_set ?_ GE147.out | refine bq ?_⟩
                  (try clear BK138)
                  (try clear BK147)
                  (try clear HB)
                  generalize (((w62.setCell ⟨gb147, 0, none⟩ (.string ((rd_T72 l0_2 x5_3).f0))).setCell ⟨gb147, 1, none⟩ (.int .i64 ((rd_T72 l0_2 x5_3).f1))).setCell ⟨gb147, 2, none⟩ (.int .i64 ((rd_T72 l0_2 x5_3).f2))) = w77 at n0_ n1_ n2_ ⊢
                  have BK138 := n0_
                  have BK147 := n1_
                  have HB := n2_
                  clear n0_ n1_ n2_
                  have n0_ := Aside0.mk (blk_drew BK138.out)
                  have n1_ := Aside0.mk (blk_drew BK147.out)
                  have n2_ := Aside0.mk (below_drew1 HB.out)
                  clear BK138
                  clear BK147
                  clear HB
                  have BK138 := n0_
                  have BK147 := n1_
                  have HB := n2_
                  clear n0_ n1_ n2_
                  have p150 : 0 ≤ ((ji70) : Int) := of_decide_eq_true (by first | (with_reducible assumption) | assumption)
                  have q150 : (ji70) < (l0_2.length : Int) := of_decide_eq_true (by first | (with_reducible assumption) | assumption)
                  obtain ⟨ad150, e150, hx150_0, hx150_1, hx150_2⟩ := at_T72 HR0_2.out (ji70) p150 q150
                  have hw150_2 := hx150_2
                  have hw150_1 := hx150_1
                  have hw150_0 := hx150_0
                  obtain rfl : ad146 = ad150 := (by injection e150)
                  replace hx150_0 := (HB.out.cell (World.block_lt_of_cell? w _ hx150_0)).trans hx150_0
                  replace hx150_1 := (HB.out.cell (World.block_lt_of_cell? w _ hx150_1)).trans hx150_1
                  replace hx150_2 := (HB.out.cell (World.block_lt_of_cell? w _ hx150_2)).trans hx150_2
                  replace p150 := eq_true p150
                  replace q150 := eq_true q150
                  refine start_ (n := 35) (S := fun w' => w'.cell? ⟨gb147, 0, none⟩ = some (.string ((rd_T72 l0_2 x5_3).f0)) ∧ w'.cell? ⟨gb147, 1, none⟩ = some (.int .i64 ((rd_T72 l0_2 x5_3).f1)) ∧ w'.cell? ⟨gb147, 2, none⟩ = some (.int .i64 ((rd_T72 l0_2 x5_3).f2)) ∧ w'.cell? ⟨gb138, 0, none⟩ = some (.slice A0_0 l0_0.length c0_0) ∧ w'.cell? ⟨gb138, 1, none⟩ = some (.slice A0_1 l0_1.length c0_1) ∧ w'.cell? ⟨gb138, 2, none⟩ = some (.slice (some ad146) l0_2.length c0_2) ∧ w'.cell? ⟨gb138, 3, none⟩ = some (.int .i64 a0_3) ∧ w'.cell? ⟨gb138, 4, none⟩ = some (.int .i64 a0_4) ∧ w'.cell? ⟨gb138, 5, none⟩ = some (.int .i64 a0_5) ∧ w'.cell? (ad146.add (((ji70)).toNat * 3)) = some (.string ((rd_T72 l0_2 (ji70)).f0)) ∧ w'.cell? ⟨(ad146.add (((ji70)).toNat * 3)).block, (ad146.add (((ji70)).toNat * 3)).off + 1, none⟩ = some (.int .i64 ((rd_T72 l0_2 (ji70)).f1)) ∧ w'.cell? ⟨(ad146.add (((ji70)).toNat * 3)).block, (ad146.add (((ji70)).toNat * 3)).off + 2, none⟩ = some (.int .i64 ((rd_T72 l0_2 (ji70)).f2))) (ds := []) m0_35 (by kernel_rfl) rfl rfl ⟨ck BK147.out 0 rfl, ck BK147.out 1 rfl, ck BK147.out 2 rfl, ck BK138.out 0 rfl, ck BK138.out 1 rfl, ck BK138.out 2 rfl, ck BK138.out 3 rfl, ck BK138.out 4 rfl, ck BK138.out 5 rfl, ((HB.out.cell (World.block_lt_of_cell? w _ hw150_0)).trans hw150_0), ((HB.out.cell (World.block_lt_of_cell? w _ hw150_1)).trans hw150_1), ((HB.out.cell (World.block_lt_of_cell? w _ hw150_2)).trans hw150_2)⟩ (fun hHeld => ?_); refine with_tabW spec_FleetOk.tab13 spec_FleetOk.bits13 (fun HT_ HW_ => ?_)
                  generalize w77.drew = w78 at BK138 BK147 HB hx150_0 hx150_1 hx150_2 hHeld ⊢
                  refine pp_ HT_.out 0 80 m1_35 rfl rfl (by kernel_rfl) (by rfl) (by intro w'; go_simp; with_reducible rfl) (by simp only [sp_]; rfl) (fun _ _ _ h => h) ?_
                  refine tk_ HT_.out HW_.out 1 81 m2_35 rfl rfl (by kernel_rfl) (by rfl) (by rintro w' ⟨s0, s1, s2, s3, s4, s5, s6, s7, s8, s9, s10, s11⟩; go_simp; with_reducible rfl) hHeld (by simp only [sp_]; rfl) (fun _ _ _ h => h) ?_
                  refine one_ (i := 2) (N := some 82) m3_35 rfl rfl (one_of HT_.out (by kernel_rfl)) (by decide) (fun K hK => ?_)
                  refine goes_ Try.func49 (by kernel_rfl) rfl #[.string ((rd_T72 l0_2 x5_3).f0)] (by rfl) rfl rfl (by (try simp only [am_]); first | done | rfl) ?_
                  with_reducible refine (spec_l1Name.calls k3 ((rd_T72 l0_2 x5_3).f0) true _ A65.out).mono ?_
                  rintro e w' ⟨rfl, ⟨nd, rfl⟩⟩
                  refine ⟨_, rfl, ?_⟩
                  refine hK.out _ _ ⟨ck BK147.out 0 rfl, ck BK147.out 1 rfl, ck BK147.out 2 rfl, ck BK138.out 0 rfl, ck BK138.out 1 rfl, ck BK138.out 2 rfl, ck BK138.out 3 rfl, ck BK138.out 4 rfl, ck BK138.out 5 rfl, ((HB.out.cell (World.block_lt_of_cell? w _ hw150_0)).trans hw150_0), ((HB.out.cell (World.block_lt_of_cell? w _ hw150_1)).trans hw150_1), ((HB.out.cell (World.block_lt_of_cell? w _ hw150_2)).trans hw150_2)⟩ (fun hHeld => ?_)
                  clear hK K
                  refine norm_ (a' := ?_) ?_ ?_
                  rotate_left
                  ·
                   show Act.put _ (some 82) _ = _
                   simp only [sp_]
                   rfl
                  refine pp_ HT_.out 3 83 m4_35 rfl rfl (by kernel_rfl) (by rfl) (by intro w'; go_simp; with_reducible rfl) (by simp only [sp_]; rfl) (fun _ _ _ h => h) ?_
                  refine pp_ HT_.out 4 84 m5_35 rfl rfl (by kernel_rfl) (by rfl) (by intro w'; go_simp; with_reducible rfl) (by simp only [sp_]; rfl) (fun _ _ _ h => h) ?_
                  refine pp_ HT_.out 5 85 m6_35 rfl rfl (by kernel_rfl) (by rfl) (by intro w'; go_simp; with_reducible rfl) (by simp only [sp_]; rfl) (fun _ _ _ h => h) ?_
                  refine tk_ HT_.out HW_.out 6 86 m7_35 rfl rfl (by kernel_rfl) (by rfl) (by rintro w' ⟨s0, s1, s2, s3, s4, s5, s6, s7, s8, s9, s10, s11⟩; go_simp; with_reducible rfl) hHeld (by simp only [sp_]; rfl) (fun _ _ _ h => h) ?_
                  refine one_ (i := 7) (N := some 87) m8_35 rfl rfl (one_of HT_.out (by kernel_rfl)) (by decide) (fun K hK => ?_)
                  refine goes_ Try.func46 (by kernel_rfl) rfl #[.int .i64 ((rd_T72 l0_2 x5_3).f1), .int .i64 1, .int .i64 1000000] (by rfl) rfl rfl (by (try simp only [am_]); first | done | rfl) ?_
                  with_reducible refine (spec_l1In.calls ((rd_T72 l0_2 x5_3).f1) 1 1000000 true _ A67.out).mono ?_
                  rintro e w' ⟨rfl, ⟨nd, rfl⟩⟩
                  refine ⟨_, rfl, ?_⟩
                  refine hK.out _ _ ⟨ck BK147.out 0 rfl, ck BK147.out 1 rfl, ck BK147.out 2 rfl, ck BK138.out 0 rfl, ck BK138.out 1 rfl, ck BK138.out 2 rfl, ck BK138.out 3 rfl, ck BK138.out 4 rfl, ck BK138.out 5 rfl, ((HB.out.cell (World.block_lt_of_cell? w _ hw150_0)).trans hw150_0), ((HB.out.cell (World.block_lt_of_cell? w _ hw150_1)).trans hw150_1), ((HB.out.cell (World.block_lt_of_cell? w _ hw150_2)).trans hw150_2)⟩ (fun hHeld => ?_)
                  clear hK K
                  refine norm_ (a' := ?_) ?_ ?_
                  rotate_left
                  ·
                   show Act.put _ (some 87) _ = _
                   simp only [sp_]
                   rfl
                  refine pp_ HT_.out 8 88 m9_35 rfl rfl (by kernel_rfl) (by rfl) (by intro w'; go_simp; with_reducible rfl) (by simp only [sp_]; rfl) (fun _ _ _ h => h) ?_
                  refine pp_ HT_.out 9 89 m10_35 rfl rfl (by kernel_rfl) (by rfl) (by intro w'; go_simp; with_reducible rfl) (by simp only [sp_]; rfl) (fun _ _ _ h => h) ?_
                  refine pp_ HT_.out 10 90 m11_35 rfl rfl (by kernel_rfl) (by rfl) (by intro w'; go_simp; with_reducible rfl) (by simp only [sp_]; rfl) (fun _ _ _ h => h) ?_
                  refine pp_ HT_.out 11 91 m12_35 rfl rfl (by kernel_rfl) (by rfl) (by intro w'; go_simp; with_reducible rfl) (by simp only [sp_]; rfl) (fun _ _ _ h => h) ?_
                  refine pp_ HT_.out 12 92 m13_35 rfl rfl (by kernel_rfl) (by rfl) (by intro w'; go_simp; with_reducible rfl) (by simp only [sp_]; rfl) (fun _ _ _ h => h) ?_
                  refine pp_ HT_.out 13 93 m14_35 rfl rfl (by kernel_rfl) (by rfl) (by intro w'; go_simp; with_reducible rfl) (by simp only [sp_]; rfl) (fun _ _ _ h => h) ?_
                  refine pp_ HT_.out 14 94 m15_35 rfl rfl (by kernel_rfl) (by rfl) (by intro w'; go_simp; with_reducible rfl) (by simp only [sp_]; rfl) (fun _ _ _ h => h) ?_
                  refine pp_ HT_.out 16 96 n63 rfl rfl (by kernel_rfl) (by rfl) (by intro w'; go_simp; with_reducible rfl) (by simp only [sp_]; rfl) (fun _ _ _ h => h) ?_
                  refine pp_ HT_.out 17 97 n64 rfl rfl (by kernel_rfl) (by rfl) (by intro w'; go_simp; with_reducible rfl) (by simp only [sp_]; rfl) (fun _ _ _ h => h) ?_
                  refine pp_ HT_.out 21 101 n65 rfl rfl (by kernel_rfl) (by rfl) (by intro w'; go_simp; with_reducible rfl) (by simp only [sp_]; rfl) (fun _ _ _ h => h) ?_
                  refine tk_ HT_.out HW_.out 15 95 n107 rfl rfl (by kernel_rfl) (by rfl) (by rintro w' ⟨s0, s1, s2, s3, s4, s5, s6, s7, s8, s9, s10, s11⟩; go_simp; with_reducible rfl) hHeld (by simp only [sp_]; rfl) (fun _ _ _ h => h) ?_
                  refine pp_ HT_.out 18 98 n66 rfl rfl (by kernel_rfl) (by rfl) (by intro w'; go_simp; with_reducible rfl) (by simp only [sp_]; rfl) (fun _ _ _ h => h) ?_
                  refine pp_ HT_.out 19 99 n67 rfl rfl (by kernel_rfl) (by rfl) (by intro w'; go_simp; with_reducible rfl) (by simp only [sp_]; rfl) (fun _ _ _ h => h) ?_
                  refine tk_ HT_.out HW_.out 20 100 m22_35 rfl rfl (by kernel_rfl) (by rfl) (by rintro w' ⟨s0, s1, s2, s3, s4, s5, s6, s7, s8, s9, s10, s11⟩; go_simp; with_reducible rfl) hHeld (by simp only [sp_]; rfl) (fun _ _ _ h => h) ?_
                  refine tk_ HT_.out HW_.out 22 102 m23_35 rfl rfl (by kernel_rfl) (by rfl) (by rintro w' ⟨s0, s1, s2, s3, s4, s5, s6, s7, s8, s9, s10, s11⟩; go_simp; with_reducible rfl) hHeld (by simp only [sp_]; rfl) (fun _ _ _ h => h) ?_
                  refine pp_ HT_.out 23 103 m24_35 rfl rfl (by kernel_rfl) (by rfl) (by intro w'; go_simp; with_reducible rfl) (by simp only [sp_]; rfl) (fun _ _ _ h => h) ?_
                  refine pp_ HT_.out 24 104 m25_35 rfl rfl (by kernel_rfl) (by rfl) (by intro w'; go_simp; with_reducible rfl) (by simp only [sp_]; rfl) (fun _ _ _ h => h) ?_
                  refine pp_ HT_.out 25 105 m26_35 rfl rfl (by kernel_rfl) (by rfl) (by intro w'; go_simp; with_reducible rfl) (by simp only [sp_]; rfl) (fun _ _ _ h => h) ?_
                  refine pp_ HT_.out 26 106 m27_35 rfl rfl (by kernel_rfl) (by rfl) (by intro w'; go_simp; with_reducible rfl) (by simp only [sp_]; rfl) (fun _ _ _ h => h) ?_
                  refine pp_ HT_.out 27 107 m28_35 rfl rfl (by kernel_rfl) (by rfl) (by intro w'; go_simp; with_reducible rfl) (by simp only [sp_]; rfl) (fun _ _ _ h => h) ?_
                  refine pp_ HT_.out 29 109 n74 rfl rfl (by kernel_rfl) (by rfl) (by intro w'; go_simp; with_reducible rfl) (by simp only [sp_]; rfl) (fun _ _ _ h => h) ?_
                  refine pp_ HT_.out 30 110 n75 rfl rfl (by kernel_rfl) (by rfl) (by intro w'; go_simp; with_reducible rfl) (by simp only [sp_]; rfl) (fun _ _ _ h => h) ?_
                  refine tk_ HT_.out HW_.out 28 108 m31_35 rfl rfl (by kernel_rfl) (by rfl) (by rintro w' ⟨s0, s1, s2, s3, s4, s5, s6, s7, s8, s9, s10, s11⟩; go_simp; with_reducible rfl) hHeld (by simp only [sp_]; rfl) (fun _ _ _ h => h) ?_
                  refine tk_ HT_.out HW_.out 31 111 m32_35 rfl rfl (by kernel_rfl) (by rfl) (by rintro w' ⟨s0, s1, s2, s3, s4, s5, s6, s7, s8, s9, s10, s11⟩; go_simp; with_reducible rfl) hHeld (by simp only [sp_]; rfl) (fun _ _ _ h => h) ?_
                  refine one_ (i := 32) (N := some 112) m33_35 rfl rfl (one_of HT_.out (by kernel_rfl)) (by decide) (fun K hK => ?_)
                  refine goes_ Try.func46 (by kernel_rfl) rfl #[.int .i64 ((rd_T72 l0_2 x5_3).f2), .int .i64 0, .int .i64 a0_5] (by rfl) rfl rfl (by (try simp only [am_]); first | done | rfl) ?_
                  with_reducible refine (spec_l1In.calls ((rd_T72 l0_2 x5_3).f2) 0 a0_5 t151 _ A76.out).mono ?_
                  rintro e w' ⟨rfl, ⟨nd, rfl⟩⟩
                  refine ⟨_, rfl, ?_⟩
                  refine hK.out _ _ ⟨ck BK147.out 0 rfl, ck BK147.out 1 rfl, ck BK147.out 2 rfl, ck BK138.out 0 rfl, ck BK138.out 1 rfl, ck BK138.out 2 rfl, ck BK138.out 3 rfl, ck BK138.out 4 rfl, ck BK138.out 5 rfl, ((HB.out.cell (World.block_lt_of_cell? w _ hw150_0)).trans hw150_0), ((HB.out.cell (World.block_lt_of_cell? w _ hw150_1)).trans hw150_1), ((HB.out.cell (World.block_lt_of_cell? w _ hw150_2)).trans hw150_2)⟩ (fun hHeld => ?_)
                  clear hK K
                  refine norm_ (a' := ?_) ?_ ?_
                  rotate_left
                  ·
                   show Act.put _ (some 112) _ = _
                   simp only [sp_]
                   rfl
                  refine pp_ HT_.out 33 113 m34_35 rfl rfl (by kernel_rfl) (by rfl) (by intro w'; go_simp; with_reducible rfl) (by simp only [sp_]; rfl) (fun _ _ _ h => h) ?_
                  refine pp_ HT_.out 34 114 m35_35 rfl rfl (by kernel_rfl) (by rfl) (by intro w'; go_simp; with_reducible rfl) (by simp only [sp_]; rfl) (fun _ _ _ h => h) ?_
                  refine done_ (done_of HT_.out (by kernel_rfl)) ?_
                  try go_wp2
                  go_meet
                  case rel => exact ⟨_, (!t151), (by first | rfl | (simp; done) | (simp [*]; done)), H', ⟨by have := HJ1.out; have := HK2.out; have := HK3.out; first | omega | exact Nat.le_refl _⟩, ⟨bk BK138.out⟩, ⟨bk BK147.out⟩, ⟨by repeat with_reducible first | exact bl HB.out | refine below_set ?_ GE138.out | refine below_set ?_ GE147.out | refine bq ?_⟩⟩
                ·
                 rw [if_neg c72] at H
                 exact absurd H (by simp)
               ·
                rw [if_neg c71] at H
                exact absurd H (by simp)
              ·
               rw [if_neg c69] at H
               have c69b0 : decide (0 < x5_3) = false := decide_eq_false c69
               clear c69
               (first | rw [c69b0] | (simp only [i64_w, i32_w]; rw [c69b0]) | skip)
               replace H := Option.bind_eq_some_iff.mp H
               obtain ⟨t152, A790, H⟩ := H
               replace H : (spec_FleetOk.j4 k3 x5_3 (!t152) l0_0 l0_1 l0_2 a0_3 a0_4 a0_5) = some r := H
               have A79 := Aside0.mk A790
               clear A790
               have H' := Aside0.mk H
               clear H
               try go_wp2
               have n0_ : Aside0 ((((w62.setCell ⟨gb147, 0, none⟩ (.string ((rd_T72 l0_2 x5_3).f0))).setCell ⟨gb147, 1, none⟩ (.int .i64 ((rd_T72 l0_2 x5_3).f1))).setCell ⟨gb147, 2, none⟩ (.int .i64 ((rd_T72 l0_2 x5_3).f2))).heap[gb138]? = some (.cells #[.slice A0_0 l0_0.length c0_0, .slice A0_1 l0_1.length c0_1, .slice (some ad146) l0_2.length c0_2, .int .i64 a0_3, .int .i64 a0_4, .int .i64 a0_5] 56 (0, 0))) := ⟨by (repeat refine bk1 ?_); refine blk_far ?_ NB138_147.out _; (repeat refine bk1 ?_); refine blk_far ?_ NB138_147.out _; (repeat refine bk1 ?_); refine blk_far ?_ NB138_147.out _; (repeat refine bk1 ?_); exact BK138.out⟩
               have n1_ : Aside0 ((((w62.setCell ⟨gb147, 0, none⟩ (.string ((rd_T72 l0_2 x5_3).f0))).setCell ⟨gb147, 1, none⟩ (.int .i64 ((rd_T72 l0_2 x5_3).f1))).setCell ⟨gb147, 2, none⟩ (.int .i64 ((rd_T72 l0_2 x5_3).f2))).heap[gb147]? = some (.cells #[.string ((rd_T72 l0_2 x5_3).f0), .int .i64 ((rd_T72 l0_2 x5_3).f1), .int .i64 ((rd_T72 l0_2 x5_3).f2)] 72 (0, 0))) := ⟨by (repeat refine bk1 ?_); refine blk_put (cs := #[.string ((rd_T72 l0_2 x5_3).f0), .int .i64 ((rd_T72 l0_2 x5_3).f1), .int .i64 0]) ?_ 2 _ rfl; (repeat refine bk1 ?_); refine blk_put (cs := #[.string ((rd_T72 l0_2 x5_3).f0), .int .i64 0, .int .i64 0]) ?_ 1 _ rfl; (repeat refine bk1 ?_); refine blk_put (cs := #[.string (⟨#[]⟩ : ByteArray), .int .i64 0, .int .i64 0]) ?_ 0 _ rfl; (repeat refine bk1 ?_); exact BK147.out⟩
               have n2_ : Aside0 (Below w.heap.size w (((w62.setCell ⟨gb147, 0, none⟩ (.string ((rd_T72 l0_2 x5_3).f0))).setCell ⟨gb147, 1, none⟩ (.int .i64 ((rd_T72 l0_2 x5_3).f1))).setCell ⟨gb147, 2, none⟩ (.int .i64 ((rd_T72 l0_2 x5_3).f2)))) := ⟨by repeat with_reducible first | exact bl HB.out | refine below_set ?_ GE138.out | refine below_set ?_ GE147.out | refine bq ?_⟩
               (try clear BK138)
               (try clear BK147)
               (try clear HB)
               generalize (((w62.setCell ⟨gb147, 0, none⟩ (.string ((rd_T72 l0_2 x5_3).f0))).setCell ⟨gb147, 1, none⟩ (.int .i64 ((rd_T72 l0_2 x5_3).f1))).setCell ⟨gb147, 2, none⟩ (.int .i64 ((rd_T72 l0_2 x5_3).f2))) = w80 at n0_ n1_ n2_ ⊢
               have BK138 := n0_
               have BK147 := n1_
               have HB := n2_
               clear n0_ n1_ n2_
               have n0_ := Aside0.mk (blk_drew BK138.out)
               have n1_ := Aside0.mk (blk_drew BK147.out)
               have n2_ := Aside0.mk (below_drew1 HB.out)
               clear BK138
               clear BK147
               clear HB
               have BK138 := n0_
               have BK147 := n1_
               have HB := n2_
               clear n0_ n1_ n2_
               refine start_ (n := 35) (S := fun w' => w'.cell? ⟨gb147, 0, none⟩ = some (.string ((rd_T72 l0_2 x5_3).f0)) ∧ w'.cell? ⟨gb147, 1, none⟩ = some (.int .i64 ((rd_T72 l0_2 x5_3).f1)) ∧ w'.cell? ⟨gb147, 2, none⟩ = some (.int .i64 ((rd_T72 l0_2 x5_3).f2)) ∧ w'.cell? ⟨gb138, 0, none⟩ = some (.slice A0_0 l0_0.length c0_0) ∧ w'.cell? ⟨gb138, 1, none⟩ = some (.slice A0_1 l0_1.length c0_1) ∧ w'.cell? ⟨gb138, 2, none⟩ = some (.slice (some ad146) l0_2.length c0_2) ∧ w'.cell? ⟨gb138, 3, none⟩ = some (.int .i64 a0_3) ∧ w'.cell? ⟨gb138, 4, none⟩ = some (.int .i64 a0_4) ∧ w'.cell? ⟨gb138, 5, none⟩ = some (.int .i64 a0_5)) (ds := []) m0_35 (by kernel_rfl) rfl rfl ⟨ck BK147.out 0 rfl, ck BK147.out 1 rfl, ck BK147.out 2 rfl, ck BK138.out 0 rfl, ck BK138.out 1 rfl, ck BK138.out 2 rfl, ck BK138.out 3 rfl, ck BK138.out 4 rfl, ck BK138.out 5 rfl⟩ (fun hHeld => ?_); refine with_tabW spec_FleetOk.tab13 spec_FleetOk.bits13 (fun HT_ HW_ => ?_)
               generalize w80.drew = w81 at BK138 BK147 HB hHeld ⊢
               refine pp_ HT_.out 0 80 m1_35 rfl rfl (by kernel_rfl) (by rfl) (by intro w'; go_simp; with_reducible rfl) (by simp only [sp_]; rfl) (fun _ _ _ h => h) ?_
               refine tk_ HT_.out HW_.out 1 81 m2_35 rfl rfl (by kernel_rfl) (by rfl) (by rintro w' ⟨s0, s1, s2, s3, s4, s5, s6, s7, s8⟩; go_simp; with_reducible rfl) hHeld (by simp only [sp_]; rfl) (fun _ _ _ h => h) ?_
               refine one_ (i := 2) (N := some 82) m3_35 rfl rfl (one_of HT_.out (by kernel_rfl)) (by decide) (fun K hK => ?_)
               refine goes_ Try.func49 (by kernel_rfl) rfl #[.string ((rd_T72 l0_2 x5_3).f0)] (by rfl) rfl rfl (by (try simp only [am_]); first | done | rfl) ?_
               with_reducible refine (spec_l1Name.calls k3 ((rd_T72 l0_2 x5_3).f0) true _ A65.out).mono ?_
               rintro e w' ⟨rfl, ⟨nd, rfl⟩⟩
               refine ⟨_, rfl, ?_⟩
               refine hK.out _ _ ⟨ck BK147.out 0 rfl, ck BK147.out 1 rfl, ck BK147.out 2 rfl, ck BK138.out 0 rfl, ck BK138.out 1 rfl, ck BK138.out 2 rfl, ck BK138.out 3 rfl, ck BK138.out 4 rfl, ck BK138.out 5 rfl⟩ (fun hHeld => ?_)
               clear hK K
               refine norm_ (a' := ?_) ?_ ?_
               rotate_left
               ·
                show Act.put _ (some 82) _ = _
                simp only [sp_]
                rfl
               refine pp_ HT_.out 3 83 m4_35 rfl rfl (by kernel_rfl) (by rfl) (by intro w'; go_simp; with_reducible rfl) (by simp only [sp_]; rfl) (fun _ _ _ h => h) ?_
               refine pp_ HT_.out 4 84 m5_35 rfl rfl (by kernel_rfl) (by rfl) (by intro w'; go_simp; with_reducible rfl) (by simp only [sp_]; rfl) (fun _ _ _ h => h) ?_
               refine pp_ HT_.out 5 85 m6_35 rfl rfl (by kernel_rfl) (by rfl) (by intro w'; go_simp; with_reducible rfl) (by simp only [sp_]; rfl) (fun _ _ _ h => h) ?_
               refine tk_ HT_.out HW_.out 6 86 m7_35 rfl rfl (by kernel_rfl) (by rfl) (by rintro w' ⟨s0, s1, s2, s3, s4, s5, s6, s7, s8⟩; go_simp; with_reducible rfl) hHeld (by simp only [sp_]; rfl) (fun _ _ _ h => h) ?_
               refine one_ (i := 7) (N := some 87) m8_35 rfl rfl (one_of HT_.out (by kernel_rfl)) (by decide) (fun K hK => ?_)
               refine goes_ Try.func46 (by kernel_rfl) rfl #[.int .i64 ((rd_T72 l0_2 x5_3).f1), .int .i64 1, .int .i64 1000000] (by rfl) rfl rfl (by (try simp only [am_]); first | done | rfl) ?_
               with_reducible refine (spec_l1In.calls ((rd_T72 l0_2 x5_3).f1) 1 1000000 true _ A67.out).mono ?_
               rintro e w' ⟨rfl, ⟨nd, rfl⟩⟩
               refine ⟨_, rfl, ?_⟩
               refine hK.out _ _ ⟨ck BK147.out 0 rfl, ck BK147.out 1 rfl, ck BK147.out 2 rfl, ck BK138.out 0 rfl, ck BK138.out 1 rfl, ck BK138.out 2 rfl, ck BK138.out 3 rfl, ck BK138.out 4 rfl, ck BK138.out 5 rfl⟩ (fun hHeld => ?_)
               clear hK K
               refine norm_ (a' := ?_) ?_ ?_
               rotate_left
               ·
                show Act.put _ (some 87) _ = _
                simp only [sp_]
                rfl
               refine pp_ HT_.out 8 88 m9_35 rfl rfl (by kernel_rfl) (by rfl) (by intro w'; go_simp; with_reducible rfl) (by simp only [sp_]; rfl) (fun _ _ _ h => h) ?_
               refine pp_ HT_.out 9 89 m10_35 rfl rfl (by kernel_rfl) (by rfl) (by intro w'; go_simp; with_reducible rfl) (by simp only [sp_]; rfl) (fun _ _ _ h => h) ?_
               refine pp_ HT_.out 10 90 m11_35 rfl rfl (by kernel_rfl) (by rfl) (by intro w'; go_simp; with_reducible rfl) (by simp only [sp_]; rfl) (fun _ _ _ h => h) ?_
               refine pp_ HT_.out 11 91 m12_35 rfl rfl (by kernel_rfl) (by rfl) (by intro w'; go_simp; with_reducible rfl) (by simp only [sp_]; rfl) (fun _ _ _ h => h) ?_
               refine pp_ HT_.out 12 92 m13_35 rfl rfl (by kernel_rfl) (by rfl) (by intro w'; go_simp; with_reducible rfl) (by simp only [sp_]; rfl) (fun _ _ _ h => h) ?_
               refine pp_ HT_.out 13 93 m14_35 rfl rfl (by kernel_rfl) (by rfl) (by intro w'; go_simp; with_reducible rfl) (by simp only [sp_]; rfl) (fun _ _ _ h => h) ?_
               refine pu_ HT_.out 14 94 m15_35 rfl rfl (by kernel_rfl) (by rfl) (by simp only [sp_]; rfl) (fun _ _ _ h => h) ?_
               refine pu_ HT_.out 15 95 m16_35 rfl rfl (by kernel_rfl) (by rfl) (by simp only [sp_]; rfl) (fun _ _ _ h => h) ?_
               refine pu_ HT_.out 16 96 m17_35 rfl rfl (by kernel_rfl) (by rfl) (by simp only [sp_]; rfl) (fun _ _ _ h => h) ?_
               refine pu_ HT_.out 17 97 m18_35 rfl rfl (by kernel_rfl) (by rfl) (by simp only [sp_]; rfl) (fun _ _ _ h => h) ?_
               refine pu_ HT_.out 18 98 m19_35 rfl rfl (by kernel_rfl) (by rfl) (by simp only [sp_]; rfl) (fun _ _ _ h => h) ?_
               refine pu_ HT_.out 19 99 m20_35 rfl rfl (by kernel_rfl) (by rfl) (by simp only [sp_]; rfl) (fun _ _ _ h => h) ?_
               refine pu_ HT_.out 20 100 m21_35 rfl rfl (by kernel_rfl) (by rfl) (by simp only [sp_]; rfl) (fun _ _ _ h => h) ?_
               refine pu_ HT_.out 21 101 m22_35 rfl rfl (by kernel_rfl) (by rfl) (by simp only [sp_]; rfl) (fun _ _ _ h => h) ?_
               refine pu_ HT_.out 22 102 m23_35 rfl rfl (by kernel_rfl) (by rfl) (by simp only [sp_]; rfl) (fun _ _ _ h => h) ?_
               refine pu_ HT_.out 23 103 m24_35 rfl rfl (by kernel_rfl) (by rfl) (by simp only [sp_]; rfl) (fun _ _ _ h => h) ?_
               refine pp_ HT_.out 24 104 m25_35 rfl rfl (by kernel_rfl) (by rfl) (by intro w'; go_simp; with_reducible rfl) (by simp only [sp_]; rfl) (fun _ _ _ h => h) ?_
               refine pp_ HT_.out 25 105 m26_35 rfl rfl (by kernel_rfl) (by rfl) (by intro w'; go_simp; with_reducible rfl) (by simp only [sp_]; rfl) (fun _ _ _ h => h) ?_
               refine pp_ HT_.out 26 106 m27_35 rfl rfl (by kernel_rfl) (by rfl) (by intro w'; go_simp; with_reducible rfl) (by simp only [sp_]; rfl) (fun _ _ _ h => h) ?_
               refine pp_ HT_.out 27 107 m28_35 rfl rfl (by kernel_rfl) (by rfl) (by intro w'; go_simp; with_reducible rfl) (by simp only [sp_]; rfl) (fun _ _ _ h => h) ?_
               refine pp_ HT_.out 29 109 n74 rfl rfl (by kernel_rfl) (by rfl) (by intro w'; go_simp; with_reducible rfl) (by simp only [sp_]; rfl) (fun _ _ _ h => h) ?_
               refine pp_ HT_.out 30 110 n75 rfl rfl (by kernel_rfl) (by rfl) (by intro w'; go_simp; with_reducible rfl) (by simp only [sp_]; rfl) (fun _ _ _ h => h) ?_
               refine tk_ HT_.out HW_.out 28 108 m31_35 rfl rfl (by kernel_rfl) (by rfl) (by rintro w' ⟨s0, s1, s2, s3, s4, s5, s6, s7, s8⟩; go_simp; with_reducible rfl) hHeld (by simp only [sp_]; rfl) (fun _ _ _ h => h) ?_
               refine tk_ HT_.out HW_.out 31 111 m32_35 rfl rfl (by kernel_rfl) (by rfl) (by rintro w' ⟨s0, s1, s2, s3, s4, s5, s6, s7, s8⟩; go_simp; with_reducible rfl) hHeld (by simp only [sp_]; rfl) (fun _ _ _ h => h) ?_
               refine one_ (i := 32) (N := some 112) m33_35 rfl rfl (one_of HT_.out (by kernel_rfl)) (by decide) (fun K hK => ?_)
               refine goes_ Try.func46 (by kernel_rfl) rfl #[.int .i64 ((rd_T72 l0_2 x5_3).f2), .int .i64 0, .int .i64 a0_5] (by rfl) rfl rfl (by (try simp only [am_]); first | done | rfl) ?_
               with_reducible refine (spec_l1In.calls ((rd_T72 l0_2 x5_3).f2) 0 a0_5 t152 _ A79.out).mono ?_
               rintro e w' ⟨rfl, ⟨nd, rfl⟩⟩
               refine ⟨_, rfl, ?_⟩
               refine hK.out _ _ ⟨ck BK147.out 0 rfl, ck BK147.out 1 rfl, ck BK147.out 2 rfl, ck BK138.out 0 rfl, ck BK138.out 1 rfl, ck BK138.out 2 rfl, ck BK138.out 3 rfl, ck BK138.out 4 rfl, ck BK138.out 5 rfl⟩ (fun hHeld => ?_)
               clear hK K
               refine norm_ (a' := ?_) ?_ ?_
               rotate_left
               ·
                show Act.put _ (some 112) _ = _
                simp only [sp_]
                rfl
               refine pp_ HT_.out 33 113 m34_35 rfl rfl (by kernel_rfl) (by rfl) (by intro w'; go_simp; with_reducible rfl) (by simp only [sp_]; rfl) (fun _ _ _ h => h) ?_
               refine pp_ HT_.out 34 114 m35_35 rfl rfl (by kernel_rfl) (by rfl) (by intro w'; go_simp; with_reducible rfl) (by simp only [sp_]; rfl) (fun _ _ _ h => h) ?_
               refine done_ (done_of HT_.out (by kernel_rfl)) ?_
               try go_wp2
               go_meet
               case rel => exact ⟨_, (!t152), (by first | rfl | (simp; done) | (simp [*]; done)), H', ⟨by have := HJ1.out; have := HK2.out; have := HK3.out; first | omega | exact Nat.le_refl _⟩, ⟨bk BK138.out⟩, ⟨bk BK147.out⟩, ⟨by repeat with_reducible first | exact bl HB.out | refine below_set ?_ GE138.out | refine below_set ?_ GE147.out | refine bq ?_⟩⟩
             ·
              replace c68 := Bool.eq_false_iff.mpr c68
              subst c68
              have H1 : (spec_FleetOk.j4 k3 x5_3 true l0_0 l0_1 l0_2 a0_3 a0_4 a0_5) = some r := by rw [if_neg (show ¬ (false = true) by decide)] at H; exact H
              clear H
              have H := H1
              clear H1
              have H' := Aside0.mk H
              clear H
              try go_wp2
              have n0_ : Aside0 ((((w62.setCell ⟨gb147, 0, none⟩ (.string ((rd_T72 l0_2 x5_3).f0))).setCell ⟨gb147, 1, none⟩ (.int .i64 ((rd_T72 l0_2 x5_3).f1))).setCell ⟨gb147, 2, none⟩ (.int .i64 ((rd_T72 l0_2 x5_3).f2))).heap[gb138]? = some (.cells #[.slice A0_0 l0_0.length c0_0, .slice A0_1 l0_1.length c0_1, .slice (some ad146) l0_2.length c0_2, .int .i64 a0_3, .int .i64 a0_4, .int .i64 a0_5] 56 (0, 0))) := ⟨by (repeat refine bk1 ?_); refine blk_far ?_ NB138_147.out _; (repeat refine bk1 ?_); refine blk_far ?_ NB138_147.out _; (repeat refine bk1 ?_); refine blk_far ?_ NB138_147.out _; (repeat refine bk1 ?_); exact BK138.out⟩
              have n1_ : Aside0 ((((w62.setCell ⟨gb147, 0, none⟩ (.string ((rd_T72 l0_2 x5_3).f0))).setCell ⟨gb147, 1, none⟩ (.int .i64 ((rd_T72 l0_2 x5_3).f1))).setCell ⟨gb147, 2, none⟩ (.int .i64 ((rd_T72 l0_2 x5_3).f2))).heap[gb147]? = some (.cells #[.string ((rd_T72 l0_2 x5_3).f0), .int .i64 ((rd_T72 l0_2 x5_3).f1), .int .i64 ((rd_T72 l0_2 x5_3).f2)] 72 (0, 0))) := ⟨by (repeat refine bk1 ?_); refine blk_put (cs := #[.string ((rd_T72 l0_2 x5_3).f0), .int .i64 ((rd_T72 l0_2 x5_3).f1), .int .i64 0]) ?_ 2 _ rfl; (repeat refine bk1 ?_); refine blk_put (cs := #[.string ((rd_T72 l0_2 x5_3).f0), .int .i64 0, .int .i64 0]) ?_ 1 _ rfl; (repeat refine bk1 ?_); refine blk_put (cs := #[.string (⟨#[]⟩ : ByteArray), .int .i64 0, .int .i64 0]) ?_ 0 _ rfl; (repeat refine bk1 ?_); exact BK147.out⟩
              have n2_ : Aside0 (Below w.heap.size w (((w62.setCell ⟨gb147, 0, none⟩ (.string ((rd_T72 l0_2 x5_3).f0))).setCell ⟨gb147, 1, none⟩ (.int .i64 ((rd_T72 l0_2 x5_3).f1))).setCell ⟨gb147, 2, none⟩ (.int .i64 ((rd_T72 l0_2 x5_3).f2)))) := ⟨by repeat with_reducible first | exact bl HB.out | refine below_set ?_ GE138.out | refine below_set ?_ GE147.out | refine bq ?_⟩
              (try clear BK138)
              (try clear BK147)
              (try clear HB)
              generalize (((w62.setCell ⟨gb147, 0, none⟩ (.string ((rd_T72 l0_2 x5_3).f0))).setCell ⟨gb147, 1, none⟩ (.int .i64 ((rd_T72 l0_2 x5_3).f1))).setCell ⟨gb147, 2, none⟩ (.int .i64 ((rd_T72 l0_2 x5_3).f2))) = w82 at n0_ n1_ n2_ ⊢
              have BK138 := n0_
              have BK147 := n1_
              have HB := n2_
              clear n0_ n1_ n2_
              have n0_ := Aside0.mk (blk_drew BK138.out)
              have n1_ := Aside0.mk (blk_drew BK147.out)
              have n2_ := Aside0.mk (below_drew1 HB.out)
              clear BK138
              clear BK147
              clear HB
              have BK138 := n0_
              have BK147 := n1_
              have HB := n2_
              clear n0_ n1_ n2_
              refine start_ (n := 35) (S := fun w' => w'.cell? ⟨gb147, 0, none⟩ = some (.string ((rd_T72 l0_2 x5_3).f0)) ∧ w'.cell? ⟨gb147, 1, none⟩ = some (.int .i64 ((rd_T72 l0_2 x5_3).f1)) ∧ w'.cell? ⟨gb147, 2, none⟩ = some (.int .i64 ((rd_T72 l0_2 x5_3).f2))) (ds := []) m0_35 (by kernel_rfl) rfl rfl ⟨ck BK147.out 0 rfl, ck BK147.out 1 rfl, ck BK147.out 2 rfl⟩ (fun hHeld => ?_); refine with_tabW spec_FleetOk.tab13 spec_FleetOk.bits13 (fun HT_ HW_ => ?_)
              generalize w82.drew = w83 at BK138 BK147 HB hHeld ⊢
              refine pp_ HT_.out 0 80 m1_35 rfl rfl (by kernel_rfl) (by rfl) (by intro w'; go_simp; with_reducible rfl) (by simp only [sp_]; rfl) (fun _ _ _ h => h) ?_
              refine tk_ HT_.out HW_.out 1 81 m2_35 rfl rfl (by kernel_rfl) (by rfl) (by rintro w' ⟨s0, s1, s2⟩; go_simp; with_reducible rfl) hHeld (by simp only [sp_]; rfl) (fun _ _ _ h => h) ?_
              refine one_ (i := 2) (N := some 82) m3_35 rfl rfl (one_of HT_.out (by kernel_rfl)) (by decide) (fun K hK => ?_)
              refine goes_ Try.func49 (by kernel_rfl) rfl #[.string ((rd_T72 l0_2 x5_3).f0)] (by rfl) rfl rfl (by (try simp only [am_]); first | done | rfl) ?_
              with_reducible refine (spec_l1Name.calls k3 ((rd_T72 l0_2 x5_3).f0) true _ A65.out).mono ?_
              rintro e w' ⟨rfl, ⟨nd, rfl⟩⟩
              refine ⟨_, rfl, ?_⟩
              refine hK.out _ _ ⟨ck BK147.out 0 rfl, ck BK147.out 1 rfl, ck BK147.out 2 rfl⟩ (fun hHeld => ?_)
              clear hK K
              refine norm_ (a' := ?_) ?_ ?_
              rotate_left
              ·
               show Act.put _ (some 82) _ = _
               simp only [sp_]
               rfl
              refine pp_ HT_.out 3 83 m4_35 rfl rfl (by kernel_rfl) (by rfl) (by intro w'; go_simp; with_reducible rfl) (by simp only [sp_]; rfl) (fun _ _ _ h => h) ?_
              refine pp_ HT_.out 4 84 m5_35 rfl rfl (by kernel_rfl) (by rfl) (by intro w'; go_simp; with_reducible rfl) (by simp only [sp_]; rfl) (fun _ _ _ h => h) ?_
              refine pp_ HT_.out 5 85 m6_35 rfl rfl (by kernel_rfl) (by rfl) (by intro w'; go_simp; with_reducible rfl) (by simp only [sp_]; rfl) (fun _ _ _ h => h) ?_
              refine tk_ HT_.out HW_.out 6 86 m7_35 rfl rfl (by kernel_rfl) (by rfl) (by rintro w' ⟨s0, s1, s2⟩; go_simp; with_reducible rfl) hHeld (by simp only [sp_]; rfl) (fun _ _ _ h => h) ?_
              refine one_ (i := 7) (N := some 87) m8_35 rfl rfl (one_of HT_.out (by kernel_rfl)) (by decide) (fun K hK => ?_)
              refine goes_ Try.func46 (by kernel_rfl) rfl #[.int .i64 ((rd_T72 l0_2 x5_3).f1), .int .i64 1, .int .i64 1000000] (by rfl) rfl rfl (by (try simp only [am_]); first | done | rfl) ?_
              with_reducible refine (spec_l1In.calls ((rd_T72 l0_2 x5_3).f1) 1 1000000 false _ A67.out).mono ?_
              rintro e w' ⟨rfl, ⟨nd, rfl⟩⟩
              refine ⟨_, rfl, ?_⟩
              refine hK.out _ _ ⟨ck BK147.out 0 rfl, ck BK147.out 1 rfl, ck BK147.out 2 rfl⟩ (fun hHeld => ?_)
              clear hK K
              refine norm_ (a' := ?_) ?_ ?_
              rotate_left
              ·
               show Act.put _ (some 87) _ = _
               simp only [sp_]
               rfl
              refine pp_ HT_.out 8 88 m9_35 rfl rfl (by kernel_rfl) (by rfl) (by intro w'; go_simp; with_reducible rfl) (by simp only [sp_]; rfl) (fun _ _ _ h => h) ?_
              refine pp_ HT_.out 9 89 m10_35 rfl rfl (by kernel_rfl) (by rfl) (by intro w'; go_simp; with_reducible rfl) (by simp only [sp_]; rfl) (fun _ _ _ h => h) ?_
              refine pp_ HT_.out 10 90 m11_35 rfl rfl (by kernel_rfl) (by rfl) (by intro w'; go_simp; with_reducible rfl) (by simp only [sp_]; rfl) (fun _ _ _ h => h) ?_
              refine pu_ HT_.out 11 91 m12_35 rfl rfl (by kernel_rfl) (by rfl) (by simp only [sp_]; rfl) (fun _ _ _ h => h) ?_
              refine pu_ HT_.out 12 92 m13_35 rfl rfl (by kernel_rfl) (by rfl) (by simp only [sp_]; rfl) (fun _ _ _ h => h) ?_
              refine pu_ HT_.out 13 93 m14_35 rfl rfl (by kernel_rfl) (by rfl) (by simp only [sp_]; rfl) (fun _ _ _ h => h) ?_
              refine pu_ HT_.out 14 94 m15_35 rfl rfl (by kernel_rfl) (by rfl) (by simp only [sp_]; rfl) (fun _ _ _ h => h) ?_
              refine pu_ HT_.out 15 95 m16_35 rfl rfl (by kernel_rfl) (by rfl) (by simp only [sp_]; rfl) (fun _ _ _ h => h) ?_
              refine pu_ HT_.out 16 96 m17_35 rfl rfl (by kernel_rfl) (by rfl) (by simp only [sp_]; rfl) (fun _ _ _ h => h) ?_
              refine pu_ HT_.out 17 97 m18_35 rfl rfl (by kernel_rfl) (by rfl) (by simp only [sp_]; rfl) (fun _ _ _ h => h) ?_
              refine pu_ HT_.out 18 98 m19_35 rfl rfl (by kernel_rfl) (by rfl) (by simp only [sp_]; rfl) (fun _ _ _ h => h) ?_
              refine pu_ HT_.out 19 99 m20_35 rfl rfl (by kernel_rfl) (by rfl) (by simp only [sp_]; rfl) (fun _ _ _ h => h) ?_
              refine pu_ HT_.out 20 100 m21_35 rfl rfl (by kernel_rfl) (by rfl) (by simp only [sp_]; rfl) (fun _ _ _ h => h) ?_
              refine pu_ HT_.out 21 101 m22_35 rfl rfl (by kernel_rfl) (by rfl) (by simp only [sp_]; rfl) (fun _ _ _ h => h) ?_
              refine pu_ HT_.out 22 102 m23_35 rfl rfl (by kernel_rfl) (by rfl) (by simp only [sp_]; rfl) (fun _ _ _ h => h) ?_
              refine pu_ HT_.out 23 103 m24_35 rfl rfl (by kernel_rfl) (by rfl) (by simp only [sp_]; rfl) (fun _ _ _ h => h) ?_
              refine pu_ HT_.out 24 104 m25_35 rfl rfl (by kernel_rfl) (by rfl) (by simp only [sp_]; rfl) (fun _ _ _ h => h) ?_
              refine pp_ HT_.out 25 105 m26_35 rfl rfl (by kernel_rfl) (by rfl) (by intro w'; go_simp; with_reducible rfl) (by simp only [sp_]; rfl) (fun _ _ _ h => h) ?_
              refine pp_ HT_.out 26 106 m27_35 rfl rfl (by kernel_rfl) (by rfl) (by intro w'; go_simp; with_reducible rfl) (by simp only [sp_]; rfl) (fun _ _ _ h => h) ?_
              refine pu_ HT_.out 27 107 m28_35 rfl rfl (by kernel_rfl) (by rfl) (by simp only [sp_]; rfl) (fun _ _ _ h => h) ?_
              refine pu_ HT_.out 28 108 m29_35 rfl rfl (by kernel_rfl) (by rfl) (by simp only [sp_]; rfl) (fun _ _ _ h => h) ?_
              refine pu_ HT_.out 29 109 m30_35 rfl rfl (by kernel_rfl) (by rfl) (by simp only [sp_]; rfl) (fun _ _ _ h => h) ?_
              refine pu_ HT_.out 30 110 m31_35 rfl rfl (by kernel_rfl) (by rfl) (by simp only [sp_]; rfl) (fun _ _ _ h => h) ?_
              refine pu_ HT_.out 31 111 m32_35 rfl rfl (by kernel_rfl) (by rfl) (by simp only [sp_]; rfl) (fun _ _ _ h => h) ?_
              refine pu_ HT_.out 32 112 m33_35 rfl rfl (by kernel_rfl) (by rfl) (by simp only [sp_]; rfl) (fun _ _ _ h => h) ?_
              refine pu_ HT_.out 33 113 m34_35 rfl rfl (by kernel_rfl) (by rfl) (by simp only [sp_]; rfl) (fun _ _ _ h => h) ?_
              refine pp_ HT_.out 34 114 m35_35 rfl rfl (by kernel_rfl) (by rfl) (by intro w'; go_simp; with_reducible rfl) (by simp only [sp_]; rfl) (fun _ _ _ h => h) ?_
              refine done_ (done_of HT_.out (by kernel_rfl)) ?_
              try go_wp2
              go_meet
              case rel => exact ⟨_, (true), (by first | rfl | (simp; done) | (simp [*]; done)), H', ⟨by have := HJ1.out; have := HK2.out; have := HK3.out; first | omega | exact Nat.le_refl _⟩, ⟨bk BK138.out⟩, ⟨bk BK147.out⟩, ⟨by repeat with_reducible first | exact bl HB.out | refine below_set ?_ GE138.out | refine below_set ?_ GE147.out | refine bq ?_⟩⟩
            ·
             replace c66 := Bool.eq_false_iff.mpr c66
             subst c66
             have H1 : (spec_FleetOk.j4 k3 x5_3 true l0_0 l0_1 l0_2 a0_3 a0_4 a0_5) = some r := by rw [if_neg (show ¬ (false = true) by decide)] at H; exact H
             clear H
             have H := H1
             clear H1
             have H' := Aside0.mk H
             clear H
             try go_wp2
             have n0_ : Aside0 ((((w62.setCell ⟨gb147, 0, none⟩ (.string ((rd_T72 l0_2 x5_3).f0))).setCell ⟨gb147, 1, none⟩ (.int .i64 ((rd_T72 l0_2 x5_3).f1))).setCell ⟨gb147, 2, none⟩ (.int .i64 ((rd_T72 l0_2 x5_3).f2))).heap[gb138]? = some (.cells #[.slice A0_0 l0_0.length c0_0, .slice A0_1 l0_1.length c0_1, .slice (some ad146) l0_2.length c0_2, .int .i64 a0_3, .int .i64 a0_4, .int .i64 a0_5] 56 (0, 0))) := ⟨by (repeat refine bk1 ?_); refine blk_far ?_ NB138_147.out _; (repeat refine bk1 ?_); refine blk_far ?_ NB138_147.out _; (repeat refine bk1 ?_); refine blk_far ?_ NB138_147.out _; (repeat refine bk1 ?_); exact BK138.out⟩
             have n1_ : Aside0 ((((w62.setCell ⟨gb147, 0, none⟩ (.string ((rd_T72 l0_2 x5_3).f0))).setCell ⟨gb147, 1, none⟩ (.int .i64 ((rd_T72 l0_2 x5_3).f1))).setCell ⟨gb147, 2, none⟩ (.int .i64 ((rd_T72 l0_2 x5_3).f2))).heap[gb147]? = some (.cells #[.string ((rd_T72 l0_2 x5_3).f0), .int .i64 ((rd_T72 l0_2 x5_3).f1), .int .i64 ((rd_T72 l0_2 x5_3).f2)] 72 (0, 0))) := ⟨by (repeat refine bk1 ?_); refine blk_put (cs := #[.string ((rd_T72 l0_2 x5_3).f0), .int .i64 ((rd_T72 l0_2 x5_3).f1), .int .i64 0]) ?_ 2 _ rfl; (repeat refine bk1 ?_); refine blk_put (cs := #[.string ((rd_T72 l0_2 x5_3).f0), .int .i64 0, .int .i64 0]) ?_ 1 _ rfl; (repeat refine bk1 ?_); refine blk_put (cs := #[.string (⟨#[]⟩ : ByteArray), .int .i64 0, .int .i64 0]) ?_ 0 _ rfl; (repeat refine bk1 ?_); exact BK147.out⟩
             have n2_ : Aside0 (Below w.heap.size w (((w62.setCell ⟨gb147, 0, none⟩ (.string ((rd_T72 l0_2 x5_3).f0))).setCell ⟨gb147, 1, none⟩ (.int .i64 ((rd_T72 l0_2 x5_3).f1))).setCell ⟨gb147, 2, none⟩ (.int .i64 ((rd_T72 l0_2 x5_3).f2)))) := ⟨by repeat with_reducible first | exact bl HB.out | refine below_set ?_ GE138.out | refine below_set ?_ GE147.out | refine bq ?_⟩
             (try clear BK138)
             (try clear BK147)
             (try clear HB)
             generalize (((w62.setCell ⟨gb147, 0, none⟩ (.string ((rd_T72 l0_2 x5_3).f0))).setCell ⟨gb147, 1, none⟩ (.int .i64 ((rd_T72 l0_2 x5_3).f1))).setCell ⟨gb147, 2, none⟩ (.int .i64 ((rd_T72 l0_2 x5_3).f2))) = w84 at n0_ n1_ n2_ ⊢
             have BK138 := n0_
             have BK147 := n1_
             have HB := n2_
             clear n0_ n1_ n2_
             have n0_ := Aside0.mk (blk_drew BK138.out)
             have n1_ := Aside0.mk (blk_drew BK147.out)
             have n2_ := Aside0.mk (below_drew1 HB.out)
             clear BK138
             clear BK147
             clear HB
             have BK138 := n0_
             have BK147 := n1_
             have HB := n2_
             clear n0_ n1_ n2_
             refine start_ (n := 35) (S := fun w' => w'.cell? ⟨gb147, 0, none⟩ = some (.string ((rd_T72 l0_2 x5_3).f0)) ∧ w'.cell? ⟨gb147, 1, none⟩ = some (.int .i64 ((rd_T72 l0_2 x5_3).f1)) ∧ w'.cell? ⟨gb147, 2, none⟩ = some (.int .i64 ((rd_T72 l0_2 x5_3).f2))) (ds := []) m0_35 (by kernel_rfl) rfl rfl ⟨ck BK147.out 0 rfl, ck BK147.out 1 rfl, ck BK147.out 2 rfl⟩ (fun hHeld => ?_); refine with_tabW spec_FleetOk.tab13 spec_FleetOk.bits13 (fun HT_ HW_ => ?_)
             generalize w84.drew = w85 at BK138 BK147 HB hHeld ⊢
             refine pp_ HT_.out 0 80 m1_35 rfl rfl (by kernel_rfl) (by rfl) (by intro w'; go_simp; with_reducible rfl) (by simp only [sp_]; rfl) (fun _ _ _ h => h) ?_
             refine tk_ HT_.out HW_.out 1 81 m2_35 rfl rfl (by kernel_rfl) (by rfl) (by rintro w' ⟨s0, s1, s2⟩; go_simp; with_reducible rfl) hHeld (by simp only [sp_]; rfl) (fun _ _ _ h => h) ?_
             refine one_ (i := 2) (N := some 82) m3_35 rfl rfl (one_of HT_.out (by kernel_rfl)) (by decide) (fun K hK => ?_)
             refine goes_ Try.func49 (by kernel_rfl) rfl #[.string ((rd_T72 l0_2 x5_3).f0)] (by rfl) rfl rfl (by (try simp only [am_]); first | done | rfl) ?_
             with_reducible refine (spec_l1Name.calls k3 ((rd_T72 l0_2 x5_3).f0) false _ A65.out).mono ?_
             rintro e w' ⟨rfl, ⟨nd, rfl⟩⟩
             refine ⟨_, rfl, ?_⟩
             refine hK.out _ _ ⟨ck BK147.out 0 rfl, ck BK147.out 1 rfl, ck BK147.out 2 rfl⟩ (fun hHeld => ?_)
             clear hK K
             refine norm_ (a' := ?_) ?_ ?_
             rotate_left
             ·
              show Act.put _ (some 82) _ = _
              simp only [sp_]
              rfl
             refine pp_ HT_.out 3 83 m4_35 rfl rfl (by kernel_rfl) (by rfl) (by intro w'; go_simp; with_reducible rfl) (by simp only [sp_]; rfl) (fun _ _ _ h => h) ?_
             refine pp_ HT_.out 4 84 m5_35 rfl rfl (by kernel_rfl) (by rfl) (by intro w'; go_simp; with_reducible rfl) (by simp only [sp_]; rfl) (fun _ _ _ h => h) ?_
             refine pu_ HT_.out 5 85 m6_35 rfl rfl (by kernel_rfl) (by rfl) (by simp only [sp_]; rfl) (fun _ _ _ h => h) ?_
             refine pu_ HT_.out 6 86 m7_35 rfl rfl (by kernel_rfl) (by rfl) (by simp only [sp_]; rfl) (fun _ _ _ h => h) ?_
             refine pu_ HT_.out 7 87 m8_35 rfl rfl (by kernel_rfl) (by rfl) (by simp only [sp_]; rfl) (fun _ _ _ h => h) ?_
             refine pu_ HT_.out 8 88 m9_35 rfl rfl (by kernel_rfl) (by rfl) (by simp only [sp_]; rfl) (fun _ _ _ h => h) ?_
             refine pp_ HT_.out 9 89 m10_35 rfl rfl (by kernel_rfl) (by rfl) (by intro w'; go_simp; with_reducible rfl) (by simp only [sp_]; rfl) (fun _ _ _ h => h) ?_
             refine pp_ HT_.out 10 90 m11_35 rfl rfl (by kernel_rfl) (by rfl) (by intro w'; go_simp; with_reducible rfl) (by simp only [sp_]; rfl) (fun _ _ _ h => h) ?_
             refine pu_ HT_.out 11 91 m12_35 rfl rfl (by kernel_rfl) (by rfl) (by simp only [sp_]; rfl) (fun _ _ _ h => h) ?_
             refine pu_ HT_.out 12 92 m13_35 rfl rfl (by kernel_rfl) (by rfl) (by simp only [sp_]; rfl) (fun _ _ _ h => h) ?_
             refine pu_ HT_.out 13 93 m14_35 rfl rfl (by kernel_rfl) (by rfl) (by simp only [sp_]; rfl) (fun _ _ _ h => h) ?_
             refine pu_ HT_.out 14 94 m15_35 rfl rfl (by kernel_rfl) (by rfl) (by simp only [sp_]; rfl) (fun _ _ _ h => h) ?_
             refine pu_ HT_.out 15 95 m16_35 rfl rfl (by kernel_rfl) (by rfl) (by simp only [sp_]; rfl) (fun _ _ _ h => h) ?_
             refine pu_ HT_.out 16 96 m17_35 rfl rfl (by kernel_rfl) (by rfl) (by simp only [sp_]; rfl) (fun _ _ _ h => h) ?_
             refine pu_ HT_.out 17 97 m18_35 rfl rfl (by kernel_rfl) (by rfl) (by simp only [sp_]; rfl) (fun _ _ _ h => h) ?_
             refine pu_ HT_.out 18 98 m19_35 rfl rfl (by kernel_rfl) (by rfl) (by simp only [sp_]; rfl) (fun _ _ _ h => h) ?_
             refine pu_ HT_.out 19 99 m20_35 rfl rfl (by kernel_rfl) (by rfl) (by simp only [sp_]; rfl) (fun _ _ _ h => h) ?_
             refine pu_ HT_.out 20 100 m21_35 rfl rfl (by kernel_rfl) (by rfl) (by simp only [sp_]; rfl) (fun _ _ _ h => h) ?_
             refine pu_ HT_.out 21 101 m22_35 rfl rfl (by kernel_rfl) (by rfl) (by simp only [sp_]; rfl) (fun _ _ _ h => h) ?_
             refine pu_ HT_.out 22 102 m23_35 rfl rfl (by kernel_rfl) (by rfl) (by simp only [sp_]; rfl) (fun _ _ _ h => h) ?_
             refine pu_ HT_.out 23 103 m24_35 rfl rfl (by kernel_rfl) (by rfl) (by simp only [sp_]; rfl) (fun _ _ _ h => h) ?_
             refine pu_ HT_.out 24 104 m25_35 rfl rfl (by kernel_rfl) (by rfl) (by simp only [sp_]; rfl) (fun _ _ _ h => h) ?_
             refine pp_ HT_.out 25 105 m26_35 rfl rfl (by kernel_rfl) (by rfl) (by intro w'; go_simp; with_reducible rfl) (by simp only [sp_]; rfl) (fun _ _ _ h => h) ?_
             refine pp_ HT_.out 26 106 m27_35 rfl rfl (by kernel_rfl) (by rfl) (by intro w'; go_simp; with_reducible rfl) (by simp only [sp_]; rfl) (fun _ _ _ h => h) ?_
             refine pu_ HT_.out 27 107 m28_35 rfl rfl (by kernel_rfl) (by rfl) (by simp only [sp_]; rfl) (fun _ _ _ h => h) ?_
             refine pu_ HT_.out 28 108 m29_35 rfl rfl (by kernel_rfl) (by rfl) (by simp only [sp_]; rfl) (fun _ _ _ h => h) ?_
             refine pu_ HT_.out 29 109 m30_35 rfl rfl (by kernel_rfl) (by rfl) (by simp only [sp_]; rfl) (fun _ _ _ h => h) ?_
             refine pu_ HT_.out 30 110 m31_35 rfl rfl (by kernel_rfl) (by rfl) (by simp only [sp_]; rfl) (fun _ _ _ h => h) ?_
             refine pu_ HT_.out 31 111 m32_35 rfl rfl (by kernel_rfl) (by rfl) (by simp only [sp_]; rfl) (fun _ _ _ h => h) ?_
             refine pu_ HT_.out 32 112 m33_35 rfl rfl (by kernel_rfl) (by rfl) (by simp only [sp_]; rfl) (fun _ _ _ h => h) ?_
             refine pu_ HT_.out 33 113 m34_35 rfl rfl (by kernel_rfl) (by rfl) (by simp only [sp_]; rfl) (fun _ _ _ h => h) ?_
             refine pp_ HT_.out 34 114 m35_35 rfl rfl (by kernel_rfl) (by rfl) (by intro w'; go_simp; with_reducible rfl) (by simp only [sp_]; rfl) (fun _ _ _ h => h) ?_
             refine done_ (done_of HT_.out (by kernel_rfl)) ?_
             try go_wp2
             go_meet
             case rel => exact ⟨_, (true), (by first | rfl | (simp; done) | (simp [*]; done)), H', ⟨by have := HJ1.out; have := HK2.out; have := HK3.out; first | omega | exact Nat.le_refl _⟩, ⟨bk BK138.out⟩, ⟨bk BK147.out⟩, ⟨by repeat with_reducible first | exact bl HB.out | refine below_set ?_ GE138.out | refine below_set ?_ GE147.out | refine bq ?_⟩⟩
           case rest =>
            clear HC60
            try clear p2
            try clear c4
            try clear c6
            try clear c46
            try clear c49
            try clear c66
            try clear c68
            obtain ⟨kq, x114_59, rfl, HA, HJ59, BK138, BK147, HB⟩ := hcut
            cases kq with
            | zero => exact absurd HA.out (by simp [spec_FleetOk.j4])
            | succ kj59 =>
             have H := HA.out
             clear HA
             simp only [spec_FleetOk.j4] at H
             by_cases c86 : x114_59 = true
             ·
              subst c86
              have H1 : (some false) = some r := by rw [if_pos rfl] at H; exact H
              clear H
              have H := H1
              clear H1
              obtain rfl := Option.some.inj H
              go_wp2
              go_ret
              exact ⟨by first | rfl | (simp [errW_none, errW_some] <;> rfl) | (simp [*, errW_none, errW_some] <;> rfl), by repeat with_reducible first | exact bl HB.out | refine below_set ?_ GE138.out | refine below_set ?_ GE147.out | refine bq ?_⟩
             ·
              replace c86 := Bool.eq_false_iff.mpr c86
              subst c86
              have H1 : (spec_FleetOk.l1 kj59 (wrap64 (x5_3 + 1)) l0_0 l0_1 l0_2 a0_3 a0_4 a0_5) = some r := by rw [if_neg (show ¬ (false = true) by decide)] at H; exact H
              clear H
              have H := H1
              clear H1
              have H' := Aside0.mk H
              clear H
              go_wp2
              go_roundg kj59
              case measure => have := HJ1.out; have := HK2.out; have := HK3.out; have := HJ59.out; omega
              case rel => exact ⟨(wrap64 (x5_3 + 1)), (by first | rfl | (simp; done) | (simp [*]; done)), H', ⟨by have := HJ1.out; have := HK2.out; have := HK3.out; have := HJ59.out; omega⟩, ⟨bk BK138.out⟩, ⟨by repeat with_reducible first | exact bl HB.out | refine below_set ?_ GE138.out | refine below_set ?_ GE147.out | refine bq ?_⟩⟩
          ·
           rw [if_neg c59] at H
           exact absurd H (by simp)
         ·
          rw [if_neg c58] at H
          have c58b0 : decide (x5_3 < (l0_2.length : Int)) = false := decide_eq_false c58
          clear c58
          obtain rfl := Option.some.inj H
          have hcz87_0 := ck (v := .slice A0_0 l0_0.length c0_0) BK138.out 0 rfl
          have hcz87_1 := ck (v := .slice A0_1 l0_1.length c0_1) BK138.out 1 rfl
          have hcz87_2 := ck (v := .slice A0_2 l0_2.length c0_2) BK138.out 2 rfl
          have hcz87_3 := ck (v := .int .i64 a0_3) BK138.out 3 rfl
          have hcz87_4 := ck (v := .int .i64 a0_4) BK138.out 4 rfl
          have hcz87_5 := ck (v := .int .i64 a0_5) BK138.out 5 rfl
          have hfz87_0 := blk_frozen BK138.out 0
          have hfz87_1 := blk_frozen BK138.out 1
          have hfz87_2 := blk_frozen BK138.out 2
          have hfz87_3 := blk_frozen BK138.out 3
          have hfz87_4 := blk_frozen BK138.out 4
          have hfz87_5 := blk_frozen BK138.out 5
          go_wp2
          go_ret
          exact ⟨by first | rfl | (simp [errW_none, errW_some] <;> rfl) | (simp [*, errW_none, errW_some] <;> rfl), by repeat with_reducible first | exact bl HB.out | refine below_set ?_ GE138.out | refine bq ?_⟩

end Go.Proofs.Ytbgdibbgngpggaa.PFnExactFleetOk
