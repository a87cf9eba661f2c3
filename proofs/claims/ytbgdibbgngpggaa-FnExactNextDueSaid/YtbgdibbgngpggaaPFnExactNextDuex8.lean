-- Written by a program of this session (wip/xprint.py) out of the translation; Lean checks it.
import Derived.Test.YtbgdibbgngpggaaPFnExactNextDuex0
import Derived.Test.YtbgdibbgngpggaaPFnExactNextDuex4
import Derived.Test.YtbgdibbgngpggaaPFnExactNextDuex5
import Derived.Test.YtbgdibbgngpggaaPFnExactNextDuex7
namespace Go.Proofs.Ytbgdibbgngpggaa.PFnExactNextDue
open Go.RowKit Go.Proofs.YtbgdibbgngpggaaW.PrintWords Go.Proofs.YtbgdibbgngpggaaW.PrintLast Go.Proofs.YtbgdibbgngpggaaW.PrintMore Go.Proofs.Ytbgdibbgngpggaa.Sq
attribute [local go_sem] max2_int min2_int max_two min_two max_three min_three max_four min_four   -- for this text's walks alone
set_option linter.unusedVariables false
set_option linter.unusedSimpArgs false

/-! ### spec_FleetOk: function 29 -/
mutual
def spec_FleetOk.j0 : Nat → Bool → List (S33) → List (S70) → List (S72) → Int → Int → Int → Option (Bool)
 | 0, _, _, _, _, _, _, _ => none
 | k + 1, x28, x231000, x231001, x231002, x231003, x231004, x231005 => if x28 = true then (some false) else (spec_FleetOk.l0 k 0 x231000 x231001 x231002 x231003 x231004 x231005)
def spec_FleetOk.l0 : Nat → Int → List (S33) → List (S70) → List (S72) → Int → Int → Int → Option (Bool)
 | 0, _, _, _, _, _, _, _ => none
 | k + 1, x3, x231000, x231001, x231002, x231003, x231004, x231005 => if x3 < (x231000.length : Int) then (if 0 ≤ x3 then ((spec_TaskOk.f k ((rd_T33 x231000 x3).f0) ((rd_T33 x231000 x3).f1) ((rd_T33 x231000 x3).f2) ((rd_T33 x231000 x3).f3) ((rd_T33 x231000 x3).f4.f0) ((rd_T33 x231000 x3).f4.f1) ((rd_T33 x231000 x3).f4.f2)).bind fun t235 => (if t235 = true then ((spec_l19Behind.f ((rd_T33 x231000 x3).f4.f0) ((rd_T33 x231000 x3).f4.f1) ((rd_T33 x231000 x3).f4.f2) x231003 x231004 x231005).bind fun t236 => (if t236 = true then (if x3 > 0 then (if 0 ≤ (wrap64 (x3 - 1)) then (if (wrap64 (x3 - 1)) < (x231000.length : Int) then (spec_FleetOk.j2 k x3 (!(Op.bytesLess (((rd_T33 x231000 (wrap64 (x3 - 1))).f0).toList) (((rd_T33 x231000 x3).f0).toList))) x231000 x231001 x231002 x231003 x231004 x231005) else (none)) else (none)) else (spec_FleetOk.j2 k x3 false x231000 x231001 x231002 x231003 x231004 x231005)) else (spec_FleetOk.j2 k x3 true x231000 x231001 x231002 x231003 x231004 x231005))) else (spec_FleetOk.j2 k x3 true x231000 x231001 x231002 x231003 x231004 x231005))) else (none)) else (spec_FleetOk.l1 k 0 x231000 x231001 x231002 x231003 x231004 x231005)
def spec_FleetOk.j2 : Nat → Int → Bool → List (S33) → List (S70) → List (S72) → Int → Int → Int → Option (Bool)
 | 0, _, _, _, _, _, _, _, _ => none
 | k + 1, x3, x67, x231000, x231001, x231002, x231003, x231004, x231005 => if x67 = true then (some false) else (spec_FleetOk.l0 k (wrap64 (x3 + 1)) x231000 x231001 x231002 x231003 x231004 x231005)
def spec_FleetOk.l1 : Nat → Int → List (S33) → List (S70) → List (S72) → Int → Int → Int → Option (Bool)
 | 0, _, _, _, _, _, _, _ => none
 | k + 1, x5, x231000, x231001, x231002, x231003, x231004, x231005 => if x5 < (x231002.length : Int) then (if 0 ≤ x5 then ((spec_l1Name.f k ((rd_T72 x231002 x5).f0)).bind fun t240 => (if t240 = true then ((spec_l1In.f ((rd_T72 x231002 x5).f1) 1 1000000).bind fun t241 => (if t241 = true then (if x5 > 0 then (if 0 ≤ (wrap64 (x5 - 1)) then (if (wrap64 (x5 - 1)) < (x231002.length : Int) then (if ((rd_T72 x231002 (wrap64 (x5 - 1))).f1) ≥ ((rd_T72 x231002 x5).f1) then (spec_FleetOk.j4 k x5 true x231000 x231001 x231002 x231003 x231004 x231005) else ((spec_l1In.f ((rd_T72 x231002 x5).f2) 0 x231005).bind fun t243 => (spec_FleetOk.j4 k x5 (!t243) x231000 x231001 x231002 x231003 x231004 x231005))) else (none)) else (none)) else ((spec_l1In.f ((rd_T72 x231002 x5).f2) 0 x231005).bind fun t244 => (spec_FleetOk.j4 k x5 (!t244) x231000 x231001 x231002 x231003 x231004 x231005))) else (spec_FleetOk.j4 k x5 true x231000 x231001 x231002 x231003 x231004 x231005))) else (spec_FleetOk.j4 k x5 true x231000 x231001 x231002 x231003 x231004 x231005))) else (none)) else (some true)
def spec_FleetOk.j4 : Nat → Int → Bool → List (S33) → List (S70) → List (S72) → Int → Int → Int → Option (Bool)
 | 0, _, _, _, _, _, _, _, _ => none
 | k + 1, x5, x114, x231000, x231001, x231002, x231003, x231004, x231005 => if x114 = true then (some false) else (spec_FleetOk.l1 k (wrap64 (x5 + 1)) x231000 x231001 x231002 x231003 x231004 x231005)
end
def spec_FleetOk.f (k : Nat) (l0_0 : List (S33)) (l0_1 : List (S70)) (l0_2 : List (S72)) (a0_3 : Int) (a0_4 : Int) (a0_5 : Int) : Option (Bool) := (spec_ClockOk.f a0_3 a0_4 a0_5).bind fun t231 => (if t231 = true then ((spec_CarryOk.f k l0_1).bind fun t232 => (if t232 = true then (if (l0_0.length : Int) > 40 then (spec_FleetOk.j0 k true l0_0 l0_1 l0_2 a0_3 a0_4 a0_5) else (spec_FleetOk.j0 k (decide ((l0_2.length : Int) > 20)) l0_0 l0_1 l0_2 a0_3 a0_4 a0_5)) else (spec_FleetOk.j0 k true l0_0 l0_1 l0_2 a0_3 a0_4 a0_5))) else (spec_FleetOk.j0 k true l0_0 l0_1 l0_2 a0_3 a0_4 a0_5))
theorem spec_FleetOk.mono_l : ∀ k, (∀ y0 y1 y2 y3 y4 y5 y6, LeO (spec_FleetOk.j0 k y0 y1 y2 y3 y4 y5 y6) (spec_FleetOk.j0 (k + 1) y0 y1 y2 y3 y4 y5 y6)) ∧ (∀ y0 y1 y2 y3 y4 y5 y6, LeO (spec_FleetOk.l0 k y0 y1 y2 y3 y4 y5 y6) (spec_FleetOk.l0 (k + 1) y0 y1 y2 y3 y4 y5 y6)) ∧ (∀ y0 y1 y2 y3 y4 y5 y6 y7, LeO (spec_FleetOk.j2 k y0 y1 y2 y3 y4 y5 y6 y7) (spec_FleetOk.j2 (k + 1) y0 y1 y2 y3 y4 y5 y6 y7)) ∧ (∀ y0 y1 y2 y3 y4 y5 y6, LeO (spec_FleetOk.l1 k y0 y1 y2 y3 y4 y5 y6) (spec_FleetOk.l1 (k + 1) y0 y1 y2 y3 y4 y5 y6)) ∧ (∀ y0 y1 y2 y3 y4 y5 y6 y7, LeO (spec_FleetOk.j4 k y0 y1 y2 y3 y4 y5 y6 y7) (spec_FleetOk.j4 (k + 1) y0 y1 y2 y3 y4 y5 y6 y7))
 | 0 => ⟨fun _ _ _ _ _ _ _ r h => by simp [spec_FleetOk.j0] at h, fun _ _ _ _ _ _ _ r h => by simp [spec_FleetOk.l0] at h, fun _ _ _ _ _ _ _ _ r h => by simp [spec_FleetOk.j2] at h, fun _ _ _ _ _ _ _ r h => by simp [spec_FleetOk.l1] at h, fun _ _ _ _ _ _ _ _ r h => by simp [spec_FleetOk.j4] at h⟩
 | k + 1 => by
  obtain ⟨ih0, ih1, ih2, ih3, ih4⟩ := spec_FleetOk.mono_l k
  refine ⟨?_, ?_, ?_, ?_, ?_⟩
  ·
   intro y0 y1 y2 y3 y4 y5 y6
   unfold spec_FleetOk.j0
   repeat' first
   | (with_reducible exact ih0 _ _ _ _ _ _ _)
   | (with_reducible exact ih1 _ _ _ _ _ _ _)
   | (with_reducible exact ih2 _ _ _ _ _ _ _ _)
   | (with_reducible exact ih3 _ _ _ _ _ _ _)
   | (with_reducible exact ih4 _ _ _ _ _ _ _ _)
   | (with_reducible exact spec_CarryOk.mono _ _)
   | (with_reducible exact spec_TaskOk.mono _ _ _ _ _ _ _ _)
   | (with_reducible exact spec_l1Name.mono _ _)
   | (with_reducible exact LeO.refl _)
   | (with_reducible exact LeO.none _)
   | (with_reducible refine LeO.ite ?_ ?_)
   | (with_reducible refine LeO.bind ?_ (fun _ => ?_))
   | exact ih0 _ _ _ _ _ _ _
   | exact ih1 _ _ _ _ _ _ _
   | exact ih2 _ _ _ _ _ _ _ _
   | exact ih3 _ _ _ _ _ _ _
   | exact ih4 _ _ _ _ _ _ _ _
   | exact spec_CarryOk.mono _ _
   | exact spec_TaskOk.mono _ _ _ _ _ _ _ _
   | exact spec_l1Name.mono _ _
   | exact LeO.none _
   | refine LeO.ite ?_ ?_
   | refine LeO.bind ?_ (fun _ => ?_)
  ·
   intro y0 y1 y2 y3 y4 y5 y6
   unfold spec_FleetOk.l0
   repeat' first
   | (with_reducible exact ih0 _ _ _ _ _ _ _)
   | (with_reducible exact ih1 _ _ _ _ _ _ _)
   | (with_reducible exact ih2 _ _ _ _ _ _ _ _)
   | (with_reducible exact ih3 _ _ _ _ _ _ _)
   | (with_reducible exact ih4 _ _ _ _ _ _ _ _)
   | (with_reducible exact spec_CarryOk.mono _ _)
   | (with_reducible exact spec_TaskOk.mono _ _ _ _ _ _ _ _)
   | (with_reducible exact spec_l1Name.mono _ _)
   | (with_reducible exact LeO.refl _)
   | (with_reducible exact LeO.none _)
   | (with_reducible refine LeO.ite ?_ ?_)
   | (with_reducible refine LeO.bind ?_ (fun _ => ?_))
   | exact ih0 _ _ _ _ _ _ _
   | exact ih1 _ _ _ _ _ _ _
   | exact ih2 _ _ _ _ _ _ _ _
   | exact ih3 _ _ _ _ _ _ _
   | exact ih4 _ _ _ _ _ _ _ _
   | exact spec_CarryOk.mono _ _
   | exact spec_TaskOk.mono _ _ _ _ _ _ _ _
   | exact spec_l1Name.mono _ _
   | exact LeO.none _
   | refine LeO.ite ?_ ?_
   | refine LeO.bind ?_ (fun _ => ?_)
  ·
   intro y0 y1 y2 y3 y4 y5 y6 y7
   unfold spec_FleetOk.j2
   repeat' first
   | (with_reducible exact ih0 _ _ _ _ _ _ _)
   | (with_reducible exact ih1 _ _ _ _ _ _ _)
   | (with_reducible exact ih2 _ _ _ _ _ _ _ _)
   | (with_reducible exact ih3 _ _ _ _ _ _ _)
   | (with_reducible exact ih4 _ _ _ _ _ _ _ _)
   | (with_reducible exact spec_CarryOk.mono _ _)
   | (with_reducible exact spec_TaskOk.mono _ _ _ _ _ _ _ _)
   | (with_reducible exact spec_l1Name.mono _ _)
   | (with_reducible exact LeO.refl _)
   | (with_reducible exact LeO.none _)
   | (with_reducible refine LeO.ite ?_ ?_)
   | (with_reducible refine LeO.bind ?_ (fun _ => ?_))
   | exact ih0 _ _ _ _ _ _ _
   | exact ih1 _ _ _ _ _ _ _
   | exact ih2 _ _ _ _ _ _ _ _
   | exact ih3 _ _ _ _ _ _ _
   | exact ih4 _ _ _ _ _ _ _ _
   | exact spec_CarryOk.mono _ _
   | exact spec_TaskOk.mono _ _ _ _ _ _ _ _
   | exact spec_l1Name.mono _ _
   | exact LeO.none _
   | refine LeO.ite ?_ ?_
   | refine LeO.bind ?_ (fun _ => ?_)
  ·
   intro y0 y1 y2 y3 y4 y5 y6
   unfold spec_FleetOk.l1
   repeat' first
   | (with_reducible exact ih0 _ _ _ _ _ _ _)
   | (with_reducible exact ih1 _ _ _ _ _ _ _)
   | (with_reducible exact ih2 _ _ _ _ _ _ _ _)
   | (with_reducible exact ih3 _ _ _ _ _ _ _)
   | (with_reducible exact ih4 _ _ _ _ _ _ _ _)
   | (with_reducible exact spec_CarryOk.mono _ _)
   | (with_reducible exact spec_TaskOk.mono _ _ _ _ _ _ _ _)
   | (with_reducible exact spec_l1Name.mono _ _)
   | (with_reducible exact LeO.refl _)
   | (with_reducible exact LeO.none _)
   | (with_reducible refine LeO.ite ?_ ?_)
   | (with_reducible refine LeO.bind ?_ (fun _ => ?_))
   | exact ih0 _ _ _ _ _ _ _
   | exact ih1 _ _ _ _ _ _ _
   | exact ih2 _ _ _ _ _ _ _ _
   | exact ih3 _ _ _ _ _ _ _
   | exact ih4 _ _ _ _ _ _ _ _
   | exact spec_CarryOk.mono _ _
   | exact spec_TaskOk.mono _ _ _ _ _ _ _ _
   | exact spec_l1Name.mono _ _
   | exact LeO.none _
   | refine LeO.ite ?_ ?_
   | refine LeO.bind ?_ (fun _ => ?_)
  ·
   intro y0 y1 y2 y3 y4 y5 y6 y7
   unfold spec_FleetOk.j4
   repeat' first
   | (with_reducible exact ih0 _ _ _ _ _ _ _)
   | (with_reducible exact ih1 _ _ _ _ _ _ _)
   | (with_reducible exact ih2 _ _ _ _ _ _ _ _)
   | (with_reducible exact ih3 _ _ _ _ _ _ _)
   | (with_reducible exact ih4 _ _ _ _ _ _ _ _)
   | (with_reducible exact spec_CarryOk.mono _ _)
   | (with_reducible exact spec_TaskOk.mono _ _ _ _ _ _ _ _)
   | (with_reducible exact spec_l1Name.mono _ _)
   | (with_reducible exact LeO.refl _)
   | (with_reducible exact LeO.none _)
   | (with_reducible refine LeO.ite ?_ ?_)
   | (with_reducible refine LeO.bind ?_ (fun _ => ?_))
   | exact ih0 _ _ _ _ _ _ _
   | exact ih1 _ _ _ _ _ _ _
   | exact ih2 _ _ _ _ _ _ _ _
   | exact ih3 _ _ _ _ _ _ _
   | exact ih4 _ _ _ _ _ _ _ _
   | exact spec_CarryOk.mono _ _
   | exact spec_TaskOk.mono _ _ _ _ _ _ _ _
   | exact spec_l1Name.mono _ _
   | exact LeO.none _
   | refine LeO.ite ?_ ?_
   | refine LeO.bind ?_ (fun _ => ?_)
theorem spec_FleetOk.mono : ∀ a0 a1 a2 a3 a4 a5 k, LeO (spec_FleetOk.f k a0 a1 a2 a3 a4 a5) (spec_FleetOk.f (k + 1) a0 a1 a2 a3 a4 a5) := by
 intro a0 a1 a2 a3 a4 a5 k
 obtain ⟨ih0, ih1, ih2, ih3, ih4⟩ := spec_FleetOk.mono_l k
 unfold spec_FleetOk.f
 repeat' first
   | (with_reducible exact ih0 _ _ _ _ _ _ _)
   | (with_reducible exact ih1 _ _ _ _ _ _ _)
   | (with_reducible exact ih2 _ _ _ _ _ _ _ _)
   | (with_reducible exact ih3 _ _ _ _ _ _ _)
   | (with_reducible exact ih4 _ _ _ _ _ _ _ _)
   | (with_reducible exact spec_CarryOk.mono _ _)
   | (with_reducible exact spec_TaskOk.mono _ _ _ _ _ _ _ _)
   | (with_reducible exact spec_l1Name.mono _ _)
   | (with_reducible exact LeO.refl _)
   | (with_reducible exact LeO.none _)
   | (with_reducible refine LeO.ite ?_ ?_)
   | (with_reducible refine LeO.bind ?_ (fun _ => ?_))
   | exact ih0 _ _ _ _ _ _ _
   | exact ih1 _ _ _ _ _ _ _
   | exact ih2 _ _ _ _ _ _ _ _
   | exact ih3 _ _ _ _ _ _ _
   | exact ih4 _ _ _ _ _ _ _ _
   | exact spec_CarryOk.mono _ _
   | exact spec_TaskOk.mono _ _ _ _ _ _ _ _
   | exact spec_l1Name.mono _ _
   | exact LeO.none _
   | refine LeO.ite ?_ ?_
   | refine LeO.bind ?_ (fun _ => ?_)
def spec_FleetOk.T7 : Bool × List (List Nat × List Nat) := (true, [([], []), ([0], [0]), ([1], [1]), ([2, 1], [2]), ([3], [3]), ([4, 3], [3, 4]), ([3], [3]), ([6, 3], [3, 6]), ([5, 7, 3, 3], [3, 5, 7]), ([8, 3], [3, 8]), ([3, 9], [3, 9]), ([10, 8], [10]), ([11], [11]), ([12, 11], [11, 12]), ([13, 11, 11], [11, 13]), ([14], [14]), ([15, 14], [14, 15]), ([14], [14]), ([17, 14], [14, 17]), ([16, 18, 14], [14, 16, 18]), ([19, 14], [14, 19]), ([20, 14], [14, 20]), ([14], [14]), ([22, 14], [14, 22]), ([21, 23, 14], [14, 21, 23]), ([14, 24, 11], [11, 14, 24]), ([11, 25], [11, 25])])
def spec_FleetOk.B7 : List Nat := [0, 1, 3, 7, 15, 31, 15, 79, 255, 511, 1023, 2047, 4095, 8191, 16383, 32767, 65535, 32767, 163839, 524287, 1048575, 2097151, 32767, 4227071, 16777215, 33554431, 67108863]
theorem spec_FleetOk.tab7 : rtab .any (opsOf Try.f29 7) = spec_FleetOk.T7 := by kernel_rfl
theorem spec_FleetOk.bits7 : waitsOk spec_FleetOk.T7.2 spec_FleetOk.B7 = true := by kernel_rfl
def spec_FleetOk.T13 : Bool × List (List Nat × List Nat) := (true, [([], []), ([0], [0]), ([1], [1]), ([2], [2]), ([3, 2], [3]), ([4], [4]), ([5, 4], [4, 5]), ([6, 4, 4], [4, 6]), ([7, 4], [4, 7]), ([4, 8], [4, 8]), ([9, 7], [9]), ([10], [10]), ([11, 10], [10, 11]), ([12, 10, 10], [10, 12]), ([13], [13]), ([14, 13], [13, 14]), ([13], [13]), ([16, 13], [13, 16]), ([15, 17, 13], [13, 15, 17]), ([18, 13], [13, 18]), ([19, 13], [13, 19]), ([13], [13]), ([21, 13], [13, 21]), ([20, 22, 13], [13, 20, 22]), ([13, 23, 10], [10, 13, 23]), ([10, 24], [10, 24]), ([25, 13], [25]), ([26], [26]), ([27, 26], [26, 27]), ([26], [26]), ([29, 26], [26, 29]), ([30, 26], [26, 30]), ([28, 31, 26, 26], [26, 28, 31]), ([32, 26], [26, 32]), ([26, 33], [26, 33])])
def spec_FleetOk.B13 : List Nat := [0, 1, 3, 7, 15, 31, 63, 127, 255, 511, 1023, 2047, 4095, 8191, 16383, 32767, 16383, 81919, 262143, 524287, 1048575, 16383, 2113535, 8388607, 16777215, 33554431, 67108863, 134217727, 268435455, 134217727, 671088639, 1744830463, 4294967295, 8589934591, 17179869183]
theorem spec_FleetOk.tab13 : rtab .any (opsOf Try.f29 13) = spec_FleetOk.T13 := by kernel_rfl
theorem spec_FleetOk.bits13 : waitsOk spec_FleetOk.T13.2 spec_FleetOk.B13 = true := by kernel_rfl
set_option maxHeartbeats 8000000 in
set_option maxRecDepth 100000 in
theorem spec_FleetOk.calls (k : Nat) (A0_0 : Option Addr) (c0_0 : Nat) (l0_0 : List (S33)) (A0_1 : Option Addr) (c0_1 : Nat) (l0_1 : List (S70)) (A0_2 : Option Addr) (c0_2 : Nat) (l0_2 : List (S72)) (a0_3 : Int) (a0_4 : Int) (a0_5 : Int) (r : Bool) (w : World) (hr0_0 : Kd.C k33 w A0_0 l0_0.length l0_0) (hc0_0 : l0_0.length ≤ c0_0) (hr0_1 : Kd.C k70 w A0_1 l0_1.length l0_1) (hc0_1 : l0_1.length ≤ c0_1) (hr0_2 : Kd.C k72 w A0_2 l0_2.length l0_2) (hc0_2 : l0_2.length ≤ c0_2) (h : spec_FleetOk.f k l0_0 l0_1 l0_2 a0_3 a0_4 a0_5 = some r) :
  Calls Try.prog 29 #[.agg #[.slice A0_0 l0_0.length c0_0, .slice A0_1 l0_1.length c0_1, .slice A0_2 l0_2.length c0_2, .int .i64 a0_3, .int .i64 a0_4, .int .i64 a0_5]] w fun e w' => e = .returned (.bool r) ∧ Below w.heap.size w w' := by
 have hu56 := Try.underlying56
 have hu25 := Try.underlying25
 have hu33 := Try.underlying33
 have hu72 := Try.underlying72
 have HR0_0 := Aside0.mk hr0_0
 have HC0_0 := Aside0.mk hc0_0
 clear hr0_0 hc0_0
 have HR0_1 := Aside0.mk hr0_1
 have HC0_1 := Aside0.mk hc0_1
 clear hr0_1 hc0_1
 have HR0_2 := Aside0.mk hr0_2
 have HC0_2 := Aside0.mk hc0_2
 clear hr0_2 hc0_2
 have HB := Aside0.mk (Below.refl w.heap.size w)
 have H : ((spec_ClockOk.f a0_3 a0_4 a0_5).bind fun t231 => (if t231 = true then ((spec_CarryOk.f k l0_1).bind fun t232 => (if t232 = true then (if (l0_0.length : Int) > 40 then (spec_FleetOk.j0 k true l0_0 l0_1 l0_2 a0_3 a0_4 a0_5) else (spec_FleetOk.j0 k (decide ((l0_2.length : Int) > 20)) l0_0 l0_1 l0_2 a0_3 a0_4 a0_5)) else (spec_FleetOk.j0 k true l0_0 l0_1 l0_2 a0_3 a0_4 a0_5))) else (spec_FleetOk.j0 k true l0_0 l0_1 l0_2 a0_3 a0_4 a0_5))) = some r := h
 clear h
 have HC2 := Aside0.mk H
 clear H
 go_enter Try.func29, Try.ntmps29
 go_upto_region 1 with (first | ((with_reducible refine gate_dst (N := 1) rfl ?_); (try (refine gate_guard (by rfl) ?_; dsimp only)); refine box_event ?hg (N := 1) ?hd (cs := #[.slice A0_0 l0_0.length c0_0, .slice A0_1 l0_1.length c0_1, .slice A0_2 l0_2.length c0_2, .int .i64 a0_3, .int .i64 a0_4, .int .i64 a0_5]) (t := 56) ?hr ?_; (case hd => rfl); (case hg => rfl); (case hr => first | (go_simp; done) | (go_simp; rfl)); intro gb230 hg w3 hbox hb; have BK230 := Aside0.mk (hbox); have GW230 := Aside0.mk ((by rw [hg]; exact (below_size (bl HB.out)) : w.heap.size ≤ gb230)); have GE230 := GW230; replace HB := Aside0.mk (below_step (bl HB.out) hb); clear hb hbox hg))
 (try simp only [Act.put, List.setIfInBounds_toArray, List.set_cons_zero, List.set_cons_succ])
 go_cut [28] (fun v28 wc => ∃ (kq : Nat) (x28_1 : Bool), v28 = .bool x28_1 ∧ Aside0 (spec_FleetOk.j0 kq x28_1 l0_0 l0_1 l0_2 a0_3 a0_4 a0_5 = some r) ∧ Aside0 (kq ≤ k) ∧ Aside0 (wc.heap[gb230]? = some (.cells #[(.slice A0_0 l0_0.length c0_0), (.slice A0_1 l0_1.length c0_1), (.slice A0_2 l0_2.length c0_2), .int .i64 a0_3, .int .i64 a0_4, .int .i64 a0_5] 56 (0, 0))) ∧ Aside0 (Below w.heap.size w wc))
 case first =>
  have H := HC2.out
  clear HC2
  replace H := Option.bind_eq_some_iff.mp H
  obtain ⟨t231, A40, H⟩ := H
  replace H : (if t231 = true then ((spec_CarryOk.f k l0_1).bind fun t232 => (if t232 = true then (if (l0_0.length : Int) > 40 then (spec_FleetOk.j0 k true l0_0 l0_1 l0_2 a0_3 a0_4 a0_5) else (spec_FleetOk.j0 k (decide ((l0_2.length : Int) > 20)) l0_0 l0_1 l0_2 a0_3 a0_4 a0_5)) else (spec_FleetOk.j0 k true l0_0 l0_1 l0_2 a0_3 a0_4 a0_5))) else (spec_FleetOk.j0 k true l0_0 l0_1 l0_2 a0_3 a0_4 a0_5)) = some r := H
  have A4 := Aside0.mk A40
  clear A40
  by_cases c5 : t231 = true
  ·
   subst c5
   have H1 : ((spec_CarryOk.f k l0_1).bind fun t232 => (if t232 = true then (if (l0_0.length : Int) > 40 then (spec_FleetOk.j0 k true l0_0 l0_1 l0_2 a0_3 a0_4 a0_5) else (spec_FleetOk.j0 k (decide ((l0_2.length : Int) > 20)) l0_0 l0_1 l0_2 a0_3 a0_4 a0_5)) else (spec_FleetOk.j0 k true l0_0 l0_1 l0_2 a0_3 a0_4 a0_5))) = some r := by rw [if_pos rfl] at H; exact H
   clear H
   have H := H1
   clear H1
   replace H := Option.bind_eq_some_iff.mp H
   obtain ⟨t232, A60, H⟩ := H
   replace H : (if t232 = true then (if (l0_0.length : Int) > 40 then (spec_FleetOk.j0 k true l0_0 l0_1 l0_2 a0_3 a0_4 a0_5) else (spec_FleetOk.j0 k (decide ((l0_2.length : Int) > 20)) l0_0 l0_1 l0_2 a0_3 a0_4 a0_5)) else (spec_FleetOk.j0 k true l0_0 l0_1 l0_2 a0_3 a0_4 a0_5)) = some r := H
   have A6 := Aside0.mk A60
   clear A60
   by_cases c7 : t232 = true
   ·
    subst c7
    have H1 : (if (l0_0.length : Int) > 40 then (spec_FleetOk.j0 k true l0_0 l0_1 l0_2 a0_3 a0_4 a0_5) else (spec_FleetOk.j0 k (decide ((l0_2.length : Int) > 20)) l0_0 l0_1 l0_2 a0_3 a0_4 a0_5)) = some r := by rw [if_pos rfl] at H; exact H
    clear H
    have H := H1
    clear H1
    by_cases c8 : (l0_0.length : Int) > 40
    ·
     rw [if_pos c8] at H
     have c8b0 : decide (40 < (l0_0.length : Int)) = true := decide_eq_true c8
     have c8b1 : decide (40 < l0_0.length) = true := decide_eq_true (by omega)
     clear c8
     (first | rw [c8b0] | (simp only [i64_w, i32_w]; rw [c8b0]) | rw [c8b1] | skip)
     have H' := Aside0.mk H
     clear H
     obtain ⟨hcz9_0, hcz9_1, hcz9_2, hcz9_3, hcz9_4, hcz9_5⟩ := ck6 BK230.out
     obtain ⟨hfz9_0, hfz9_1, hfz9_2, hfz9_3, hfz9_4, hfz9_5⟩ := fz6 BK230.out
     go_wp2_with (first | ((with_reducible refine gate_callee (f := 13) rfl ?_); refine goesL_ (some 9) rfl rfl Try.func13 (by kernel_rfl) rfl #[.agg #[.int .i64 a0_3, .int .i64 a0_4, .int .i64 a0_5]] rfl (by (try simp only [am_]); first | done | rfl) ?_; (with_reducible refine (spec_ClockOk.calls a0_3 a0_4 a0_5 true _ A4.out).mono ?_); rintro e w10 ⟨rfl, hb⟩; refine ⟨_, rfl, ?_⟩; replace BK230 := Aside0.mk (blk_below (bk BK230.out) hb); replace HB := Aside0.mk (below_step (by repeat with_reducible first | exact bl HB.out | refine below_set ?_ GE230.out | refine bq ?_) hb); (try clear hb); (try clear hb2); (try clear hk); (try clear hi); obtain ⟨hcz11_0, hcz11_1, hcz11_2, hcz11_3, hcz11_4, hcz11_5⟩ := ck6 BK230.out; obtain ⟨hfz11_0, hfz11_1, hfz11_2, hfz11_3, hfz11_4, hfz11_5⟩ := fz6 BK230.out) | (go_at_call 21; (with_reducible refine (spec_CarryOk.calls k _ _ l0_1 true _ ?side1 ?side2 A6.out).mono ?_); (case side1 => exact rc (Kd.C_below HR0_1.out HB.out)); (case side2 => exact HC0_1.out); rintro e w12 ⟨rfl, hb⟩; replace BK230 := Aside0.mk (blk_below (bk BK230.out) hb); replace HB := Aside0.mk (below_step (by repeat with_reducible first | exact bl HB.out | refine below_set ?_ GE230.out | refine bq ?_) hb); (try clear hb); (try clear hb2); (try clear hk); (try clear hi); obtain ⟨hcz13_0, hcz13_1, hcz13_2, hcz13_3, hcz13_4, hcz13_5⟩ := ck6 BK230.out; obtain ⟨hfz13_0, hfz13_1, hfz13_2, hfz13_3, hfz13_4, hfz13_5⟩ := fz6 BK230.out))
     go_meet
     case rel => exact ⟨_, (true), (by first | rfl | (simp; done) | (simp [*]; done)), H', ⟨by first | omega | exact Nat.le_refl _⟩, ⟨bk BK230.out⟩, ⟨by repeat with_reducible first | exact bl HB.out | refine below_set ?_ GE230.out | refine bq ?_⟩⟩
    ·
     rw [if_neg c8] at H
     have c8b0 : decide (40 < (l0_0.length : Int)) = false := decide_eq_false c8
     have c8b1 : decide (40 < l0_0.length) = false := decide_eq_false (by omega)
     clear c8
     (first | rw [c8b0] | (simp only [i64_w, i32_w]; rw [c8b0]) | rw [c8b1] | skip)
     have H' := Aside0.mk H
     clear H
     obtain ⟨hcz14_0, hcz14_1, hcz14_2, hcz14_3, hcz14_4, hcz14_5⟩ := ck6 BK230.out
     obtain ⟨hfz14_0, hfz14_1, hfz14_2, hfz14_3, hfz14_4, hfz14_5⟩ := fz6 BK230.out
     go_wp2_with (first | ((with_reducible refine gate_callee (f := 13) rfl ?_); refine goesL_ (some 9) rfl rfl Try.func13 (by kernel_rfl) rfl #[.agg #[.int .i64 a0_3, .int .i64 a0_4, .int .i64 a0_5]] rfl (by (try simp only [am_]); first | done | rfl) ?_; (with_reducible refine (spec_ClockOk.calls a0_3 a0_4 a0_5 true _ A4.out).mono ?_); rintro e w15 ⟨rfl, hb⟩; refine ⟨_, rfl, ?_⟩; replace BK230 := Aside0.mk (blk_below (bk BK230.out) hb); replace HB := Aside0.mk (below_step (by repeat with_reducible first | exact bl HB.out | refine below_set ?_ GE230.out | refine bq ?_) hb); (try clear hb); (try clear hb2); (try clear hk); (try clear hi); obtain ⟨hcz16_0, hcz16_1, hcz16_2, hcz16_3, hcz16_4, hcz16_5⟩ := ck6 BK230.out; obtain ⟨hfz16_0, hfz16_1, hfz16_2, hfz16_3, hfz16_4, hfz16_5⟩ := fz6 BK230.out) | (go_at_call 21; (with_reducible refine (spec_CarryOk.calls k _ _ l0_1 true _ ?side1 ?side2 A6.out).mono ?_); (case side1 => exact rc (Kd.C_below HR0_1.out HB.out)); (case side2 => exact HC0_1.out); rintro e w17 ⟨rfl, hb⟩; replace BK230 := Aside0.mk (blk_below (bk BK230.out) hb); replace HB := Aside0.mk (below_step (by repeat with_reducible first | exact bl HB.out | refine below_set ?_ GE230.out | refine bq ?_) hb); (try clear hb); (try clear hb2); (try clear hk); (try clear hi); obtain ⟨hcz18_0, hcz18_1, hcz18_2, hcz18_3, hcz18_4, hcz18_5⟩ := ck6 BK230.out; obtain ⟨hfz18_0, hfz18_1, hfz18_2, hfz18_3, hfz18_4, hfz18_5⟩ := fz6 BK230.out))
     go_meet
     case rel => exact ⟨_, (decide ((l0_2.length : Int) > 20)), (by first | rfl | (simp; done) | (simp [*]; done)), H', ⟨by first | omega | exact Nat.le_refl _⟩, ⟨bk BK230.out⟩, ⟨by repeat with_reducible first | exact bl HB.out | refine below_set ?_ GE230.out | refine bq ?_⟩⟩
   ·
    replace c7 := Bool.eq_false_iff.mpr c7
    subst c7
    have H1 : (spec_FleetOk.j0 k true l0_0 l0_1 l0_2 a0_3 a0_4 a0_5) = some r := by rw [if_neg (show ¬ (false = true) by decide)] at H; exact H
    clear H
    have H := H1
    clear H1
    have H' := Aside0.mk H
    clear H
    obtain ⟨hcz19_0, hcz19_1, hcz19_2, hcz19_3, hcz19_4, hcz19_5⟩ := ck6 BK230.out
    obtain ⟨hfz19_0, hfz19_1, hfz19_2, hfz19_3, hfz19_4, hfz19_5⟩ := fz6 BK230.out
    go_wp2_with (first | ((with_reducible refine gate_callee (f := 13) rfl ?_); refine goesL_ (some 9) rfl rfl Try.func13 (by kernel_rfl) rfl #[.agg #[.int .i64 a0_3, .int .i64 a0_4, .int .i64 a0_5]] rfl (by (try simp only [am_]); first | done | rfl) ?_; (with_reducible refine (spec_ClockOk.calls a0_3 a0_4 a0_5 true _ A4.out).mono ?_); rintro e w20 ⟨rfl, hb⟩; refine ⟨_, rfl, ?_⟩; replace BK230 := Aside0.mk (blk_below (bk BK230.out) hb); replace HB := Aside0.mk (below_step (by repeat with_reducible first | exact bl HB.out | refine below_set ?_ GE230.out | refine bq ?_) hb); (try clear hb); (try clear hb2); (try clear hk); (try clear hi); obtain ⟨hcz21_0, hcz21_1, hcz21_2, hcz21_3, hcz21_4, hcz21_5⟩ := ck6 BK230.out; obtain ⟨hfz21_0, hfz21_1, hfz21_2, hfz21_3, hfz21_4, hfz21_5⟩ := fz6 BK230.out) | (go_at_call 21; (with_reducible refine (spec_CarryOk.calls k _ _ l0_1 false _ ?side1 ?side2 A6.out).mono ?_); (case side1 => exact rc (Kd.C_below HR0_1.out HB.out)); (case side2 => exact HC0_1.out); rintro e w22 ⟨rfl, hb⟩; replace BK230 := Aside0.mk (blk_below (bk BK230.out) hb); replace HB := Aside0.mk (below_step (by repeat with_reducible first | exact bl HB.out | refine below_set ?_ GE230.out | refine bq ?_) hb); (try clear hb); (try clear hb2); (try clear hk); (try clear hi)))
    go_meet
    case rel => exact ⟨_, (true), (by first | rfl | (simp; done) | (simp [*]; done)), H', ⟨by first | omega | exact Nat.le_refl _⟩, ⟨bk BK230.out⟩, ⟨by repeat with_reducible first | exact bl HB.out | refine below_set ?_ GE230.out | refine bq ?_⟩⟩
  ·
   replace c5 := Bool.eq_false_iff.mpr c5
   subst c5
   have H1 : (spec_FleetOk.j0 k true l0_0 l0_1 l0_2 a0_3 a0_4 a0_5) = some r := by rw [if_neg (show ¬ (false = true) by decide)] at H; exact H
   clear H
   have H := H1
   clear H1
   have H' := Aside0.mk H
   clear H
   obtain ⟨hcz23_0, hcz23_1, hcz23_2, hcz23_3, hcz23_4, hcz23_5⟩ := ck6 BK230.out
   obtain ⟨hfz23_0, hfz23_1, hfz23_2, hfz23_3, hfz23_4, hfz23_5⟩ := fz6 BK230.out
   go_wp2_with (first | ((with_reducible refine gate_callee (f := 13) rfl ?_); refine goesL_ (some 9) rfl rfl Try.func13 (by kernel_rfl) rfl #[.agg #[.int .i64 a0_3, .int .i64 a0_4, .int .i64 a0_5]] rfl (by (try simp only [am_]); first | done | rfl) ?_; (with_reducible refine (spec_ClockOk.calls a0_3 a0_4 a0_5 false _ A4.out).mono ?_); rintro e w24 ⟨rfl, hb⟩; refine ⟨_, rfl, ?_⟩; replace BK230 := Aside0.mk (blk_below (bk BK230.out) hb); replace HB := Aside0.mk (below_step (by repeat with_reducible first | exact bl HB.out | refine below_set ?_ GE230.out | refine bq ?_) hb); (try clear hb); (try clear hb2); (try clear hk); (try clear hi)))
   go_meet
   case rel => exact ⟨_, (true), (by first | rfl | (simp; done) | (simp [*]; done)), H', ⟨by first | omega | exact Nat.le_refl _⟩, ⟨bk BK230.out⟩, ⟨by repeat with_reducible first | exact bl HB.out | refine below_set ?_ GE230.out | refine bq ?_⟩⟩
 case rest =>
  clear HC2
  try clear c1
  try clear c2
  try clear p2
  try clear c5
  try clear c7
  try clear c8
  try clear c8b0
  try clear c8b1
  try clear c13
  try clear hcz11_0 hcz11_1 hcz11_2 hcz11_3 hcz11_4 hcz11_5 hfz11_0 hfz11_1 hfz11_2 hfz11_3 hfz11_4 hfz11_5
  try clear hcz13_0 hcz13_1 hcz13_2 hcz13_3 hcz13_4 hcz13_5 hfz13_0 hfz13_1 hfz13_2 hfz13_3 hfz13_4 hfz13_5
  try clear hcz14_0 hcz14_1 hcz14_2 hcz14_3 hcz14_4 hcz14_5 hfz14_0 hfz14_1 hfz14_2 hfz14_3 hfz14_4 hfz14_5
  try clear hcz16_0 hcz16_1 hcz16_2 hcz16_3 hcz16_4 hcz16_5 hfz16_0 hfz16_1 hfz16_2 hfz16_3 hfz16_4 hfz16_5
  try clear hcz18_0 hcz18_1 hcz18_2 hcz18_3 hcz18_4 hcz18_5 hfz18_0 hfz18_1 hfz18_2 hfz18_3 hfz18_4 hfz18_5
  try clear hcz19_0 hcz19_1 hcz19_2 hcz19_3 hcz19_4 hcz19_5 hfz19_0 hfz19_1 hfz19_2 hfz19_3 hfz19_4 hfz19_5
  try clear hcz21_0 hcz21_1 hcz21_2 hcz21_3 hcz21_4 hcz21_5 hfz21_0 hfz21_1 hfz21_2 hfz21_3 hfz21_4 hfz21_5
  try clear hcz23_0 hcz23_1 hcz23_2 hcz23_3 hcz23_4 hcz23_5 hfz23_0 hfz23_1 hfz23_2 hfz23_3 hfz23_4 hfz23_5
  try clear hcz9_0 hcz9_1 hcz9_2 hcz9_3 hcz9_4 hcz9_5 hfz9_0 hfz9_1 hfz9_2 hfz9_3 hfz9_4 hfz9_5
  obtain ⟨kq, x28_1, rfl, HA, HJ1, BK230, HB⟩ := hcut
  cases kq with
  | zero => exact absurd HA.out (by simp [spec_FleetOk.j0])
  | succ kj1 =>
   have H := HA.out
   clear HA
   simp only [spec_FleetOk.j0] at H
   by_cases c25 : x28_1 = true
   ·
    subst c25
    have H1 : (some false) = some r := by rw [if_pos rfl] at H; exact H
    clear H
    have H := H1
    clear H1
    obtain rfl := Option.some.inj H
    go_wp2
    go_ret
    exact ⟨by first | rfl | (simp [errW_none, errW_some] <;> rfl) | (simp [*, errW_none, errW_some] <;> rfl), by repeat with_reducible first | exact bl HB.out | refine below_set ?_ GE230.out | refine bq ?_⟩
   ·
    replace c25 := Bool.eq_false_iff.mpr c25
    subst c25
    have H1 : (spec_FleetOk.l0 kj1 0 l0_0 l0_1 l0_2 a0_3 a0_4 a0_5) = some r := by rw [if_neg (show ¬ (false = true) by decide)] at H; exact H
    clear H
    have H := H1
    clear H1
    have H' := Aside0.mk H
    clear H
    go_wp2
    go_loopg [3] kj1 (fun kq v3 w' => ∃ (x3_2 : Int), v3 = .int .i64 x3_2 ∧ Aside0 (spec_FleetOk.l0 kq x3_2 l0_0 l0_1 l0_2 a0_3 a0_4 a0_5 = some r) ∧ Aside0 (kq ≤ kj1) ∧ Aside0 (w'.heap[gb230]? = some (.cells #[(.slice A0_0 l0_0.length c0_0), (.slice A0_1 l0_1.length c0_1), (.slice A0_2 l0_2.length c0_2), .int .i64 a0_3, .int .i64 a0_4, .int .i64 a0_5] 56 (0, 0))) ∧ Aside0 (Below w.heap.size w w'))
    case atStart => exact ⟨(0), (by first | rfl | (simp; done) | (simp [*]; done)), H', ⟨Nat.le_refl _⟩, ⟨bk BK230.out⟩, ⟨by repeat with_reducible first | exact bl HB.out | refine below_set ?_ GE230.out | refine bq ?_⟩⟩
    case round =>
     clear H'
     try clear c1
     try clear c2
     try clear p2
     try clear c5
     try clear c7
     try clear c8
     try clear c8b0
     try clear c8b1
     try clear c13
     try clear c25
     try clear hcz11_0 hcz11_1 hcz11_2 hcz11_3 hcz11_4 hcz11_5 hfz11_0 hfz11_1 hfz11_2 hfz11_3 hfz11_4 hfz11_5
     try clear hcz13_0 hcz13_1 hcz13_2 hcz13_3 hcz13_4 hcz13_5 hfz13_0 hfz13_1 hfz13_2 hfz13_3 hfz13_4 hfz13_5
     try clear hcz14_0 hcz14_1 hcz14_2 hcz14_3 hcz14_4 hcz14_5 hfz14_0 hfz14_1 hfz14_2 hfz14_3 hfz14_4 hfz14_5
     try clear hcz16_0 hcz16_1 hcz16_2 hcz16_3 hcz16_4 hcz16_5 hfz16_0 hfz16_1 hfz16_2 hfz16_3 hfz16_4 hfz16_5
     try clear hcz18_0 hcz18_1 hcz18_2 hcz18_3 hcz18_4 hcz18_5 hfz18_0 hfz18_1 hfz18_2 hfz18_3 hfz18_4 hfz18_5
     try clear hcz19_0 hcz19_1 hcz19_2 hcz19_3 hcz19_4 hcz19_5 hfz19_0 hfz19_1 hfz19_2 hfz19_3 hfz19_4 hfz19_5
     try clear hcz21_0 hcz21_1 hcz21_2 hcz21_3 hcz21_4 hcz21_5 hfz21_0 hfz21_1 hfz21_2 hfz21_3 hfz21_4 hfz21_5
     try clear hcz23_0 hcz23_1 hcz23_2 hcz23_3 hcz23_4 hcz23_5 hfz23_0 hfz23_1 hfz23_2 hfz23_3 hfz23_4 hfz23_5
     try clear hcz9_0 hcz9_1 hcz9_2 hcz9_3 hcz9_4 hcz9_5 hfz9_0 hfz9_1 hfz9_2 hfz9_3 hfz9_4 hfz9_5
     try clear p2
     obtain ⟨x3_2, rfl, HA, HK2, BK230, HB⟩ := hrel
     cases gk with
     | zero => exact absurd HA.out (by simp [spec_FleetOk.l0])
     | succ k2 =>
      have H := HA.out
      clear HA
      simp only [spec_FleetOk.l0] at H
      by_cases c26 : x3_2 < (l0_0.length : Int)
      ·
       rw [if_pos c26] at H
       have c26b0 : decide (x3_2 < (l0_0.length : Int)) = true := decide_eq_true c26
       clear c26
       by_cases c27 : 0 ≤ x3_2
       ·
        rw [if_pos c27] at H
        have c27b0 : decide (0 ≤ x3_2) = true := decide_eq_true c27
        clear c27
        have HC28 := Aside0.mk H
        clear H
        obtain ⟨hcz29_0, hcz29_1, hcz29_2, hcz29_3, hcz29_4, hcz29_5⟩ := ck6 BK230.out
        obtain ⟨hfz29_0, hfz29_1, hfz29_2, hfz29_3, hfz29_4, hfz29_5⟩ := fz6 BK230.out
        have p233 : 0 ≤ (x3_2 : Int) := of_decide_eq_true (by first | (with_reducible assumption) | assumption)
        have q233 : x3_2 < (l0_0.length : Int) := of_decide_eq_true (by first | (with_reducible assumption) | assumption)
        obtain ⟨ad233, e233, hx233_0, hx233_1, hx233_2, hx233_3, hx233_4, hx233_5, hx233_6⟩ := at_T33 HR0_0.out x3_2 p233 q233
        cases e233
        replace hx233_0 := bc HB.out hx233_0
        replace hx233_1 := bc HB.out hx233_1
        replace hx233_2 := bc HB.out hx233_2
        replace hx233_3 := bc HB.out hx233_3
        replace hx233_4 := bc HB.out hx233_4
        replace hx233_5 := bc HB.out hx233_5
        replace hx233_6 := bc HB.out hx233_6
        replace p233 := eq_true p233
        replace q233 := eq_true q233
        go_upto_region 7 with (first | ((with_reducible refine gate_dst (N := 4) rfl ?_); (try (refine gate_guard (by rfl) ?_; dsimp only)); refine box_event ?hg (N := 4) ?hd (cs := #[.string (⟨#[]⟩ : ByteArray), .int .i64 0, .int .i64 0, .int .i64 0, .int .i64 0, .int .i64 0, .int .i64 0]) (t := 33) ?hr ?_; (case hd => rfl); (case hg => rfl); (case hr => first | (go_simp; done) | (go_simp; rfl)); intro gb234 hg w30 hbox hb; have BK234 := Aside0.mk (hbox); have GW234 := Aside0.mk ((by rw [hg]; exact (below_size (by repeat with_reducible first | exact bl HB.out | refine below_set ?_ GE230.out | refine bq ?_)) : w.heap.size ≤ gb234)); have GE234 := GW234; replace HB := Aside0.mk (below_step (by repeat with_reducible first | exact bl HB.out | refine below_set ?_ GE230.out | refine bq ?_) hb); have NB230_234 := nb_ hg BK230.out; have NB234_230 := Aside0.mk NB230_234.out.symm; replace BK230 := Aside0.mk (blk_below (bk BK230.out) hb); clear hb hbox hg; have hnb31 := NB234_230.out; have hnc31 := NB230_234.out; obtain ⟨hcz32_0, hcz32_1, hcz32_2, hcz32_3, hcz32_4, hcz32_5, hcz32_6⟩ := ck7 BK234.out; obtain ⟨hfz32_0, hfz32_1, hfz32_2, hfz32_3, hfz32_4, hfz32_5, hfz32_6⟩ := fz7 BK234.out))
        (try simp only [Act.put, List.setIfInBounds_toArray, List.set_cons_zero, List.set_cons_succ])
        go_cut [67] (fun v67 wc => ∃ (kq : Nat) (x67_27 : Bool), v67 = .bool x67_27 ∧ Aside0 (spec_FleetOk.j2 kq x3_2 x67_27 l0_0 l0_1 l0_2 a0_3 a0_4 a0_5 = some r) ∧ Aside0 (kq ≤ k2) ∧ Aside0 (wc.heap[gb230]? = some (.cells #[(.slice (some ad233) l0_0.length c0_0), (.slice A0_1 l0_1.length c0_1), (.slice A0_2 l0_2.length c0_2), .int .i64 a0_3, .int .i64 a0_4, .int .i64 a0_5] 56 (0, 0))) ∧ Aside0 (wc.heap[gb234]? = some (.cells #[.string ((rd_T33 l0_0 x3_2).f0), .int .i64 ((rd_T33 l0_0 x3_2).f1), .int .i64 ((rd_T33 l0_0 x3_2).f2), .int .i64 ((rd_T33 l0_0 x3_2).f3), .int .i64 ((rd_T33 l0_0 x3_2).f4.f0), .int .i64 ((rd_T33 l0_0 x3_2).f4.f1), .int .i64 ((rd_T33 l0_0 x3_2).f4.f2)] 33 (0, 0))) ∧ Aside0 (Below w.heap.size w wc))
        case first =>
         have H := HC28.out
         clear HC28
         replace H := Option.bind_eq_some_iff.mp H
         obtain ⟨t235, A330, H⟩ := H
         replace H : (if t235 = true then ((spec_l19Behind.f ((rd_T33 l0_0 x3_2).f4.f0) ((rd_T33 l0_0 x3_2).f4.f1) ((rd_T33 l0_0 x3_2).f4.f2) a0_3 a0_4 a0_5).bind fun t236 => (if t236 = true then (if x3_2 > 0 then (if 0 ≤ (wrap64 (x3_2 - 1)) then (if (wrap64 (x3_2 - 1)) < (l0_0.length : Int) then (spec_FleetOk.j2 k2 x3_2 (!(Op.bytesLess (((rd_T33 l0_0 (wrap64 (x3_2 - 1))).f0).toList) (((rd_T33 l0_0 x3_2).f0).toList))) l0_0 l0_1 l0_2 a0_3 a0_4 a0_5) else (none)) else (none)) else (spec_FleetOk.j2 k2 x3_2 false l0_0 l0_1 l0_2 a0_3 a0_4 a0_5)) else (spec_FleetOk.j2 k2 x3_2 true l0_0 l0_1 l0_2 a0_3 a0_4 a0_5))) else (spec_FleetOk.j2 k2 x3_2 true l0_0 l0_1 l0_2 a0_3 a0_4 a0_5)) = some r := H
         have A33 := Aside0.mk A330
         clear A330
         by_cases c34 : t235 = true
         ·
          subst c34
          have H1 : ((spec_l19Behind.f ((rd_T33 l0_0 x3_2).f4.f0) ((rd_T33 l0_0 x3_2).f4.f1) ((rd_T33 l0_0 x3_2).f4.f2) a0_3 a0_4 a0_5).bind fun t236 => (if t236 = true then (if x3_2 > 0 then (if 0 ≤ (wrap64 (x3_2 - 1)) then (if (wrap64 (x3_2 - 1)) < (l0_0.length : Int) then (spec_FleetOk.j2 k2 x3_2 (!(Op.bytesLess (((rd_T33 l0_0 (wrap64 (x3_2 - 1))).f0).toList) (((rd_T33 l0_0 x3_2).f0).toList))) l0_0 l0_1 l0_2 a0_3 a0_4 a0_5) else (none)) else (none)) else (spec_FleetOk.j2 k2 x3_2 false l0_0 l0_1 l0_2 a0_3 a0_4 a0_5)) else (spec_FleetOk.j2 k2 x3_2 true l0_0 l0_1 l0_2 a0_3 a0_4 a0_5))) = some r := by rw [if_pos rfl] at H; exact H
          clear H
          have H := H1
          clear H1
          replace H := Option.bind_eq_some_iff.mp H
          obtain ⟨t236, A350, H⟩ := H
          replace H : (if t236 = true then (if x3_2 > 0 then (if 0 ≤ (wrap64 (x3_2 - 1)) then (if (wrap64 (x3_2 - 1)) < (l0_0.length : Int) then (spec_FleetOk.j2 k2 x3_2 (!(Op.bytesLess (((rd_T33 l0_0 (wrap64 (x3_2 - 1))).f0).toList) (((rd_T33 l0_0 x3_2).f0).toList))) l0_0 l0_1 l0_2 a0_3 a0_4 a0_5) else (none)) else (none)) else (spec_FleetOk.j2 k2 x3_2 false l0_0 l0_1 l0_2 a0_3 a0_4 a0_5)) else (spec_FleetOk.j2 k2 x3_2 true l0_0 l0_1 l0_2 a0_3 a0_4 a0_5)) = some r := H
          have A35 := Aside0.mk A350
          clear A350
          by_cases c36 : t236 = true
          ·
           subst c36
           have H1 : (if x3_2 > 0 then (if 0 ≤ (wrap64 (x3_2 - 1)) then (if (wrap64 (x3_2 - 1)) < (l0_0.length : Int) then (spec_FleetOk.j2 k2 x3_2 (!(Op.bytesLess (((rd_T33 l0_0 (wrap64 (x3_2 - 1))).f0).toList) (((rd_T33 l0_0 x3_2).f0).toList))) l0_0 l0_1 l0_2 a0_3 a0_4 a0_5) else (none)) else (none)) else (spec_FleetOk.j2 k2 x3_2 false l0_0 l0_1 l0_2 a0_3 a0_4 a0_5)) = some r := by rw [if_pos rfl] at H; exact H
           clear H
           have H := H1
           clear H1
           by_cases c37 : x3_2 > 0
           ·
            rw [if_pos c37] at H
            have c37b0 : decide (0 < x3_2) = true := decide_eq_true c37
            clear c37
            (first | rw [c37b0] | (simp only [i64_w, i32_w]; rw [c37b0]) | skip)
            obtain ⟨ji38, hji38⟩ : ∃ j_ : Int, (wrap64 (x3_2 - 1)) = j_ := ⟨_, rfl⟩
            replace H : (if 0 ≤ (ji38) then (if (ji38) < (l0_0.length : Int) then (spec_FleetOk.j2 k2 x3_2 (!(Op.bytesLess (((rd_T33 l0_0 (ji38)).f0).toList) (((rd_T33 l0_0 x3_2).f0).toList))) l0_0 l0_1 l0_2 a0_3 a0_4 a0_5) else (none)) else (none)) = some r := by first | (rw [hji38] at H; exact H) | (simp only [hji38] at H ⊢; exact H)
            (try rw [hji38] at A33)
            (try rw [hji38] at A35)
            have hji38w : (IntKind.i64.wrap (x3_2 - 1)) = ji38 := (i64_w _).trans hji38
            by_cases c39 : 0 ≤ (ji38)
            ·
             rw [if_pos c39] at H
             have c39b0 : decide (0 ≤ (ji38)) = true := decide_eq_true c39
             clear c39
             by_cases c40 : (ji38) < (l0_0.length : Int)
             ·
              rw [if_pos c40] at H
              have c40b0 : decide ((ji38) < (l0_0.length : Int)) = true := decide_eq_true c40
              clear c40
              have H' := Aside0.mk H
              clear H
              try go_wp2
              have n0_ : Aside0 ((((((((w30.setCell ⟨gb234, 0, none⟩ (.string ((rd_T33 l0_0 x3_2).f0))).setCell ⟨gb234, 1, none⟩ (.int .i64 ((rd_T33 l0_0 x3_2).f1))).setCell ⟨gb234, 2, none⟩ (.int .i64 ((rd_T33 l0_0 x3_2).f2))).setCell ⟨gb234, 3, none⟩ (.int .i64 ((rd_T33 l0_0 x3_2).f3))).setCell ⟨gb234, 4, none⟩ (.int .i64 ((rd_T33 l0_0 x3_2).f4.f0))).setCell ⟨gb234, 5, none⟩ (.int .i64 ((rd_T33 l0_0 x3_2).f4.f1))).setCell ⟨gb234, 6, none⟩ (.int .i64 ((rd_T33 l0_0 x3_2).f4.f2))).heap[gb230]? = some (.cells #[.slice (some ad233) l0_0.length c0_0, .slice A0_1 l0_1.length c0_1, .slice A0_2 l0_2.length c0_2, .int .i64 a0_3, .int .i64 a0_4, .int .i64 a0_5] 56 (0, 0))) := ⟨by (repeat refine bk1 ?_); refine blk_far ?_ NB230_234.out _; (repeat refine bk1 ?_); refine blk_far ?_ NB230_234.out _; (repeat refine bk1 ?_); refine blk_far ?_ NB230_234.out _; (repeat refine bk1 ?_); refine blk_far ?_ NB230_234.out _; (repeat refine bk1 ?_); refine blk_far ?_ NB230_234.out _; (repeat refine bk1 ?_); refine blk_far ?_ NB230_234.out _; (repeat refine bk1 ?_); refine blk_far ?_ NB230_234.out _; (repeat refine bk1 ?_); exact BK230.out⟩
              have n1_ : Aside0 ((((((((w30.setCell ⟨gb234, 0, none⟩ (.string ((rd_T33 l0_0 x3_2).f0))).setCell ⟨gb234, 1, none⟩ (.int .i64 ((rd_T33 l0_0 x3_2).f1))).setCell ⟨gb234, 2, none⟩ (.int .i64 ((rd_T33 l0_0 x3_2).f2))).setCell ⟨gb234, 3, none⟩ (.int .i64 ((rd_T33 l0_0 x3_2).f3))).setCell ⟨gb234, 4, none⟩ (.int .i64 ((rd_T33 l0_0 x3_2).f4.f0))).setCell ⟨gb234, 5, none⟩ (.int .i64 ((rd_T33 l0_0 x3_2).f4.f1))).setCell ⟨gb234, 6, none⟩ (.int .i64 ((rd_T33 l0_0 x3_2).f4.f2))).heap[gb234]? = some (.cells #[.string ((rd_T33 l0_0 x3_2).f0), .int .i64 ((rd_T33 l0_0 x3_2).f1), .int .i64 ((rd_T33 l0_0 x3_2).f2), .int .i64 ((rd_T33 l0_0 x3_2).f3), .int .i64 ((rd_T33 l0_0 x3_2).f4.f0), .int .i64 ((rd_T33 l0_0 x3_2).f4.f1), .int .i64 ((rd_T33 l0_0 x3_2).f4.f2)] 33 (0, 0))) := ⟨by (repeat refine bk1 ?_); refine blk_put (cs := #[.string ((rd_T33 l0_0 x3_2).f0), .int .i64 ((rd_T33 l0_0 x3_2).f1), .int .i64 ((rd_T33 l0_0 x3_2).f2), .int .i64 ((rd_T33 l0_0 x3_2).f3), .int .i64 ((rd_T33 l0_0 x3_2).f4.f0), .int .i64 ((rd_T33 l0_0 x3_2).f4.f1), .int .i64 0]) ?_ 6 _ rfl; (repeat refine bk1 ?_); refine blk_put (cs := #[.string ((rd_T33 l0_0 x3_2).f0), .int .i64 ((rd_T33 l0_0 x3_2).f1), .int .i64 ((rd_T33 l0_0 x3_2).f2), .int .i64 ((rd_T33 l0_0 x3_2).f3), .int .i64 ((rd_T33 l0_0 x3_2).f4.f0), .int .i64 0, .int .i64 0]) ?_ 5 _ rfl; (repeat refine bk1 ?_); refine blk_put (cs := #[.string ((rd_T33 l0_0 x3_2).f0), .int .i64 ((rd_T33 l0_0 x3_2).f1), .int .i64 ((rd_T33 l0_0 x3_2).f2), .int .i64 ((rd_T33 l0_0 x3_2).f3), .int .i64 0, .int .i64 0, .int .i64 0]) ?_ 4 _ rfl; (repeat refine bk1 ?_); refine blk_put (cs := #[.string ((rd_T33 l0_0 x3_2).f0), .int .i64 ((rd_T33 l0_0 x3_2).f1), .int .i64 ((rd_T33 l0_0 x3_2).f2), .int .i64 0, .int .i64 0, .int .i64 0, .int .i64 0]) ?_ 3 _ rfl; (repeat refine bk1 ?_); refine blk_put (cs := #[.string ((rd_T33 l0_0 x3_2).f0), .int .i64 ((rd_T33 l0_0 x3_2).f1), .int .i64 0, .int .i64 0, .int .i64 0, .int .i64 0, .int .i64 0]) ?_ 2 _ rfl; (repeat refine bk1 ?_); refine blk_put (cs := #[.string ((rd_T33 l0_0 x3_2).f0), .int .i64 0, .int .i64 0, .int .i64 0, .int .i64 0, .int .i64 0, .int .i64 0]) ?_ 1 _ rfl; (repeat refine bk1 ?_); refine blk_put (cs := #[.string (⟨#[]⟩ : ByteArray), .int .i64 0, .int .i64 0, .int .i64 0, .int .i64 0, .int .i64 0, .int .i64 0]) ?_ 0 _ rfl; (repeat refine bk1 ?_); exact BK234.out⟩
              have n2_ : Aside0 (Below w.heap.size w (((((((w30.setCell ⟨gb234, 0, none⟩ (.string ((rd_T33 l0_0 x3_2).f0))).setCell ⟨gb234, 1, none⟩ (.int .i64 ((rd_T33 l0_0 x3_2).f1))).setCell ⟨gb234, 2, none⟩ (.int .i64 ((rd_T33 l0_0 x3_2).f2))).setCell ⟨gb234, 3, none⟩ (.int .i64 ((rd_T33 l0_0 x3_2).f3))).setCell ⟨gb234, 4, none⟩ (.int .i64 ((rd_T33 l0_0 x3_2).f4.f0))).setCell ⟨gb234, 5, none⟩ (.int .i64 ((rd_T33 l0_0 x3_2).f4.f1))).setCell ⟨gb234, 6, none⟩ (.int .i64 ((rd_T33 l0_0 x3_2).f4.f2)))) := ⟨by repeat with_reducible first | exact bl HB.out | refine below_set ?_ GE230.out | refine below_set ?_ GE234.out | refine bq ?_⟩
              (try clear BK230)
              (try clear BK234)
              (try clear HB)
              generalize (((((((w30.setCell ⟨gb234, 0, none⟩ (.string ((rd_T33 l0_0 x3_2).f0))).setCell ⟨gb234, 1, none⟩ (.int .i64 ((rd_T33 l0_0 x3_2).f1))).setCell ⟨gb234, 2, none⟩ (.int .i64 ((rd_T33 l0_0 x3_2).f2))).setCell ⟨gb234, 3, none⟩ (.int .i64 ((rd_T33 l0_0 x3_2).f3))).setCell ⟨gb234, 4, none⟩ (.int .i64 ((rd_T33 l0_0 x3_2).f4.f0))).setCell ⟨gb234, 5, none⟩ (.int .i64 ((rd_T33 l0_0 x3_2).f4.f1))).setCell ⟨gb234, 6, none⟩ (.int .i64 ((rd_T33 l0_0 x3_2).f4.f2))) = w41 at n0_ n1_ n2_ ⊢
              have BK230 := n0_
              have BK234 := n1_
              have HB := n2_
              clear n0_ n1_ n2_
              have n0_ := Aside0.mk (blk_drew BK230.out)
              have n1_ := Aside0.mk (blk_drew BK234.out)
              have n2_ := Aside0.mk (below_drew1 HB.out)
              clear BK230
              clear BK234
              clear HB
              have BK230 := n0_
              have BK234 := n1_
              have HB := n2_
              clear n0_ n1_ n2_
              have p237 : 0 ≤ ((ji38) : Int) := of_decide_eq_true (by first | (with_reducible assumption) | assumption)
              have q237 : (ji38) < (l0_0.length : Int) := of_decide_eq_true (by first | (with_reducible assumption) | assumption)
              obtain ⟨ad237, e237, hx237_0, hx237_1, hx237_2, hx237_3, hx237_4, hx237_5, hx237_6⟩ := at_T33 HR0_0.out (ji38) p237 q237
              have hw237_6 := hx237_6
              have hw237_5 := hx237_5
              have hw237_4 := hx237_4
              have hw237_3 := hx237_3
              have hw237_2 := hx237_2
              have hw237_1 := hx237_1
              have hw237_0 := hx237_0
              obtain rfl : ad233 = ad237 := (by injection e237)
              replace hx237_0 := bc HB.out hx237_0
              replace hx237_1 := bc HB.out hx237_1
              replace hx237_2 := bc HB.out hx237_2
              replace hx237_3 := bc HB.out hx237_3
              replace hx237_4 := bc HB.out hx237_4
              replace hx237_5 := bc HB.out hx237_5
              replace hx237_6 := bc HB.out hx237_6
              replace p237 := eq_true p237
              replace q237 := eq_true q237
              refine start_ (n := 27) (S := fun w' => w'.cell? ⟨gb234, 0, none⟩ = some (.string ((rd_T33 l0_0 x3_2).f0)) ∧ w'.cell? ⟨gb234, 1, none⟩ = some (.int .i64 ((rd_T33 l0_0 x3_2).f1)) ∧ w'.cell? ⟨gb234, 2, none⟩ = some (.int .i64 ((rd_T33 l0_0 x3_2).f2)) ∧ w'.cell? ⟨gb234, 3, none⟩ = some (.int .i64 ((rd_T33 l0_0 x3_2).f3)) ∧ w'.cell? ⟨gb234, 4, none⟩ = some (.int .i64 ((rd_T33 l0_0 x3_2).f4.f0)) ∧ w'.cell? ⟨gb234, 5, none⟩ = some (.int .i64 ((rd_T33 l0_0 x3_2).f4.f1)) ∧ w'.cell? ⟨gb234, 6, none⟩ = some (.int .i64 ((rd_T33 l0_0 x3_2).f4.f2)) ∧ w'.cell? ⟨gb230, 0, none⟩ = some (.slice (some ad233) l0_0.length c0_0) ∧ w'.cell? ⟨gb230, 1, none⟩ = some (.slice A0_1 l0_1.length c0_1) ∧ w'.cell? ⟨gb230, 2, none⟩ = some (.slice A0_2 l0_2.length c0_2) ∧ w'.cell? ⟨gb230, 3, none⟩ = some (.int .i64 a0_3) ∧ w'.cell? ⟨gb230, 4, none⟩ = some (.int .i64 a0_4) ∧ w'.cell? ⟨gb230, 5, none⟩ = some (.int .i64 a0_5) ∧ w'.cell? (ad233.add (((ji38)).toNat * 7)) = some (.string ((rd_T33 l0_0 (ji38)).f0)) ∧ w'.cell? ⟨(ad233.add (((ji38)).toNat * 7)).block, (ad233.add (((ji38)).toNat * 7)).off + 1, none⟩ = some (.int .i64 ((rd_T33 l0_0 (ji38)).f1)) ∧ w'.cell? ⟨(ad233.add (((ji38)).toNat * 7)).block, (ad233.add (((ji38)).toNat * 7)).off + 2, none⟩ = some (.int .i64 ((rd_T33 l0_0 (ji38)).f2)) ∧ w'.cell? ⟨(ad233.add (((ji38)).toNat * 7)).block, (ad233.add (((ji38)).toNat * 7)).off + 3, none⟩ = some (.int .i64 ((rd_T33 l0_0 (ji38)).f3)) ∧ w'.cell? ⟨(ad233.add (((ji38)).toNat * 7)).block, (ad233.add (((ji38)).toNat * 7)).off + 4, none⟩ = some (.int .i64 ((rd_T33 l0_0 (ji38)).f4.f0)) ∧ w'.cell? ⟨(ad233.add (((ji38)).toNat * 7)).block, (ad233.add (((ji38)).toNat * 7)).off + 5, none⟩ = some (.int .i64 ((rd_T33 l0_0 (ji38)).f4.f1)) ∧ w'.cell? ⟨(ad233.add (((ji38)).toNat * 7)).block, (ad233.add (((ji38)).toNat * 7)).off + 6, none⟩ = some (.int .i64 ((rd_T33 l0_0 (ji38)).f4.f2))) (ds := []) m0_27 (by kernel_rfl) rfl rfl ⟨ck BK234.out 0 rfl, ck BK234.out 1 rfl, ck BK234.out 2 rfl, ck BK234.out 3 rfl, ck BK234.out 4 rfl, ck BK234.out 5 rfl, ck BK234.out 6 rfl, ck BK230.out 0 rfl, ck BK230.out 1 rfl, ck BK230.out 2 rfl, ck BK230.out 3 rfl, ck BK230.out 4 rfl, ck BK230.out 5 rfl, ((HB.out.cell (World.block_lt_of_cell? w _ hw237_0)).trans hw237_0), ((HB.out.cell (World.block_lt_of_cell? w _ hw237_1)).trans hw237_1), ((HB.out.cell (World.block_lt_of_cell? w _ hw237_2)).trans hw237_2), ((HB.out.cell (World.block_lt_of_cell? w _ hw237_3)).trans hw237_3), ((HB.out.cell (World.block_lt_of_cell? w _ hw237_4)).trans hw237_4), ((HB.out.cell (World.block_lt_of_cell? w _ hw237_5)).trans hw237_5), ((HB.out.cell (World.block_lt_of_cell? w _ hw237_6)).trans hw237_6)⟩ (fun hHeld => ?_); refine with_tabW spec_FleetOk.tab7 spec_FleetOk.bits7 (fun HT_ HW_ => ?_)
              generalize w41.drew = w42 at BK230 BK234 HB hx237_0 hx237_1 hx237_2 hx237_3 hx237_4 hx237_5 hx237_6 hHeld ⊢
              refine tk_ HT_.out HW_.out 0 41 m1_27 rfl rfl (by kernel_rfl) (by rfl) (by rintro w' ⟨s0, s1, s2, s3, s4, s5, s6, s7, s8, s9, s10, s11, s12, s13, s14, s15, s16, s17, s18, s19⟩; go_simp; with_reducible rfl) hHeld (by simp only [sp_]; rfl) (fun _ _ _ h => h) ?_
              refine one_ (i := 1) (N := some 42) m2_27 rfl rfl (one_of HT_.out (by kernel_rfl)) (by decide) (fun K hK => ?_)
              refine goes_ Try.func17 (by kernel_rfl) rfl #[.agg #[.string ((rd_T33 l0_0 x3_2).f0), .int .i64 ((rd_T33 l0_0 x3_2).f1), .int .i64 ((rd_T33 l0_0 x3_2).f2), .int .i64 ((rd_T33 l0_0 x3_2).f3), .int .i64 ((rd_T33 l0_0 x3_2).f4.f0), .int .i64 ((rd_T33 l0_0 x3_2).f4.f1), .int .i64 ((rd_T33 l0_0 x3_2).f4.f2)]] (by rfl) rfl rfl (by (try simp only [am_]); first | done | rfl) ?_
              with_reducible refine (spec_TaskOk.calls k2 ((rd_T33 l0_0 x3_2).f0) ((rd_T33 l0_0 x3_2).f1) ((rd_T33 l0_0 x3_2).f2) ((rd_T33 l0_0 x3_2).f3) ((rd_T33 l0_0 x3_2).f4.f0) ((rd_T33 l0_0 x3_2).f4.f1) ((rd_T33 l0_0 x3_2).f4.f2) true _ A33.out).mono ?_
              rintro e w43 ⟨rfl, hb⟩
              refine ⟨_, rfl, ?_⟩
              have n0_ := Aside0.mk (blk_below (bk BK230.out) hb)
              have n1_ := Aside0.mk (blk_below (bk BK234.out) hb)
              have n2_ := Aside0.mk (below_step (by repeat with_reducible first | exact bl HB.out | refine below_set ?_ GE230.out | refine below_set ?_ GE234.out | refine bq ?_) hb)
              clear BK230
              clear BK234
              clear HB
              have BK230 := n0_
              have BK234 := n1_
              have HB := n2_
              clear n0_ n1_ n2_
              (try clear hb)
              (try clear hb2)
              (try clear hk)
              (try clear hi)
              refine hK.out _ _ ⟨ck BK234.out 0 rfl, ck BK234.out 1 rfl, ck BK234.out 2 rfl, ck BK234.out 3 rfl, ck BK234.out 4 rfl, ck BK234.out 5 rfl, ck BK234.out 6 rfl, ck BK230.out 0 rfl, ck BK230.out 1 rfl, ck BK230.out 2 rfl, ck BK230.out 3 rfl, ck BK230.out 4 rfl, ck BK230.out 5 rfl, ((HB.out.cell (World.block_lt_of_cell? w _ hw237_0)).trans hw237_0), ((HB.out.cell (World.block_lt_of_cell? w _ hw237_1)).trans hw237_1), ((HB.out.cell (World.block_lt_of_cell? w _ hw237_2)).trans hw237_2), ((HB.out.cell (World.block_lt_of_cell? w _ hw237_3)).trans hw237_3), ((HB.out.cell (World.block_lt_of_cell? w _ hw237_4)).trans hw237_4), ((HB.out.cell (World.block_lt_of_cell? w _ hw237_5)).trans hw237_5), ((HB.out.cell (World.block_lt_of_cell? w _ hw237_6)).trans hw237_6)⟩ (fun hHeld => ?_)
              clear hK K
              refine norm_ (a' := ?_) ?_ ?_
              rotate_left
              ·
               show Act.put _ (some 42) _ = _
               simp only [sp_]
               rfl
              refine pq_ HT_.out 2 43 m3_27 ?_
              refine pq_ HT_.out 3 44 m4_27 ?_
              refine pq_ HT_.out 4 45 m5_27 ?_
              refine pq_ HT_.out 6 47 n87 ?_
              refine tk_ HT_.out HW_.out 5 46 m7_27 rfl rfl (by kernel_rfl) (by rfl) (by rintro w' ⟨s0, s1, s2, s3, s4, s5, s6, s7, s8, s9, s10, s11, s12, s13, s14, s15, s16, s17, s18, s19⟩; go_simp; with_reducible rfl) hHeld (by simp only [sp_]; rfl) (fun _ _ _ h => h) ?_
              refine tk_ HT_.out HW_.out 7 48 m8_27 rfl rfl (by kernel_rfl) (by rfl) (by rintro w' ⟨s0, s1, s2, s3, s4, s5, s6, s7, s8, s9, s10, s11, s12, s13, s14, s15, s16, s17, s18, s19⟩; go_simp; with_reducible rfl) hHeld (by simp only [sp_]; rfl) (fun _ _ _ h => h) ?_
              refine one_ (i := 8) (N := some 49) m9_27 rfl rfl (one_of HT_.out (by kernel_rfl)) (by decide) (fun K hK => ?_)
              refine goes_ Try.func57 (by kernel_rfl) rfl #[.agg #[.int .i64 ((rd_T33 l0_0 x3_2).f4.f0), .int .i64 ((rd_T33 l0_0 x3_2).f4.f1), .int .i64 ((rd_T33 l0_0 x3_2).f4.f2)], .agg #[.int .i64 a0_3, .int .i64 a0_4, .int .i64 a0_5]] (by rfl) rfl rfl (by (try simp only [am_]); first | done | rfl) ?_
              with_reducible refine (spec_l19Behind.calls ((rd_T33 l0_0 x3_2).f4.f0) ((rd_T33 l0_0 x3_2).f4.f1) ((rd_T33 l0_0 x3_2).f4.f2) a0_3 a0_4 a0_5 true _ A35.out).mono ?_
              rintro e w44 ⟨rfl, hb⟩
              refine ⟨_, rfl, ?_⟩
              have n0_ := Aside0.mk (blk_below (bk BK230.out) hb)
              have n1_ := Aside0.mk (blk_below (bk BK234.out) hb)
              have n2_ := Aside0.mk (below_step (by repeat with_reducible first | exact bl HB.out | refine below_set ?_ GE230.out | refine below_set ?_ GE234.out | refine bq ?_) hb)
              clear BK230
              clear BK234
              clear HB
              have BK230 := n0_
              have BK234 := n1_
              have HB := n2_
              clear n0_ n1_ n2_
              (try clear hb)
              (try clear hb2)
              (try clear hk)
              (try clear hi)
              refine hK.out _ _ ⟨ck BK234.out 0 rfl, ck BK234.out 1 rfl, ck BK234.out 2 rfl, ck BK234.out 3 rfl, ck BK234.out 4 rfl, ck BK234.out 5 rfl, ck BK234.out 6 rfl, ck BK230.out 0 rfl, ck BK230.out 1 rfl, ck BK230.out 2 rfl, ck BK230.out 3 rfl, ck BK230.out 4 rfl, ck BK230.out 5 rfl, ((HB.out.cell (World.block_lt_of_cell? w _ hw237_0)).trans hw237_0), ((HB.out.cell (World.block_lt_of_cell? w _ hw237_1)).trans hw237_1), ((HB.out.cell (World.block_lt_of_cell? w _ hw237_2)).trans hw237_2), ((HB.out.cell (World.block_lt_of_cell? w _ hw237_3)).trans hw237_3), ((HB.out.cell (World.block_lt_of_cell? w _ hw237_4)).trans hw237_4), ((HB.out.cell (World.block_lt_of_cell? w _ hw237_5)).trans hw237_5), ((HB.out.cell (World.block_lt_of_cell? w _ hw237_6)).trans hw237_6)⟩ (fun hHeld => ?_)
              clear hK K
              refine norm_ (a' := ?_) ?_ ?_
              rotate_left
              ·
               show Act.put _ (some 49) _ = _
               simp only [sp_]
               rfl
              refine pq_ HT_.out 9 50 m10_27 ?_
              refine pq_ HT_.out 10 51 m11_27 ?_
              refine pq_ HT_.out 11 52 m12_27 ?_
              refine pq_ HT_.out 12 53 m13_27 ?_
              refine pq_ HT_.out 13 54 m14_27 ?_
              refine pq_ HT_.out 14 55 m15_27 ?_
              refine pq_ HT_.out 15 56 m16_27 ?_
              refine pq_ HT_.out 17 58 n95 ?_
              refine pq_ HT_.out 18 59 n96 ?_
              refine pq_ HT_.out 22 63 n97 ?_
              refine tk_ HT_.out HW_.out 16 57 n156 rfl rfl (by kernel_rfl) (by rfl) (by rintro w' ⟨s0, s1, s2, s3, s4, s5, s6, s7, s8, s9, s10, s11, s12, s13, s14, s15, s16, s17, s18, s19⟩; go_simp; with_reducible rfl) hHeld (by simp only [sp_]; rfl) (fun _ _ _ h => h) ?_
              refine pq_ HT_.out 19 60 n98 ?_
              refine pq_ HT_.out 20 61 n99 ?_
              refine tk_ HT_.out HW_.out 21 62 m23_27 rfl rfl (by kernel_rfl) (by rfl) (by rintro w' ⟨s0, s1, s2, s3, s4, s5, s6, s7, s8, s9, s10, s11, s12, s13, s14, s15, s16, s17, s18, s19⟩; go_simp; with_reducible rfl) hHeld (by simp only [sp_]; rfl) (fun _ _ _ h => h) ?_
              refine tk_ HT_.out HW_.out 23 64 m24_27 rfl rfl (by kernel_rfl) (by rfl) (by rintro w' ⟨s0, s1, s2, s3, s4, s5, s6, s7, s8, s9, s10, s11, s12, s13, s14, s15, s16, s17, s18, s19⟩; go_simp; with_reducible rfl) hHeld (by simp only [sp_]; rfl) (fun _ _ _ h => h) ?_
              refine pq_ HT_.out 24 65 m25_27 ?_
              refine pq_ HT_.out 25 66 m26_27 ?_
              refine pq_ HT_.out 26 67 m27_27 ?_
              refine done_ (done_of HT_.out (by kernel_rfl)) ?_
              try go_wp2
              go_meet
              case rel => exact ⟨_, (!(Op.bytesLess (((rd_T33 l0_0 (ji38)).f0).toList) (((rd_T33 l0_0 x3_2).f0).toList))), (by first | rfl | (simp; done) | (simp only [← hji38] <;> (first | rfl | simp)) | (simp [*]; done)), H', ⟨by have := HJ1.out; have := HK2.out; first | omega | exact Nat.le_refl _⟩, ⟨bk BK230.out⟩, ⟨bk BK234.out⟩, ⟨by repeat with_reducible first | exact bl HB.out | refine below_set ?_ GE230.out | refine below_set ?_ GE234.out | refine bq ?_⟩⟩
             ·
              rw [if_neg c40] at H
              exact absurd H (by simp)
            ·
             rw [if_neg c39] at H
             exact absurd H (by simp)
           ·
            rw [if_neg c37] at H
            have c37b0 : decide (0 < x3_2) = false := decide_eq_false c37
            clear c37
            (first | rw [c37b0] | (simp only [i64_w, i32_w]; rw [c37b0]) | skip)
            have H' := Aside0.mk H
            clear H
            try go_wp2
            have n0_ : Aside0 ((((((((w30.setCell ⟨gb234, 0, none⟩ (.string ((rd_T33 l0_0 x3_2).f0))).setCell ⟨gb234, 1, none⟩ (.int .i64 ((rd_T33 l0_0 x3_2).f1))).setCell ⟨gb234, 2, none⟩ (.int .i64 ((rd_T33 l0_0 x3_2).f2))).setCell ⟨gb234, 3, none⟩ (.int .i64 ((rd_T33 l0_0 x3_2).f3))).setCell ⟨gb234, 4, none⟩ (.int .i64 ((rd_T33 l0_0 x3_2).f4.f0))).setCell ⟨gb234, 5, none⟩ (.int .i64 ((rd_T33 l0_0 x3_2).f4.f1))).setCell ⟨gb234, 6, none⟩ (.int .i64 ((rd_T33 l0_0 x3_2).f4.f2))).heap[gb230]? = some (.cells #[.slice (some ad233) l0_0.length c0_0, .slice A0_1 l0_1.length c0_1, .slice A0_2 l0_2.length c0_2, .int .i64 a0_3, .int .i64 a0_4, .int .i64 a0_5] 56 (0, 0))) := ⟨by (repeat refine bk1 ?_); refine blk_far ?_ NB230_234.out _; (repeat refine bk1 ?_); refine blk_far ?_ NB230_234.out _; (repeat refine bk1 ?_); refine blk_far ?_ NB230_234.out _; (repeat refine bk1 ?_); refine blk_far ?_ NB230_234.out _; (repeat refine bk1 ?_); refine blk_far ?_ NB230_234.out _; (repeat refine bk1 ?_); refine blk_far ?_ NB230_234.out _; (repeat refine bk1 ?_); refine blk_far ?_ NB230_234.out _; (repeat refine bk1 ?_); exact BK230.out⟩
            have n1_ : Aside0 ((((((((w30.setCell ⟨gb234, 0, none⟩ (.string ((rd_T33 l0_0 x3_2).f0))).setCell ⟨gb234, 1, none⟩ (.int .i64 ((rd_T33 l0_0 x3_2).f1))).setCell ⟨gb234, 2, none⟩ (.int .i64 ((rd_T33 l0_0 x3_2).f2))).setCell ⟨gb234, 3, none⟩ (.int .i64 ((rd_T33 l0_0 x3_2).f3))).setCell ⟨gb234, 4, none⟩ (.int .i64 ((rd_T33 l0_0 x3_2).f4.f0))).setCell ⟨gb234, 5, none⟩ (.int .i64 ((rd_T33 l0_0 x3_2).f4.f1))).setCell ⟨gb234, 6, none⟩ (.int .i64 ((rd_T33 l0_0 x3_2).f4.f2))).heap[gb234]? = some (.cells #[.string ((rd_T33 l0_0 x3_2).f0), .int .i64 ((rd_T33 l0_0 x3_2).f1), .int .i64 ((rd_T33 l0_0 x3_2).f2), .int .i64 ((rd_T33 l0_0 x3_2).f3), .int .i64 ((rd_T33 l0_0 x3_2).f4.f0), .int .i64 ((rd_T33 l0_0 x3_2).f4.f1), .int .i64 ((rd_T33 l0_0 x3_2).f4.f2)] 33 (0, 0))) := ⟨by (repeat refine bk1 ?_); refine blk_put (cs := #[.string ((rd_T33 l0_0 x3_2).f0), .int .i64 ((rd_T33 l0_0 x3_2).f1), .int .i64 ((rd_T33 l0_0 x3_2).f2), .int .i64 ((rd_T33 l0_0 x3_2).f3), .int .i64 ((rd_T33 l0_0 x3_2).f4.f0), .int .i64 ((rd_T33 l0_0 x3_2).f4.f1), .int .i64 0]) ?_ 6 _ rfl; (repeat refine bk1 ?_); refine blk_put (cs := #[.string ((rd_T33 l0_0 x3_2).f0), .int .i64 ((rd_T33 l0_0 x3_2).f1), .int .i64 ((rd_T33 l0_0 x3_2).f2), .int .i64 ((rd_T33 l0_0 x3_2).f3), .int .i64 ((rd_T33 l0_0 x3_2).f4.f0), .int .i64 0, .int .i64 0]) ?_ 5 _ rfl; (repeat refine bk1 ?_); refine blk_put (cs := #[.string ((rd_T33 l0_0 x3_2).f0), .int .i64 ((rd_T33 l0_0 x3_2).f1), .int .i64 ((rd_T33 l0_0 x3_2).f2), .int .i64 ((rd_T33 l0_0 x3_2).f3), .int .i64 0, .int .i64 0, .int .i64 0]) ?_ 4 _ rfl; (repeat refine bk1 ?_); refine blk_put (cs := #[.string ((rd_T33 l0_0 x3_2).f0), .int .i64 ((rd_T33 l0_0 x3_2).f1), .int .i64 ((rd_T33 l0_0 x3_2).f2), .int .i64 0, .int .i64 0, .int .i64 0, .int .i64 0]) ?_ 3 _ rfl; (repeat refine bk1 ?_); refine blk_put (cs := #[.string ((rd_T33 l0_0 x3_2).f0), .int .i64 ((rd_T33 l0_0 x3_2).f1), .int .i64 0, .int .i64 0, .int .i64 0, .int .i64 0, .int .i64 0]) ?_ 2 _ rfl; (repeat refine bk1 ?_); refine blk_put (cs := #[.string ((rd_T33 l0_0 x3_2).f0), .int .i64 0, .int .i64 0, .int .i64 0, .int .i64 0, .int .i64 0, .int .i64 0]) ?_ 1 _ rfl; (repeat refine bk1 ?_); refine blk_put (cs := #[.string (⟨#[]⟩ : ByteArray), .int .i64 0, .int .i64 0, .int .i64 0, .int .i64 0, .int .i64 0, .int .i64 0]) ?_ 0 _ rfl; (repeat refine bk1 ?_); exact BK234.out⟩
            have n2_ : Aside0 (Below w.heap.size w (((((((w30.setCell ⟨gb234, 0, none⟩ (.string ((rd_T33 l0_0 x3_2).f0))).setCell ⟨gb234, 1, none⟩ (.int .i64 ((rd_T33 l0_0 x3_2).f1))).setCell ⟨gb234, 2, none⟩ (.int .i64 ((rd_T33 l0_0 x3_2).f2))).setCell ⟨gb234, 3, none⟩ (.int .i64 ((rd_T33 l0_0 x3_2).f3))).setCell ⟨gb234, 4, none⟩ (.int .i64 ((rd_T33 l0_0 x3_2).f4.f0))).setCell ⟨gb234, 5, none⟩ (.int .i64 ((rd_T33 l0_0 x3_2).f4.f1))).setCell ⟨gb234, 6, none⟩ (.int .i64 ((rd_T33 l0_0 x3_2).f4.f2)))) := ⟨by repeat with_reducible first | exact bl HB.out | refine below_set ?_ GE230.out | refine below_set ?_ GE234.out | refine bq ?_⟩
            (try clear BK230)
            (try clear BK234)
            (try clear HB)
            generalize (((((((w30.setCell ⟨gb234, 0, none⟩ (.string ((rd_T33 l0_0 x3_2).f0))).setCell ⟨gb234, 1, none⟩ (.int .i64 ((rd_T33 l0_0 x3_2).f1))).setCell ⟨gb234, 2, none⟩ (.int .i64 ((rd_T33 l0_0 x3_2).f2))).setCell ⟨gb234, 3, none⟩ (.int .i64 ((rd_T33 l0_0 x3_2).f3))).setCell ⟨gb234, 4, none⟩ (.int .i64 ((rd_T33 l0_0 x3_2).f4.f0))).setCell ⟨gb234, 5, none⟩ (.int .i64 ((rd_T33 l0_0 x3_2).f4.f1))).setCell ⟨gb234, 6, none⟩ (.int .i64 ((rd_T33 l0_0 x3_2).f4.f2))) = w45 at n0_ n1_ n2_ ⊢
            have BK230 := n0_
            have BK234 := n1_
            have HB := n2_
            clear n0_ n1_ n2_
            have n0_ := Aside0.mk (blk_drew BK230.out)
            have n1_ := Aside0.mk (blk_drew BK234.out)
            have n2_ := Aside0.mk (below_drew1 HB.out)
            clear BK230
            clear BK234
            clear HB
            have BK230 := n0_
            have BK234 := n1_
            have HB := n2_
            clear n0_ n1_ n2_
            refine start_ (n := 27) (S := fun w' => w'.cell? ⟨gb234, 0, none⟩ = some (.string ((rd_T33 l0_0 x3_2).f0)) ∧ w'.cell? ⟨gb234, 1, none⟩ = some (.int .i64 ((rd_T33 l0_0 x3_2).f1)) ∧ w'.cell? ⟨gb234, 2, none⟩ = some (.int .i64 ((rd_T33 l0_0 x3_2).f2)) ∧ w'.cell? ⟨gb234, 3, none⟩ = some (.int .i64 ((rd_T33 l0_0 x3_2).f3)) ∧ w'.cell? ⟨gb234, 4, none⟩ = some (.int .i64 ((rd_T33 l0_0 x3_2).f4.f0)) ∧ w'.cell? ⟨gb234, 5, none⟩ = some (.int .i64 ((rd_T33 l0_0 x3_2).f4.f1)) ∧ w'.cell? ⟨gb234, 6, none⟩ = some (.int .i64 ((rd_T33 l0_0 x3_2).f4.f2)) ∧ w'.cell? ⟨gb230, 0, none⟩ = some (.slice (some ad233) l0_0.length c0_0) ∧ w'.cell? ⟨gb230, 1, none⟩ = some (.slice A0_1 l0_1.length c0_1) ∧ w'.cell? ⟨gb230, 2, none⟩ = some (.slice A0_2 l0_2.length c0_2) ∧ w'.cell? ⟨gb230, 3, none⟩ = some (.int .i64 a0_3) ∧ w'.cell? ⟨gb230, 4, none⟩ = some (.int .i64 a0_4) ∧ w'.cell? ⟨gb230, 5, none⟩ = some (.int .i64 a0_5)) (ds := []) m0_27 (by kernel_rfl) rfl rfl ⟨ck BK234.out 0 rfl, ck BK234.out 1 rfl, ck BK234.out 2 rfl, ck BK234.out 3 rfl, ck BK234.out 4 rfl, ck BK234.out 5 rfl, ck BK234.out 6 rfl, ck BK230.out 0 rfl, ck BK230.out 1 rfl, ck BK230.out 2 rfl, ck BK230.out 3 rfl, ck BK230.out 4 rfl, ck BK230.out 5 rfl⟩ (fun hHeld => ?_); refine with_tabW spec_FleetOk.tab7 spec_FleetOk.bits7 (fun HT_ HW_ => ?_)
            generalize w45.drew = w46 at BK230 BK234 HB hHeld ⊢
            refine tk_ HT_.out HW_.out 0 41 m1_27 rfl rfl (by kernel_rfl) (by rfl) (by rintro w' ⟨s0, s1, s2, s3, s4, s5, s6, s7, s8, s9, s10, s11, s12⟩; go_simp; with_reducible rfl) hHeld (by simp only [sp_]; rfl) (fun _ _ _ h => h) ?_
            refine one_ (i := 1) (N := some 42) m2_27 rfl rfl (one_of HT_.out (by kernel_rfl)) (by decide) (fun K hK => ?_)
            refine goes_ Try.func17 (by kernel_rfl) rfl #[.agg #[.string ((rd_T33 l0_0 x3_2).f0), .int .i64 ((rd_T33 l0_0 x3_2).f1), .int .i64 ((rd_T33 l0_0 x3_2).f2), .int .i64 ((rd_T33 l0_0 x3_2).f3), .int .i64 ((rd_T33 l0_0 x3_2).f4.f0), .int .i64 ((rd_T33 l0_0 x3_2).f4.f1), .int .i64 ((rd_T33 l0_0 x3_2).f4.f2)]] (by rfl) rfl rfl (by (try simp only [am_]); first | done | rfl) ?_
            with_reducible refine (spec_TaskOk.calls k2 ((rd_T33 l0_0 x3_2).f0) ((rd_T33 l0_0 x3_2).f1) ((rd_T33 l0_0 x3_2).f2) ((rd_T33 l0_0 x3_2).f3) ((rd_T33 l0_0 x3_2).f4.f0) ((rd_T33 l0_0 x3_2).f4.f1) ((rd_T33 l0_0 x3_2).f4.f2) true _ A33.out).mono ?_
            rintro e w47 ⟨rfl, hb⟩
            refine ⟨_, rfl, ?_⟩
            have n0_ := Aside0.mk (blk_below (bk BK230.out) hb)
            have n1_ := Aside0.mk (blk_below (bk BK234.out) hb)
            have n2_ := Aside0.mk (below_step (by repeat with_reducible first | exact bl HB.out | refine below_set ?_ GE230.out | refine below_set ?_ GE234.out | refine bq ?_) hb)
            clear BK230
            clear BK234
            clear HB
            have BK230 := n0_
            have BK234 := n1_
            have HB := n2_
            clear n0_ n1_ n2_
            (try clear hb)
            (try clear hb2)
            (try clear hk)
            (try clear hi)
            refine hK.out _ _ ⟨ck BK234.out 0 rfl, ck BK234.out 1 rfl, ck BK234.out 2 rfl, ck BK234.out 3 rfl, ck BK234.out 4 rfl, ck BK234.out 5 rfl, ck BK234.out 6 rfl, ck BK230.out 0 rfl, ck BK230.out 1 rfl, ck BK230.out 2 rfl, ck BK230.out 3 rfl, ck BK230.out 4 rfl, ck BK230.out 5 rfl⟩ (fun hHeld => ?_)
            clear hK K
            refine norm_ (a' := ?_) ?_ ?_
            rotate_left
            ·
             show Act.put _ (some 42) _ = _
             simp only [sp_]
             rfl
            refine pq_ HT_.out 2 43 m3_27 ?_
            refine pq_ HT_.out 3 44 m4_27 ?_
            refine pq_ HT_.out 4 45 m5_27 ?_
            refine pq_ HT_.out 6 47 n87 ?_
            refine tk_ HT_.out HW_.out 5 46 m7_27 rfl rfl (by kernel_rfl) (by rfl) (by rintro w' ⟨s0, s1, s2, s3, s4, s5, s6, s7, s8, s9, s10, s11, s12⟩; go_simp; with_reducible rfl) hHeld (by simp only [sp_]; rfl) (fun _ _ _ h => h) ?_
            refine tk_ HT_.out HW_.out 7 48 m8_27 rfl rfl (by kernel_rfl) (by rfl) (by rintro w' ⟨s0, s1, s2, s3, s4, s5, s6, s7, s8, s9, s10, s11, s12⟩; go_simp; with_reducible rfl) hHeld (by simp only [sp_]; rfl) (fun _ _ _ h => h) ?_
            refine one_ (i := 8) (N := some 49) m9_27 rfl rfl (one_of HT_.out (by kernel_rfl)) (by decide) (fun K hK => ?_)
            refine goes_ Try.func57 (by kernel_rfl) rfl #[.agg #[.int .i64 ((rd_T33 l0_0 x3_2).f4.f0), .int .i64 ((rd_T33 l0_0 x3_2).f4.f1), .int .i64 ((rd_T33 l0_0 x3_2).f4.f2)], .agg #[.int .i64 a0_3, .int .i64 a0_4, .int .i64 a0_5]] (by rfl) rfl rfl (by (try simp only [am_]); first | done | rfl) ?_
            with_reducible refine (spec_l19Behind.calls ((rd_T33 l0_0 x3_2).f4.f0) ((rd_T33 l0_0 x3_2).f4.f1) ((rd_T33 l0_0 x3_2).f4.f2) a0_3 a0_4 a0_5 true _ A35.out).mono ?_
            rintro e w48 ⟨rfl, hb⟩
            refine ⟨_, rfl, ?_⟩
            have n0_ := Aside0.mk (blk_below (bk BK230.out) hb)
            have n1_ := Aside0.mk (blk_below (bk BK234.out) hb)
            have n2_ := Aside0.mk (below_step (by repeat with_reducible first | exact bl HB.out | refine below_set ?_ GE230.out | refine below_set ?_ GE234.out | refine bq ?_) hb)
            clear BK230
            clear BK234
            clear HB
            have BK230 := n0_
            have BK234 := n1_
            have HB := n2_
            clear n0_ n1_ n2_
            (try clear hb)
            (try clear hb2)
            (try clear hk)
            (try clear hi)
            refine hK.out _ _ ⟨ck BK234.out 0 rfl, ck BK234.out 1 rfl, ck BK234.out 2 rfl, ck BK234.out 3 rfl, ck BK234.out 4 rfl, ck BK234.out 5 rfl, ck BK234.out 6 rfl, ck BK230.out 0 rfl, ck BK230.out 1 rfl, ck BK230.out 2 rfl, ck BK230.out 3 rfl, ck BK230.out 4 rfl, ck BK230.out 5 rfl⟩ (fun hHeld => ?_)
            clear hK K
            refine norm_ (a' := ?_) ?_ ?_
            rotate_left
            ·
             show Act.put _ (some 49) _ = _
             simp only [sp_]
             rfl
            refine pq_ HT_.out 9 50 m10_27 ?_
            refine pq_ HT_.out 10 51 m11_27 ?_
            refine pq_ HT_.out 11 52 m12_27 ?_
            refine pq_ HT_.out 12 53 m13_27 ?_
            refine pq_ HT_.out 13 54 m14_27 ?_
            refine pq_ HT_.out 14 55 m15_27 ?_
            refine pv_ HT_.out 15 56 m16_27 ?_
            refine pv_ HT_.out 16 57 m17_27 ?_
            refine pv_ HT_.out 17 58 m18_27 ?_
            refine pv_ HT_.out 18 59 m19_27 ?_
            refine pv_ HT_.out 19 60 m20_27 ?_
            refine pv_ HT_.out 20 61 m21_27 ?_
            refine pv_ HT_.out 21 62 m22_27 ?_
            refine pv_ HT_.out 22 63 m23_27 ?_
            refine pv_ HT_.out 23 64 m24_27 ?_
            refine pv_ HT_.out 24 65 m25_27 ?_
            refine pq_ HT_.out 25 66 m26_27 ?_
            refine pq_ HT_.out 26 67 m27_27 ?_
            refine done_ (done_of HT_.out (by kernel_rfl)) ?_
            try go_wp2
            go_meet
            case rel => exact ⟨_, (false), (by first | rfl | (simp; done) | (simp [*]; done)), H', ⟨by have := HJ1.out; have := HK2.out; first | omega | exact Nat.le_refl _⟩, ⟨bk BK230.out⟩, ⟨bk BK234.out⟩, ⟨by repeat with_reducible first | exact bl HB.out | refine below_set ?_ GE230.out | refine below_set ?_ GE234.out | refine bq ?_⟩⟩
          ·
           replace c36 := Bool.eq_false_iff.mpr c36
           subst c36
           have H1 : (spec_FleetOk.j2 k2 x3_2 true l0_0 l0_1 l0_2 a0_3 a0_4 a0_5) = some r := by rw [if_neg (show ¬ (false = true) by decide)] at H; exact H
           clear H
           have H := H1
           clear H1
           have H' := Aside0.mk H
           clear H
           try go_wp2
           have n0_ : Aside0 ((((((((w30.setCell ⟨gb234, 0, none⟩ (.string ((rd_T33 l0_0 x3_2).f0))).setCell ⟨gb234, 1, none⟩ (.int .i64 ((rd_T33 l0_0 x3_2).f1))).setCell ⟨gb234, 2, none⟩ (.int .i64 ((rd_T33 l0_0 x3_2).f2))).setCell ⟨gb234, 3, none⟩ (.int .i64 ((rd_T33 l0_0 x3_2).f3))).setCell ⟨gb234, 4, none⟩ (.int .i64 ((rd_T33 l0_0 x3_2).f4.f0))).setCell ⟨gb234, 5, none⟩ (.int .i64 ((rd_T33 l0_0 x3_2).f4.f1))).setCell ⟨gb234, 6, none⟩ (.int .i64 ((rd_T33 l0_0 x3_2).f4.f2))).heap[gb230]? = some (.cells #[.slice (some ad233) l0_0.length c0_0, .slice A0_1 l0_1.length c0_1, .slice A0_2 l0_2.length c0_2, .int .i64 a0_3, .int .i64 a0_4, .int .i64 a0_5] 56 (0, 0))) := ⟨by (repeat refine bk1 ?_); refine blk_far ?_ NB230_234.out _; (repeat refine bk1 ?_); refine blk_far ?_ NB230_234.out _; (repeat refine bk1 ?_); refine blk_far ?_ NB230_234.out _; (repeat refine bk1 ?_); refine blk_far ?_ NB230_234.out _; (repeat refine bk1 ?_); refine blk_far ?_ NB230_234.out _; (repeat refine bk1 ?_); refine blk_far ?_ NB230_234.out _; (repeat refine bk1 ?_); refine blk_far ?_ NB230_234.out _; (repeat refine bk1 ?_); exact BK230.out⟩
           have n1_ : Aside0 ((((((((w30.setCell ⟨gb234, 0, none⟩ (.string ((rd_T33 l0_0 x3_2).f0))).setCell ⟨gb234, 1, none⟩ (.int .i64 ((rd_T33 l0_0 x3_2).f1))).setCell ⟨gb234, 2, none⟩ (.int .i64 ((rd_T33 l0_0 x3_2).f2))).setCell ⟨gb234, 3, none⟩ (.int .i64 ((rd_T33 l0_0 x3_2).f3))).setCell ⟨gb234, 4, none⟩ (.int .i64 ((rd_T33 l0_0 x3_2).f4.f0))).setCell ⟨gb234, 5, none⟩ (.int .i64 ((rd_T33 l0_0 x3_2).f4.f1))).setCell ⟨gb234, 6, none⟩ (.int .i64 ((rd_T33 l0_0 x3_2).f4.f2))).heap[gb234]? = some (.cells #[.string ((rd_T33 l0_0 x3_2).f0), .int .i64 ((rd_T33 l0_0 x3_2).f1), .int .i64 ((rd_T33 l0_0 x3_2).f2), .int .i64 ((rd_T33 l0_0 x3_2).f3), .int .i64 ((rd_T33 l0_0 x3_2).f4.f0), .int .i64 ((rd_T33 l0_0 x3_2).f4.f1), .int .i64 ((rd_T33 l0_0 x3_2).f4.f2)] 33 (0, 0))) := ⟨by (repeat refine bk1 ?_); refine blk_put (cs := #[.string ((rd_T33 l0_0 x3_2).f0), .int .i64 ((rd_T33 l0_0 x3_2).f1), .int .i64 ((rd_T33 l0_0 x3_2).f2), .int .i64 ((rd_T33 l0_0 x3_2).f3), .int .i64 ((rd_T33 l0_0 x3_2).f4.f0), .int .i64 ((rd_T33 l0_0 x3_2).f4.f1), .int .i64 0]) ?_ 6 _ rfl; (repeat refine bk1 ?_); refine blk_put (cs := #[.string ((rd_T33 l0_0 x3_2).f0), .int .i64 ((rd_T33 l0_0 x3_2).f1), .int .i64 ((rd_T33 l0_0 x3_2).f2), .int .i64 ((rd_T33 l0_0 x3_2).f3), .int .i64 ((rd_T33 l0_0 x3_2).f4.f0), .int .i64 0, .int .i64 0]) ?_ 5 _ rfl; (repeat refine bk1 ?_); refine blk_put (cs := #[.string ((rd_T33 l0_0 x3_2).f0), .int .i64 ((rd_T33 l0_0 x3_2).f1), .int .i64 ((rd_T33 l0_0 x3_2).f2), .int .i64 ((rd_T33 l0_0 x3_2).f3), .int .i64 0, .int .i64 0, .int .i64 0]) ?_ 4 _ rfl; (repeat refine bk1 ?_); refine blk_put (cs := #[.string ((rd_T33 l0_0 x3_2).f0), .int .i64 ((rd_T33 l0_0 x3_2).f1), .int .i64 ((rd_T33 l0_0 x3_2).f2), .int .i64 0, .int .i64 0, .int .i64 0, .int .i64 0]) ?_ 3 _ rfl; (repeat refine bk1 ?_); refine blk_put (cs := #[.string ((rd_T33 l0_0 x3_2).f0), .int .i64 ((rd_T33 l0_0 x3_2).f1), .int .i64 0, .int .i64 0, .int .i64 0, .int .i64 0, .int .i64 0]) ?_ 2 _ rfl; (repeat refine bk1 ?_); refine blk_put (cs := #[.string ((rd_T33 l0_0 x3_2).f0), .int .i64 0, .int .i64 0, .int .i64 0, .int .i64 0, .int .i64 0, .int .i64 0]) ?_ 1 _ rfl; (repeat refine bk1 ?_); refine blk_put (cs := #[.string (⟨#[]⟩ : ByteArray), .int .i64 0, .int .i64 0, .int .i64 0, .int .i64 0, .int .i64 0, .int .i64 0]) ?_ 0 _ rfl; (repeat refine bk1 ?_); exact BK234.out⟩
           have n2_ : Aside0 (Below w.heap.size w (((((((w30.setCell ⟨gb234, 0, none⟩ (.string ((rd_T33 l0_0 x3_2).f0))).setCell ⟨gb234, 1, none⟩ (.int .i64 ((rd_T33 l0_0 x3_2).f1))).setCell ⟨gb234, 2, none⟩ (.int .i64 ((rd_T33 l0_0 x3_2).f2))).setCell ⟨gb234, 3, none⟩ (.int .i64 ((rd_T33 l0_0 x3_2).f3))).setCell ⟨gb234, 4, none⟩ (.int .i64 ((rd_T33 l0_0 x3_2).f4.f0))).setCell ⟨gb234, 5, none⟩ (.int .i64 ((rd_T33 l0_0 x3_2).f4.f1))).setCell ⟨gb234, 6, none⟩ (.int .i64 ((rd_T33 l0_0 x3_2).f4.f2)))) := ⟨by repeat with_reducible first | exact bl HB.out | refine below_set ?_ GE230.out | refine below_set ?_ GE234.out | refine bq ?_⟩
           (try clear BK230)
           (try clear BK234)
           (try clear HB)
           generalize (((((((w30.setCell ⟨gb234, 0, none⟩ (.string ((rd_T33 l0_0 x3_2).f0))).setCell ⟨gb234, 1, none⟩ (.int .i64 ((rd_T33 l0_0 x3_2).f1))).setCell ⟨gb234, 2, none⟩ (.int .i64 ((rd_T33 l0_0 x3_2).f2))).setCell ⟨gb234, 3, none⟩ (.int .i64 ((rd_T33 l0_0 x3_2).f3))).setCell ⟨gb234, 4, none⟩ (.int .i64 ((rd_T33 l0_0 x3_2).f4.f0))).setCell ⟨gb234, 5, none⟩ (.int .i64 ((rd_T33 l0_0 x3_2).f4.f1))).setCell ⟨gb234, 6, none⟩ (.int .i64 ((rd_T33 l0_0 x3_2).f4.f2))) = w49 at n0_ n1_ n2_ ⊢
           have BK230 := n0_
           have BK234 := n1_
           have HB := n2_
           clear n0_ n1_ n2_
           have n0_ := Aside0.mk (blk_drew BK230.out)
           have n1_ := Aside0.mk (blk_drew BK234.out)
           have n2_ := Aside0.mk (below_drew1 HB.out)
           clear BK230
           clear BK234
           clear HB
           have BK230 := n0_
           have BK234 := n1_
           have HB := n2_
           clear n0_ n1_ n2_
           refine start_ (n := 27) (S := fun w' => w'.cell? ⟨gb234, 0, none⟩ = some (.string ((rd_T33 l0_0 x3_2).f0)) ∧ w'.cell? ⟨gb234, 1, none⟩ = some (.int .i64 ((rd_T33 l0_0 x3_2).f1)) ∧ w'.cell? ⟨gb234, 2, none⟩ = some (.int .i64 ((rd_T33 l0_0 x3_2).f2)) ∧ w'.cell? ⟨gb234, 3, none⟩ = some (.int .i64 ((rd_T33 l0_0 x3_2).f3)) ∧ w'.cell? ⟨gb234, 4, none⟩ = some (.int .i64 ((rd_T33 l0_0 x3_2).f4.f0)) ∧ w'.cell? ⟨gb234, 5, none⟩ = some (.int .i64 ((rd_T33 l0_0 x3_2).f4.f1)) ∧ w'.cell? ⟨gb234, 6, none⟩ = some (.int .i64 ((rd_T33 l0_0 x3_2).f4.f2)) ∧ w'.cell? ⟨gb230, 0, none⟩ = some (.slice (some ad233) l0_0.length c0_0) ∧ w'.cell? ⟨gb230, 1, none⟩ = some (.slice A0_1 l0_1.length c0_1) ∧ w'.cell? ⟨gb230, 2, none⟩ = some (.slice A0_2 l0_2.length c0_2) ∧ w'.cell? ⟨gb230, 3, none⟩ = some (.int .i64 a0_3) ∧ w'.cell? ⟨gb230, 4, none⟩ = some (.int .i64 a0_4) ∧ w'.cell? ⟨gb230, 5, none⟩ = some (.int .i64 a0_5)) (ds := []) m0_27 (by kernel_rfl) rfl rfl ⟨ck BK234.out 0 rfl, ck BK234.out 1 rfl, ck BK234.out 2 rfl, ck BK234.out 3 rfl, ck BK234.out 4 rfl, ck BK234.out 5 rfl, ck BK234.out 6 rfl, ck BK230.out 0 rfl, ck BK230.out 1 rfl, ck BK230.out 2 rfl, ck BK230.out 3 rfl, ck BK230.out 4 rfl, ck BK230.out 5 rfl⟩ (fun hHeld => ?_); refine with_tabW spec_FleetOk.tab7 spec_FleetOk.bits7 (fun HT_ HW_ => ?_)
           generalize w49.drew = w50 at BK230 BK234 HB hHeld ⊢
           refine tk_ HT_.out HW_.out 0 41 m1_27 rfl rfl (by kernel_rfl) (by rfl) (by rintro w' ⟨s0, s1, s2, s3, s4, s5, s6, s7, s8, s9, s10, s11, s12⟩; go_simp; with_reducible rfl) hHeld (by simp only [sp_]; rfl) (fun _ _ _ h => h) ?_
           refine one_ (i := 1) (N := some 42) m2_27 rfl rfl (one_of HT_.out (by kernel_rfl)) (by decide) (fun K hK => ?_)
           refine goes_ Try.func17 (by kernel_rfl) rfl #[.agg #[.string ((rd_T33 l0_0 x3_2).f0), .int .i64 ((rd_T33 l0_0 x3_2).f1), .int .i64 ((rd_T33 l0_0 x3_2).f2), .int .i64 ((rd_T33 l0_0 x3_2).f3), .int .i64 ((rd_T33 l0_0 x3_2).f4.f0), .int .i64 ((rd_T33 l0_0 x3_2).f4.f1), .int .i64 ((rd_T33 l0_0 x3_2).f4.f2)]] (by rfl) rfl rfl (by (try simp only [am_]); first | done | rfl) ?_
           with_reducible refine (spec_TaskOk.calls k2 ((rd_T33 l0_0 x3_2).f0) ((rd_T33 l0_0 x3_2).f1) ((rd_T33 l0_0 x3_2).f2) ((rd_T33 l0_0 x3_2).f3) ((rd_T33 l0_0 x3_2).f4.f0) ((rd_T33 l0_0 x3_2).f4.f1) ((rd_T33 l0_0 x3_2).f4.f2) true _ A33.out).mono ?_
           rintro e w51 ⟨rfl, hb⟩
           refine ⟨_, rfl, ?_⟩
           have n0_ := Aside0.mk (blk_below (bk BK230.out) hb)
           have n1_ := Aside0.mk (blk_below (bk BK234.out) hb)
           have n2_ := Aside0.mk (below_step (by repeat with_reducible first | exact bl HB.out | refine below_set ?_ GE230.out | refine below_set ?_ GE234.out | refine bq ?_) hb)
           clear BK230
           clear BK234
           clear HB
           have BK230 := n0_
           have BK234 := n1_
           have HB := n2_
           clear n0_ n1_ n2_
           (try clear hb)
           (try clear hb2)
           (try clear hk)
           (try clear hi)
           refine hK.out _ _ ⟨ck BK234.out 0 rfl, ck BK234.out 1 rfl, ck BK234.out 2 rfl, ck BK234.out 3 rfl, ck BK234.out 4 rfl, ck BK234.out 5 rfl, ck BK234.out 6 rfl, ck BK230.out 0 rfl, ck BK230.out 1 rfl, ck BK230.out 2 rfl, ck BK230.out 3 rfl, ck BK230.out 4 rfl, ck BK230.out 5 rfl⟩ (fun hHeld => ?_)
           clear hK K
           refine norm_ (a' := ?_) ?_ ?_
           rotate_left
           ·
            show Act.put _ (some 42) _ = _
            simp only [sp_]
            rfl
           refine pq_ HT_.out 2 43 m3_27 ?_
           refine pq_ HT_.out 3 44 m4_27 ?_
           refine pq_ HT_.out 4 45 m5_27 ?_
           refine pq_ HT_.out 6 47 n87 ?_
           refine tk_ HT_.out HW_.out 5 46 m7_27 rfl rfl (by kernel_rfl) (by rfl) (by rintro w' ⟨s0, s1, s2, s3, s4, s5, s6, s7, s8, s9, s10, s11, s12⟩; go_simp; with_reducible rfl) hHeld (by simp only [sp_]; rfl) (fun _ _ _ h => h) ?_
           refine tk_ HT_.out HW_.out 7 48 m8_27 rfl rfl (by kernel_rfl) (by rfl) (by rintro w' ⟨s0, s1, s2, s3, s4, s5, s6, s7, s8, s9, s10, s11, s12⟩; go_simp; with_reducible rfl) hHeld (by simp only [sp_]; rfl) (fun _ _ _ h => h) ?_
           refine one_ (i := 8) (N := some 49) m9_27 rfl rfl (one_of HT_.out (by kernel_rfl)) (by decide) (fun K hK => ?_)
           refine goes_ Try.func57 (by kernel_rfl) rfl #[.agg #[.int .i64 ((rd_T33 l0_0 x3_2).f4.f0), .int .i64 ((rd_T33 l0_0 x3_2).f4.f1), .int .i64 ((rd_T33 l0_0 x3_2).f4.f2)], .agg #[.int .i64 a0_3, .int .i64 a0_4, .int .i64 a0_5]] (by rfl) rfl rfl (by (try simp only [am_]); first | done | rfl) ?_
           with_reducible refine (spec_l19Behind.calls ((rd_T33 l0_0 x3_2).f4.f0) ((rd_T33 l0_0 x3_2).f4.f1) ((rd_T33 l0_0 x3_2).f4.f2) a0_3 a0_4 a0_5 false _ A35.out).mono ?_
           rintro e w52 ⟨rfl, hb⟩
           refine ⟨_, rfl, ?_⟩
           have n0_ := Aside0.mk (blk_below (bk BK230.out) hb)
           have n1_ := Aside0.mk (blk_below (bk BK234.out) hb)
           have n2_ := Aside0.mk (below_step (by repeat with_reducible first | exact bl HB.out | refine below_set ?_ GE230.out | refine below_set ?_ GE234.out | refine bq ?_) hb)
           clear BK230
           clear BK234
           clear HB
           have BK230 := n0_
           have BK234 := n1_
           have HB := n2_
           clear n0_ n1_ n2_
           (try clear hb)
           (try clear hb2)
           (try clear hk)
           (try clear hi)
           refine hK.out _ _ ⟨ck BK234.out 0 rfl, ck BK234.out 1 rfl, ck BK234.out 2 rfl, ck BK234.out 3 rfl, ck BK234.out 4 rfl, ck BK234.out 5 rfl, ck BK234.out 6 rfl, ck BK230.out 0 rfl, ck BK230.out 1 rfl, ck BK230.out 2 rfl, ck BK230.out 3 rfl, ck BK230.out 4 rfl, ck BK230.out 5 rfl⟩ (fun hHeld => ?_)
           clear hK K
           refine norm_ (a' := ?_) ?_ ?_
           rotate_left
           ·
            show Act.put _ (some 49) _ = _
            simp only [sp_]
            rfl
           refine pq_ HT_.out 9 50 m10_27 ?_
           refine pq_ HT_.out 10 51 m11_27 ?_
           refine pq_ HT_.out 11 52 m12_27 ?_
           refine pv_ HT_.out 12 53 m13_27 ?_
           refine pv_ HT_.out 13 54 m14_27 ?_
           refine pv_ HT_.out 14 55 m15_27 ?_
           refine pv_ HT_.out 15 56 m16_27 ?_
           refine pv_ HT_.out 16 57 m17_27 ?_
           refine pv_ HT_.out 17 58 m18_27 ?_
           refine pv_ HT_.out 18 59 m19_27 ?_
           refine pv_ HT_.out 19 60 m20_27 ?_
           refine pv_ HT_.out 20 61 m21_27 ?_
           refine pv_ HT_.out 21 62 m22_27 ?_
           refine pv_ HT_.out 22 63 m23_27 ?_
           refine pv_ HT_.out 23 64 m24_27 ?_
           refine pv_ HT_.out 24 65 m25_27 ?_
           refine pv_ HT_.out 25 66 m26_27 ?_
           refine pq_ HT_.out 26 67 m27_27 ?_
           refine done_ (done_of HT_.out (by kernel_rfl)) ?_
           try go_wp2
           go_meet
           case rel => exact ⟨_, (true), (by first | rfl | (simp; done) | (simp [*]; done)), H', ⟨by have := HJ1.out; have := HK2.out; first | omega | exact Nat.le_refl _⟩, ⟨bk BK230.out⟩, ⟨bk BK234.out⟩, ⟨by repeat with_reducible first | exact bl HB.out | refine below_set ?_ GE230.out | refine below_set ?_ GE234.out | refine bq ?_⟩⟩
         ·
          replace c34 := Bool.eq_false_iff.mpr c34
          subst c34
          have H1 : (spec_FleetOk.j2 k2 x3_2 true l0_0 l0_1 l0_2 a0_3 a0_4 a0_5) = some r := by rw [if_neg (show ¬ (false = true) by decide)] at H; exact H
          clear H
          have H := H1
          clear H1
          have H' := Aside0.mk H
          clear H
          try go_wp2
          have n0_ : Aside0 ((((((((w30.setCell ⟨gb234, 0, none⟩ (.string ((rd_T33 l0_0 x3_2).f0))).setCell ⟨gb234, 1, none⟩ (.int .i64 ((rd_T33 l0_0 x3_2).f1))).setCell ⟨gb234, 2, none⟩ (.int .i64 ((rd_T33 l0_0 x3_2).f2))).setCell ⟨gb234, 3, none⟩ (.int .i64 ((rd_T33 l0_0 x3_2).f3))).setCell ⟨gb234, 4, none⟩ (.int .i64 ((rd_T33 l0_0 x3_2).f4.f0))).setCell ⟨gb234, 5, none⟩ (.int .i64 ((rd_T33 l0_0 x3_2).f4.f1))).setCell ⟨gb234, 6, none⟩ (.int .i64 ((rd_T33 l0_0 x3_2).f4.f2))).heap[gb230]? = some (.cells #[.slice (some ad233) l0_0.length c0_0, .slice A0_1 l0_1.length c0_1, .slice A0_2 l0_2.length c0_2, .int .i64 a0_3, .int .i64 a0_4, .int .i64 a0_5] 56 (0, 0))) := ⟨by (repeat refine bk1 ?_); refine blk_far ?_ NB230_234.out _; (repeat refine bk1 ?_); refine blk_far ?_ NB230_234.out _; (repeat refine bk1 ?_); refine blk_far ?_ NB230_234.out _; (repeat refine bk1 ?_); refine blk_far ?_ NB230_234.out _; (repeat refine bk1 ?_); refine blk_far ?_ NB230_234.out _; (repeat refine bk1 ?_); refine blk_far ?_ NB230_234.out _; (repeat refine bk1 ?_); refine blk_far ?_ NB230_234.out _; (repeat refine bk1 ?_); exact BK230.out⟩
          have n1_ : Aside0 ((((((((w30.setCell ⟨gb234, 0, none⟩ (.string ((rd_T33 l0_0 x3_2).f0))).setCell ⟨gb234, 1, none⟩ (.int .i64 ((rd_T33 l0_0 x3_2).f1))).setCell ⟨gb234, 2, none⟩ (.int .i64 ((rd_T33 l0_0 x3_2).f2))).setCell ⟨gb234, 3, none⟩ (.int .i64 ((rd_T33 l0_0 x3_2).f3))).setCell ⟨gb234, 4, none⟩ (.int .i64 ((rd_T33 l0_0 x3_2).f4.f0))).setCell ⟨gb234, 5, none⟩ (.int .i64 ((rd_T33 l0_0 x3_2).f4.f1))).setCell ⟨gb234, 6, none⟩ (.int .i64 ((rd_T33 l0_0 x3_2).f4.f2))).heap[gb234]? = some (.cells #[.string ((rd_T33 l0_0 x3_2).f0), .int .i64 ((rd_T33 l0_0 x3_2).f1), .int .i64 ((rd_T33 l0_0 x3_2).f2), .int .i64 ((rd_T33 l0_0 x3_2).f3), .int .i64 ((rd_T33 l0_0 x3_2).f4.f0), .int .i64 ((rd_T33 l0_0 x3_2).f4.f1), .int .i64 ((rd_T33 l0_0 x3_2).f4.f2)] 33 (0, 0))) := ⟨by (repeat refine bk1 ?_); refine blk_put (cs := #[.string ((rd_T33 l0_0 x3_2).f0), .int .i64 ((rd_T33 l0_0 x3_2).f1), .int .i64 ((rd_T33 l0_0 x3_2).f2), .int .i64 ((rd_T33 l0_0 x3_2).f3), .int .i64 ((rd_T33 l0_0 x3_2).f4.f0), .int .i64 ((rd_T33 l0_0 x3_2).f4.f1), .int .i64 0]) ?_ 6 _ rfl; (repeat refine bk1 ?_); refine blk_put (cs := #[.string ((rd_T33 l0_0 x3_2).f0), .int .i64 ((rd_T33 l0_0 x3_2).f1), .int .i64 ((rd_T33 l0_0 x3_2).f2), .int .i64 ((rd_T33 l0_0 x3_2).f3), .int .i64 ((rd_T33 l0_0 x3_2).f4.f0), .int .i64 0, .int .i64 0]) ?_ 5 _ rfl; (repeat refine bk1 ?_); refine blk_put (cs := #[.string ((rd_T33 l0_0 x3_2).f0), .int .i64 ((rd_T33 l0_0 x3_2).f1), .int .i64 ((rd_T33 l0_0 x3_2).f2), .int .i64 ((rd_T33 l0_0 x3_2).f3), .int .i64 0, .int .i64 0, .int .i64 0]) ?_ 4 _ rfl; (repeat refine bk1 ?_); refine blk_put (cs := #[.string ((rd_T33 l0_0 x3_2).f0), .int .i64 ((rd_T33 l0_0 x3_2).f1), .int .i64 ((rd_T33 l0_0 x3_2).f2), .int .i64 0, .int .i64 0, .int .i64 0, .int .i64 0]) ?_ 3 _ rfl; (repeat refine bk1 ?_); refine blk_put (cs := #[.string ((rd_T33 l0_0 x3_2).f0), .int .i64 ((rd_T33 l0_0 x3_2).f1), .int .i64 0, .int .i64 0, .int .i64 0, .int .i64 0, .int .i64 0]) ?_ 2 _ rfl; (repeat refine bk1 ?_); refine blk_put (cs := #[.string ((rd_T33 l0_0 x3_2).f0), .int .i64 0, .int .i64 0, .int .i64 0, .int .i64 0, .int .i64 0, .int .i64 0]) ?_ 1 _ rfl; (repeat refine bk1 ?_); refine blk_put (cs := #[.string (⟨#[]⟩ : ByteArray), .int .i64 0, .int .i64 0, .int .i64 0, .int .i64 0, .int .i64 0, .int .i64 0]) ?_ 0 _ rfl; (repeat refine bk1 ?_); exact BK234.out⟩
          have n2_ : Aside0 (Below w.heap.size w (((((((w30.setCell ⟨gb234, 0, none⟩ (.string ((rd_T33 l0_0 x3_2).f0))).setCell ⟨gb234, 1, none⟩ (.int .i64 ((rd_T33 l0_0 x3_2).f1))).setCell ⟨gb234, 2, none⟩ (.int .i64 ((rd_T33 l0_0 x3_2).f2))).setCell ⟨gb234, 3, none⟩ (.int .i64 ((rd_T33 l0_0 x3_2).f3))).setCell ⟨gb234, 4, none⟩ (.int .i64 ((rd_T33 l0_0 x3_2).f4.f0))).setCell ⟨gb234, 5, none⟩ (.int .i64 ((rd_T33 l0_0 x3_2).f4.f1))).setCell ⟨gb234, 6, none⟩ (.int .i64 ((rd_T33 l0_0 x3_2).f4.f2)))) := ⟨by repeat with_reducible first | exact bl HB.out | refine below_set ?_ GE230.out | refine below_set ?_ GE234.out | refine bq ?_⟩
          (try clear BK230)
          (try clear BK234)
          (try clear HB)
          generalize (((((((w30.setCell ⟨gb234, 0, none⟩ (.string ((rd_T33 l0_0 x3_2).f0))).setCell ⟨gb234, 1, none⟩ (.int .i64 ((rd_T33 l0_0 x3_2).f1))).setCell ⟨gb234, 2, none⟩ (.int .i64 ((rd_T33 l0_0 x3_2).f2))).setCell ⟨gb234, 3, none⟩ (.int .i64 ((rd_T33 l0_0 x3_2).f3))).setCell ⟨gb234, 4, none⟩ (.int .i64 ((rd_T33 l0_0 x3_2).f4.f0))).setCell ⟨gb234, 5, none⟩ (.int .i64 ((rd_T33 l0_0 x3_2).f4.f1))).setCell ⟨gb234, 6, none⟩ (.int .i64 ((rd_T33 l0_0 x3_2).f4.f2))) = w53 at n0_ n1_ n2_ ⊢
          have BK230 := n0_
          have BK234 := n1_
          have HB := n2_
          clear n0_ n1_ n2_
          have n0_ := Aside0.mk (blk_drew BK230.out)
          have n1_ := Aside0.mk (blk_drew BK234.out)
          have n2_ := Aside0.mk (below_drew1 HB.out)
          clear BK230
          clear BK234
          clear HB
          have BK230 := n0_
          have BK234 := n1_
          have HB := n2_
          clear n0_ n1_ n2_
          refine start_ (n := 27) (S := fun w' => w'.cell? ⟨gb234, 0, none⟩ = some (.string ((rd_T33 l0_0 x3_2).f0)) ∧ w'.cell? ⟨gb234, 1, none⟩ = some (.int .i64 ((rd_T33 l0_0 x3_2).f1)) ∧ w'.cell? ⟨gb234, 2, none⟩ = some (.int .i64 ((rd_T33 l0_0 x3_2).f2)) ∧ w'.cell? ⟨gb234, 3, none⟩ = some (.int .i64 ((rd_T33 l0_0 x3_2).f3)) ∧ w'.cell? ⟨gb234, 4, none⟩ = some (.int .i64 ((rd_T33 l0_0 x3_2).f4.f0)) ∧ w'.cell? ⟨gb234, 5, none⟩ = some (.int .i64 ((rd_T33 l0_0 x3_2).f4.f1)) ∧ w'.cell? ⟨gb234, 6, none⟩ = some (.int .i64 ((rd_T33 l0_0 x3_2).f4.f2))) (ds := []) m0_27 (by kernel_rfl) rfl rfl ⟨ck BK234.out 0 rfl, ck BK234.out 1 rfl, ck BK234.out 2 rfl, ck BK234.out 3 rfl, ck BK234.out 4 rfl, ck BK234.out 5 rfl, ck BK234.out 6 rfl⟩ (fun hHeld => ?_); refine with_tabW spec_FleetOk.tab7 spec_FleetOk.bits7 (fun HT_ HW_ => ?_)
          generalize w53.drew = w54 at BK230 BK234 HB hHeld ⊢
          refine tk_ HT_.out HW_.out 0 41 m1_27 rfl rfl (by kernel_rfl) (by rfl) (by rintro w' ⟨s0, s1, s2, s3, s4, s5, s6⟩; go_simp; with_reducible rfl) hHeld (by simp only [sp_]; rfl) (fun _ _ _ h => h) ?_
          refine one_ (i := 1) (N := some 42) m2_27 rfl rfl (one_of HT_.out (by kernel_rfl)) (by decide) (fun K hK => ?_)
          refine goes_ Try.func17 (by kernel_rfl) rfl #[.agg #[.string ((rd_T33 l0_0 x3_2).f0), .int .i64 ((rd_T33 l0_0 x3_2).f1), .int .i64 ((rd_T33 l0_0 x3_2).f2), .int .i64 ((rd_T33 l0_0 x3_2).f3), .int .i64 ((rd_T33 l0_0 x3_2).f4.f0), .int .i64 ((rd_T33 l0_0 x3_2).f4.f1), .int .i64 ((rd_T33 l0_0 x3_2).f4.f2)]] (by rfl) rfl rfl (by (try simp only [am_]); first | done | rfl) ?_
          with_reducible refine (spec_TaskOk.calls k2 ((rd_T33 l0_0 x3_2).f0) ((rd_T33 l0_0 x3_2).f1) ((rd_T33 l0_0 x3_2).f2) ((rd_T33 l0_0 x3_2).f3) ((rd_T33 l0_0 x3_2).f4.f0) ((rd_T33 l0_0 x3_2).f4.f1) ((rd_T33 l0_0 x3_2).f4.f2) false _ A33.out).mono ?_
          rintro e w55 ⟨rfl, hb⟩
          refine ⟨_, rfl, ?_⟩
          have n0_ := Aside0.mk (blk_below (bk BK230.out) hb)
          have n1_ := Aside0.mk (blk_below (bk BK234.out) hb)
          have n2_ := Aside0.mk (below_step (by repeat with_reducible first | exact bl HB.out | refine below_set ?_ GE230.out | refine below_set ?_ GE234.out | refine bq ?_) hb)
          clear BK230
          clear BK234
          clear HB
          have BK230 := n0_
          have BK234 := n1_
          have HB := n2_
          clear n0_ n1_ n2_
          (try clear hb)
          (try clear hb2)
          (try clear hk)
          (try clear hi)
          refine hK.out _ _ ⟨ck BK234.out 0 rfl, ck BK234.out 1 rfl, ck BK234.out 2 rfl, ck BK234.out 3 rfl, ck BK234.out 4 rfl, ck BK234.out 5 rfl, ck BK234.out 6 rfl⟩ (fun hHeld => ?_)
          clear hK K
          refine norm_ (a' := ?_) ?_ ?_
          rotate_left
          ·
           show Act.put _ (some 42) _ = _
           simp only [sp_]
           rfl
          refine pq_ HT_.out 2 43 m3_27 ?_
          refine pq_ HT_.out 3 44 m4_27 ?_
          refine pv_ HT_.out 4 45 m5_27 ?_
          refine pv_ HT_.out 5 46 m6_27 ?_
          refine pv_ HT_.out 6 47 m7_27 ?_
          refine pv_ HT_.out 7 48 m8_27 ?_
          refine pv_ HT_.out 8 49 m9_27 ?_
          refine pv_ HT_.out 9 50 m10_27 ?_
          refine pq_ HT_.out 10 51 m11_27 ?_
          refine pq_ HT_.out 11 52 m12_27 ?_
          refine pv_ HT_.out 12 53 m13_27 ?_
          refine pv_ HT_.out 13 54 m14_27 ?_
          refine pv_ HT_.out 14 55 m15_27 ?_
          refine pv_ HT_.out 15 56 m16_27 ?_
          refine pv_ HT_.out 16 57 m17_27 ?_
          refine pv_ HT_.out 17 58 m18_27 ?_
          refine pv_ HT_.out 18 59 m19_27 ?_
          refine pv_ HT_.out 19 60 m20_27 ?_
          refine pv_ HT_.out 20 61 m21_27 ?_
          refine pv_ HT_.out 21 62 m22_27 ?_
          refine pv_ HT_.out 22 63 m23_27 ?_
          refine pv_ HT_.out 23 64 m24_27 ?_
          refine pv_ HT_.out 24 65 m25_27 ?_
          refine pv_ HT_.out 25 66 m26_27 ?_
          refine pq_ HT_.out 26 67 m27_27 ?_
          refine done_ (done_of HT_.out (by kernel_rfl)) ?_
          try go_wp2
          go_meet
          case rel => exact ⟨_, (true), (by first | rfl | (simp; done) | (simp [*]; done)), H', ⟨by have := HJ1.out; have := HK2.out; first | omega | exact Nat.le_refl _⟩, ⟨bk BK230.out⟩, ⟨bk BK234.out⟩, ⟨by repeat with_reducible first | exact bl HB.out | refine below_set ?_ GE230.out | refine below_set ?_ GE234.out | refine bq ?_⟩⟩
        case rest =>
         clear HC28
         try clear c1
         try clear p2
         try clear c3
         try clear c5
         try clear c17
         try clear c34
         try clear c36
         obtain ⟨kq, x67_27, rfl, HA, HJ27, BK230, BK234, HB⟩ := hcut
         cases kq with
         | zero => exact absurd HA.out (by simp [spec_FleetOk.j2])
         | succ kj27 =>
          have H := HA.out
          clear HA
          simp only [spec_FleetOk.j2] at H
          by_cases c56 : x67_27 = true
          ·
           subst c56
           have H1 : (some false) = some r := by rw [if_pos rfl] at H; exact H
           clear H
           have H := H1
           clear H1
           obtain rfl := Option.some.inj H
           go_wp2
           go_ret
           exact ⟨by first | rfl | (simp [errW_none, errW_some] <;> rfl) | (simp [*, errW_none, errW_some] <;> rfl), by repeat with_reducible first | exact bl HB.out | refine below_set ?_ GE230.out | refine below_set ?_ GE234.out | refine bq ?_⟩
          ·
           replace c56 := Bool.eq_false_iff.mpr c56
           subst c56
           have H1 : (spec_FleetOk.l0 kj27 (wrap64 (x3_2 + 1)) l0_0 l0_1 l0_2 a0_3 a0_4 a0_5) = some r := by rw [if_neg (show ¬ (false = true) by decide)] at H; exact H
           clear H
           have H := H1
           clear H1
           have H' := Aside0.mk H
           clear H
           go_wp2
           go_roundg kj27
           case measure => have := HJ1.out; have := HK2.out; have := HJ27.out; omega
           case rel => exact ⟨(wrap64 (x3_2 + 1)), (by first | rfl | (simp; done) | (simp [*]; done)), H', ⟨by have := HJ1.out; have := HK2.out; have := HJ27.out; omega⟩, ⟨bk BK230.out⟩, ⟨by repeat with_reducible first | exact bl HB.out | refine below_set ?_ GE230.out | refine below_set ?_ GE234.out | refine bq ?_⟩⟩
       ·
        rw [if_neg c27] at H
        exact absurd H (by simp)
      ·
       rw [if_neg c26] at H
       have c26b0 : decide (x3_2 < (l0_0.length : Int)) = false := decide_eq_false c26
       clear c26
       have H' := Aside0.mk H
       clear H
       obtain ⟨hcz57_0, hcz57_1, hcz57_2, hcz57_3, hcz57_4, hcz57_5⟩ := ck6 BK230.out
       obtain ⟨hfz57_0, hfz57_1, hfz57_2, hfz57_3, hfz57_4, hfz57_5⟩ := fz6 BK230.out
       go_wp2
       go_loopg [5] k2 (fun kq v5 w' => ∃ (x5_3 : Int), v5 = .int .i64 x5_3 ∧ Aside0 (spec_FleetOk.l1 kq x5_3 l0_0 l0_1 l0_2 a0_3 a0_4 a0_5 = some r) ∧ Aside0 (kq ≤ k2) ∧ Aside0 (w'.heap[gb230]? = some (.cells #[(.slice A0_0 l0_0.length c0_0), (.slice A0_1 l0_1.length c0_1), (.slice A0_2 l0_2.length c0_2), .int .i64 a0_3, .int .i64 a0_4, .int .i64 a0_5] 56 (0, 0))) ∧ Aside0 (Below w.heap.size w w'))
       case atStart => exact ⟨(0), (by first | rfl | (simp; done) | (simp [*]; done)), H', ⟨Nat.le_refl _⟩, ⟨bk BK230.out⟩, ⟨by repeat with_reducible first | exact bl HB.out | refine below_set ?_ GE230.out | refine bq ?_⟩⟩
       case round =>
        clear H'
        try clear c1
        try clear c2
        try clear p2
        try clear c3
        try clear c5
        try clear p6
        try clear c17
        try clear c26
        try clear c26b0
        try clear c27
        try clear c34
        try clear c36
        try clear c56
        try clear c57
        try clear hcz57_0 hcz57_1 hcz57_2 hcz57_3 hcz57_4 hcz57_5 hfz57_0 hfz57_1 hfz57_2 hfz57_3 hfz57_4 hfz57_5
        try clear p2
        obtain ⟨x5_3, rfl, HA, HK3, BK230, HB⟩ := hrel
        cases gk with
        | zero => exact absurd HA.out (by simp [spec_FleetOk.l1])
        | succ k3 =>
         have H := HA.out
         clear HA
         simp only [spec_FleetOk.l1] at H
         by_cases c58 : x5_3 < (l0_2.length : Int)
         ·
          rw [if_pos c58] at H
          have c58b0 : decide (x5_3 < (l0_2.length : Int)) = true := decide_eq_true c58
          clear c58
          by_cases c59 : 0 ≤ x5_3
          ·
           rw [if_pos c59] at H
           have c59b0 : decide (0 ≤ x5_3) = true := decide_eq_true c59
           clear c59
           have HC60 := Aside0.mk H
           clear H
           obtain ⟨hcz61_0, hcz61_1, hcz61_2, hcz61_3, hcz61_4, hcz61_5⟩ := ck6 BK230.out
           obtain ⟨hfz61_0, hfz61_1, hfz61_2, hfz61_3, hfz61_4, hfz61_5⟩ := fz6 BK230.out
           have p238 : 0 ≤ (x5_3 : Int) := of_decide_eq_true (by first | (with_reducible assumption) | assumption)
           have q238 : x5_3 < (l0_2.length : Int) := of_decide_eq_true (by first | (with_reducible assumption) | assumption)
           obtain ⟨ad238, e238, hx238_0, hx238_1, hx238_2⟩ := at_T72 HR0_2.out x5_3 p238 q238
           cases e238
           replace hx238_0 := bc HB.out hx238_0
           replace hx238_1 := bc HB.out hx238_1
           replace hx238_2 := bc HB.out hx238_2
           replace p238 := eq_true p238
           replace q238 := eq_true q238
           go_upto_region 13 with (first | ((with_reducible refine gate_dst (N := 6) rfl ?_); (try (refine gate_guard (by rfl) ?_; dsimp only)); refine box_event ?hg (N := 6) ?hd (cs := #[.string (⟨#[]⟩ : ByteArray), .int .i64 0, .int .i64 0]) (t := 72) ?hr ?_; (case hd => rfl); (case hg => rfl); (case hr => first | (go_simp; done) | (go_simp; rfl)); intro gb239 hg w62 hbox hb; have BK239 := Aside0.mk (hbox); have GW239 := Aside0.mk ((by rw [hg]; exact (below_size (by repeat with_reducible first | exact bl HB.out | refine below_set ?_ GE230.out | refine bq ?_)) : w.heap.size ≤ gb239)); have GE239 := GW239; replace HB := Aside0.mk (below_step (by repeat with_reducible first | exact bl HB.out | refine below_set ?_ GE230.out | refine bq ?_) hb); have NB230_239 := nb_ hg BK230.out; have NB239_230 := Aside0.mk NB230_239.out.symm; replace BK230 := Aside0.mk (blk_below (bk BK230.out) hb); clear hb hbox hg; have hnb63 := NB239_230.out; have hnc63 := NB230_239.out; obtain ⟨hcz64_0, hcz64_1, hcz64_2⟩ := ck3 BK239.out; obtain ⟨hfz64_0, hfz64_1, hfz64_2⟩ := fz3 BK239.out))
           (try simp only [Act.put, List.setIfInBounds_toArray, List.set_cons_zero, List.set_cons_succ])
           go_cut [114] (fun v114 wc => ∃ (kq : Nat) (x114_59 : Bool), v114 = .bool x114_59 ∧ Aside0 (spec_FleetOk.j4 kq x5_3 x114_59 l0_0 l0_1 l0_2 a0_3 a0_4 a0_5 = some r) ∧ Aside0 (kq ≤ k3) ∧ Aside0 (wc.heap[gb230]? = some (.cells #[(.slice A0_0 l0_0.length c0_0), (.slice A0_1 l0_1.length c0_1), (.slice (some ad238) l0_2.length c0_2), .int .i64 a0_3, .int .i64 a0_4, .int .i64 a0_5] 56 (0, 0))) ∧ Aside0 (wc.heap[gb239]? = some (.cells #[.string ((rd_T72 l0_2 x5_3).f0), .int .i64 ((rd_T72 l0_2 x5_3).f1), .int .i64 ((rd_T72 l0_2 x5_3).f2)] 72 (0, 0))) ∧ Aside0 (Below w.heap.size w wc))
           case first =>
            have H := HC60.out
            clear HC60
            replace H := Option.bind_eq_some_iff.mp H
            obtain ⟨t240, A650, H⟩ := H
            replace H : (if t240 = true then ((spec_l1In.f ((rd_T72 l0_2 x5_3).f1) 1 1000000).bind fun t241 => (if t241 = true then (if x5_3 > 0 then (if 0 ≤ (wrap64 (x5_3 - 1)) then (if (wrap64 (x5_3 - 1)) < (l0_2.length : Int) then (if ((rd_T72 l0_2 (wrap64 (x5_3 - 1))).f1) ≥ ((rd_T72 l0_2 x5_3).f1) then (spec_FleetOk.j4 k3 x5_3 true l0_0 l0_1 l0_2 a0_3 a0_4 a0_5) else ((spec_l1In.f ((rd_T72 l0_2 x5_3).f2) 0 a0_5).bind fun t243 => (spec_FleetOk.j4 k3 x5_3 (!t243) l0_0 l0_1 l0_2 a0_3 a0_4 a0_5))) else (none)) else (none)) else ((spec_l1In.f ((rd_T72 l0_2 x5_3).f2) 0 a0_5).bind fun t244 => (spec_FleetOk.j4 k3 x5_3 (!t244) l0_0 l0_1 l0_2 a0_3 a0_4 a0_5))) else (spec_FleetOk.j4 k3 x5_3 true l0_0 l0_1 l0_2 a0_3 a0_4 a0_5))) else (spec_FleetOk.j4 k3 x5_3 true l0_0 l0_1 l0_2 a0_3 a0_4 a0_5)) = some r := H
            have A65 := Aside0.mk A650
            clear A650
            by_cases c66 : t240 = true
            ·
             subst c66
             have H1 : ((spec_l1In.f ((rd_T72 l0_2 x5_3).f1) 1 1000000).bind fun t241 => (if t241 = true then (if x5_3 > 0 then (if 0 ≤ (wrap64 (x5_3 - 1)) then (if (wrap64 (x5_3 - 1)) < (l0_2.length : Int) then (if ((rd_T72 l0_2 (wrap64 (x5_3 - 1))).f1) ≥ ((rd_T72 l0_2 x5_3).f1) then (spec_FleetOk.j4 k3 x5_3 true l0_0 l0_1 l0_2 a0_3 a0_4 a0_5) else ((spec_l1In.f ((rd_T72 l0_2 x5_3).f2) 0 a0_5).bind fun t243 => (spec_FleetOk.j4 k3 x5_3 (!t243) l0_0 l0_1 l0_2 a0_3 a0_4 a0_5))) else (none)) else (none)) else ((spec_l1In.f ((rd_T72 l0_2 x5_3).f2) 0 a0_5).bind fun t244 => (spec_FleetOk.j4 k3 x5_3 (!t244) l0_0 l0_1 l0_2 a0_3 a0_4 a0_5))) else (spec_FleetOk.j4 k3 x5_3 true l0_0 l0_1 l0_2 a0_3 a0_4 a0_5))) = some r := by rw [if_pos rfl] at H; exact H
             clear H
             have H := H1
             clear H1
             replace H := Option.bind_eq_some_iff.mp H
             obtain ⟨t241, A670, H⟩ := H
             replace H : (if t241 = true then (if x5_3 > 0 then (if 0 ≤ (wrap64 (x5_3 - 1)) then (if (wrap64 (x5_3 - 1)) < (l0_2.length : Int) then (if ((rd_T72 l0_2 (wrap64 (x5_3 - 1))).f1) ≥ ((rd_T72 l0_2 x5_3).f1) then (spec_FleetOk.j4 k3 x5_3 true l0_0 l0_1 l0_2 a0_3 a0_4 a0_5) else ((spec_l1In.f ((rd_T72 l0_2 x5_3).f2) 0 a0_5).bind fun t243 => (spec_FleetOk.j4 k3 x5_3 (!t243) l0_0 l0_1 l0_2 a0_3 a0_4 a0_5))) else (none)) else (none)) else ((spec_l1In.f ((rd_T72 l0_2 x5_3).f2) 0 a0_5).bind fun t244 => (spec_FleetOk.j4 k3 x5_3 (!t244) l0_0 l0_1 l0_2 a0_3 a0_4 a0_5))) else (spec_FleetOk.j4 k3 x5_3 true l0_0 l0_1 l0_2 a0_3 a0_4 a0_5)) = some r := H
             have A67 := Aside0.mk A670
             clear A670
             by_cases c68 : t241 = true
             ·
              subst c68
              have H1 : (if x5_3 > 0 then (if 0 ≤ (wrap64 (x5_3 - 1)) then (if (wrap64 (x5_3 - 1)) < (l0_2.length : Int) then (if ((rd_T72 l0_2 (wrap64 (x5_3 - 1))).f1) ≥ ((rd_T72 l0_2 x5_3).f1) then (spec_FleetOk.j4 k3 x5_3 true l0_0 l0_1 l0_2 a0_3 a0_4 a0_5) else ((spec_l1In.f ((rd_T72 l0_2 x5_3).f2) 0 a0_5).bind fun t243 => (spec_FleetOk.j4 k3 x5_3 (!t243) l0_0 l0_1 l0_2 a0_3 a0_4 a0_5))) else (none)) else (none)) else ((spec_l1In.f ((rd_T72 l0_2 x5_3).f2) 0 a0_5).bind fun t244 => (spec_FleetOk.j4 k3 x5_3 (!t244) l0_0 l0_1 l0_2 a0_3 a0_4 a0_5))) = some r := by rw [if_pos rfl] at H; exact H
              clear H
              have H := H1
              clear H1
              by_cases c69 : x5_3 > 0
              ·
               rw [if_pos c69] at H
               have c69b0 : decide (0 < x5_3) = true := decide_eq_true c69
               clear c69
               (first | rw [c69b0] | (simp only [i64_w, i32_w]; rw [c69b0]) | skip)
               obtain ⟨ji70, hji70⟩ : ∃ j_ : Int, (wrap64 (x5_3 - 1)) = j_ := ⟨_, rfl⟩
               replace H : (if 0 ≤ (ji70) then (if (ji70) < (l0_2.length : Int) then (if ((rd_T72 l0_2 (ji70)).f1) ≥ ((rd_T72 l0_2 x5_3).f1) then (spec_FleetOk.j4 k3 x5_3 true l0_0 l0_1 l0_2 a0_3 a0_4 a0_5) else ((spec_l1In.f ((rd_T72 l0_2 x5_3).f2) 0 a0_5).bind fun t243 => (spec_FleetOk.j4 k3 x5_3 (!t243) l0_0 l0_1 l0_2 a0_3 a0_4 a0_5))) else (none)) else (none)) = some r := by first | (rw [hji70] at H; exact H) | (simp only [hji70] at H ⊢; exact H)
               (try rw [hji70] at A65)
               (try rw [hji70] at A67)
               have hji70w : (IntKind.i64.wrap (x5_3 - 1)) = ji70 := (i64_w _).trans hji70
               by_cases c71 : 0 ≤ (ji70)
               ·
                rw [if_pos c71] at H
                have c71b0 : decide (0 ≤ (ji70)) = true := decide_eq_true c71
                clear c71
                by_cases c72 : (ji70) < (l0_2.length : Int)
                ·
                 rw [if_pos c72] at H
                 have c72b0 : decide ((ji70) < (l0_2.length : Int)) = true := decide_eq_true c72
                 clear c72
                 by_cases c73 : ((rd_T72 l0_2 (ji70)).f1) ≥ ((rd_T72 l0_2 x5_3).f1)
                 ·
                  rw [if_pos c73] at H
                  have c73b0 : decide (((rd_T72 l0_2 x5_3).f1) ≤ ((rd_T72 l0_2 (ji70)).f1)) = true := decide_eq_true c73
                  clear c73
                  have H' := Aside0.mk H
                  clear H
                  try go_wp2
                  have n0_ : Aside0 ((((w62.setCell ⟨gb239, 0, none⟩ (.string ((rd_T72 l0_2 x5_3).f0))).setCell ⟨gb239, 1, none⟩ (.int .i64 ((rd_T72 l0_2 x5_3).f1))).setCell ⟨gb239, 2, none⟩ (.int .i64 ((rd_T72 l0_2 x5_3).f2))).heap[gb230]? = some (.cells #[.slice A0_0 l0_0.length c0_0, .slice A0_1 l0_1.length c0_1, .slice (some ad238) l0_2.length c0_2, .int .i64 a0_3, .int .i64 a0_4, .int .i64 a0_5] 56 (0, 0))) := ⟨by (repeat refine bk1 ?_); refine blk_far ?_ NB230_239.out _; (repeat refine bk1 ?_); refine blk_far ?_ NB230_239.out _; (repeat refine bk1 ?_); refine blk_far ?_ NB230_239.out _; (repeat refine bk1 ?_); exact BK230.out⟩
                  have n1_ : Aside0 ((((w62.setCell ⟨gb239, 0, none⟩ (.string ((rd_T72 l0_2 x5_3).f0))).setCell ⟨gb239, 1, none⟩ (.int .i64 ((rd_T72 l0_2 x5_3).f1))).setCell ⟨gb239, 2, none⟩ (.int .i64 ((rd_T72 l0_2 x5_3).f2))).heap[gb239]? = some (.cells #[.string ((rd_T72 l0_2 x5_3).f0), .int .i64 ((rd_T72 l0_2 x5_3).f1), .int .i64 ((rd_T72 l0_2 x5_3).f2)] 72 (0, 0))) := ⟨by (repeat refine bk1 ?_); refine blk_put (cs := #[.string ((rd_T72 l0_2 x5_3).f0), .int .i64 ((rd_T72 l0_2 x5_3).f1), .int .i64 0]) ?_ 2 _ rfl; (repeat refine bk1 ?_); refine blk_put (cs := #[.string ((rd_T72 l0_2 x5_3).f0), .int .i64 0, .int .i64 0]) ?_ 1 _ rfl; (repeat refine bk1 ?_); refine blk_put (cs := #[.string (⟨#[]⟩ : ByteArray), .int .i64 0, .int .i64 0]) ?_ 0 _ rfl; (repeat refine bk1 ?_); exact BK239.out⟩
                  have n2_ : Aside0 (Below w.heap.size w (((w62.setCell ⟨gb239, 0, none⟩ (.string ((rd_T72 l0_2 x5_3).f0))).setCell ⟨gb239, 1, none⟩ (.int .i64 ((rd_T72 l0_2 x5_3).f1))).setCell ⟨gb239, 2, none⟩ (.int .i64 ((rd_T72 l0_2 x5_3).f2)))) := ⟨by repeat with_reducible first | exact bl HB.out | refine below_set ?_ GE230.out | refine below_set ?_ GE239.out | refine bq ?_⟩
                  (try clear BK230)
                  (try clear BK239)
                  (try clear HB)
                  generalize (((w62.setCell ⟨gb239, 0, none⟩ (.string ((rd_T72 l0_2 x5_3).f0))).setCell ⟨gb239, 1, none⟩ (.int .i64 ((rd_T72 l0_2 x5_3).f1))).setCell ⟨gb239, 2, none⟩ (.int .i64 ((rd_T72 l0_2 x5_3).f2))) = w74 at n0_ n1_ n2_ ⊢
                  have BK230 := n0_
                  have BK239 := n1_
                  have HB := n2_
                  clear n0_ n1_ n2_
                  have n0_ := Aside0.mk (blk_drew BK230.out)
                  have n1_ := Aside0.mk (blk_drew BK239.out)
                  have n2_ := Aside0.mk (below_drew1 HB.out)
                  clear BK230
                  clear BK239
                  clear HB
                  have BK230 := n0_
                  have BK239 := n1_
                  have HB := n2_
                  clear n0_ n1_ n2_
                  have p242 : 0 ≤ ((ji70) : Int) := of_decide_eq_true (by first | (with_reducible assumption) | assumption)
                  have q242 : (ji70) < (l0_2.length : Int) := of_decide_eq_true (by first | (with_reducible assumption) | assumption)
                  obtain ⟨ad242, e242, hx242_0, hx242_1, hx242_2⟩ := at_T72 HR0_2.out (ji70) p242 q242
                  have hw242_2 := hx242_2
                  have hw242_1 := hx242_1
                  have hw242_0 := hx242_0
                  obtain rfl : ad238 = ad242 := (by injection e242)
                  replace hx242_0 := bc HB.out hx242_0
                  replace hx242_1 := bc HB.out hx242_1
                  replace hx242_2 := bc HB.out hx242_2
                  replace p242 := eq_true p242
                  replace q242 := eq_true q242
                  refine start_ (n := 35) (S := fun w' => w'.cell? ⟨gb239, 0, none⟩ = some (.string ((rd_T72 l0_2 x5_3).f0)) ∧ w'.cell? ⟨gb239, 1, none⟩ = some (.int .i64 ((rd_T72 l0_2 x5_3).f1)) ∧ w'.cell? ⟨gb239, 2, none⟩ = some (.int .i64 ((rd_T72 l0_2 x5_3).f2)) ∧ w'.cell? ⟨gb230, 0, none⟩ = some (.slice A0_0 l0_0.length c0_0) ∧ w'.cell? ⟨gb230, 1, none⟩ = some (.slice A0_1 l0_1.length c0_1) ∧ w'.cell? ⟨gb230, 2, none⟩ = some (.slice (some ad238) l0_2.length c0_2) ∧ w'.cell? ⟨gb230, 3, none⟩ = some (.int .i64 a0_3) ∧ w'.cell? ⟨gb230, 4, none⟩ = some (.int .i64 a0_4) ∧ w'.cell? ⟨gb230, 5, none⟩ = some (.int .i64 a0_5) ∧ w'.cell? (ad238.add (((ji70)).toNat * 3)) = some (.string ((rd_T72 l0_2 (ji70)).f0)) ∧ w'.cell? ⟨(ad238.add (((ji70)).toNat * 3)).block, (ad238.add (((ji70)).toNat * 3)).off + 1, none⟩ = some (.int .i64 ((rd_T72 l0_2 (ji70)).f1)) ∧ w'.cell? ⟨(ad238.add (((ji70)).toNat * 3)).block, (ad238.add (((ji70)).toNat * 3)).off + 2, none⟩ = some (.int .i64 ((rd_T72 l0_2 (ji70)).f2))) (ds := []) m0_35 (by kernel_rfl) rfl rfl ⟨ck BK239.out 0 rfl, ck BK239.out 1 rfl, ck BK239.out 2 rfl, ck BK230.out 0 rfl, ck BK230.out 1 rfl, ck BK230.out 2 rfl, ck BK230.out 3 rfl, ck BK230.out 4 rfl, ck BK230.out 5 rfl, ((HB.out.cell (World.block_lt_of_cell? w _ hw242_0)).trans hw242_0), ((HB.out.cell (World.block_lt_of_cell? w _ hw242_1)).trans hw242_1), ((HB.out.cell (World.block_lt_of_cell? w _ hw242_2)).trans hw242_2)⟩ (fun hHeld => ?_); refine with_tabW spec_FleetOk.tab13 spec_FleetOk.bits13 (fun HT_ HW_ => ?_)
                  generalize w74.drew = w75 at BK230 BK239 HB hx242_0 hx242_1 hx242_2 hHeld ⊢
                  refine pq_ HT_.out 0 80 m1_35 ?_
                  refine tk_ HT_.out HW_.out 1 81 m2_35 rfl rfl (by kernel_rfl) (by rfl) (by rintro w' ⟨s0, s1, s2, s3, s4, s5, s6, s7, s8, s9, s10, s11⟩; go_simp; with_reducible rfl) hHeld (by simp only [sp_]; rfl) (fun _ _ _ h => h) ?_
                  refine one_ (i := 2) (N := some 82) m3_35 rfl rfl (one_of HT_.out (by kernel_rfl)) (by decide) (fun K hK => ?_)
                  refine goes_ Try.func49 (by kernel_rfl) rfl #[.string ((rd_T72 l0_2 x5_3).f0)] (by rfl) rfl rfl (by (try simp only [am_]); first | done | rfl) ?_
                  with_reducible refine (spec_l1Name.calls k3 ((rd_T72 l0_2 x5_3).f0) true _ A65.out).mono ?_
                  rintro e w' ⟨rfl, ⟨nd, rfl⟩⟩
                  refine ⟨_, rfl, ?_⟩
                  refine hK.out _ _ ⟨ck BK239.out 0 rfl, ck BK239.out 1 rfl, ck BK239.out 2 rfl, ck BK230.out 0 rfl, ck BK230.out 1 rfl, ck BK230.out 2 rfl, ck BK230.out 3 rfl, ck BK230.out 4 rfl, ck BK230.out 5 rfl, ((HB.out.cell (World.block_lt_of_cell? w _ hw242_0)).trans hw242_0), ((HB.out.cell (World.block_lt_of_cell? w _ hw242_1)).trans hw242_1), ((HB.out.cell (World.block_lt_of_cell? w _ hw242_2)).trans hw242_2)⟩ (fun hHeld => ?_)
                  clear hK K
                  refine norm_ (a' := ?_) ?_ ?_
                  rotate_left
                  ·
                   show Act.put _ (some 82) _ = _
                   simp only [sp_]
                   rfl
                  refine pq_ HT_.out 3 83 m4_35 ?_
                  refine pq_ HT_.out 4 84 m5_35 ?_
                  refine pq_ HT_.out 5 85 m6_35 ?_
                  refine tk_ HT_.out HW_.out 6 86 m7_35 rfl rfl (by kernel_rfl) (by rfl) (by rintro w' ⟨s0, s1, s2, s3, s4, s5, s6, s7, s8, s9, s10, s11⟩; go_simp; with_reducible rfl) hHeld (by simp only [sp_]; rfl) (fun _ _ _ h => h) ?_
                  refine one_ (i := 7) (N := some 87) m8_35 rfl rfl (one_of HT_.out (by kernel_rfl)) (by decide) (fun K hK => ?_)
                  refine goes_ Try.func46 (by kernel_rfl) rfl #[.int .i64 ((rd_T72 l0_2 x5_3).f1), .int .i64 1, .int .i64 1000000] (by rfl) rfl rfl (by (try simp only [am_]); first | done | rfl) ?_
                  with_reducible refine (spec_l1In.calls ((rd_T72 l0_2 x5_3).f1) 1 1000000 true _ A67.out).mono ?_
                  rintro e w' ⟨rfl, ⟨nd, rfl⟩⟩
                  refine ⟨_, rfl, ?_⟩
                  refine hK.out _ _ ⟨ck BK239.out 0 rfl, ck BK239.out 1 rfl, ck BK239.out 2 rfl, ck BK230.out 0 rfl, ck BK230.out 1 rfl, ck BK230.out 2 rfl, ck BK230.out 3 rfl, ck BK230.out 4 rfl, ck BK230.out 5 rfl, ((HB.out.cell (World.block_lt_of_cell? w _ hw242_0)).trans hw242_0), ((HB.out.cell (World.block_lt_of_cell? w _ hw242_1)).trans hw242_1), ((HB.out.cell (World.block_lt_of_cell? w _ hw242_2)).trans hw242_2)⟩ (fun hHeld => ?_)
                  clear hK K
                  refine norm_ (a' := ?_) ?_ ?_
                  rotate_left
                  ·
                   show Act.put _ (some 87) _ = _
                   simp only [sp_]
                   rfl
                  refine pq_ HT_.out 8 88 m9_35 ?_
                  refine pq_ HT_.out 9 89 m10_35 ?_
                  refine pq_ HT_.out 10 90 m11_35 ?_
                  refine pq_ HT_.out 11 91 m12_35 ?_
                  refine pq_ HT_.out 12 92 m13_35 ?_
                  refine pq_ HT_.out 13 93 m14_35 ?_
                  refine pq_ HT_.out 14 94 m15_35 ?_
                  refine pq_ HT_.out 16 96 n114 ?_
                  refine pq_ HT_.out 17 97 n115 ?_
                  refine pq_ HT_.out 21 101 n116 ?_
                  refine tk_ HT_.out HW_.out 15 95 n158 rfl rfl (by kernel_rfl) (by rfl) (by rintro w' ⟨s0, s1, s2, s3, s4, s5, s6, s7, s8, s9, s10, s11⟩; go_simp; with_reducible rfl) hHeld (by simp only [sp_]; rfl) (fun _ _ _ h => h) ?_
                  refine pq_ HT_.out 18 98 n117 ?_
                  refine pq_ HT_.out 19 99 n118 ?_
                  refine tk_ HT_.out HW_.out 20 100 m22_35 rfl rfl (by kernel_rfl) (by rfl) (by rintro w' ⟨s0, s1, s2, s3, s4, s5, s6, s7, s8, s9, s10, s11⟩; go_simp; with_reducible rfl) hHeld (by simp only [sp_]; rfl) (fun _ _ _ h => h) ?_
                  refine tk_ HT_.out HW_.out 22 102 m23_35 rfl rfl (by kernel_rfl) (by rfl) (by rintro w' ⟨s0, s1, s2, s3, s4, s5, s6, s7, s8, s9, s10, s11⟩; go_simp; with_reducible rfl) hHeld (by simp only [sp_]; rfl) (fun _ _ _ h => h) ?_
                  refine pq_ HT_.out 23 103 m24_35 ?_
                  refine pq_ HT_.out 24 104 m25_35 ?_
                  refine pq_ HT_.out 25 105 m26_35 ?_
                  refine pq_ HT_.out 26 106 m27_35 ?_
                  refine pv_ HT_.out 27 107 m28_35 ?_
                  refine pv_ HT_.out 28 108 m29_35 ?_
                  refine pv_ HT_.out 29 109 m30_35 ?_
                  refine pv_ HT_.out 30 110 m31_35 ?_
                  refine pv_ HT_.out 31 111 m32_35 ?_
                  refine pv_ HT_.out 32 112 m33_35 ?_
                  refine pv_ HT_.out 33 113 m34_35 ?_
                  refine pq_ HT_.out 34 114 m35_35 ?_
                  refine done_ (done_of HT_.out (by kernel_rfl)) ?_
                  try go_wp2
                  go_meet
                  case rel => exact ⟨_, (true), (by first | rfl | (simp; done) | (simp [*]; done)), H', ⟨by have := HJ1.out; have := HK2.out; have := HK3.out; first | omega | exact Nat.le_refl _⟩, ⟨bk BK230.out⟩, ⟨bk BK239.out⟩, ⟨by repeat with_reducible first | exact bl HB.out | refine below_set ?_ GE230.out | refine below_set ?_ GE239.out | refine bq ?_⟩⟩
                 ·
                  rw [if_neg c73] at H
                  have c73b0 : decide (((rd_T72 l0_2 x5_3).f1) ≤ ((rd_T72 l0_2 (ji70)).f1)) = false := decide_eq_false c73
                  clear c73
                  replace H := Option.bind_eq_some_iff.mp H
                  obtain ⟨t243, A760, H⟩ := H
                  replace H : (spec_FleetOk.j4 k3 x5_3 (!t243) l0_0 l0_1 l0_2 a0_3 a0_4 a0_5) = some r := H
                  have A76 := Aside0.mk A760
                  clear A760
                  have H' := Aside0.mk H
                  clear H
                  try go_wp2
                  have n0_ : Aside0 ((((w62.setCell ⟨gb239, 0, none⟩ (.string ((rd_T72 l0_2 x5_3).f0))).setCell ⟨gb239, 1, none⟩ (.int .i64 ((rd_T72 l0_2 x5_3).f1))).setCell ⟨gb239, 2, none⟩ (.int .i64 ((rd_T72 l0_2 x5_3).f2))).heap[gb230]? = some (.cells #[.slice A0_0 l0_0.length c0_0, .slice A0_1 l0_1.length c0_1, .slice (some ad238) l0_2.length c0_2, .int .i64 a0_3, .int .i64 a0_4, .int .i64 a0_5] 56 (0, 0))) := ⟨by (repeat refine bk1 ?_); refine blk_far ?_ NB230_239.out _; (repeat refine bk1 ?_); refine blk_far ?_ NB230_239.out _; (repeat refine bk1 ?_); refine blk_far ?_ NB230_239.out _; (repeat refine bk1 ?_); exact BK230.out⟩
                  have n1_ : Aside0 ((((w62.setCell ⟨gb239, 0, none⟩ (.string ((rd_T72 l0_2 x5_3).f0))).setCell ⟨gb239, 1, none⟩ (.int .i64 ((rd_T72 l0_2 x5_3).f1))).setCell ⟨gb239, 2, none⟩ (.int .i64 ((rd_T72 l0_2 x5_3).f2))).heap[gb239]? = some (.cells #[.string ((rd_T72 l0_2 x5_3).f0), .int .i64 ((rd_T72 l0_2 x5_3).f1), .int .i64 ((rd_T72 l0_2 x5_3).f2)] 72 (0, 0))) := ⟨by (repeat refine bk1 ?_); refine blk_put (cs := #[.string ((rd_T72 l0_2 x5_3).f0), .int .i64 ((rd_T72 l0_2 x5_3).f1), .int .i64 0]) ?_ 2 _ rfl; (repeat refine bk1 ?_); refine blk_put (cs := #[.string ((rd_T72 l0_2 x5_3).f0), .int .i64 0, .int .i64 0]) ?_ 1 _ rfl; (repeat refine bk1 ?_); refine blk_put (cs := #[.string (⟨#[]⟩ : ByteArray), .int .i64 0, .int .i64 0]) ?_ 0 _ rfl; (repeat refine bk1 ?_); exact BK239.out⟩
                  have n2_ : Aside0 (Below w.heap.size w (((w62.setCell ⟨gb239, 0, none⟩ (.string ((rd_T72 l0_2 x5_3).f0))).setCell ⟨gb239, 1, none⟩ (.int .i64 ((rd_T72 l0_2 x5_3).f1))).setCell ⟨gb239, 2, none⟩ (.int .i64 ((rd_T72 l0_2 x5_3).f2)))) := ⟨by repeat with_reducible first | exact bl HB.out | refine below_set ?_ GE230.out | refine below_set ?_ GE239.out | refine bq ?_⟩
                  (try clear BK230)
                  (try clear BK239)
                  (try clear HB)
                  generalize (((w62.setCell ⟨gb239, 0, none⟩ (.string ((rd_T72 l0_2 x5_3).f0))).setCell ⟨gb239, 1, none⟩ (.int .i64 ((rd_T72 l0_2 x5_3).f1))).setCell ⟨gb239, 2, none⟩ (.int .i64 ((rd_T72 l0_2 x5_3).f2))) = w77 at n0_ n1_ n2_ ⊢
                  have BK230 := n0_
                  have BK239 := n1_
                  have HB := n2_
                  clear n0_ n1_ n2_
                  have n0_ := Aside0.mk (blk_drew BK230.out)
                  have n1_ := Aside0.mk (blk_drew BK239.out)
                  have n2_ := Aside0.mk (below_drew1 HB.out)
                  clear BK230
                  clear BK239
                  clear HB
                  have BK230 := n0_
                  have BK239 := n1_
                  have HB := n2_
                  clear n0_ n1_ n2_
                  have p242 : 0 ≤ ((ji70) : Int) := of_decide_eq_true (by first | (with_reducible assumption) | assumption)
                  have q242 : (ji70) < (l0_2.length : Int) := of_decide_eq_true (by first | (with_reducible assumption) | assumption)
                  obtain ⟨ad242, e242, hx242_0, hx242_1, hx242_2⟩ := at_T72 HR0_2.out (ji70) p242 q242
                  have hw242_2 := hx242_2
                  have hw242_1 := hx242_1
                  have hw242_0 := hx242_0
                  obtain rfl : ad238 = ad242 := (by injection e242)
                  replace hx242_0 := bc HB.out hx242_0
                  replace hx242_1 := bc HB.out hx242_1
                  replace hx242_2 := bc HB.out hx242_2
                  replace p242 := eq_true p242
                  replace q242 := eq_true q242
                  refine start_ (n := 35) (S := fun w' => w'.cell? ⟨gb239, 0, none⟩ = some (.string ((rd_T72 l0_2 x5_3).f0)) ∧ w'.cell? ⟨gb239, 1, none⟩ = some (.int .i64 ((rd_T72 l0_2 x5_3).f1)) ∧ w'.cell? ⟨gb239, 2, none⟩ = some (.int .i64 ((rd_T72 l0_2 x5_3).f2)) ∧ w'.cell? ⟨gb230, 0, none⟩ = some (.slice A0_0 l0_0.length c0_0) ∧ w'.cell? ⟨gb230, 1, none⟩ = some (.slice A0_1 l0_1.length c0_1) ∧ w'.cell? ⟨gb230, 2, none⟩ = some (.slice (some ad238) l0_2.length c0_2) ∧ w'.cell? ⟨gb230, 3, none⟩ = some (.int .i64 a0_3) ∧ w'.cell? ⟨gb230, 4, none⟩ = some (.int .i64 a0_4) ∧ w'.cell? ⟨gb230, 5, none⟩ = some (.int .i64 a0_5) ∧ w'.cell? (ad238.add (((ji70)).toNat * 3)) = some (.string ((rd_T72 l0_2 (ji70)).f0)) ∧ w'.cell? ⟨(ad238.add (((ji70)).toNat * 3)).block, (ad238.add (((ji70)).toNat * 3)).off + 1, none⟩ = some (.int .i64 ((rd_T72 l0_2 (ji70)).f1)) ∧ w'.cell? ⟨(ad238.add (((ji70)).toNat * 3)).block, (ad238.add (((ji70)).toNat * 3)).off + 2, none⟩ = some (.int .i64 ((rd_T72 l0_2 (ji70)).f2))) (ds := []) m0_35 (by kernel_rfl) rfl rfl ⟨ck BK239.out 0 rfl, ck BK239.out 1 rfl, ck BK239.out 2 rfl, ck BK230.out 0 rfl, ck BK230.out 1 rfl, ck BK230.out 2 rfl, ck BK230.out 3 rfl, ck BK230.out 4 rfl, ck BK230.out 5 rfl, ((HB.out.cell (World.block_lt_of_cell? w _ hw242_0)).trans hw242_0), ((HB.out.cell (World.block_lt_of_cell? w _ hw242_1)).trans hw242_1), ((HB.out.cell (World.block_lt_of_cell? w _ hw242_2)).trans hw242_2)⟩ (fun hHeld => ?_); refine with_tabW spec_FleetOk.tab13 spec_FleetOk.bits13 (fun HT_ HW_ => ?_)
                  generalize w77.drew = w78 at BK230 BK239 HB hx242_0 hx242_1 hx242_2 hHeld ⊢
                  refine pq_ HT_.out 0 80 m1_35 ?_
                  refine tk_ HT_.out HW_.out 1 81 m2_35 rfl rfl (by kernel_rfl) (by rfl) (by rintro w' ⟨s0, s1, s2, s3, s4, s5, s6, s7, s8, s9, s10, s11⟩; go_simp; with_reducible rfl) hHeld (by simp only [sp_]; rfl) (fun _ _ _ h => h) ?_
                  refine one_ (i := 2) (N := some 82) m3_35 rfl rfl (one_of HT_.out (by kernel_rfl)) (by decide) (fun K hK => ?_)
                  refine goes_ Try.func49 (by kernel_rfl) rfl #[.string ((rd_T72 l0_2 x5_3).f0)] (by rfl) rfl rfl (by (try simp only [am_]); first | done | rfl) ?_
                  with_reducible refine (spec_l1Name.calls k3 ((rd_T72 l0_2 x5_3).f0) true _ A65.out).mono ?_
                  rintro e w' ⟨rfl, ⟨nd, rfl⟩⟩
                  refine ⟨_, rfl, ?_⟩
                  refine hK.out _ _ ⟨ck BK239.out 0 rfl, ck BK239.out 1 rfl, ck BK239.out 2 rfl, ck BK230.out 0 rfl, ck BK230.out 1 rfl, ck BK230.out 2 rfl, ck BK230.out 3 rfl, ck BK230.out 4 rfl, ck BK230.out 5 rfl, ((HB.out.cell (World.block_lt_of_cell? w _ hw242_0)).trans hw242_0), ((HB.out.cell (World.block_lt_of_cell? w _ hw242_1)).trans hw242_1), ((HB.out.cell (World.block_lt_of_cell? w _ hw242_2)).trans hw242_2)⟩ (fun hHeld => ?_)
                  clear hK K
                  refine norm_ (a' := ?_) ?_ ?_
                  rotate_left
                  ·
                   show Act.put _ (some 82) _ = _
                   simp only [sp_]
                   rfl
                  refine pq_ HT_.out 3 83 m4_35 ?_
                  refine pq_ HT_.out 4 84 m5_35 ?_
                  refine pq_ HT_.out 5 85 m6_35 ?_
                  refine tk_ HT_.out HW_.out 6 86 m7_35 rfl rfl (by kernel_rfl) (by rfl) (by rintro w' ⟨s0, s1, s2, s3, s4, s5, s6, s7, s8, s9, s10, s11⟩; go_simp; with_reducible rfl) hHeld (by simp only [sp_]; rfl) (fun _ _ _ h => h) ?_
                  refine one_ (i := 7) (N := some 87) m8_35 rfl rfl (one_of HT_.out (by kernel_rfl)) (by decide) (fun K hK => ?_)
                  refine goes_ Try.func46 (by kernel_rfl) rfl #[.int .i64 ((rd_T72 l0_2 x5_3).f1), .int .i64 1, .int .i64 1000000] (by rfl) rfl rfl (by (try simp only [am_]); first | done | rfl) ?_
                  with_reducible refine (spec_l1In.calls ((rd_T72 l0_2 x5_3).f1) 1 1000000 true _ A67.out).mono ?_
                  rintro e w' ⟨rfl, ⟨nd, rfl⟩⟩
                  refine ⟨_, rfl, ?_⟩
                  refine hK.out _ _ ⟨ck BK239.out 0 rfl, ck BK239.out 1 rfl, ck BK239.out 2 rfl, ck BK230.out 0 rfl, ck BK230.out 1 rfl, ck BK230.out 2 rfl, ck BK230.out 3 rfl, ck BK230.out 4 rfl, ck BK230.out 5 rfl, ((HB.out.cell (World.block_lt_of_cell? w _ hw242_0)).trans hw242_0), ((HB.out.cell (World.block_lt_of_cell? w _ hw242_1)).trans hw242_1), ((HB.out.cell (World.block_lt_of_cell? w _ hw242_2)).trans hw242_2)⟩ (fun hHeld => ?_)
                  clear hK K
                  refine norm_ (a' := ?_) ?_ ?_
                  rotate_left
                  ·
                   show Act.put _ (some 87) _ = _
                   simp only [sp_]
                   rfl
                  refine pq_ HT_.out 8 88 m9_35 ?_
                  refine pq_ HT_.out 9 89 m10_35 ?_
                  refine pq_ HT_.out 10 90 m11_35 ?_
                  refine pq_ HT_.out 11 91 m12_35 ?_
                  refine pq_ HT_.out 12 92 m13_35 ?_
                  refine pq_ HT_.out 13 93 m14_35 ?_
                  refine pq_ HT_.out 14 94 m15_35 ?_
                  refine pq_ HT_.out 16 96 n114 ?_
                  refine pq_ HT_.out 17 97 n115 ?_
                  refine pq_ HT_.out 21 101 n116 ?_
                  refine tk_ HT_.out HW_.out 15 95 n158 rfl rfl (by kernel_rfl) (by rfl) (by rintro w' ⟨s0, s1, s2, s3, s4, s5, s6, s7, s8, s9, s10, s11⟩; go_simp; with_reducible rfl) hHeld (by simp only [sp_]; rfl) (fun _ _ _ h => h) ?_
                  refine pq_ HT_.out 18 98 n117 ?_
                  refine pq_ HT_.out 19 99 n118 ?_
                  refine tk_ HT_.out HW_.out 20 100 m22_35 rfl rfl (by kernel_rfl) (by rfl) (by rintro w' ⟨s0, s1, s2, s3, s4, s5, s6, s7, s8, s9, s10, s11⟩; go_simp; with_reducible rfl) hHeld (by simp only [sp_]; rfl) (fun _ _ _ h => h) ?_
                  refine tk_ HT_.out HW_.out 22 102 m23_35 rfl rfl (by kernel_rfl) (by rfl) (by rintro w' ⟨s0, s1, s2, s3, s4, s5, s6, s7, s8, s9, s10, s11⟩; go_simp; with_reducible rfl) hHeld (by simp only [sp_]; rfl) (fun _ _ _ h => h) ?_
                  refine pq_ HT_.out 23 103 m24_35 ?_
                  refine pq_ HT_.out 24 104 m25_35 ?_
                  refine pq_ HT_.out 25 105 m26_35 ?_
                  refine pq_ HT_.out 26 106 m27_35 ?_
                  refine pq_ HT_.out 27 107 m28_35 ?_
                  refine pq_ HT_.out 29 109 n125 ?_
                  refine pq_ HT_.out 30 110 n126 ?_
                  refine tk_ HT_.out HW_.out 28 108 m31_35 rfl rfl (by kernel_rfl) (by rfl) (by rintro w' ⟨s0, s1, s2, s3, s4, s5, s6, s7, s8, s9, s10, s11⟩; go_simp; with_reducible rfl) hHeld (by simp only [sp_]; rfl) (fun _ _ _ h => h) ?_
                  refine tk_ HT_.out HW_.out 31 111 m32_35 rfl rfl (by kernel_rfl) (by rfl) (by rintro w' ⟨s0, s1, s2, s3, s4, s5, s6, s7, s8, s9, s10, s11⟩; go_simp; with_reducible rfl) hHeld (by simp only [sp_]; rfl) (fun _ _ _ h => h) ?_
                  refine one_ (i := 32) (N := some 112) m33_35 rfl rfl (one_of HT_.out (by kernel_rfl)) (by decide) (fun K hK => ?_)
                  refine goes_ Try.func46 (by kernel_rfl) rfl #[.int .i64 ((rd_T72 l0_2 x5_3).f2), .int .i64 0, .int .i64 a0_5] (by rfl) rfl rfl (by (try simp only [am_]); first | done | rfl) ?_
                  with_reducible refine (spec_l1In.calls ((rd_T72 l0_2 x5_3).f2) 0 a0_5 t243 _ A76.out).mono ?_
                  rintro e w' ⟨rfl, ⟨nd, rfl⟩⟩
                  refine ⟨_, rfl, ?_⟩
                  refine hK.out _ _ ⟨ck BK239.out 0 rfl, ck BK239.out 1 rfl, ck BK239.out 2 rfl, ck BK230.out 0 rfl, ck BK230.out 1 rfl, ck BK230.out 2 rfl, ck BK230.out 3 rfl, ck BK230.out 4 rfl, ck BK230.out 5 rfl, ((HB.out.cell (World.block_lt_of_cell? w _ hw242_0)).trans hw242_0), ((HB.out.cell (World.block_lt_of_cell? w _ hw242_1)).trans hw242_1), ((HB.out.cell (World.block_lt_of_cell? w _ hw242_2)).trans hw242_2)⟩ (fun hHeld => ?_)
                  clear hK K
                  refine norm_ (a' := ?_) ?_ ?_
                  rotate_left
                  ·
                   show Act.put _ (some 112) _ = _
                   simp only [sp_]
                   rfl
                  refine pq_ HT_.out 33 113 m34_35 ?_
                  refine pq_ HT_.out 34 114 m35_35 ?_
                  refine done_ (done_of HT_.out (by kernel_rfl)) ?_
                  try go_wp2
                  go_meet
                  case rel => exact ⟨_, (!t243), (by first | rfl | (simp; done) | (simp [*]; done)), H', ⟨by have := HJ1.out; have := HK2.out; have := HK3.out; first | omega | exact Nat.le_refl _⟩, ⟨bk BK230.out⟩, ⟨bk BK239.out⟩, ⟨by repeat with_reducible first | exact bl HB.out | refine below_set ?_ GE230.out | refine below_set ?_ GE239.out | refine bq ?_⟩⟩
                ·
                 rw [if_neg c72] at H
                 exact absurd H (by simp)
               ·
                rw [if_neg c71] at H
                exact absurd H (by simp)
              ·
               rw [if_neg c69] at H
               have c69b0 : decide (0 < x5_3) = false := decide_eq_false c69
               clear c69
               (first | rw [c69b0] | (simp only [i64_w, i32_w]; rw [c69b0]) | skip)
               replace H := Option.bind_eq_some_iff.mp H
               obtain ⟨t244, A790, H⟩ := H
               replace H : (spec_FleetOk.j4 k3 x5_3 (!t244) l0_0 l0_1 l0_2 a0_3 a0_4 a0_5) = some r := H
               have A79 := Aside0.mk A790
               clear A790
               have H' := Aside0.mk H
               clear H
               try go_wp2
               have n0_ : Aside0 ((((w62.setCell ⟨gb239, 0, none⟩ (.string ((rd_T72 l0_2 x5_3).f0))).setCell ⟨gb239, 1, none⟩ (.int .i64 ((rd_T72 l0_2 x5_3).f1))).setCell ⟨gb239, 2, none⟩ (.int .i64 ((rd_T72 l0_2 x5_3).f2))).heap[gb230]? = some (.cells #[.slice A0_0 l0_0.length c0_0, .slice A0_1 l0_1.length c0_1, .slice (some ad238) l0_2.length c0_2, .int .i64 a0_3, .int .i64 a0_4, .int .i64 a0_5] 56 (0, 0))) := ⟨by (repeat refine bk1 ?_); refine blk_far ?_ NB230_239.out _; (repeat refine bk1 ?_); refine blk_far ?_ NB230_239.out _; (repeat refine bk1 ?_); refine blk_far ?_ NB230_239.out _; (repeat refine bk1 ?_); exact BK230.out⟩
               have n1_ : Aside0 ((((w62.setCell ⟨gb239, 0, none⟩ (.string ((rd_T72 l0_2 x5_3).f0))).setCell ⟨gb239, 1, none⟩ (.int .i64 ((rd_T72 l0_2 x5_3).f1))).setCell ⟨gb239, 2, none⟩ (.int .i64 ((rd_T72 l0_2 x5_3).f2))).heap[gb239]? = some (.cells #[.string ((rd_T72 l0_2 x5_3).f0), .int .i64 ((rd_T72 l0_2 x5_3).f1), .int .i64 ((rd_T72 l0_2 x5_3).f2)] 72 (0, 0))) := ⟨by (repeat refine bk1 ?_); refine blk_put (cs := #[.string ((rd_T72 l0_2 x5_3).f0), .int .i64 ((rd_T72 l0_2 x5_3).f1), .int .i64 0]) ?_ 2 _ rfl; (repeat refine bk1 ?_); refine blk_put (cs := #[.string ((rd_T72 l0_2 x5_3).f0), .int .i64 0, .int .i64 0]) ?_ 1 _ rfl; (repeat refine bk1 ?_); refine blk_put (cs := #[.string (⟨#[]⟩ : ByteArray), .int .i64 0, .int .i64 0]) ?_ 0 _ rfl; (repeat refine bk1 ?_); exact BK239.out⟩
               have n2_ : Aside0 (Below w.heap.size w (((w62.setCell ⟨gb239, 0, none⟩ (.string ((rd_T72 l0_2 x5_3).f0))).setCell ⟨gb239, 1, none⟩ (.int .i64 ((rd_T72 l0_2 x5_3).f1))).setCell ⟨gb239, 2, none⟩ (.int .i64 ((rd_T72 l0_2 x5_3).f2)))) := ⟨by repeat with_reducible first | exact bl HB.out | refine below_set ?_ GE230.out | refine below_set ?_ GE239.out | refine bq ?_⟩
               (try clear BK230)
               (try clear BK239)
               (try clear HB)
               generalize (((w62.setCell ⟨gb239, 0, none⟩ (.string ((rd_T72 l0_2 x5_3).f0))).setCell ⟨gb239, 1, none⟩ (.int .i64 ((rd_T72 l0_2 x5_3).f1))).setCell ⟨gb239, 2, none⟩ (.int .i64 ((rd_T72 l0_2 x5_3).f2))) = w80 at n0_ n1_ n2_ ⊢
               have BK230 := n0_
               have BK239 := n1_
               have HB := n2_
               clear n0_ n1_ n2_
               have n0_ := Aside0.mk (blk_drew BK230.out)
               have n1_ := Aside0.mk (blk_drew BK239.out)
               have n2_ := Aside0.mk (below_drew1 HB.out)
               clear BK230
               clear BK239
               clear HB
               have BK230 := n0_
               have BK239 := n1_
               have HB := n2_
               clear n0_ n1_ n2_
               refine start_ (n := 35) (S := fun w' => w'.cell? ⟨gb239, 0, none⟩ = some (.string ((rd_T72 l0_2 x5_3).f0)) ∧ w'.cell? ⟨gb239, 1, none⟩ = some (.int .i64 ((rd_T72 l0_2 x5_3).f1)) ∧ w'.cell? ⟨gb239, 2, none⟩ = some (.int .i64 ((rd_T72 l0_2 x5_3).f2)) ∧ w'.cell? ⟨gb230, 0, none⟩ = some (.slice A0_0 l0_0.length c0_0) ∧ w'.cell? ⟨gb230, 1, none⟩ = some (.slice A0_1 l0_1.length c0_1) ∧ w'.cell? ⟨gb230, 2, none⟩ = some (.slice (some ad238) l0_2.length c0_2) ∧ w'.cell? ⟨gb230, 3, none⟩ = some (.int .i64 a0_3) ∧ w'.cell? ⟨gb230, 4, none⟩ = some (.int .i64 a0_4) ∧ w'.cell? ⟨gb230, 5, none⟩ = some (.int .i64 a0_5)) (ds := []) m0_35 (by kernel_rfl) rfl rfl ⟨ck BK239.out 0 rfl, ck BK239.out 1 rfl, ck BK239.out 2 rfl, ck BK230.out 0 rfl, ck BK230.out 1 rfl, ck BK230.out 2 rfl, ck BK230.out 3 rfl, ck BK230.out 4 rfl, ck BK230.out 5 rfl⟩ (fun hHeld => ?_); refine with_tabW spec_FleetOk.tab13 spec_FleetOk.bits13 (fun HT_ HW_ => ?_)
               generalize w80.drew = w81 at BK230 BK239 HB hHeld ⊢
               refine pq_ HT_.out 0 80 m1_35 ?_
               refine tk_ HT_.out HW_.out 1 81 m2_35 rfl rfl (by kernel_rfl) (by rfl) (by rintro w' ⟨s0, s1, s2, s3, s4, s5, s6, s7, s8⟩; go_simp; with_reducible rfl) hHeld (by simp only [sp_]; rfl) (fun _ _ _ h => h) ?_
               refine one_ (i := 2) (N := some 82) m3_35 rfl rfl (one_of HT_.out (by kernel_rfl)) (by decide) (fun K hK => ?_)
               refine goes_ Try.func49 (by kernel_rfl) rfl #[.string ((rd_T72 l0_2 x5_3).f0)] (by rfl) rfl rfl (by (try simp only [am_]); first | done | rfl) ?_
               with_reducible refine (spec_l1Name.calls k3 ((rd_T72 l0_2 x5_3).f0) true _ A65.out).mono ?_
               rintro e w' ⟨rfl, ⟨nd, rfl⟩⟩
               refine ⟨_, rfl, ?_⟩
               refine hK.out _ _ ⟨ck BK239.out 0 rfl, ck BK239.out 1 rfl, ck BK239.out 2 rfl, ck BK230.out 0 rfl, ck BK230.out 1 rfl, ck BK230.out 2 rfl, ck BK230.out 3 rfl, ck BK230.out 4 rfl, ck BK230.out 5 rfl⟩ (fun hHeld => ?_)
               clear hK K
               refine norm_ (a' := ?_) ?_ ?_
               rotate_left
               ·
                show Act.put _ (some 82) _ = _
                simp only [sp_]
                rfl
               refine pq_ HT_.out 3 83 m4_35 ?_
               refine pq_ HT_.out 4 84 m5_35 ?_
               refine pq_ HT_.out 5 85 m6_35 ?_
               refine tk_ HT_.out HW_.out 6 86 m7_35 rfl rfl (by kernel_rfl) (by rfl) (by rintro w' ⟨s0, s1, s2, s3, s4, s5, s6, s7, s8⟩; go_simp; with_reducible rfl) hHeld (by simp only [sp_]; rfl) (fun _ _ _ h => h) ?_
               refine one_ (i := 7) (N := some 87) m8_35 rfl rfl (one_of HT_.out (by kernel_rfl)) (by decide) (fun K hK => ?_)
               refine goes_ Try.func46 (by kernel_rfl) rfl #[.int .i64 ((rd_T72 l0_2 x5_3).f1), .int .i64 1, .int .i64 1000000] (by rfl) rfl rfl (by (try simp only [am_]); first | done | rfl) ?_
               with_reducible refine (spec_l1In.calls ((rd_T72 l0_2 x5_3).f1) 1 1000000 true _ A67.out).mono ?_
               rintro e w' ⟨rfl, ⟨nd, rfl⟩⟩
               refine ⟨_, rfl, ?_⟩
               refine hK.out _ _ ⟨ck BK239.out 0 rfl, ck BK239.out 1 rfl, ck BK239.out 2 rfl, ck BK230.out 0 rfl, ck BK230.out 1 rfl, ck BK230.out 2 rfl, ck BK230.out 3 rfl, ck BK230.out 4 rfl, ck BK230.out 5 rfl⟩ (fun hHeld => ?_)
               clear hK K
               refine norm_ (a' := ?_) ?_ ?_
               rotate_left
               ·
                show Act.put _ (some 87) _ = _
                simp only [sp_]
                rfl
               refine pq_ HT_.out 8 88 m9_35 ?_
               refine pq_ HT_.out 9 89 m10_35 ?_
               refine pq_ HT_.out 10 90 m11_35 ?_
               refine pq_ HT_.out 11 91 m12_35 ?_
               refine pq_ HT_.out 12 92 m13_35 ?_
               refine pq_ HT_.out 13 93 m14_35 ?_
               refine pv_ HT_.out 14 94 m15_35 ?_
               refine pv_ HT_.out 15 95 m16_35 ?_
               refine pv_ HT_.out 16 96 m17_35 ?_
               refine pv_ HT_.out 17 97 m18_35 ?_
               refine pv_ HT_.out 18 98 m19_35 ?_
               refine pv_ HT_.out 19 99 m20_35 ?_
               refine pv_ HT_.out 20 100 m21_35 ?_
               refine pv_ HT_.out 21 101 m22_35 ?_
               refine pv_ HT_.out 22 102 m23_35 ?_
               refine pv_ HT_.out 23 103 m24_35 ?_
               refine pq_ HT_.out 24 104 m25_35 ?_
               refine pq_ HT_.out 25 105 m26_35 ?_
               refine pq_ HT_.out 26 106 m27_35 ?_
               refine pq_ HT_.out 27 107 m28_35 ?_
               refine pq_ HT_.out 29 109 n125 ?_
               refine pq_ HT_.out 30 110 n126 ?_
               refine tk_ HT_.out HW_.out 28 108 m31_35 rfl rfl (by kernel_rfl) (by rfl) (by rintro w' ⟨s0, s1, s2, s3, s4, s5, s6, s7, s8⟩; go_simp; with_reducible rfl) hHeld (by simp only [sp_]; rfl) (fun _ _ _ h => h) ?_
               refine tk_ HT_.out HW_.out 31 111 m32_35 rfl rfl (by kernel_rfl) (by rfl) (by rintro w' ⟨s0, s1, s2, s3, s4, s5, s6, s7, s8⟩; go_simp; with_reducible rfl) hHeld (by simp only [sp_]; rfl) (fun _ _ _ h => h) ?_
               refine one_ (i := 32) (N := some 112) m33_35 rfl rfl (one_of HT_.out (by kernel_rfl)) (by decide) (fun K hK => ?_)
               refine goes_ Try.func46 (by kernel_rfl) rfl #[.int .i64 ((rd_T72 l0_2 x5_3).f2), .int .i64 0, .int .i64 a0_5] (by rfl) rfl rfl (by (try simp only [am_]); first | done | rfl) ?_
               with_reducible refine (spec_l1In.calls ((rd_T72 l0_2 x5_3).f2) 0 a0_5 t244 _ A79.out).mono ?_
               rintro e w' ⟨rfl, ⟨nd, rfl⟩⟩
               refine ⟨_, rfl, ?_⟩
               refine hK.out _ _ ⟨ck BK239.out 0 rfl, ck BK239.out 1 rfl, ck BK239.out 2 rfl, ck BK230.out 0 rfl, ck BK230.out 1 rfl, ck BK230.out 2 rfl, ck BK230.out 3 rfl, ck BK230.out 4 rfl, ck BK230.out 5 rfl⟩ (fun hHeld => ?_)
               clear hK K
               refine norm_ (a' := ?_) ?_ ?_
               rotate_left
               ·
                show Act.put _ (some 112) _ = _
                simp only [sp_]
                rfl
               refine pq_ HT_.out 33 113 m34_35 ?_
               refine pq_ HT_.out 34 114 m35_35 ?_
               refine done_ (done_of HT_.out (by kernel_rfl)) ?_
               try go_wp2
               go_meet
               case rel => exact ⟨_, (!t244), (by first | rfl | (simp; done) | (simp [*]; done)), H', ⟨by have := HJ1.out; have := HK2.out; have := HK3.out; first | omega | exact Nat.le_refl _⟩, ⟨bk BK230.out⟩, ⟨bk BK239.out⟩, ⟨by repeat with_reducible first | exact bl HB.out | refine below_set ?_ GE230.out | refine below_set ?_ GE239.out | refine bq ?_⟩⟩
             ·
              replace c68 := Bool.eq_false_iff.mpr c68
              subst c68
              have H1 : (spec_FleetOk.j4 k3 x5_3 true l0_0 l0_1 l0_2 a0_3 a0_4 a0_5) = some r := by rw [if_neg (show ¬ (false = true) by decide)] at H; exact H
              clear H
              have H := H1
              clear H1
              have H' := Aside0.mk H
              clear H
              try go_wp2
              have n0_ : Aside0 ((((w62.setCell ⟨gb239, 0, none⟩ (.string ((rd_T72 l0_2 x5_3).f0))).setCell ⟨gb239, 1, none⟩ (.int .i64 ((rd_T72 l0_2 x5_3).f1))).setCell ⟨gb239, 2, none⟩ (.int .i64 ((rd_T72 l0_2 x5_3).f2))).heap[gb230]? = some (.cells #[.slice A0_0 l0_0.length c0_0, .slice A0_1 l0_1.length c0_1, .slice (some ad238) l0_2.length c0_2, .int .i64 a0_3, .int .i64 a0_4, .int .i64 a0_5] 56 (0, 0))) := ⟨by (repeat refine bk1 ?_); refine blk_far ?_ NB230_239.out _; (repeat refine bk1 ?_); refine blk_far ?_ NB230_239.out _; (repeat refine bk1 ?_); refine blk_far ?_ NB230_239.out _; (repeat refine bk1 ?_); exact BK230.out⟩
              have n1_ : Aside0 ((((w62.setCell ⟨gb239, 0, none⟩ (.string ((rd_T72 l0_2 x5_3).f0))).setCell ⟨gb239, 1, none⟩ (.int .i64 ((rd_T72 l0_2 x5_3).f1))).setCell ⟨gb239, 2, none⟩ (.int .i64 ((rd_T72 l0_2 x5_3).f2))).heap[gb239]? = some (.cells #[.string ((rd_T72 l0_2 x5_3).f0), .int .i64 ((rd_T72 l0_2 x5_3).f1), .int .i64 ((rd_T72 l0_2 x5_3).f2)] 72 (0, 0))) := ⟨by (repeat refine bk1 ?_); refine blk_put (cs := #[.string ((rd_T72 l0_2 x5_3).f0), .int .i64 ((rd_T72 l0_2 x5_3).f1), .int .i64 0]) ?_ 2 _ rfl; (repeat refine bk1 ?_); refine blk_put (cs := #[.string ((rd_T72 l0_2 x5_3).f0), .int .i64 0, .int .i64 0]) ?_ 1 _ rfl; (repeat refine bk1 ?_); refine blk_put (cs := #[.string (⟨#[]⟩ : ByteArray), .int .i64 0, .int .i64 0]) ?_ 0 _ rfl; (repeat refine bk1 ?_); exact BK239.out⟩
              have n2_ : Aside0 (Below w.heap.size w (((w62.setCell ⟨gb239, 0, none⟩ (.string ((rd_T72 l0_2 x5_3).f0))).setCell ⟨gb239, 1, none⟩ (.int .i64 ((rd_T72 l0_2 x5_3).f1))).setCell ⟨gb239, 2, none⟩ (.int .i64 ((rd_T72 l0_2 x5_3).f2)))) := ⟨by repeat with_reducible first | exact bl HB.out | refine below_set ?_ GE230.out | refine below_set ?_ GE239.out | refine bq ?_⟩
              (try clear BK230)
              (try clear BK239)
              (try clear HB)
              generalize (((w62.setCell ⟨gb239, 0, none⟩ (.string ((rd_T72 l0_2 x5_3).f0))).setCell ⟨gb239, 1, none⟩ (.int .i64 ((rd_T72 l0_2 x5_3).f1))).setCell ⟨gb239, 2, none⟩ (.int .i64 ((rd_T72 l0_2 x5_3).f2))) = w82 at n0_ n1_ n2_ ⊢
              have BK230 := n0_
              have BK239 := n1_
              have HB := n2_
              clear n0_ n1_ n2_
              have n0_ := Aside0.mk (blk_drew BK230.out)
              have n1_ := Aside0.mk (blk_drew BK239.out)
              have n2_ := Aside0.mk (below_drew1 HB.out)
              clear BK230
              clear BK239
              clear HB
              have BK230 := n0_
              have BK239 := n1_
              have HB := n2_
              clear n0_ n1_ n2_
              refine start_ (n := 35) (S := fun w' => w'.cell? ⟨gb239, 0, none⟩ = some (.string ((rd_T72 l0_2 x5_3).f0)) ∧ w'.cell? ⟨gb239, 1, none⟩ = some (.int .i64 ((rd_T72 l0_2 x5_3).f1)) ∧ w'.cell? ⟨gb239, 2, none⟩ = some (.int .i64 ((rd_T72 l0_2 x5_3).f2))) (ds := []) m0_35 (by kernel_rfl) rfl rfl ⟨ck BK239.out 0 rfl, ck BK239.out 1 rfl, ck BK239.out 2 rfl⟩ (fun hHeld => ?_); refine with_tabW spec_FleetOk.tab13 spec_FleetOk.bits13 (fun HT_ HW_ => ?_)
              generalize w82.drew = w83 at BK230 BK239 HB hHeld ⊢
              refine pq_ HT_.out 0 80 m1_35 ?_
              refine tk_ HT_.out HW_.out 1 81 m2_35 rfl rfl (by kernel_rfl) (by rfl) (by rintro w' ⟨s0, s1, s2⟩; go_simp; with_reducible rfl) hHeld (by simp only [sp_]; rfl) (fun _ _ _ h => h) ?_
              refine one_ (i := 2) (N := some 82) m3_35 rfl rfl (one_of HT_.out (by kernel_rfl)) (by decide) (fun K hK => ?_)
              refine goes_ Try.func49 (by kernel_rfl) rfl #[.string ((rd_T72 l0_2 x5_3).f0)] (by rfl) rfl rfl (by (try simp only [am_]); first | done | rfl) ?_
              with_reducible refine (spec_l1Name.calls k3 ((rd_T72 l0_2 x5_3).f0) true _ A65.out).mono ?_
              rintro e w' ⟨rfl, ⟨nd, rfl⟩⟩
              refine ⟨_, rfl, ?_⟩
              refine hK.out _ _ ⟨ck BK239.out 0 rfl, ck BK239.out 1 rfl, ck BK239.out 2 rfl⟩ (fun hHeld => ?_)
              clear hK K
              refine norm_ (a' := ?_) ?_ ?_
              rotate_left
              ·
               show Act.put _ (some 82) _ = _
               simp only [sp_]
               rfl
              refine pq_ HT_.out 3 83 m4_35 ?_
              refine pq_ HT_.out 4 84 m5_35 ?_
              refine pq_ HT_.out 5 85 m6_35 ?_
              refine tk_ HT_.out HW_.out 6 86 m7_35 rfl rfl (by kernel_rfl) (by rfl) (by rintro w' ⟨s0, s1, s2⟩; go_simp; with_reducible rfl) hHeld (by simp only [sp_]; rfl) (fun _ _ _ h => h) ?_
              refine one_ (i := 7) (N := some 87) m8_35 rfl rfl (one_of HT_.out (by kernel_rfl)) (by decide) (fun K hK => ?_)
              refine goes_ Try.func46 (by kernel_rfl) rfl #[.int .i64 ((rd_T72 l0_2 x5_3).f1), .int .i64 1, .int .i64 1000000] (by rfl) rfl rfl (by (try simp only [am_]); first | done | rfl) ?_
              with_reducible refine (spec_l1In.calls ((rd_T72 l0_2 x5_3).f1) 1 1000000 false _ A67.out).mono ?_
              rintro e w' ⟨rfl, ⟨nd, rfl⟩⟩
              refine ⟨_, rfl, ?_⟩
              refine hK.out _ _ ⟨ck BK239.out 0 rfl, ck BK239.out 1 rfl, ck BK239.out 2 rfl⟩ (fun hHeld => ?_)
              clear hK K
              refine norm_ (a' := ?_) ?_ ?_
              rotate_left
              ·
               show Act.put _ (some 87) _ = _
               simp only [sp_]
               rfl
              refine pq_ HT_.out 8 88 m9_35 ?_
              refine pq_ HT_.out 9 89 m10_35 ?_
              refine pq_ HT_.out 10 90 m11_35 ?_
              refine pv_ HT_.out 11 91 m12_35 ?_
              refine pv_ HT_.out 12 92 m13_35 ?_
              refine pv_ HT_.out 13 93 m14_35 ?_
              refine pv_ HT_.out 14 94 m15_35 ?_
              refine pv_ HT_.out 15 95 m16_35 ?_
              refine pv_ HT_.out 16 96 m17_35 ?_
              refine pv_ HT_.out 17 97 m18_35 ?_
              refine pv_ HT_.out 18 98 m19_35 ?_
              refine pv_ HT_.out 19 99 m20_35 ?_
              refine pv_ HT_.out 20 100 m21_35 ?_
              refine pv_ HT_.out 21 101 m22_35 ?_
              refine pv_ HT_.out 22 102 m23_35 ?_
              refine pv_ HT_.out 23 103 m24_35 ?_
              refine pv_ HT_.out 24 104 m25_35 ?_
              refine pq_ HT_.out 25 105 m26_35 ?_
              refine pq_ HT_.out 26 106 m27_35 ?_
              refine pv_ HT_.out 27 107 m28_35 ?_
              refine pv_ HT_.out 28 108 m29_35 ?_
              refine pv_ HT_.out 29 109 m30_35 ?_
              refine pv_ HT_.out 30 110 m31_35 ?_
              refine pv_ HT_.out 31 111 m32_35 ?_
              refine pv_ HT_.out 32 112 m33_35 ?_
              refine pv_ HT_.out 33 113 m34_35 ?_
              refine pq_ HT_.out 34 114 m35_35 ?_
              refine done_ (done_of HT_.out (by kernel_rfl)) ?_
              try go_wp2
              go_meet
              case rel => exact ⟨_, (true), (by first | rfl | (simp; done) | (simp [*]; done)), H', ⟨by have := HJ1.out; have := HK2.out; have := HK3.out; first | omega | exact Nat.le_refl _⟩, ⟨bk BK230.out⟩, ⟨bk BK239.out⟩, ⟨by repeat with_reducible first | exact bl HB.out | refine below_set ?_ GE230.out | refine below_set ?_ GE239.out | refine bq ?_⟩⟩
            ·
             replace c66 := Bool.eq_false_iff.mpr c66
             subst c66
             have H1 : (spec_FleetOk.j4 k3 x5_3 true l0_0 l0_1 l0_2 a0_3 a0_4 a0_5) = some r := by rw [if_neg (show ¬ (false = true) by decide)] at H; exact H
             clear H
             have H := H1
             clear H1
             have H' := Aside0.mk H
             clear H
             try go_wp2
             have n0_ : Aside0 ((((w62.setCell ⟨gb239, 0, none⟩ (.string ((rd_T72 l0_2 x5_3).f0))).setCell ⟨gb239, 1, none⟩ (.int .i64 ((rd_T72 l0_2 x5_3).f1))).setCell ⟨gb239, 2, none⟩ (.int .i64 ((rd_T72 l0_2 x5_3).f2))).heap[gb230]? = some (.cells #[.slice A0_0 l0_0.length c0_0, .slice A0_1 l0_1.length c0_1, .slice (some ad238) l0_2.length c0_2, .int .i64 a0_3, .int .i64 a0_4, .int .i64 a0_5] 56 (0, 0))) := ⟨by (repeat refine bk1 ?_); refine blk_far ?_ NB230_239.out _; (repeat refine bk1 ?_); refine blk_far ?_ NB230_239.out _; (repeat refine bk1 ?_); refine blk_far ?_ NB230_239.out _; (repeat refine bk1 ?_); exact BK230.out⟩
             have n1_ : Aside0 ((((w62.setCell ⟨gb239, 0, none⟩ (.string ((rd_T72 l0_2 x5_3).f0))).setCell ⟨gb239, 1, none⟩ (.int .i64 ((rd_T72 l0_2 x5_3).f1))).setCell ⟨gb239, 2, none⟩ (.int .i64 ((rd_T72 l0_2 x5_3).f2))).heap[gb239]? = some (.cells #[.string ((rd_T72 l0_2 x5_3).f0), .int .i64 ((rd_T72 l0_2 x5_3).f1), .int .i64 ((rd_T72 l0_2 x5_3).f2)] 72 (0, 0))) := ⟨by (repeat refine bk1 ?_); refine blk_put (cs := #[.string ((rd_T72 l0_2 x5_3).f0), .int .i64 ((rd_T72 l0_2 x5_3).f1), .int .i64 0]) ?_ 2 _ rfl; (repeat refine bk1 ?_); refine blk_put (cs := #[.string ((rd_T72 l0_2 x5_3).f0), .int .i64 0, .int .i64 0]) ?_ 1 _ rfl; (repeat refine bk1 ?_); refine blk_put (cs := #[.string (⟨#[]⟩ : ByteArray), .int .i64 0, .int .i64 0]) ?_ 0 _ rfl; (repeat refine bk1 ?_); exact BK239.out⟩
             have n2_ : Aside0 (Below w.heap.size w (((w62.setCell ⟨gb239, 0, none⟩ (.string ((rd_T72 l0_2 x5_3).f0))).setCell ⟨gb239, 1, none⟩ (.int .i64 ((rd_T72 l0_2 x5_3).f1))).setCell ⟨gb239, 2, none⟩ (.int .i64 ((rd_T72 l0_2 x5_3).f2)))) := ⟨by repeat with_reducible first | exact bl HB.out | refine below_set ?_ GE230.out | refine below_set ?_ GE239.out | refine bq ?_⟩
             (try clear BK230)
             (try clear BK239)
             (try clear HB)
             generalize (((w62.setCell ⟨gb239, 0, none⟩ (.string ((rd_T72 l0_2 x5_3).f0))).setCell ⟨gb239, 1, none⟩ (.int .i64 ((rd_T72 l0_2 x5_3).f1))).setCell ⟨gb239, 2, none⟩ (.int .i64 ((rd_T72 l0_2 x5_3).f2))) = w84 at n0_ n1_ n2_ ⊢
             have BK230 := n0_
             have BK239 := n1_
             have HB := n2_
             clear n0_ n1_ n2_
             have n0_ := Aside0.mk (blk_drew BK230.out)
             have n1_ := Aside0.mk (blk_drew BK239.out)
             have n2_ := Aside0.mk (below_drew1 HB.out)
             clear BK230
             clear BK239
             clear HB
             have BK230 := n0_
             have BK239 := n1_
             have HB := n2_
             clear n0_ n1_ n2_
             refine start_ (n := 35) (S := fun w' => w'.cell? ⟨gb239, 0, none⟩ = some (.string ((rd_T72 l0_2 x5_3).f0)) ∧ w'.cell? ⟨gb239, 1, none⟩ = some (.int .i64 ((rd_T72 l0_2 x5_3).f1)) ∧ w'.cell? ⟨gb239, 2, none⟩ = some (.int .i64 ((rd_T72 l0_2 x5_3).f2))) (ds := []) m0_35 (by kernel_rfl) rfl rfl ⟨ck BK239.out 0 rfl, ck BK239.out 1 rfl, ck BK239.out 2 rfl⟩ (fun hHeld => ?_); refine with_tabW spec_FleetOk.tab13 spec_FleetOk.bits13 (fun HT_ HW_ => ?_)
             generalize w84.drew = w85 at BK230 BK239 HB hHeld ⊢
             refine pq_ HT_.out 0 80 m1_35 ?_
             refine tk_ HT_.out HW_.out 1 81 m2_35 rfl rfl (by kernel_rfl) (by rfl) (by rintro w' ⟨s0, s1, s2⟩; go_simp; with_reducible rfl) hHeld (by simp only [sp_]; rfl) (fun _ _ _ h => h) ?_
             refine one_ (i := 2) (N := some 82) m3_35 rfl rfl (one_of HT_.out (by kernel_rfl)) (by decide) (fun K hK => ?_)
             refine goes_ Try.func49 (by kernel_rfl) rfl #[.string ((rd_T72 l0_2 x5_3).f0)] (by rfl) rfl rfl (by (try simp only [am_]); first | done | rfl) ?_
             with_reducible refine (spec_l1Name.calls k3 ((rd_T72 l0_2 x5_3).f0) false _ A65.out).mono ?_
             rintro e w' ⟨rfl, ⟨nd, rfl⟩⟩
             refine ⟨_, rfl, ?_⟩
             refine hK.out _ _ ⟨ck BK239.out 0 rfl, ck BK239.out 1 rfl, ck BK239.out 2 rfl⟩ (fun hHeld => ?_)
             clear hK K
             refine norm_ (a' := ?_) ?_ ?_
             rotate_left
             ·
              show Act.put _ (some 82) _ = _
              simp only [sp_]
              rfl
             refine pq_ HT_.out 3 83 m4_35 ?_
             refine pq_ HT_.out 4 84 m5_35 ?_
             refine pv_ HT_.out 5 85 m6_35 ?_
             refine pv_ HT_.out 6 86 m7_35 ?_
             refine pv_ HT_.out 7 87 m8_35 ?_
             refine pv_ HT_.out 8 88 m9_35 ?_
             refine pq_ HT_.out 9 89 m10_35 ?_
             refine pq_ HT_.out 10 90 m11_35 ?_
             refine pv_ HT_.out 11 91 m12_35 ?_
             refine pv_ HT_.out 12 92 m13_35 ?_
             refine pv_ HT_.out 13 93 m14_35 ?_
             refine pv_ HT_.out 14 94 m15_35 ?_
             refine pv_ HT_.out 15 95 m16_35 ?_
             refine pv_ HT_.out 16 96 m17_35 ?_
             refine pv_ HT_.out 17 97 m18_35 ?_
             refine pv_ HT_.out 18 98 m19_35 ?_
             refine pv_ HT_.out 19 99 m20_35 ?_
             refine pv_ HT_.out 20 100 m21_35 ?_
             refine pv_ HT_.out 21 101 m22_35 ?_
             refine pv_ HT_.out 22 102 m23_35 ?_
             refine pv_ HT_.out 23 103 m24_35 ?_
             refine pv_ HT_.out 24 104 m25_35 ?_
             refine pq_ HT_.out 25 105 m26_35 ?_
             refine pq_ HT_.out 26 106 m27_35 ?_
             refine pv_ HT_.out 27 107 m28_35 ?_
             refine pv_ HT_.out 28 108 m29_35 ?_
             refine pv_ HT_.out 29 109 m30_35 ?_
             refine pv_ HT_.out 30 110 m31_35 ?_
             refine pv_ HT_.out 31 111 m32_35 ?_
             refine pv_ HT_.out 32 112 m33_35 ?_
             refine pv_ HT_.out 33 113 m34_35 ?_
             refine pq_ HT_.out 34 114 m35_35 ?_
             refine done_ (done_of HT_.out (by kernel_rfl)) ?_
             try go_wp2
             go_meet
             case rel => exact ⟨_, (true), (by first | rfl | (simp; done) | (simp [*]; done)), H', ⟨by have := HJ1.out; have := HK2.out; have := HK3.out; first | omega | exact Nat.le_refl _⟩, ⟨bk BK230.out⟩, ⟨bk BK239.out⟩, ⟨by repeat with_reducible first | exact bl HB.out | refine below_set ?_ GE230.out | refine below_set ?_ GE239.out | refine bq ?_⟩⟩
           case rest =>
            clear HC60
            try clear p2
            try clear c4
            try clear c6
            try clear c46
            try clear c49
            try clear c66
            try clear c68
            obtain ⟨kq, x114_59, rfl, HA, HJ59, BK230, BK239, HB⟩ := hcut
            cases kq with
            | zero => exact absurd HA.out (by simp [spec_FleetOk.j4])
            | succ kj59 =>
             have H := HA.out
             clear HA
             simp only [spec_FleetOk.j4] at H
             by_cases c86 : x114_59 = true
             ·
              subst c86
              have H1 : (some false) = some r := by rw [if_pos rfl] at H; exact H
              clear H
              have H := H1
              clear H1
              obtain rfl := Option.some.inj H
              go_wp2
              go_ret
              exact ⟨by first | rfl | (simp [errW_none, errW_some] <;> rfl) | (simp [*, errW_none, errW_some] <;> rfl), by repeat with_reducible first | exact bl HB.out | refine below_set ?_ GE230.out | refine below_set ?_ GE239.out | refine bq ?_⟩
             ·
              replace c86 := Bool.eq_false_iff.mpr c86
              subst c86
              have H1 : (spec_FleetOk.l1 kj59 (wrap64 (x5_3 + 1)) l0_0 l0_1 l0_2 a0_3 a0_4 a0_5) = some r := by rw [if_neg (show ¬ (false = true) by decide)] at H; exact H
              clear H
              have H := H1
              clear H1
              have H' := Aside0.mk H
              clear H
              go_wp2
              go_roundg kj59
              case measure => have := HJ1.out; have := HK2.out; have := HK3.out; have := HJ59.out; omega
              case rel => exact ⟨(wrap64 (x5_3 + 1)), (by first | rfl | (simp; done) | (simp [*]; done)), H', ⟨by have := HJ1.out; have := HK2.out; have := HK3.out; have := HJ59.out; omega⟩, ⟨bk BK230.out⟩, ⟨by repeat with_reducible first | exact bl HB.out | refine below_set ?_ GE230.out | refine below_set ?_ GE239.out | refine bq ?_⟩⟩
          ·
           rw [if_neg c59] at H
           exact absurd H (by simp)
         ·
          rw [if_neg c58] at H
          have c58b0 : decide (x5_3 < (l0_2.length : Int)) = false := decide_eq_false c58
          clear c58
          obtain rfl := Option.some.inj H
          obtain ⟨hcz87_0, hcz87_1, hcz87_2, hcz87_3, hcz87_4, hcz87_5⟩ := ck6 BK230.out
          obtain ⟨hfz87_0, hfz87_1, hfz87_2, hfz87_3, hfz87_4, hfz87_5⟩ := fz6 BK230.out
          go_wp2
          go_ret
          exact ⟨by first | rfl | (simp [errW_none, errW_some] <;> rfl) | (simp [*, errW_none, errW_some] <;> rfl), by repeat with_reducible first | exact bl HB.out | refine below_set ?_ GE230.out | refine bq ?_⟩

end Go.Proofs.Ytbgdibbgngpggaa.PFnExactNextDue
