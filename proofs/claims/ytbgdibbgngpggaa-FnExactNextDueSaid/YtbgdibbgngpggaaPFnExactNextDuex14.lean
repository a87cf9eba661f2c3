-- Written by a program of this session (wip/xprint.py) out of the translation; Lean checks it.
import Derived.Test.YtbgdibbgngpggaaPFnExactNextDuex0
import Derived.Test.YtbgdibbgngpggaaPFnExactNextDuex10
import Derived.Test.YtbgdibbgngpggaaPFnExactNextDuex11
import Derived.Test.YtbgdibbgngpggaaPFnExactNextDuex13
namespace Go.Proofs.Ytbgdibbgngpggaa.PFnExactNextDue
open Go.RowKit Go.Proofs.YtbgdibbgngpggaaW.PrintWords Go.Proofs.YtbgdibbgngpggaaW.PrintLast Go.Proofs.YtbgdibbgngpggaaW.PrintMore Go.Proofs.Ytbgdibbgngpggaa.Sq
attribute [local go_sem] max2_int min2_int max_two min_two max_three min_three max_four min_four   -- for this text's walks alone
set_option linter.unusedVariables false
set_option linter.unusedSimpArgs false

/-! ### impl_FleetOk: function 31 -/
mutual
def impl_FleetOk.l0 : Nat → List (S33) → Int → Int → List (S33) → List (S70) → List (S72) → Int → Int → Int → Option (Bool)
 | 0, _, _, _, _, _, _, _, _, _ => none
 | k + 1, x10, x11, x12, x326000, x326001, x326002, x326003, x326004, x326005 => if x12 < x11 then (if 0 ≤ x12 then (if x12 < (x10.length : Int) then ((impl_passed.f k ((rd_T33 x10 x12).f4.f0) ((rd_T33 x10 x12).f4.f1) ((rd_T33 x10 x12).f4.f2) x326003 x326004 x326005).bind fun bt328 => ((impl_TaskOk.f k ((rd_T33 x10 x12).f0) ((rd_T33 x10 x12).f1) ((rd_T33 x10 x12).f2) ((rd_T33 x10 x12).f3) ((rd_T33 x10 x12).f4.f0) ((rd_T33 x10 x12).f4.f1) ((rd_T33 x10 x12).f4.f2)).bind fun t332 => (if t332 = true then (if bt328.2 = true then (if x12 > 0 then (if 0 ≤ (wrap64 (x12 - 1)) then (if (wrap64 (x12 - 1)) < (x326000.length : Int) then (impl_FleetOk.j1 k x10 x11 x12 (!(Op.bytesLess (((rd_T33 x326000 (wrap64 (x12 - 1))).f0).toList) (((rd_T33 x10 x12).f0).toList))) x326000 x326001 x326002 x326003 x326004 x326005) else (none)) else (none)) else (impl_FleetOk.j1 k x10 x11 x12 false x326000 x326001 x326002 x326003 x326004 x326005)) else (impl_FleetOk.j1 k x10 x11 x12 true x326000 x326001 x326002 x326003 x326004 x326005)) else (impl_FleetOk.j1 k x10 x11 x12 true x326000 x326001 x326002 x326003 x326004 x326005)))) else (none)) else (none)) else (impl_FleetOk.l1 k x326002 (x326002.length : Int) 0 x326000 x326001 x326002 x326003 x326004 x326005)
def impl_FleetOk.j1 : Nat → List (S33) → Int → Int → Bool → List (S33) → List (S70) → List (S72) → Int → Int → Int → Option (Bool)
 | 0, _, _, _, _, _, _, _, _, _, _ => none
 | k + 1, x10, x11, x12, x47, x326000, x326001, x326002, x326003, x326004, x326005 => if x47 = true then (some false) else (impl_FleetOk.l0 k x10 x11 (wrap64 (x12 + 1)) x326000 x326001 x326002 x326003 x326004 x326005)
def impl_FleetOk.l1 : Nat → List (S72) → Int → Int → List (S33) → List (S70) → List (S72) → Int → Int → Int → Option (Bool)
 | 0, _, _, _, _, _, _, _, _, _ => none
 | k + 1, x50, x51, x52, x326000, x326001, x326002, x326003, x326004, x326005 => if x52 < x51 then (if 0 ≤ x52 then (if x52 < (x50.length : Int) then ((impl_isName.f k ((rd_T72 x50 x52).f0)).bind fun t336 => (if t336 = true then ((impl_in.f ((rd_T72 x50 x52).f1) 1 1000000).bind fun t337 => (if t337 = true then ((impl_in.f ((rd_T72 x50 x52).f2) 0 x326005).bind fun t338 => (if t338 = true then (if x52 > 0 then (if 0 ≤ (wrap64 (x52 - 1)) then (if (wrap64 (x52 - 1)) < (x326002.length : Int) then (impl_FleetOk.j3 k x50 x51 x52 (decide (((rd_T72 x326002 (wrap64 (x52 - 1))).f1) ≥ ((rd_T72 x50 x52).f1))) x326000 x326001 x326002 x326003 x326004 x326005) else (none)) else (none)) else (impl_FleetOk.j3 k x50 x51 x52 false x326000 x326001 x326002 x326003 x326004 x326005)) else (impl_FleetOk.j3 k x50 x51 x52 true x326000 x326001 x326002 x326003 x326004 x326005))) else (impl_FleetOk.j3 k x50 x51 x52 true x326000 x326001 x326002 x326003 x326004 x326005))) else (impl_FleetOk.j3 k x50 x51 x52 true x326000 x326001 x326002 x326003 x326004 x326005))) else (none)) else (none)) else (if (x326000.length : Int) ≤ 40 then (if (x326002.length : Int) ≤ 20 then ((impl_CarryOk.f k x326001).bind fun t340 => (if t340 = true then ((impl_ClockOk.f k x326003 x326004 x326005).bind fun t341 => (some t341)) else (some false))) else (some false)) else (some false))
def impl_FleetOk.j3 : Nat → List (S72) → Int → Int → Bool → List (S33) → List (S70) → List (S72) → Int → Int → Int → Option (Bool)
 | 0, _, _, _, _, _, _, _, _, _, _ => none
 | k + 1, x50, x51, x52, x91, x326000, x326001, x326002, x326003, x326004, x326005 => if x91 = true then (some false) else (impl_FleetOk.l1 k x50 x51 (wrap64 (x52 + 1)) x326000 x326001 x326002 x326003 x326004 x326005)
end
def impl_FleetOk.f (k : Nat) (l0_0 : List (S33)) (l0_1 : List (S70)) (l0_2 : List (S72)) (a0_3 : Int) (a0_4 : Int) (a0_5 : Int) : Option (Bool) := impl_FleetOk.l0 k l0_0 (l0_0.length : Int) 0 l0_0 l0_1 l0_2 a0_3 a0_4 a0_5
theorem impl_FleetOk.mono_l : ∀ k, (∀ y0 y1 y2 y3 y4 y5 y6 y7 y8, LeO (impl_FleetOk.l0 k y0 y1 y2 y3 y4 y5 y6 y7 y8) (impl_FleetOk.l0 (k + 1) y0 y1 y2 y3 y4 y5 y6 y7 y8)) ∧ (∀ y0 y1 y2 y3 y4 y5 y6 y7 y8 y9, LeO (impl_FleetOk.j1 k y0 y1 y2 y3 y4 y5 y6 y7 y8 y9) (impl_FleetOk.j1 (k + 1) y0 y1 y2 y3 y4 y5 y6 y7 y8 y9)) ∧ (∀ y0 y1 y2 y3 y4 y5 y6 y7 y8, LeO (impl_FleetOk.l1 k y0 y1 y2 y3 y4 y5 y6 y7 y8) (impl_FleetOk.l1 (k + 1) y0 y1 y2 y3 y4 y5 y6 y7 y8)) ∧ (∀ y0 y1 y2 y3 y4 y5 y6 y7 y8 y9, LeO (impl_FleetOk.j3 k y0 y1 y2 y3 y4 y5 y6 y7 y8 y9) (impl_FleetOk.j3 (k + 1) y0 y1 y2 y3 y4 y5 y6 y7 y8 y9))
 | 0 => ⟨fun _ _ _ _ _ _ _ _ _ r h => by simp [impl_FleetOk.l0] at h, fun _ _ _ _ _ _ _ _ _ _ r h => by simp [impl_FleetOk.j1] at h, fun _ _ _ _ _ _ _ _ _ r h => by simp [impl_FleetOk.l1] at h, fun _ _ _ _ _ _ _ _ _ _ r h => by simp [impl_FleetOk.j3] at h⟩
 | k + 1 => by
  obtain ⟨ih0, ih1, ih2, ih3⟩ := impl_FleetOk.mono_l k
  refine ⟨?_, ?_, ?_, ?_⟩
  ·
   intro y0 y1 y2 y3 y4 y5 y6 y7 y8
   unfold impl_FleetOk.l0
   repeat' first
   | (with_reducible exact ih0 _ _ _ _ _ _ _ _ _)
   | (with_reducible exact ih1 _ _ _ _ _ _ _ _ _ _)
   | (with_reducible exact ih2 _ _ _ _ _ _ _ _ _)
   | (with_reducible exact ih3 _ _ _ _ _ _ _ _ _ _)
   | (with_reducible exact impl_CarryOk.mono _ _)
   | (with_reducible exact impl_ClockOk.mono _ _ _ _)
   | (with_reducible exact impl_TaskOk.mono _ _ _ _ _ _ _ _)
   | (with_reducible exact impl_isName.mono _ _)
   | (with_reducible exact impl_passed.mono _ _ _ _ _ _ _)
   | (with_reducible exact LeO.refl _)
   | (with_reducible exact LeO.none _)
   | (with_reducible refine LeO.ite ?_ ?_)
   | (with_reducible refine LeO.bind ?_ (fun _ => ?_))
   | exact ih0 _ _ _ _ _ _ _ _ _
   | exact ih1 _ _ _ _ _ _ _ _ _ _
   | exact ih2 _ _ _ _ _ _ _ _ _
   | exact ih3 _ _ _ _ _ _ _ _ _ _
   | exact impl_CarryOk.mono _ _
   | exact impl_ClockOk.mono _ _ _ _
   | exact impl_TaskOk.mono _ _ _ _ _ _ _ _
   | exact impl_isName.mono _ _
   | exact impl_passed.mono _ _ _ _ _ _ _
   | exact LeO.none _
   | refine LeO.ite ?_ ?_
   | refine LeO.bind ?_ (fun _ => ?_)
  ·
   intro y0 y1 y2 y3 y4 y5 y6 y7 y8 y9
   unfold impl_FleetOk.j1
   repeat' first
   | (with_reducible exact ih0 _ _ _ _ _ _ _ _ _)
   | (with_reducible exact ih1 _ _ _ _ _ _ _ _ _ _)
   | (with_reducible exact ih2 _ _ _ _ _ _ _ _ _)
   | (with_reducible exact ih3 _ _ _ _ _ _ _ _ _ _)
   | (with_reducible exact impl_CarryOk.mono _ _)
   | (with_reducible exact impl_ClockOk.mono _ _ _ _)
   | (with_reducible exact impl_TaskOk.mono _ _ _ _ _ _ _ _)
   | (with_reducible exact impl_isName.mono _ _)
   | (with_reducible exact impl_passed.mono _ _ _ _ _ _ _)
   | (with_reducible exact LeO.refl _)
   | (with_reducible exact LeO.none _)
   | (with_reducible refine LeO.ite ?_ ?_)
   | (with_reducible refine LeO.bind ?_ (fun _ => ?_))
   | exact ih0 _ _ _ _ _ _ _ _ _
   | exact ih1 _ _ _ _ _ _ _ _ _ _
   | exact ih2 _ _ _ _ _ _ _ _ _
   | exact ih3 _ _ _ _ _ _ _ _ _ _
   | exact impl_CarryOk.mono _ _
   | exact impl_ClockOk.mono _ _ _ _
   | exact impl_TaskOk.mono _ _ _ _ _ _ _ _
   | exact impl_isName.mono _ _
   | exact impl_passed.mono _ _ _ _ _ _ _
   | exact LeO.none _
   | refine LeO.ite ?_ ?_
   | refine LeO.bind ?_ (fun _ => ?_)
  ·
   intro y0 y1 y2 y3 y4 y5 y6 y7 y8
   unfold impl_FleetOk.l1
   repeat' first
   | (with_reducible exact ih0 _ _ _ _ _ _ _ _ _)
   | (with_reducible exact ih1 _ _ _ _ _ _ _ _ _ _)
   | (with_reducible exact ih2 _ _ _ _ _ _ _ _ _)
   | (with_reducible exact ih3 _ _ _ _ _ _ _ _ _ _)
   | (with_reducible exact impl_CarryOk.mono _ _)
   | (with_reducible exact impl_ClockOk.mono _ _ _ _)
   | (with_reducible exact impl_TaskOk.mono _ _ _ _ _ _ _ _)
   | (with_reducible exact impl_isName.mono _ _)
   | (with_reducible exact impl_passed.mono _ _ _ _ _ _ _)
   | (with_reducible exact LeO.refl _)
   | (with_reducible exact LeO.none _)
   | (with_reducible refine LeO.ite ?_ ?_)
   | (with_reducible refine LeO.bind ?_ (fun _ => ?_))
   | exact ih0 _ _ _ _ _ _ _ _ _
   | exact ih1 _ _ _ _ _ _ _ _ _ _
   | exact ih2 _ _ _ _ _ _ _ _ _
   | exact ih3 _ _ _ _ _ _ _ _ _ _
   | exact impl_CarryOk.mono _ _
   | exact impl_ClockOk.mono _ _ _ _
   | exact impl_TaskOk.mono _ _ _ _ _ _ _ _
   | exact impl_isName.mono _ _
   | exact impl_passed.mono _ _ _ _ _ _ _
   | exact LeO.none _
   | refine LeO.ite ?_ ?_
   | refine LeO.bind ?_ (fun _ => ?_)
  ·
   intro y0 y1 y2 y3 y4 y5 y6 y7 y8 y9
   unfold impl_FleetOk.j3
   repeat' first
   | (with_reducible exact ih0 _ _ _ _ _ _ _ _ _)
   | (with_reducible exact ih1 _ _ _ _ _ _ _ _ _ _)
   | (with_reducible exact ih2 _ _ _ _ _ _ _ _ _)
   | (with_reducible exact ih3 _ _ _ _ _ _ _ _ _ _)
   | (with_reducible exact impl_CarryOk.mono _ _)
   | (with_reducible exact impl_ClockOk.mono _ _ _ _)
   | (with_reducible exact impl_TaskOk.mono _ _ _ _ _ _ _ _)
   | (with_reducible exact impl_isName.mono _ _)
   | (with_reducible exact impl_passed.mono _ _ _ _ _ _ _)
   | (with_reducible exact LeO.refl _)
   | (with_reducible exact LeO.none _)
   | (with_reducible refine LeO.ite ?_ ?_)
   | (with_reducible refine LeO.bind ?_ (fun _ => ?_))
   | exact ih0 _ _ _ _ _ _ _ _ _
   | exact ih1 _ _ _ _ _ _ _ _ _ _
   | exact ih2 _ _ _ _ _ _ _ _ _
   | exact ih3 _ _ _ _ _ _ _ _ _ _
   | exact impl_CarryOk.mono _ _
   | exact impl_ClockOk.mono _ _ _ _
   | exact impl_TaskOk.mono _ _ _ _ _ _ _ _
   | exact impl_isName.mono _ _
   | exact impl_passed.mono _ _ _ _ _ _ _
   | exact LeO.none _
   | refine LeO.ite ?_ ?_
   | refine LeO.bind ?_ (fun _ => ?_)
theorem impl_FleetOk.mono : ∀ a0 a1 a2 a3 a4 a5 k, LeO (impl_FleetOk.f k a0 a1 a2 a3 a4 a5) (impl_FleetOk.f (k + 1) a0 a1 a2 a3 a4 a5) := by
 intro a0 a1 a2 a3 a4 a5 k
 obtain ⟨ih0, ih1, ih2, ih3⟩ := impl_FleetOk.mono_l k
 unfold impl_FleetOk.f
 repeat' first
   | (with_reducible exact ih0 _ _ _ _ _ _ _ _ _)
   | (with_reducible exact ih1 _ _ _ _ _ _ _ _ _ _)
   | (with_reducible exact ih2 _ _ _ _ _ _ _ _ _)
   | (with_reducible exact ih3 _ _ _ _ _ _ _ _ _ _)
   | (with_reducible exact impl_CarryOk.mono _ _)
   | (with_reducible exact impl_ClockOk.mono _ _ _ _)
   | (with_reducible exact impl_TaskOk.mono _ _ _ _ _ _ _ _)
   | (with_reducible exact impl_isName.mono _ _)
   | (with_reducible exact impl_passed.mono _ _ _ _ _ _ _)
   | (with_reducible exact LeO.refl _)
   | (with_reducible exact LeO.none _)
   | (with_reducible refine LeO.ite ?_ ?_)
   | (with_reducible refine LeO.bind ?_ (fun _ => ?_))
   | exact ih0 _ _ _ _ _ _ _ _ _
   | exact ih1 _ _ _ _ _ _ _ _ _ _
   | exact ih2 _ _ _ _ _ _ _ _ _
   | exact ih3 _ _ _ _ _ _ _ _ _ _
   | exact impl_CarryOk.mono _ _
   | exact impl_ClockOk.mono _ _ _ _
   | exact impl_TaskOk.mono _ _ _ _ _ _ _ _
   | exact impl_isName.mono _ _
   | exact impl_passed.mono _ _ _ _ _ _ _
   | exact LeO.none _
   | refine LeO.ite ?_ ?_
   | refine LeO.bind ?_ (fun _ => ?_)
def impl_FleetOk.T5 : Bool × List (List Nat × List Nat) := (true, [([], []), ([0], [0]), ([1], [1]), ([2, 1], [2]), ([3], [3]), ([4, 3], [3, 4]), ([3, 5], [3, 5]), ([6, 3], [6]), ([7], [7]), ([8, 7], [7, 8]), ([9, 7, 7], [7, 9]), ([10], [10]), ([11, 10], [10, 11]), ([10], [10]), ([13, 10], [10, 13]), ([12, 14, 10], [10, 12, 14]), ([15, 10], [10, 15]), ([16, 10], [10, 16]), ([10], [10]), ([18, 10], [10, 18]), ([17, 19, 10], [10, 17, 19]), ([10, 20, 7], [7, 10, 20]), ([7, 21], [7, 21])])
def impl_FleetOk.B5 : List Nat := [0, 1, 3, 7, 15, 31, 63, 127, 255, 511, 1023, 2047, 4095, 2047, 10239, 32767, 65535, 131071, 2047, 264191, 1048575, 2097151, 4194303]
theorem impl_FleetOk.tab5 : rtab .any (opsOf Try.f31 5) = impl_FleetOk.T5 := by kernel_rfl
theorem impl_FleetOk.bits5 : waitsOk impl_FleetOk.T5.2 impl_FleetOk.B5 = true := by kernel_rfl
def impl_FleetOk.T11 : Bool × List (List Nat × List Nat) := (true, [([], []), ([0], [0]), ([1], [1]), ([2], [2]), ([3, 2], [3]), ([4], [4]), ([5, 4], [4, 5]), ([6, 4, 4], [4, 6]), ([7, 4], [4, 7]), ([4, 8], [4, 8]), ([9, 7], [9]), ([10], [10]), ([11, 10], [10, 11]), ([10], [10]), ([13, 10], [10, 13]), ([14, 10], [10, 14]), ([12, 15, 10, 10], [10, 12, 15]), ([16, 10], [10, 16]), ([10, 17], [10, 17]), ([18, 16], [18]), ([19], [19]), ([20, 19], [19, 20]), ([21, 19, 19], [19, 21]), ([22], [22]), ([23, 22], [22, 23]), ([22], [22]), ([25, 22], [22, 25]), ([24, 26, 22], [22, 24, 26]), ([27, 22], [22, 27]), ([28, 22], [22, 28]), ([22], [22]), ([30, 22], [22, 30]), ([29, 31, 22], [22, 29, 31]), ([22, 32, 19], [19, 22, 32]), ([19, 33], [19, 33])])
def impl_FleetOk.B11 : List Nat := [0, 1, 3, 7, 15, 31, 63, 127, 255, 511, 1023, 2047, 4095, 2047, 10239, 26623, 65535, 131071, 262143, 524287, 1048575, 2097151, 4194303, 8388607, 16777215, 8388607, 41943039, 134217727, 268435455, 536870911, 8388607, 1082130431, 4294967295, 8589934591, 17179869183]
theorem impl_FleetOk.tab11 : rtab .any (opsOf Try.f31 11) = impl_FleetOk.T11 := by kernel_rfl
theorem impl_FleetOk.bits11 : waitsOk impl_FleetOk.T11.2 impl_FleetOk.B11 = true := by kernel_rfl
set_option maxHeartbeats 8000000 in
set_option maxRecDepth 100000 in
theorem impl_FleetOk.calls (k : Nat) (A0_0 : Option Addr) (c0_0 : Nat) (l0_0 : List (S33)) (A0_1 : Option Addr) (c0_1 : Nat) (l0_1 : List (S70)) (A0_2 : Option Addr) (c0_2 : Nat) (l0_2 : List (S72)) (a0_3 : Int) (a0_4 : Int) (a0_5 : Int) (r : Bool) (w : World) (hr0_0 : Kd.C k33 w A0_0 l0_0.length l0_0) (hc0_0 : l0_0.length ≤ c0_0) (hr0_1 : Kd.C k70 w A0_1 l0_1.length l0_1) (hc0_1 : l0_1.length ≤ c0_1) (hr0_2 : Kd.C k72 w A0_2 l0_2.length l0_2) (hc0_2 : l0_2.length ≤ c0_2) (h : impl_FleetOk.f k l0_0 l0_1 l0_2 a0_3 a0_4 a0_5 = some r) :
  Calls Try.prog 31 #[.agg #[.slice A0_0 l0_0.length c0_0, .slice A0_1 l0_1.length c0_1, .slice A0_2 l0_2.length c0_2, .int .i64 a0_3, .int .i64 a0_4, .int .i64 a0_5]] w fun e w' => e = .returned (.bool r) ∧ Below w.heap.size w w' := by
 have hu56 := Try.underlying56
 have hu33 := Try.underlying33
 have hu25 := Try.underlying25
 have hu72 := Try.underlying72
 have HR0_0 := Aside0.mk hr0_0
 have HC0_0 := Aside0.mk hc0_0
 clear hr0_0 hc0_0
 have HR0_1 := Aside0.mk hr0_1
 have HC0_1 := Aside0.mk hc0_1
 clear hr0_1 hc0_1
 have HR0_2 := Aside0.mk hr0_2
 have HC0_2 := Aside0.mk hc0_2
 clear hr0_2 hc0_2
 have HB := Aside0.mk (Below.refl w.heap.size w)
 have H : (impl_FleetOk.l0 k l0_0 (l0_0.length : Int) 0 l0_0 l0_1 l0_2 a0_3 a0_4 a0_5) = some r := h
 clear h
 have H' := Aside0.mk H
 clear H
 go_enter Try.func31, Try.ntmps31
 go_wp2_with (first | ((with_reducible refine gate_dst (N := 1) rfl ?_); (try (refine gate_guard (by rfl) ?_; dsimp only)); refine box_event ?hg (N := 1) ?hd (cs := #[.slice A0_0 l0_0.length c0_0, .slice A0_1 l0_1.length c0_1, .slice A0_2 l0_2.length c0_2, .int .i64 a0_3, .int .i64 a0_4, .int .i64 a0_5]) (t := 56) ?hr ?_; (case hd => rfl); (case hg => rfl); (case hr => first | (go_simp; done) | (go_simp; rfl)); intro gb325 hg w2 hbox hb; have BK325 := Aside0.mk (hbox); have GW325 := Aside0.mk ((by rw [hg]; exact (below_size (bl HB.out)) : w.heap.size ≤ gb325)); have GE325 := GW325; replace HB := Aside0.mk (below_step (bl HB.out) hb); clear hb hbox hg; obtain ⟨hcz3_0, hcz3_1, hcz3_2, hcz3_3, hcz3_4, hcz3_5⟩ := ck6 BK325.out; obtain ⟨hfz3_0, hfz3_1, hfz3_2, hfz3_3, hfz3_4, hfz3_5⟩ := fz6 BK325.out))
 go_loopg [12] k (fun kq v12 w' => ∃ (x12_1 : Int), v12 = .int .i64 x12_1 ∧ Aside0 (impl_FleetOk.l0 kq l0_0 (l0_0.length : Int) x12_1 l0_0 l0_1 l0_2 a0_3 a0_4 a0_5 = some r) ∧ Aside0 (kq ≤ k) ∧ Aside0 (w'.heap[gb325]? = some (.cells #[(.slice A0_0 l0_0.length c0_0), (.slice A0_1 l0_1.length c0_1), (.slice A0_2 l0_2.length c0_2), .int .i64 a0_3, .int .i64 a0_4, .int .i64 a0_5] 56 (0, 0))) ∧ Aside0 (Below w.heap.size w w'))
 case atStart => exact ⟨(0), (by first | rfl | (simp; done) | (simp [*]; done)), H', ⟨Nat.le_refl _⟩, ⟨bk BK325.out⟩, ⟨by repeat with_reducible first | exact bl HB.out | refine below_set ?_ GE325.out | refine bq ?_⟩⟩
 case round =>
  clear H'
  try clear p2
  try clear c3
  try clear hcz3_0 hcz3_1 hcz3_2 hcz3_3 hcz3_4 hcz3_5 hfz3_0 hfz3_1 hfz3_2 hfz3_3 hfz3_4 hfz3_5
  obtain ⟨x12_1, rfl, HA, HK1, BK325, HB⟩ := hrel
  cases gk with
  | zero => exact absurd HA.out (by simp [impl_FleetOk.l0])
  | succ k1 =>
   have H := HA.out
   clear HA
   simp only [impl_FleetOk.l0] at H
   by_cases c4 : x12_1 < (l0_0.length : Int)
   ·
    rw [if_pos c4] at H
    have c4b0 : decide (x12_1 < (l0_0.length : Int)) = true := decide_eq_true c4
    clear c4
    by_cases c5 : 0 ≤ x12_1
    ·
     rw [if_pos c5] at H
     have c5b0 : decide (0 ≤ x12_1) = true := decide_eq_true c5
     clear c5
     by_cases c6 : x12_1 < (l0_0.length : Int)
     ·
      rw [if_pos c6] at H
      have c6b0 : decide (x12_1 < (l0_0.length : Int)) = true := decide_eq_true c6
      clear c6
      replace H := Option.bind_eq_some_iff.mp H
      obtain ⟨⟨t328, t331⟩, A70, H⟩ := H
      replace H : ((impl_TaskOk.f k1 ((rd_T33 l0_0 x12_1).f0) ((rd_T33 l0_0 x12_1).f1) ((rd_T33 l0_0 x12_1).f2) ((rd_T33 l0_0 x12_1).f3) ((rd_T33 l0_0 x12_1).f4.f0) ((rd_T33 l0_0 x12_1).f4.f1) ((rd_T33 l0_0 x12_1).f4.f2)).bind fun t332 => (if t332 = true then (if t331 = true then (if x12_1 > 0 then (if 0 ≤ (wrap64 (x12_1 - 1)) then (if (wrap64 (x12_1 - 1)) < (l0_0.length : Int) then (impl_FleetOk.j1 k1 l0_0 (l0_0.length : Int) x12_1 (!(Op.bytesLess (((rd_T33 l0_0 (wrap64 (x12_1 - 1))).f0).toList) (((rd_T33 l0_0 x12_1).f0).toList))) l0_0 l0_1 l0_2 a0_3 a0_4 a0_5) else (none)) else (none)) else (impl_FleetOk.j1 k1 l0_0 (l0_0.length : Int) x12_1 false l0_0 l0_1 l0_2 a0_3 a0_4 a0_5)) else (impl_FleetOk.j1 k1 l0_0 (l0_0.length : Int) x12_1 true l0_0 l0_1 l0_2 a0_3 a0_4 a0_5)) else (impl_FleetOk.j1 k1 l0_0 (l0_0.length : Int) x12_1 true l0_0 l0_1 l0_2 a0_3 a0_4 a0_5))) = some r := H
      have A7 := Aside0.mk A70
      clear A70
      have HC8 := Aside0.mk H
      clear H
      have p326 : 0 ≤ (x12_1 : Int) := of_decide_eq_true (by first | (with_reducible assumption) | assumption)
      have q326 : x12_1 < (l0_0.length : Int) := of_decide_eq_true (by first | (with_reducible assumption) | assumption)
      obtain ⟨ad326, e326, hx326_0, hx326_1, hx326_2, hx326_3, hx326_4, hx326_5, hx326_6⟩ := at_T33 HR0_0.out x12_1 p326 q326
      cases e326
      replace hx326_0 := bc HB.out hx326_0
      replace hx326_1 := bc HB.out hx326_1
      replace hx326_2 := bc HB.out hx326_2
      replace hx326_3 := bc HB.out hx326_3
      replace hx326_4 := bc HB.out hx326_4
      replace hx326_5 := bc HB.out hx326_5
      replace hx326_6 := bc HB.out hx326_6
      replace p326 := eq_true p326
      replace q326 := eq_true q326
      go_upto_region 5 with (first | ((with_reducible refine gate_dst (N := 4) rfl ?_); (try (refine gate_guard (by rfl) ?_; dsimp only)); refine box_event ?hg (N := 4) ?hd (cs := #[.string (⟨#[]⟩ : ByteArray), .int .i64 0, .int .i64 0, .int .i64 0, .int .i64 0, .int .i64 0, .int .i64 0]) (t := 33) ?hr ?_; (case hd => rfl); (case hg => rfl); (case hr => first | (go_simp; done) | (go_simp; rfl)); intro gb327 hg w9 hbox hb; have BK327 := Aside0.mk (hbox); have GW327 := Aside0.mk ((by rw [hg]; exact (below_size (by repeat with_reducible first | exact bl HB.out | refine below_set ?_ GE325.out | refine bq ?_)) : w.heap.size ≤ gb327)); have GE327 := GW327; replace HB := Aside0.mk (below_step (by repeat with_reducible first | exact bl HB.out | refine below_set ?_ GE325.out | refine bq ?_) hb); have NB325_327 := nb_ hg BK325.out; have NB327_325 := Aside0.mk NB325_327.out.symm; replace BK325 := Aside0.mk (blk_below (bk BK325.out) hb); clear hb hbox hg; have hnb10 := NB327_325.out; have hnc10 := NB325_327.out; obtain ⟨hcz11_0, hcz11_1, hcz11_2, hcz11_3, hcz11_4, hcz11_5, hcz11_6⟩ := ck7 BK327.out; obtain ⟨hfz11_0, hfz11_1, hfz11_2, hfz11_3, hfz11_4, hfz11_5, hfz11_6⟩ := fz7 BK327.out; obtain ⟨hcz12_0, hcz12_1, hcz12_2, hcz12_3, hcz12_4, hcz12_5⟩ := ck6 BK325.out; obtain ⟨hfz12_0, hfz12_1, hfz12_2, hfz12_3, hfz12_4, hfz12_5⟩ := fz6 BK325.out) | ((with_reducible refine gate_callee (f := 59) rfl ?_); refine goesL_ (some 22) rfl rfl Try.func59 (by kernel_rfl) rfl #[.agg #[.int .i64 ((rd_T33 l0_0 x12_1).f4.f0), .int .i64 ((rd_T33 l0_0 x12_1).f4.f1), .int .i64 ((rd_T33 l0_0 x12_1).f4.f2)], .agg #[.int .i64 a0_3, .int .i64 a0_4, .int .i64 a0_5]] rfl (by (try simp only [am_]); first | done | rfl) ?_; (with_reducible refine (impl_passed.calls k1 ((rd_T33 l0_0 x12_1).f4.f0) ((rd_T33 l0_0 x12_1).f4.f1) ((rd_T33 l0_0 x12_1).f4.f2) a0_3 a0_4 a0_5 t328 t331 _ A7.out).mono ?_); rintro e w13 ⟨v329, rfl, ho0, hb⟩; refine ⟨_, rfl, ?_⟩; have HO330 := Aside0.mk (Kd.R_lower ho0 (below_size (by repeat with_reducible first | exact bl HB.out | refine below_set ?_ GE325.out | refine below_set ?_ GE327.out | refine bq ?_))); replace BK325 := Aside0.mk (blk_below (g := gb325) (o := .cells #[.slice (some ad326) l0_0.length c0_0, .slice A0_1 l0_1.length c0_1, .slice A0_2 l0_2.length c0_2, .int .i64 a0_3, .int .i64 a0_4, .int .i64 a0_5] 56 (0, 0)) (by (repeat refine bk1 ?_); refine blk_far ?_ NB325_327.out _; (repeat refine bk1 ?_); refine blk_far ?_ NB325_327.out _; (repeat refine bk1 ?_); refine blk_far ?_ NB325_327.out _; (repeat refine bk1 ?_); refine blk_far ?_ NB325_327.out _; (repeat refine bk1 ?_); refine blk_far ?_ NB325_327.out _; (repeat refine bk1 ?_); refine blk_far ?_ NB325_327.out _; (repeat refine bk1 ?_); refine blk_far ?_ NB325_327.out _; (repeat refine bk1 ?_); exact BK325.out) hb); replace BK327 := Aside0.mk (blk_below (g := gb327) (o := .cells #[.string ((rd_T33 l0_0 x12_1).f0), .int .i64 ((rd_T33 l0_0 x12_1).f1), .int .i64 ((rd_T33 l0_0 x12_1).f2), .int .i64 ((rd_T33 l0_0 x12_1).f3), .int .i64 ((rd_T33 l0_0 x12_1).f4.f0), .int .i64 ((rd_T33 l0_0 x12_1).f4.f1), .int .i64 ((rd_T33 l0_0 x12_1).f4.f2)] 33 (0, 0)) (by (repeat refine bk1 ?_); refine blk_put (cs := #[.string ((rd_T33 l0_0 x12_1).f0), .int .i64 ((rd_T33 l0_0 x12_1).f1), .int .i64 ((rd_T33 l0_0 x12_1).f2), .int .i64 ((rd_T33 l0_0 x12_1).f3), .int .i64 ((rd_T33 l0_0 x12_1).f4.f0), .int .i64 ((rd_T33 l0_0 x12_1).f4.f1), .int .i64 0]) ?_ 6 _ rfl; (repeat refine bk1 ?_); refine blk_put (cs := #[.string ((rd_T33 l0_0 x12_1).f0), .int .i64 ((rd_T33 l0_0 x12_1).f1), .int .i64 ((rd_T33 l0_0 x12_1).f2), .int .i64 ((rd_T33 l0_0 x12_1).f3), .int .i64 ((rd_T33 l0_0 x12_1).f4.f0), .int .i64 0, .int .i64 0]) ?_ 5 _ rfl; (repeat refine bk1 ?_); refine blk_put (cs := #[.string ((rd_T33 l0_0 x12_1).f0), .int .i64 ((rd_T33 l0_0 x12_1).f1), .int .i64 ((rd_T33 l0_0 x12_1).f2), .int .i64 ((rd_T33 l0_0 x12_1).f3), .int .i64 0, .int .i64 0, .int .i64 0]) ?_ 4 _ rfl; (repeat refine bk1 ?_); refine blk_put (cs := #[.string ((rd_T33 l0_0 x12_1).f0), .int .i64 ((rd_T33 l0_0 x12_1).f1), .int .i64 ((rd_T33 l0_0 x12_1).f2), .int .i64 0, .int .i64 0, .int .i64 0, .int .i64 0]) ?_ 3 _ rfl; (repeat refine bk1 ?_); refine blk_put (cs := #[.string ((rd_T33 l0_0 x12_1).f0), .int .i64 ((rd_T33 l0_0 x12_1).f1), .int .i64 0, .int .i64 0, .int .i64 0, .int .i64 0, .int .i64 0]) ?_ 2 _ rfl; (repeat refine bk1 ?_); refine blk_put (cs := #[.string ((rd_T33 l0_0 x12_1).f0), .int .i64 0, .int .i64 0, .int .i64 0, .int .i64 0, .int .i64 0, .int .i64 0]) ?_ 1 _ rfl; (repeat refine bk1 ?_); refine blk_put (cs := #[.string (⟨#[]⟩ : ByteArray), .int .i64 0, .int .i64 0, .int .i64 0, .int .i64 0, .int .i64 0, .int .i64 0]) ?_ 0 _ rfl; (repeat refine bk1 ?_); exact BK327.out) hb); replace HB := Aside0.mk (below_step (by repeat with_reducible first | exact bl HB.out | refine below_set ?_ GE325.out | refine below_set ?_ GE327.out | refine bq ?_) hb); (try clear hb); (try clear hb2); (try clear hk); (try clear hi); (try clear ho0)))
      (try simp only [Act.put, List.setIfInBounds_toArray, List.set_cons_zero, List.set_cons_succ])
      go_cut [47] (fun v47 wc => ∃ (kq : Nat) (x47_7 : Bool), v47 = .bool x47_7 ∧ Aside0 (impl_FleetOk.j1 kq l0_0 (l0_0.length : Int) x12_1 x47_7 l0_0 l0_1 l0_2 a0_3 a0_4 a0_5 = some r) ∧ Aside0 (kq ≤ k1) ∧ Aside0 (wc.heap[gb325]? = some (.cells #[(.slice (some ad326) l0_0.length c0_0), (.slice A0_1 l0_1.length c0_1), (.slice A0_2 l0_2.length c0_2), .int .i64 a0_3, .int .i64 a0_4, .int .i64 a0_5] 56 (0, 0))) ∧ Aside0 (wc.heap[gb327]? = some (.cells #[.string ((rd_T33 l0_0 x12_1).f0), .int .i64 ((rd_T33 l0_0 x12_1).f1), .int .i64 ((rd_T33 l0_0 x12_1).f2), .int .i64 ((rd_T33 l0_0 x12_1).f3), .int .i64 ((rd_T33 l0_0 x12_1).f4.f0), .int .i64 ((rd_T33 l0_0 x12_1).f4.f1), .int .i64 ((rd_T33 l0_0 x12_1).f4.f2)] 33 (0, 0))) ∧ Aside0 (Below w.heap.size w wc))
      case first =>
       have H := HC8.out
       clear HC8
       replace H := Option.bind_eq_some_iff.mp H
       obtain ⟨t332, A140, H⟩ := H
       replace H : (if t332 = true then (if t331 = true then (if x12_1 > 0 then (if 0 ≤ (wrap64 (x12_1 - 1)) then (if (wrap64 (x12_1 - 1)) < (l0_0.length : Int) then (impl_FleetOk.j1 k1 l0_0 (l0_0.length : Int) x12_1 (!(Op.bytesLess (((rd_T33 l0_0 (wrap64 (x12_1 - 1))).f0).toList) (((rd_T33 l0_0 x12_1).f0).toList))) l0_0 l0_1 l0_2 a0_3 a0_4 a0_5) else (none)) else (none)) else (impl_FleetOk.j1 k1 l0_0 (l0_0.length : Int) x12_1 false l0_0 l0_1 l0_2 a0_3 a0_4 a0_5)) else (impl_FleetOk.j1 k1 l0_0 (l0_0.length : Int) x12_1 true l0_0 l0_1 l0_2 a0_3 a0_4 a0_5)) else (impl_FleetOk.j1 k1 l0_0 (l0_0.length : Int) x12_1 true l0_0 l0_1 l0_2 a0_3 a0_4 a0_5)) = some r := H
       have A14 := Aside0.mk A140
       clear A140
       by_cases c15 : t332 = true
       ·
        subst c15
        have H1 : (if t331 = true then (if x12_1 > 0 then (if 0 ≤ (wrap64 (x12_1 - 1)) then (if (wrap64 (x12_1 - 1)) < (l0_0.length : Int) then (impl_FleetOk.j1 k1 l0_0 (l0_0.length : Int) x12_1 (!(Op.bytesLess (((rd_T33 l0_0 (wrap64 (x12_1 - 1))).f0).toList) (((rd_T33 l0_0 x12_1).f0).toList))) l0_0 l0_1 l0_2 a0_3 a0_4 a0_5) else (none)) else (none)) else (impl_FleetOk.j1 k1 l0_0 (l0_0.length : Int) x12_1 false l0_0 l0_1 l0_2 a0_3 a0_4 a0_5)) else (impl_FleetOk.j1 k1 l0_0 (l0_0.length : Int) x12_1 true l0_0 l0_1 l0_2 a0_3 a0_4 a0_5)) = some r := by rw [if_pos rfl] at H; exact H
        clear H
        have H := H1
        clear H1
        by_cases c16 : t331 = true
        ·
         subst c16
         have H1 : (if x12_1 > 0 then (if 0 ≤ (wrap64 (x12_1 - 1)) then (if (wrap64 (x12_1 - 1)) < (l0_0.length : Int) then (impl_FleetOk.j1 k1 l0_0 (l0_0.length : Int) x12_1 (!(Op.bytesLess (((rd_T33 l0_0 (wrap64 (x12_1 - 1))).f0).toList) (((rd_T33 l0_0 x12_1).f0).toList))) l0_0 l0_1 l0_2 a0_3 a0_4 a0_5) else (none)) else (none)) else (impl_FleetOk.j1 k1 l0_0 (l0_0.length : Int) x12_1 false l0_0 l0_1 l0_2 a0_3 a0_4 a0_5)) = some r := by rw [if_pos rfl] at H; exact H
         clear H
         have H := H1
         clear H1
         by_cases c17 : x12_1 > 0
         ·
          rw [if_pos c17] at H
          have c17b0 : decide (0 < x12_1) = true := decide_eq_true c17
          clear c17
          (first | rw [c17b0] | (simp only [i64_w, i32_w]; rw [c17b0]) | skip)
          obtain ⟨ji18, hji18⟩ : ∃ j_ : Int, (wrap64 (x12_1 - 1)) = j_ := ⟨_, rfl⟩
          replace H : (if 0 ≤ (ji18) then (if (ji18) < (l0_0.length : Int) then (impl_FleetOk.j1 k1 l0_0 (l0_0.length : Int) x12_1 (!(Op.bytesLess (((rd_T33 l0_0 (ji18)).f0).toList) (((rd_T33 l0_0 x12_1).f0).toList))) l0_0 l0_1 l0_2 a0_3 a0_4 a0_5) else (none)) else (none)) = some r := by first | (rw [hji18] at H; exact H) | (simp only [hji18] at H ⊢; exact H)
          (try rw [hji18] at A14)
          have hji18w : (IntKind.i64.wrap (x12_1 - 1)) = ji18 := (i64_w _).trans hji18
          by_cases c19 : 0 ≤ (ji18)
          ·
           rw [if_pos c19] at H
           have c19b0 : decide (0 ≤ (ji18)) = true := decide_eq_true c19
           clear c19
           by_cases c20 : (ji18) < (l0_0.length : Int)
           ·
            rw [if_pos c20] at H
            have c20b0 : decide ((ji18) < (l0_0.length : Int)) = true := decide_eq_true c20
            clear c20
            have H' := Aside0.mk H
            clear H
            try go_wp2
            have n0_ := Aside0.mk (Kd.R_drew HO330.out)
            have n1_ := Aside0.mk (blk_drew BK325.out)
            have n2_ := Aside0.mk (blk_drew BK327.out)
            have n3_ := Aside0.mk (below_drew1 HB.out)
            clear HO330
            clear BK325
            clear BK327
            clear HB
            have HO330 := n0_
            have BK325 := n1_
            have BK327 := n2_
            have HB := n3_
            clear n0_ n1_ n2_ n3_
            have p333 : 0 ≤ ((ji18) : Int) := of_decide_eq_true (by first | (with_reducible assumption) | assumption)
            have q333 : (ji18) < (l0_0.length : Int) := of_decide_eq_true (by first | (with_reducible assumption) | assumption)
            obtain ⟨ad333, e333, hx333_0, hx333_1, hx333_2, hx333_3, hx333_4, hx333_5, hx333_6⟩ := at_T33 HR0_0.out (ji18) p333 q333
            have hw333_6 := hx333_6
            have hw333_5 := hx333_5
            have hw333_4 := hx333_4
            have hw333_3 := hx333_3
            have hw333_2 := hx333_2
            have hw333_1 := hx333_1
            have hw333_0 := hx333_0
            obtain rfl : ad326 = ad333 := (by injection e333)
            replace hx333_0 := bc HB.out hx333_0
            replace hx333_1 := bc HB.out hx333_1
            replace hx333_2 := bc HB.out hx333_2
            replace hx333_3 := bc HB.out hx333_3
            replace hx333_4 := bc HB.out hx333_4
            replace hx333_5 := bc HB.out hx333_5
            replace hx333_6 := bc HB.out hx333_6
            replace p333 := eq_true p333
            replace q333 := eq_true q333
            refine start_ (n := 23) (S := fun w' => w'.cell? ⟨gb327, 0, none⟩ = some (.string ((rd_T33 l0_0 x12_1).f0)) ∧ w'.cell? ⟨gb327, 1, none⟩ = some (.int .i64 ((rd_T33 l0_0 x12_1).f1)) ∧ w'.cell? ⟨gb327, 2, none⟩ = some (.int .i64 ((rd_T33 l0_0 x12_1).f2)) ∧ w'.cell? ⟨gb327, 3, none⟩ = some (.int .i64 ((rd_T33 l0_0 x12_1).f3)) ∧ w'.cell? ⟨gb327, 4, none⟩ = some (.int .i64 ((rd_T33 l0_0 x12_1).f4.f0)) ∧ w'.cell? ⟨gb327, 5, none⟩ = some (.int .i64 ((rd_T33 l0_0 x12_1).f4.f1)) ∧ w'.cell? ⟨gb327, 6, none⟩ = some (.int .i64 ((rd_T33 l0_0 x12_1).f4.f2)) ∧ w'.cell? ⟨gb325, 0, none⟩ = some (.slice (some ad326) l0_0.length c0_0) ∧ w'.cell? ⟨gb325, 1, none⟩ = some (.slice A0_1 l0_1.length c0_1) ∧ w'.cell? ⟨gb325, 2, none⟩ = some (.slice A0_2 l0_2.length c0_2) ∧ w'.cell? ⟨gb325, 3, none⟩ = some (.int .i64 a0_3) ∧ w'.cell? ⟨gb325, 4, none⟩ = some (.int .i64 a0_4) ∧ w'.cell? ⟨gb325, 5, none⟩ = some (.int .i64 a0_5) ∧ w'.cell? (ad326.add (((ji18)).toNat * 7)) = some (.string ((rd_T33 l0_0 (ji18)).f0)) ∧ w'.cell? ⟨(ad326.add (((ji18)).toNat * 7)).block, (ad326.add (((ji18)).toNat * 7)).off + 1, none⟩ = some (.int .i64 ((rd_T33 l0_0 (ji18)).f1)) ∧ w'.cell? ⟨(ad326.add (((ji18)).toNat * 7)).block, (ad326.add (((ji18)).toNat * 7)).off + 2, none⟩ = some (.int .i64 ((rd_T33 l0_0 (ji18)).f2)) ∧ w'.cell? ⟨(ad326.add (((ji18)).toNat * 7)).block, (ad326.add (((ji18)).toNat * 7)).off + 3, none⟩ = some (.int .i64 ((rd_T33 l0_0 (ji18)).f3)) ∧ w'.cell? ⟨(ad326.add (((ji18)).toNat * 7)).block, (ad326.add (((ji18)).toNat * 7)).off + 4, none⟩ = some (.int .i64 ((rd_T33 l0_0 (ji18)).f4.f0)) ∧ w'.cell? ⟨(ad326.add (((ji18)).toNat * 7)).block, (ad326.add (((ji18)).toNat * 7)).off + 5, none⟩ = some (.int .i64 ((rd_T33 l0_0 (ji18)).f4.f1)) ∧ w'.cell? ⟨(ad326.add (((ji18)).toNat * 7)).block, (ad326.add (((ji18)).toNat * 7)).off + 6, none⟩ = some (.int .i64 ((rd_T33 l0_0 (ji18)).f4.f2))) (ds := []) m0_23 (by kernel_rfl) rfl rfl ⟨ck BK327.out 0 rfl, ck BK327.out 1 rfl, ck BK327.out 2 rfl, ck BK327.out 3 rfl, ck BK327.out 4 rfl, ck BK327.out 5 rfl, ck BK327.out 6 rfl, ck BK325.out 0 rfl, ck BK325.out 1 rfl, ck BK325.out 2 rfl, ck BK325.out 3 rfl, ck BK325.out 4 rfl, ck BK325.out 5 rfl, ((HB.out.cell (World.block_lt_of_cell? w _ hw333_0)).trans hw333_0), ((HB.out.cell (World.block_lt_of_cell? w _ hw333_1)).trans hw333_1), ((HB.out.cell (World.block_lt_of_cell? w _ hw333_2)).trans hw333_2), ((HB.out.cell (World.block_lt_of_cell? w _ hw333_3)).trans hw333_3), ((HB.out.cell (World.block_lt_of_cell? w _ hw333_4)).trans hw333_4), ((HB.out.cell (World.block_lt_of_cell? w _ hw333_5)).trans hw333_5), ((HB.out.cell (World.block_lt_of_cell? w _ hw333_6)).trans hw333_6)⟩ (fun hHeld => ?_); refine with_tabW impl_FleetOk.tab5 impl_FleetOk.bits5 (fun HT_ HW_ => ?_)
            generalize w13.drew = w21 at HO330 BK325 BK327 HB hx333_0 hx333_1 hx333_2 hx333_3 hx333_4 hx333_5 hx333_6 hHeld ⊢
            refine tk_ HT_.out HW_.out 0 25 m1_23 rfl rfl (by kernel_rfl) (by rfl) (by rintro w' ⟨s0, s1, s2, s3, s4, s5, s6, s7, s8, s9, s10, s11, s12, s13, s14, s15, s16, s17, s18, s19⟩; go_simp; with_reducible rfl) hHeld (by simp only [sp_]; rfl) (fun _ _ _ h => h) ?_
            refine one_ (i := 1) (N := some 26) m2_23 rfl rfl (one_of HT_.out (by kernel_rfl)) (by decide) (fun K hK => ?_)
            refine goes_ Try.func19 (by kernel_rfl) rfl #[.agg #[.string ((rd_T33 l0_0 x12_1).f0), .int .i64 ((rd_T33 l0_0 x12_1).f1), .int .i64 ((rd_T33 l0_0 x12_1).f2), .int .i64 ((rd_T33 l0_0 x12_1).f3), .int .i64 ((rd_T33 l0_0 x12_1).f4.f0), .int .i64 ((rd_T33 l0_0 x12_1).f4.f1), .int .i64 ((rd_T33 l0_0 x12_1).f4.f2)]] (by rfl) rfl rfl (by (try simp only [am_]); first | done | rfl) ?_
            with_reducible refine (impl_TaskOk.calls k1 ((rd_T33 l0_0 x12_1).f0) ((rd_T33 l0_0 x12_1).f1) ((rd_T33 l0_0 x12_1).f2) ((rd_T33 l0_0 x12_1).f3) ((rd_T33 l0_0 x12_1).f4.f0) ((rd_T33 l0_0 x12_1).f4.f1) ((rd_T33 l0_0 x12_1).f4.f2) true _ A14.out).mono ?_
            rintro e w22 ⟨rfl, hb⟩
            refine ⟨_, rfl, ?_⟩
            have n0_ := Aside0.mk (Kd.R_below (rl HO330.out) hb)
            have n1_ := Aside0.mk (blk_below (bk BK325.out) hb)
            have n2_ := Aside0.mk (blk_below (bk BK327.out) hb)
            have n3_ := Aside0.mk (below_step (by repeat with_reducible first | exact bl HB.out | refine below_set ?_ GE325.out | refine below_set ?_ GE327.out | refine bq ?_) hb)
            clear HO330
            clear BK325
            clear BK327
            clear HB
            have HO330 := n0_
            have BK325 := n1_
            have BK327 := n2_
            have HB := n3_
            clear n0_ n1_ n2_ n3_
            (try clear hb)
            (try clear hb2)
            (try clear hk)
            (try clear hi)
            refine hK.out _ _ ⟨ck BK327.out 0 rfl, ck BK327.out 1 rfl, ck BK327.out 2 rfl, ck BK327.out 3 rfl, ck BK327.out 4 rfl, ck BK327.out 5 rfl, ck BK327.out 6 rfl, ck BK325.out 0 rfl, ck BK325.out 1 rfl, ck BK325.out 2 rfl, ck BK325.out 3 rfl, ck BK325.out 4 rfl, ck BK325.out 5 rfl, ((HB.out.cell (World.block_lt_of_cell? w _ hw333_0)).trans hw333_0), ((HB.out.cell (World.block_lt_of_cell? w _ hw333_1)).trans hw333_1), ((HB.out.cell (World.block_lt_of_cell? w _ hw333_2)).trans hw333_2), ((HB.out.cell (World.block_lt_of_cell? w _ hw333_3)).trans hw333_3), ((HB.out.cell (World.block_lt_of_cell? w _ hw333_4)).trans hw333_4), ((HB.out.cell (World.block_lt_of_cell? w _ hw333_5)).trans hw333_5), ((HB.out.cell (World.block_lt_of_cell? w _ hw333_6)).trans hw333_6)⟩ (fun hHeld => ?_)
            clear hK K
            refine norm_ (a' := ?_) ?_ ?_
            rotate_left
            ·
             show Act.put _ (some 26) _ = _
             simp only [sp_]
             rfl
            refine pq_ HT_.out 2 27 m3_23 ?_
            refine pq_ HT_.out 3 28 m4_23 ?_
            refine pq_ HT_.out 4 29 m5_23 ?_
            refine pq_ HT_.out 5 30 m6_23 ?_
            refine pq_ HT_.out 6 31 m7_23 ?_
            refine pq_ HT_.out 7 32 m8_23 ?_
            refine pq_ HT_.out 8 33 m9_23 ?_
            refine pq_ HT_.out 9 34 m10_23 ?_
            refine pq_ HT_.out 10 35 m11_23 ?_
            refine pq_ HT_.out 11 36 m12_23 ?_
            refine pq_ HT_.out 13 38 n209 ?_
            refine pq_ HT_.out 14 39 n210 ?_
            refine pq_ HT_.out 18 43 n211 ?_
            refine tk_ HT_.out HW_.out 12 37 n233 rfl rfl (by kernel_rfl) (by rfl) (by rintro w' ⟨s0, s1, s2, s3, s4, s5, s6, s7, s8, s9, s10, s11, s12, s13, s14, s15, s16, s17, s18, s19⟩; go_simp; with_reducible rfl) hHeld (by simp only [sp_]; rfl) (fun _ _ _ h => h) ?_
            refine pq_ HT_.out 15 40 n212 ?_
            refine pq_ HT_.out 16 41 n213 ?_
            refine tk_ HT_.out HW_.out 17 42 m19_23 rfl rfl (by kernel_rfl) (by rfl) (by rintro w' ⟨s0, s1, s2, s3, s4, s5, s6, s7, s8, s9, s10, s11, s12, s13, s14, s15, s16, s17, s18, s19⟩; go_simp; with_reducible rfl) hHeld (by simp only [sp_]; rfl) (fun _ _ _ h => h) ?_
            refine tk_ HT_.out HW_.out 19 44 m20_23 rfl rfl (by kernel_rfl) (by rfl) (by rintro w' ⟨s0, s1, s2, s3, s4, s5, s6, s7, s8, s9, s10, s11, s12, s13, s14, s15, s16, s17, s18, s19⟩; go_simp; with_reducible rfl) hHeld (by simp only [sp_]; rfl) (fun _ _ _ h => h) ?_
            refine pq_ HT_.out 20 45 m21_23 ?_
            refine pq_ HT_.out 21 46 m22_23 ?_
            refine pq_ HT_.out 22 47 m23_23 ?_
            refine done_ (done_of HT_.out (by kernel_rfl)) ?_
            try go_wp2
            go_meet
            case rel => exact ⟨_, (!(Op.bytesLess (((rd_T33 l0_0 (ji18)).f0).toList) (((rd_T33 l0_0 x12_1).f0).toList))), (by first | rfl | (simp; done) | (simp only [← hji18] <;> (first | rfl | simp)) | (simp [*]; done)), H', ⟨by have := HK1.out; first | omega | exact Nat.le_refl _⟩, ⟨bk BK325.out⟩, ⟨bk BK327.out⟩, ⟨by repeat with_reducible first | exact bl HB.out | refine below_set ?_ GE325.out | refine below_set ?_ GE327.out | refine bq ?_⟩⟩
           ·
            rw [if_neg c20] at H
            exact absurd H (by simp)
          ·
           rw [if_neg c19] at H
           exact absurd H (by simp)
         ·
          rw [if_neg c17] at H
          have c17b0 : decide (0 < x12_1) = false := decide_eq_false c17
          clear c17
          (first | rw [c17b0] | (simp only [i64_w, i32_w]; rw [c17b0]) | skip)
          have H' := Aside0.mk H
          clear H
          try go_wp2
          have n0_ := Aside0.mk (Kd.R_drew HO330.out)
          have n1_ := Aside0.mk (blk_drew BK325.out)
          have n2_ := Aside0.mk (blk_drew BK327.out)
          have n3_ := Aside0.mk (below_drew1 HB.out)
          clear HO330
          clear BK325
          clear BK327
          clear HB
          have HO330 := n0_
          have BK325 := n1_
          have BK327 := n2_
          have HB := n3_
          clear n0_ n1_ n2_ n3_
          refine start_ (n := 23) (S := fun w' => w'.cell? ⟨gb327, 0, none⟩ = some (.string ((rd_T33 l0_0 x12_1).f0)) ∧ w'.cell? ⟨gb327, 1, none⟩ = some (.int .i64 ((rd_T33 l0_0 x12_1).f1)) ∧ w'.cell? ⟨gb327, 2, none⟩ = some (.int .i64 ((rd_T33 l0_0 x12_1).f2)) ∧ w'.cell? ⟨gb327, 3, none⟩ = some (.int .i64 ((rd_T33 l0_0 x12_1).f3)) ∧ w'.cell? ⟨gb327, 4, none⟩ = some (.int .i64 ((rd_T33 l0_0 x12_1).f4.f0)) ∧ w'.cell? ⟨gb327, 5, none⟩ = some (.int .i64 ((rd_T33 l0_0 x12_1).f4.f1)) ∧ w'.cell? ⟨gb327, 6, none⟩ = some (.int .i64 ((rd_T33 l0_0 x12_1).f4.f2))) (ds := []) m0_23 (by kernel_rfl) rfl rfl ⟨ck BK327.out 0 rfl, ck BK327.out 1 rfl, ck BK327.out 2 rfl, ck BK327.out 3 rfl, ck BK327.out 4 rfl, ck BK327.out 5 rfl, ck BK327.out 6 rfl⟩ (fun hHeld => ?_); refine with_tabW impl_FleetOk.tab5 impl_FleetOk.bits5 (fun HT_ HW_ => ?_)
          generalize w13.drew = w23 at HO330 BK325 BK327 HB hHeld ⊢
          refine tk_ HT_.out HW_.out 0 25 m1_23 rfl rfl (by kernel_rfl) (by rfl) (by rintro w' ⟨s0, s1, s2, s3, s4, s5, s6⟩; go_simp; with_reducible rfl) hHeld (by simp only [sp_]; rfl) (fun _ _ _ h => h) ?_
          refine one_ (i := 1) (N := some 26) m2_23 rfl rfl (one_of HT_.out (by kernel_rfl)) (by decide) (fun K hK => ?_)
          refine goes_ Try.func19 (by kernel_rfl) rfl #[.agg #[.string ((rd_T33 l0_0 x12_1).f0), .int .i64 ((rd_T33 l0_0 x12_1).f1), .int .i64 ((rd_T33 l0_0 x12_1).f2), .int .i64 ((rd_T33 l0_0 x12_1).f3), .int .i64 ((rd_T33 l0_0 x12_1).f4.f0), .int .i64 ((rd_T33 l0_0 x12_1).f4.f1), .int .i64 ((rd_T33 l0_0 x12_1).f4.f2)]] (by rfl) rfl rfl (by (try simp only [am_]); first | done | rfl) ?_
          with_reducible refine (impl_TaskOk.calls k1 ((rd_T33 l0_0 x12_1).f0) ((rd_T33 l0_0 x12_1).f1) ((rd_T33 l0_0 x12_1).f2) ((rd_T33 l0_0 x12_1).f3) ((rd_T33 l0_0 x12_1).f4.f0) ((rd_T33 l0_0 x12_1).f4.f1) ((rd_T33 l0_0 x12_1).f4.f2) true _ A14.out).mono ?_
          rintro e w24 ⟨rfl, hb⟩
          refine ⟨_, rfl, ?_⟩
          have n0_ := Aside0.mk (Kd.R_below (rl HO330.out) hb)
          have n1_ := Aside0.mk (blk_below (bk BK325.out) hb)
          have n2_ := Aside0.mk (blk_below (bk BK327.out) hb)
          have n3_ := Aside0.mk (below_step (by repeat with_reducible first | exact bl HB.out | refine below_set ?_ GE325.out | refine below_set ?_ GE327.out | refine bq ?_) hb)
          clear HO330
          clear BK325
          clear BK327
          clear HB
          have HO330 := n0_
          have BK325 := n1_
          have BK327 := n2_
          have HB := n3_
          clear n0_ n1_ n2_ n3_
          (try clear hb)
          (try clear hb2)
          (try clear hk)
          (try clear hi)
          refine hK.out _ _ ⟨ck BK327.out 0 rfl, ck BK327.out 1 rfl, ck BK327.out 2 rfl, ck BK327.out 3 rfl, ck BK327.out 4 rfl, ck BK327.out 5 rfl, ck BK327.out 6 rfl⟩ (fun hHeld => ?_)
          clear hK K
          refine norm_ (a' := ?_) ?_ ?_
          rotate_left
          ·
           show Act.put _ (some 26) _ = _
           simp only [sp_]
           rfl
          refine pq_ HT_.out 2 27 m3_23 ?_
          refine pq_ HT_.out 3 28 m4_23 ?_
          refine pq_ HT_.out 4 29 m5_23 ?_
          refine pq_ HT_.out 5 30 m6_23 ?_
          refine pq_ HT_.out 6 31 m7_23 ?_
          refine pq_ HT_.out 7 32 m8_23 ?_
          refine pq_ HT_.out 8 33 m9_23 ?_
          refine pq_ HT_.out 9 34 m10_23 ?_
          refine pq_ HT_.out 10 35 m11_23 ?_
          refine pv_ HT_.out 11 36 m12_23 ?_
          refine pv_ HT_.out 12 37 m13_23 ?_
          refine pv_ HT_.out 13 38 m14_23 ?_
          refine pv_ HT_.out 14 39 m15_23 ?_
          refine pv_ HT_.out 15 40 m16_23 ?_
          refine pv_ HT_.out 16 41 m17_23 ?_
          refine pv_ HT_.out 17 42 m18_23 ?_
          refine pv_ HT_.out 18 43 m19_23 ?_
          refine pv_ HT_.out 19 44 m20_23 ?_
          refine pv_ HT_.out 20 45 m21_23 ?_
          refine pq_ HT_.out 21 46 m22_23 ?_
          refine pq_ HT_.out 22 47 m23_23 ?_
          refine done_ (done_of HT_.out (by kernel_rfl)) ?_
          try go_wp2
          go_meet
          case rel => exact ⟨_, (false), (by first | rfl | (simp; done) | (simp [*]; done)), H', ⟨by have := HK1.out; first | omega | exact Nat.le_refl _⟩, ⟨bk BK325.out⟩, ⟨bk BK327.out⟩, ⟨by repeat with_reducible first | exact bl HB.out | refine below_set ?_ GE325.out | refine below_set ?_ GE327.out | refine bq ?_⟩⟩
        ·
         replace c16 := Bool.eq_false_iff.mpr c16
         subst c16
         have H1 : (impl_FleetOk.j1 k1 l0_0 (l0_0.length : Int) x12_1 true l0_0 l0_1 l0_2 a0_3 a0_4 a0_5) = some r := by rw [if_neg (show ¬ (false = true) by decide)] at H; exact H
         clear H
         have H := H1
         clear H1
         have H' := Aside0.mk H
         clear H
         try go_wp2
         have n0_ := Aside0.mk (Kd.R_drew HO330.out)
         have n1_ := Aside0.mk (blk_drew BK325.out)
         have n2_ := Aside0.mk (blk_drew BK327.out)
         have n3_ := Aside0.mk (below_drew1 HB.out)
         clear HO330
         clear BK325
         clear BK327
         clear HB
         have HO330 := n0_
         have BK325 := n1_
         have BK327 := n2_
         have HB := n3_
         clear n0_ n1_ n2_ n3_
         refine start_ (n := 23) (S := fun w' => w'.cell? ⟨gb327, 0, none⟩ = some (.string ((rd_T33 l0_0 x12_1).f0)) ∧ w'.cell? ⟨gb327, 1, none⟩ = some (.int .i64 ((rd_T33 l0_0 x12_1).f1)) ∧ w'.cell? ⟨gb327, 2, none⟩ = some (.int .i64 ((rd_T33 l0_0 x12_1).f2)) ∧ w'.cell? ⟨gb327, 3, none⟩ = some (.int .i64 ((rd_T33 l0_0 x12_1).f3)) ∧ w'.cell? ⟨gb327, 4, none⟩ = some (.int .i64 ((rd_T33 l0_0 x12_1).f4.f0)) ∧ w'.cell? ⟨gb327, 5, none⟩ = some (.int .i64 ((rd_T33 l0_0 x12_1).f4.f1)) ∧ w'.cell? ⟨gb327, 6, none⟩ = some (.int .i64 ((rd_T33 l0_0 x12_1).f4.f2))) (ds := []) m0_23 (by kernel_rfl) rfl rfl ⟨ck BK327.out 0 rfl, ck BK327.out 1 rfl, ck BK327.out 2 rfl, ck BK327.out 3 rfl, ck BK327.out 4 rfl, ck BK327.out 5 rfl, ck BK327.out 6 rfl⟩ (fun hHeld => ?_); refine with_tabW impl_FleetOk.tab5 impl_FleetOk.bits5 (fun HT_ HW_ => ?_)
         generalize w13.drew = w25 at HO330 BK325 BK327 HB hHeld ⊢
         refine tk_ HT_.out HW_.out 0 25 m1_23 rfl rfl (by kernel_rfl) (by rfl) (by rintro w' ⟨s0, s1, s2, s3, s4, s5, s6⟩; go_simp; with_reducible rfl) hHeld (by simp only [sp_]; rfl) (fun _ _ _ h => h) ?_
         refine one_ (i := 1) (N := some 26) m2_23 rfl rfl (one_of HT_.out (by kernel_rfl)) (by decide) (fun K hK => ?_)
         refine goes_ Try.func19 (by kernel_rfl) rfl #[.agg #[.string ((rd_T33 l0_0 x12_1).f0), .int .i64 ((rd_T33 l0_0 x12_1).f1), .int .i64 ((rd_T33 l0_0 x12_1).f2), .int .i64 ((rd_T33 l0_0 x12_1).f3), .int .i64 ((rd_T33 l0_0 x12_1).f4.f0), .int .i64 ((rd_T33 l0_0 x12_1).f4.f1), .int .i64 ((rd_T33 l0_0 x12_1).f4.f2)]] (by rfl) rfl rfl (by (try simp only [am_]); first | done | rfl) ?_
         with_reducible refine (impl_TaskOk.calls k1 ((rd_T33 l0_0 x12_1).f0) ((rd_T33 l0_0 x12_1).f1) ((rd_T33 l0_0 x12_1).f2) ((rd_T33 l0_0 x12_1).f3) ((rd_T33 l0_0 x12_1).f4.f0) ((rd_T33 l0_0 x12_1).f4.f1) ((rd_T33 l0_0 x12_1).f4.f2) true _ A14.out).mono ?_
         rintro e w26 ⟨rfl, hb⟩
         refine ⟨_, rfl, ?_⟩
         have n0_ := Aside0.mk (Kd.R_below (rl HO330.out) hb)
         have n1_ := Aside0.mk (blk_below (bk BK325.out) hb)
         have n2_ := Aside0.mk (blk_below (bk BK327.out) hb)
         have n3_ := Aside0.mk (below_step (by repeat with_reducible first | exact bl HB.out | refine below_set ?_ GE325.out | refine below_set ?_ GE327.out | refine bq ?_) hb)
         clear HO330
         clear BK325
         clear BK327
         clear HB
         have HO330 := n0_
         have BK325 := n1_
         have BK327 := n2_
         have HB := n3_
         clear n0_ n1_ n2_ n3_
         (try clear hb)
         (try clear hb2)
         (try clear hk)
         (try clear hi)
         refine hK.out _ _ ⟨ck BK327.out 0 rfl, ck BK327.out 1 rfl, ck BK327.out 2 rfl, ck BK327.out 3 rfl, ck BK327.out 4 rfl, ck BK327.out 5 rfl, ck BK327.out 6 rfl⟩ (fun hHeld => ?_)
         clear hK K
         refine norm_ (a' := ?_) ?_ ?_
         rotate_left
         ·
          show Act.put _ (some 26) _ = _
          simp only [sp_]
          rfl
         refine pq_ HT_.out 2 27 m3_23 ?_
         refine pq_ HT_.out 3 28 m4_23 ?_
         refine pq_ HT_.out 4 29 m5_23 ?_
         refine pq_ HT_.out 5 30 m6_23 ?_
         refine pq_ HT_.out 6 31 m7_23 ?_
         refine pq_ HT_.out 7 32 m8_23 ?_
         refine pv_ HT_.out 8 33 m9_23 ?_
         refine pv_ HT_.out 9 34 m10_23 ?_
         refine pv_ HT_.out 10 35 m11_23 ?_
         refine pv_ HT_.out 11 36 m12_23 ?_
         refine pv_ HT_.out 12 37 m13_23 ?_
         refine pv_ HT_.out 13 38 m14_23 ?_
         refine pv_ HT_.out 14 39 m15_23 ?_
         refine pv_ HT_.out 15 40 m16_23 ?_
         refine pv_ HT_.out 16 41 m17_23 ?_
         refine pv_ HT_.out 17 42 m18_23 ?_
         refine pv_ HT_.out 18 43 m19_23 ?_
         refine pv_ HT_.out 19 44 m20_23 ?_
         refine pv_ HT_.out 20 45 m21_23 ?_
         refine pv_ HT_.out 21 46 m22_23 ?_
         refine pq_ HT_.out 22 47 m23_23 ?_
         refine done_ (done_of HT_.out (by kernel_rfl)) ?_
         try go_wp2
         go_meet
         case rel => exact ⟨_, (true), (by first | rfl | (simp; done) | (simp [*]; done)), H', ⟨by have := HK1.out; first | omega | exact Nat.le_refl _⟩, ⟨bk BK325.out⟩, ⟨bk BK327.out⟩, ⟨by repeat with_reducible first | exact bl HB.out | refine below_set ?_ GE325.out | refine below_set ?_ GE327.out | refine bq ?_⟩⟩
       ·
        replace c15 := Bool.eq_false_iff.mpr c15
        subst c15
        have H1 : (impl_FleetOk.j1 k1 l0_0 (l0_0.length : Int) x12_1 true l0_0 l0_1 l0_2 a0_3 a0_4 a0_5) = some r := by rw [if_neg (show ¬ (false = true) by decide)] at H; exact H
        clear H
        have H := H1
        clear H1
        have H' := Aside0.mk H
        clear H
        try go_wp2
        have n0_ := Aside0.mk (Kd.R_drew HO330.out)
        have n1_ := Aside0.mk (blk_drew BK325.out)
        have n2_ := Aside0.mk (blk_drew BK327.out)
        have n3_ := Aside0.mk (below_drew1 HB.out)
        clear HO330
        clear BK325
        clear BK327
        clear HB
        have HO330 := n0_
        have BK325 := n1_
        have BK327 := n2_
        have HB := n3_
        clear n0_ n1_ n2_ n3_
        refine start_ (n := 23) (S := fun w' => w'.cell? ⟨gb327, 0, none⟩ = some (.string ((rd_T33 l0_0 x12_1).f0)) ∧ w'.cell? ⟨gb327, 1, none⟩ = some (.int .i64 ((rd_T33 l0_0 x12_1).f1)) ∧ w'.cell? ⟨gb327, 2, none⟩ = some (.int .i64 ((rd_T33 l0_0 x12_1).f2)) ∧ w'.cell? ⟨gb327, 3, none⟩ = some (.int .i64 ((rd_T33 l0_0 x12_1).f3)) ∧ w'.cell? ⟨gb327, 4, none⟩ = some (.int .i64 ((rd_T33 l0_0 x12_1).f4.f0)) ∧ w'.cell? ⟨gb327, 5, none⟩ = some (.int .i64 ((rd_T33 l0_0 x12_1).f4.f1)) ∧ w'.cell? ⟨gb327, 6, none⟩ = some (.int .i64 ((rd_T33 l0_0 x12_1).f4.f2))) (ds := []) m0_23 (by kernel_rfl) rfl rfl ⟨ck BK327.out 0 rfl, ck BK327.out 1 rfl, ck BK327.out 2 rfl, ck BK327.out 3 rfl, ck BK327.out 4 rfl, ck BK327.out 5 rfl, ck BK327.out 6 rfl⟩ (fun hHeld => ?_); refine with_tabW impl_FleetOk.tab5 impl_FleetOk.bits5 (fun HT_ HW_ => ?_)
        generalize w13.drew = w27 at HO330 BK325 BK327 HB hHeld ⊢
        refine tk_ HT_.out HW_.out 0 25 m1_23 rfl rfl (by kernel_rfl) (by rfl) (by rintro w' ⟨s0, s1, s2, s3, s4, s5, s6⟩; go_simp; with_reducible rfl) hHeld (by simp only [sp_]; rfl) (fun _ _ _ h => h) ?_
        refine one_ (i := 1) (N := some 26) m2_23 rfl rfl (one_of HT_.out (by kernel_rfl)) (by decide) (fun K hK => ?_)
        refine goes_ Try.func19 (by kernel_rfl) rfl #[.agg #[.string ((rd_T33 l0_0 x12_1).f0), .int .i64 ((rd_T33 l0_0 x12_1).f1), .int .i64 ((rd_T33 l0_0 x12_1).f2), .int .i64 ((rd_T33 l0_0 x12_1).f3), .int .i64 ((rd_T33 l0_0 x12_1).f4.f0), .int .i64 ((rd_T33 l0_0 x12_1).f4.f1), .int .i64 ((rd_T33 l0_0 x12_1).f4.f2)]] (by rfl) rfl rfl (by (try simp only [am_]); first | done | rfl) ?_
        with_reducible refine (impl_TaskOk.calls k1 ((rd_T33 l0_0 x12_1).f0) ((rd_T33 l0_0 x12_1).f1) ((rd_T33 l0_0 x12_1).f2) ((rd_T33 l0_0 x12_1).f3) ((rd_T33 l0_0 x12_1).f4.f0) ((rd_T33 l0_0 x12_1).f4.f1) ((rd_T33 l0_0 x12_1).f4.f2) false _ A14.out).mono ?_
        rintro e w28 ⟨rfl, hb⟩
        refine ⟨_, rfl, ?_⟩
        have n0_ := Aside0.mk (Kd.R_below (rl HO330.out) hb)
        have n1_ := Aside0.mk (blk_below (bk BK325.out) hb)
        have n2_ := Aside0.mk (blk_below (bk BK327.out) hb)
        have n3_ := Aside0.mk (below_step (by repeat with_reducible first | exact bl HB.out | refine below_set ?_ GE325.out | refine below_set ?_ GE327.out | refine bq ?_) hb)
        clear HO330
        clear BK325
        clear BK327
        clear HB
        have HO330 := n0_
        have BK325 := n1_
        have BK327 := n2_
        have HB := n3_
        clear n0_ n1_ n2_ n3_
        (try clear hb)
        (try clear hb2)
        (try clear hk)
        (try clear hi)
        refine hK.out _ _ ⟨ck BK327.out 0 rfl, ck BK327.out 1 rfl, ck BK327.out 2 rfl, ck BK327.out 3 rfl, ck BK327.out 4 rfl, ck BK327.out 5 rfl, ck BK327.out 6 rfl⟩ (fun hHeld => ?_)
        clear hK K
        refine norm_ (a' := ?_) ?_ ?_
        rotate_left
        ·
         show Act.put _ (some 26) _ = _
         simp only [sp_]
         rfl
        refine pq_ HT_.out 2 27 m3_23 ?_
        refine pq_ HT_.out 3 28 m4_23 ?_
        refine pv_ HT_.out 4 29 m5_23 ?_
        refine pv_ HT_.out 5 30 m6_23 ?_
        refine pq_ HT_.out 6 31 m7_23 ?_
        refine pq_ HT_.out 7 32 m8_23 ?_
        refine pv_ HT_.out 8 33 m9_23 ?_
        refine pv_ HT_.out 9 34 m10_23 ?_
        refine pv_ HT_.out 10 35 m11_23 ?_
        refine pv_ HT_.out 11 36 m12_23 ?_
        refine pv_ HT_.out 12 37 m13_23 ?_
        refine pv_ HT_.out 13 38 m14_23 ?_
        refine pv_ HT_.out 14 39 m15_23 ?_
        refine pv_ HT_.out 15 40 m16_23 ?_
        refine pv_ HT_.out 16 41 m17_23 ?_
        refine pv_ HT_.out 17 42 m18_23 ?_
        refine pv_ HT_.out 18 43 m19_23 ?_
        refine pv_ HT_.out 19 44 m20_23 ?_
        refine pv_ HT_.out 20 45 m21_23 ?_
        refine pv_ HT_.out 21 46 m22_23 ?_
        refine pq_ HT_.out 22 47 m23_23 ?_
        refine done_ (done_of HT_.out (by kernel_rfl)) ?_
        try go_wp2
        go_meet
        case rel => exact ⟨_, (true), (by first | rfl | (simp; done) | (simp [*]; done)), H', ⟨by have := HK1.out; first | omega | exact Nat.le_refl _⟩, ⟨bk BK325.out⟩, ⟨bk BK327.out⟩, ⟨by repeat with_reducible first | exact bl HB.out | refine below_set ?_ GE325.out | refine below_set ?_ GE327.out | refine bq ?_⟩⟩
      case rest =>
       clear HC8
       try clear c1
       try clear c2
       try clear p2
       try clear c15
       try clear c16
       try clear c17
       try clear c17b0
       try clear c19
       try clear c20
       obtain ⟨kq, x47_7, rfl, HA, HJ7, BK325, BK327, HB⟩ := hcut
       cases kq with
       | zero => exact absurd HA.out (by simp [impl_FleetOk.j1])
       | succ kj7 =>
        have H := HA.out
        clear HA
        simp only [impl_FleetOk.j1] at H
        by_cases c29 : x47_7 = true
        ·
         subst c29
         have H1 : (some false) = some r := by rw [if_pos rfl] at H; exact H
         clear H
         have H := H1
         clear H1
         obtain rfl := Option.some.inj H
         go_wp2
         go_ret
         exact ⟨by first | rfl | (simp [errW_none, errW_some] <;> rfl) | (simp [*, errW_none, errW_some] <;> rfl), by repeat with_reducible first | exact bl HB.out | refine below_set ?_ GE325.out | refine below_set ?_ GE327.out | refine bq ?_⟩
        ·
         replace c29 := Bool.eq_false_iff.mpr c29
         subst c29
         have H1 : (impl_FleetOk.l0 kj7 l0_0 (l0_0.length : Int) (wrap64 (x12_1 + 1)) l0_0 l0_1 l0_2 a0_3 a0_4 a0_5) = some r := by rw [if_neg (show ¬ (false = true) by decide)] at H; exact H
         clear H
         have H := H1
         clear H1
         have H' := Aside0.mk H
         clear H
         go_wp2
         go_roundg kj7
         case measure => have := HK1.out; have := HJ7.out; omega
         case rel => exact ⟨(wrap64 (x12_1 + 1)), (by first | rfl | (simp; done) | (simp [*]; done)), H', ⟨by have := HK1.out; have := HJ7.out; omega⟩, ⟨bk BK325.out⟩, ⟨by repeat with_reducible first | exact bl HB.out | refine below_set ?_ GE325.out | refine below_set ?_ GE327.out | refine bq ?_⟩⟩
     ·
      rw [if_neg c6] at H
      exact absurd H (by simp)
    ·
     rw [if_neg c5] at H
     exact absurd H (by simp)
   ·
    rw [if_neg c4] at H
    have c4b0 : decide (x12_1 < (l0_0.length : Int)) = false := decide_eq_false c4
    clear c4
    have H' := Aside0.mk H
    clear H
    obtain ⟨hcz30_0, hcz30_1, hcz30_2, hcz30_3, hcz30_4, hcz30_5⟩ := ck6 BK325.out
    obtain ⟨hfz30_0, hfz30_1, hfz30_2, hfz30_3, hfz30_4, hfz30_5⟩ := fz6 BK325.out
    go_wp2
    go_loopg [52] k1 (fun kq v52 w' => ∃ (x52_2 : Int), v52 = .int .i64 x52_2 ∧ Aside0 (impl_FleetOk.l1 kq l0_2 (l0_2.length : Int) x52_2 l0_0 l0_1 l0_2 a0_3 a0_4 a0_5 = some r) ∧ Aside0 (kq ≤ k1) ∧ Aside0 (w'.heap[gb325]? = some (.cells #[(.slice A0_0 l0_0.length c0_0), (.slice A0_1 l0_1.length c0_1), (.slice A0_2 l0_2.length c0_2), .int .i64 a0_3, .int .i64 a0_4, .int .i64 a0_5] 56 (0, 0))) ∧ Aside0 (Below w.heap.size w w'))
    case atStart => exact ⟨(0), (by first | rfl | (simp; done) | (simp [*]; done)), H', ⟨Nat.le_refl _⟩, ⟨bk BK325.out⟩, ⟨by repeat with_reducible first | exact bl HB.out | refine below_set ?_ GE325.out | refine bq ?_⟩⟩
    case round =>
     clear H'
     try clear c1
     try clear c2
     try clear p2
     try clear c4
     try clear c4b0
     try clear c5
     try clear c6
     try clear p6
     try clear c15
     try clear c16
     try clear c17
     try clear c17b0
     try clear c19
     try clear c20
     try clear c29
     try clear hcz30_0 hcz30_1 hcz30_2 hcz30_3 hcz30_4 hcz30_5 hfz30_0 hfz30_1 hfz30_2 hfz30_3 hfz30_4 hfz30_5
     try clear p2
     obtain ⟨x52_2, rfl, HA, HK2, BK325, HB⟩ := hrel
     cases gk with
     | zero => exact absurd HA.out (by simp [impl_FleetOk.l1])
     | succ k2 =>
      have H := HA.out
      clear HA
      simp only [impl_FleetOk.l1] at H
      by_cases c31 : x52_2 < (l0_2.length : Int)
      ·
       rw [if_pos c31] at H
       have c31b0 : decide (x52_2 < (l0_2.length : Int)) = true := decide_eq_true c31
       clear c31
       by_cases c32 : 0 ≤ x52_2
       ·
        rw [if_pos c32] at H
        have c32b0 : decide (0 ≤ x52_2) = true := decide_eq_true c32
        clear c32
        by_cases c33 : x52_2 < (l0_2.length : Int)
        ·
         rw [if_pos c33] at H
         have c33b0 : decide (x52_2 < (l0_2.length : Int)) = true := decide_eq_true c33
         clear c33
         have HC34 := Aside0.mk H
         clear H
         have p334 : 0 ≤ (x52_2 : Int) := of_decide_eq_true (by first | (with_reducible assumption) | assumption)
         have q334 : x52_2 < (l0_2.length : Int) := of_decide_eq_true (by first | (with_reducible assumption) | assumption)
         obtain ⟨ad334, e334, hx334_0, hx334_1, hx334_2⟩ := at_T72 HR0_2.out x52_2 p334 q334
         cases e334
         replace hx334_0 := bc HB.out hx334_0
         replace hx334_1 := bc HB.out hx334_1
         replace hx334_2 := bc HB.out hx334_2
         replace p334 := eq_true p334
         replace q334 := eq_true q334
         go_upto_region 11 with (first | ((with_reducible refine gate_dst (N := 8) rfl ?_); (try (refine gate_guard (by rfl) ?_; dsimp only)); refine box_event ?hg (N := 8) ?hd (cs := #[.string (⟨#[]⟩ : ByteArray), .int .i64 0, .int .i64 0]) (t := 72) ?hr ?_; (case hd => rfl); (case hg => rfl); (case hr => first | (go_simp; done) | (go_simp; rfl)); intro gb335 hg w35 hbox hb; have BK335 := Aside0.mk (hbox); have GW335 := Aside0.mk ((by rw [hg]; exact (below_size (by repeat with_reducible first | exact bl HB.out | refine below_set ?_ GE325.out | refine bq ?_)) : w.heap.size ≤ gb335)); have GE335 := GW335; replace HB := Aside0.mk (below_step (by repeat with_reducible first | exact bl HB.out | refine below_set ?_ GE325.out | refine bq ?_) hb); have NB325_335 := nb_ hg BK325.out; have NB335_325 := Aside0.mk NB325_335.out.symm; replace BK325 := Aside0.mk (blk_below (bk BK325.out) hb); clear hb hbox hg; have hnb36 := NB335_325.out; have hnc36 := NB325_335.out; obtain ⟨hcz37_0, hcz37_1, hcz37_2⟩ := ck3 BK335.out; obtain ⟨hfz37_0, hfz37_1, hfz37_2⟩ := fz3 BK335.out))
         (try simp only [Act.put, List.setIfInBounds_toArray, List.set_cons_zero, List.set_cons_succ])
         go_cut [91] (fun v91 wc => ∃ (kq : Nat) (x91_33 : Bool), v91 = .bool x91_33 ∧ Aside0 (impl_FleetOk.j3 kq l0_2 (l0_2.length : Int) x52_2 x91_33 l0_0 l0_1 l0_2 a0_3 a0_4 a0_5 = some r) ∧ Aside0 (kq ≤ k2) ∧ Aside0 (wc.heap[gb325]? = some (.cells #[(.slice A0_0 l0_0.length c0_0), (.slice A0_1 l0_1.length c0_1), (.slice (some ad334) l0_2.length c0_2), .int .i64 a0_3, .int .i64 a0_4, .int .i64 a0_5] 56 (0, 0))) ∧ Aside0 (wc.heap[gb335]? = some (.cells #[.string ((rd_T72 l0_2 x52_2).f0), .int .i64 ((rd_T72 l0_2 x52_2).f1), .int .i64 ((rd_T72 l0_2 x52_2).f2)] 72 (0, 0))) ∧ Aside0 (Below w.heap.size w wc))
         case first =>
          have H := HC34.out
          clear HC34
          replace H := Option.bind_eq_some_iff.mp H
          obtain ⟨t336, A380, H⟩ := H
          replace H : (if t336 = true then ((impl_in.f ((rd_T72 l0_2 x52_2).f1) 1 1000000).bind fun t337 => (if t337 = true then ((impl_in.f ((rd_T72 l0_2 x52_2).f2) 0 a0_5).bind fun t338 => (if t338 = true then (if x52_2 > 0 then (if 0 ≤ (wrap64 (x52_2 - 1)) then (if (wrap64 (x52_2 - 1)) < (l0_2.length : Int) then (impl_FleetOk.j3 k2 l0_2 (l0_2.length : Int) x52_2 (decide (((rd_T72 l0_2 (wrap64 (x52_2 - 1))).f1) ≥ ((rd_T72 l0_2 x52_2).f1))) l0_0 l0_1 l0_2 a0_3 a0_4 a0_5) else (none)) else (none)) else (impl_FleetOk.j3 k2 l0_2 (l0_2.length : Int) x52_2 false l0_0 l0_1 l0_2 a0_3 a0_4 a0_5)) else (impl_FleetOk.j3 k2 l0_2 (l0_2.length : Int) x52_2 true l0_0 l0_1 l0_2 a0_3 a0_4 a0_5))) else (impl_FleetOk.j3 k2 l0_2 (l0_2.length : Int) x52_2 true l0_0 l0_1 l0_2 a0_3 a0_4 a0_5))) else (impl_FleetOk.j3 k2 l0_2 (l0_2.length : Int) x52_2 true l0_0 l0_1 l0_2 a0_3 a0_4 a0_5)) = some r := H
          have A38 := Aside0.mk A380
          clear A380
          by_cases c39 : t336 = true
          ·
           subst c39
           have H1 : ((impl_in.f ((rd_T72 l0_2 x52_2).f1) 1 1000000).bind fun t337 => (if t337 = true then ((impl_in.f ((rd_T72 l0_2 x52_2).f2) 0 a0_5).bind fun t338 => (if t338 = true then (if x52_2 > 0 then (if 0 ≤ (wrap64 (x52_2 - 1)) then (if (wrap64 (x52_2 - 1)) < (l0_2.length : Int) then (impl_FleetOk.j3 k2 l0_2 (l0_2.length : Int) x52_2 (decide (((rd_T72 l0_2 (wrap64 (x52_2 - 1))).f1) ≥ ((rd_T72 l0_2 x52_2).f1))) l0_0 l0_1 l0_2 a0_3 a0_4 a0_5) else (none)) else (none)) else (impl_FleetOk.j3 k2 l0_2 (l0_2.length : Int) x52_2 false l0_0 l0_1 l0_2 a0_3 a0_4 a0_5)) else (impl_FleetOk.j3 k2 l0_2 (l0_2.length : Int) x52_2 true l0_0 l0_1 l0_2 a0_3 a0_4 a0_5))) else (impl_FleetOk.j3 k2 l0_2 (l0_2.length : Int) x52_2 true l0_0 l0_1 l0_2 a0_3 a0_4 a0_5))) = some r := by rw [if_pos rfl] at H; exact H
           clear H
           have H := H1
           clear H1
           replace H := Option.bind_eq_some_iff.mp H
           obtain ⟨t337, A400, H⟩ := H
           replace H : (if t337 = true then ((impl_in.f ((rd_T72 l0_2 x52_2).f2) 0 a0_5).bind fun t338 => (if t338 = true then (if x52_2 > 0 then (if 0 ≤ (wrap64 (x52_2 - 1)) then (if (wrap64 (x52_2 - 1)) < (l0_2.length : Int) then (impl_FleetOk.j3 k2 l0_2 (l0_2.length : Int) x52_2 (decide (((rd_T72 l0_2 (wrap64 (x52_2 - 1))).f1) ≥ ((rd_T72 l0_2 x52_2).f1))) l0_0 l0_1 l0_2 a0_3 a0_4 a0_5) else (none)) else (none)) else (impl_FleetOk.j3 k2 l0_2 (l0_2.length : Int) x52_2 false l0_0 l0_1 l0_2 a0_3 a0_4 a0_5)) else (impl_FleetOk.j3 k2 l0_2 (l0_2.length : Int) x52_2 true l0_0 l0_1 l0_2 a0_3 a0_4 a0_5))) else (impl_FleetOk.j3 k2 l0_2 (l0_2.length : Int) x52_2 true l0_0 l0_1 l0_2 a0_3 a0_4 a0_5)) = some r := H
           have A40 := Aside0.mk A400
           clear A400
           by_cases c41 : t337 = true
           ·
            subst c41
            have H1 : ((impl_in.f ((rd_T72 l0_2 x52_2).f2) 0 a0_5).bind fun t338 => (if t338 = true then (if x52_2 > 0 then (if 0 ≤ (wrap64 (x52_2 - 1)) then (if (wrap64 (x52_2 - 1)) < (l0_2.length : Int) then (impl_FleetOk.j3 k2 l0_2 (l0_2.length : Int) x52_2 (decide (((rd_T72 l0_2 (wrap64 (x52_2 - 1))).f1) ≥ ((rd_T72 l0_2 x52_2).f1))) l0_0 l0_1 l0_2 a0_3 a0_4 a0_5) else (none)) else (none)) else (impl_FleetOk.j3 k2 l0_2 (l0_2.length : Int) x52_2 false l0_0 l0_1 l0_2 a0_3 a0_4 a0_5)) else (impl_FleetOk.j3 k2 l0_2 (l0_2.length : Int) x52_2 true l0_0 l0_1 l0_2 a0_3 a0_4 a0_5))) = some r := by rw [if_pos rfl] at H; exact H
            clear H
            have H := H1
            clear H1
            replace H := Option.bind_eq_some_iff.mp H
            obtain ⟨t338, A420, H⟩ := H
            replace H : (if t338 = true then (if x52_2 > 0 then (if 0 ≤ (wrap64 (x52_2 - 1)) then (if (wrap64 (x52_2 - 1)) < (l0_2.length : Int) then (impl_FleetOk.j3 k2 l0_2 (l0_2.length : Int) x52_2 (decide (((rd_T72 l0_2 (wrap64 (x52_2 - 1))).f1) ≥ ((rd_T72 l0_2 x52_2).f1))) l0_0 l0_1 l0_2 a0_3 a0_4 a0_5) else (none)) else (none)) else (impl_FleetOk.j3 k2 l0_2 (l0_2.length : Int) x52_2 false l0_0 l0_1 l0_2 a0_3 a0_4 a0_5)) else (impl_FleetOk.j3 k2 l0_2 (l0_2.length : Int) x52_2 true l0_0 l0_1 l0_2 a0_3 a0_4 a0_5)) = some r := H
            have A42 := Aside0.mk A420
            clear A420
            by_cases c43 : t338 = true
            ·
             subst c43
             have H1 : (if x52_2 > 0 then (if 0 ≤ (wrap64 (x52_2 - 1)) then (if (wrap64 (x52_2 - 1)) < (l0_2.length : Int) then (impl_FleetOk.j3 k2 l0_2 (l0_2.length : Int) x52_2 (decide (((rd_T72 l0_2 (wrap64 (x52_2 - 1))).f1) ≥ ((rd_T72 l0_2 x52_2).f1))) l0_0 l0_1 l0_2 a0_3 a0_4 a0_5) else (none)) else (none)) else (impl_FleetOk.j3 k2 l0_2 (l0_2.length : Int) x52_2 false l0_0 l0_1 l0_2 a0_3 a0_4 a0_5)) = some r := by rw [if_pos rfl] at H; exact H
             clear H
             have H := H1
             clear H1
             by_cases c44 : x52_2 > 0
             ·
              rw [if_pos c44] at H
              have c44b0 : decide (0 < x52_2) = true := decide_eq_true c44
              clear c44
              (first | rw [c44b0] | (simp only [i64_w, i32_w]; rw [c44b0]) | skip)
              obtain ⟨ji45, hji45⟩ : ∃ j_ : Int, (wrap64 (x52_2 - 1)) = j_ := ⟨_, rfl⟩
              replace H : (if 0 ≤ (ji45) then (if (ji45) < (l0_2.length : Int) then (impl_FleetOk.j3 k2 l0_2 (l0_2.length : Int) x52_2 (decide (((rd_T72 l0_2 (ji45)).f1) ≥ ((rd_T72 l0_2 x52_2).f1))) l0_0 l0_1 l0_2 a0_3 a0_4 a0_5) else (none)) else (none)) = some r := by first | (rw [hji45] at H; exact H) | (simp only [hji45] at H ⊢; exact H)
              (try rw [hji45] at A38)
              (try rw [hji45] at A40)
              (try rw [hji45] at A42)
              have hji45w : (IntKind.i64.wrap (x52_2 - 1)) = ji45 := (i64_w _).trans hji45
              by_cases c46 : 0 ≤ (ji45)
              ·
               rw [if_pos c46] at H
               have c46b0 : decide (0 ≤ (ji45)) = true := decide_eq_true c46
               clear c46
               by_cases c47 : (ji45) < (l0_2.length : Int)
               ·
                rw [if_pos c47] at H
                have c47b0 : decide ((ji45) < (l0_2.length : Int)) = true := decide_eq_true c47
                clear c47
                have H' := Aside0.mk H
                clear H
                try go_wp2
                have n0_ : Aside0 ((((w35.setCell ⟨gb335, 0, none⟩ (.string ((rd_T72 l0_2 x52_2).f0))).setCell ⟨gb335, 1, none⟩ (.int .i64 ((rd_T72 l0_2 x52_2).f1))).setCell ⟨gb335, 2, none⟩ (.int .i64 ((rd_T72 l0_2 x52_2).f2))).heap[gb325]? = some (.cells #[.slice A0_0 l0_0.length c0_0, .slice A0_1 l0_1.length c0_1, .slice (some ad334) l0_2.length c0_2, .int .i64 a0_3, .int .i64 a0_4, .int .i64 a0_5] 56 (0, 0))) := ⟨by (repeat refine bk1 ?_); refine blk_far ?_ NB325_335.out _; (repeat refine bk1 ?_); refine blk_far ?_ NB325_335.out _; (repeat refine bk1 ?_); refine blk_far ?_ NB325_335.out _; (repeat refine bk1 ?_); exact BK325.out⟩
                have n1_ : Aside0 ((((w35.setCell ⟨gb335, 0, none⟩ (.string ((rd_T72 l0_2 x52_2).f0))).setCell ⟨gb335, 1, none⟩ (.int .i64 ((rd_T72 l0_2 x52_2).f1))).setCell ⟨gb335, 2, none⟩ (.int .i64 ((rd_T72 l0_2 x52_2).f2))).heap[gb335]? = some (.cells #[.string ((rd_T72 l0_2 x52_2).f0), .int .i64 ((rd_T72 l0_2 x52_2).f1), .int .i64 ((rd_T72 l0_2 x52_2).f2)] 72 (0, 0))) := ⟨by (repeat refine bk1 ?_); refine blk_put (cs := #[.string ((rd_T72 l0_2 x52_2).f0), .int .i64 ((rd_T72 l0_2 x52_2).f1), .int .i64 0]) ?_ 2 _ rfl; (repeat refine bk1 ?_); refine blk_put (cs := #[.string ((rd_T72 l0_2 x52_2).f0), .int .i64 0, .int .i64 0]) ?_ 1 _ rfl; (repeat refine bk1 ?_); refine blk_put (cs := #[.string (⟨#[]⟩ : ByteArray), .int .i64 0, .int .i64 0]) ?_ 0 _ rfl; (repeat refine bk1 ?_); exact BK335.out⟩
                have n2_ : Aside0 (Below w.heap.size w (((w35.setCell ⟨gb335, 0, none⟩ (.string ((rd_T72 l0_2 x52_2).f0))).setCell ⟨gb335, 1, none⟩ (.int .i64 ((rd_T72 l0_2 x52_2).f1))).setCell ⟨gb335, 2, none⟩ (.int .i64 ((rd_T72 l0_2 x52_2).f2)))) := ⟨by repeat with_reducible first | exact bl HB.out | refine below_set ?_ GE325.out | refine below_set ?_ GE335.out | refine bq ?_⟩
                (try clear BK325)
                (try clear BK335)
                (try clear HB)
                generalize (((w35.setCell ⟨gb335, 0, none⟩ (.string ((rd_T72 l0_2 x52_2).f0))).setCell ⟨gb335, 1, none⟩ (.int .i64 ((rd_T72 l0_2 x52_2).f1))).setCell ⟨gb335, 2, none⟩ (.int .i64 ((rd_T72 l0_2 x52_2).f2))) = w48 at n0_ n1_ n2_ ⊢
                have BK325 := n0_
                have BK335 := n1_
                have HB := n2_
                clear n0_ n1_ n2_
                have n0_ := Aside0.mk (blk_drew BK325.out)
                have n1_ := Aside0.mk (blk_drew BK335.out)
                have n2_ := Aside0.mk (below_drew1 HB.out)
                clear BK325
                clear BK335
                clear HB
                have BK325 := n0_
                have BK335 := n1_
                have HB := n2_
                clear n0_ n1_ n2_
                have p339 : 0 ≤ ((ji45) : Int) := of_decide_eq_true (by first | (with_reducible assumption) | assumption)
                have q339 : (ji45) < (l0_2.length : Int) := of_decide_eq_true (by first | (with_reducible assumption) | assumption)
                obtain ⟨ad339, e339, hx339_0, hx339_1, hx339_2⟩ := at_T72 HR0_2.out (ji45) p339 q339
                have hw339_2 := hx339_2
                have hw339_1 := hx339_1
                have hw339_0 := hx339_0
                obtain rfl : ad334 = ad339 := (by injection e339)
                replace hx339_0 := bc HB.out hx339_0
                replace hx339_1 := bc HB.out hx339_1
                replace hx339_2 := bc HB.out hx339_2
                replace p339 := eq_true p339
                replace q339 := eq_true q339
                refine start_ (n := 35) (S := fun w' => w'.cell? ⟨gb335, 0, none⟩ = some (.string ((rd_T72 l0_2 x52_2).f0)) ∧ w'.cell? ⟨gb335, 1, none⟩ = some (.int .i64 ((rd_T72 l0_2 x52_2).f1)) ∧ w'.cell? ⟨gb335, 2, none⟩ = some (.int .i64 ((rd_T72 l0_2 x52_2).f2)) ∧ w'.cell? ⟨gb325, 0, none⟩ = some (.slice A0_0 l0_0.length c0_0) ∧ w'.cell? ⟨gb325, 1, none⟩ = some (.slice A0_1 l0_1.length c0_1) ∧ w'.cell? ⟨gb325, 2, none⟩ = some (.slice (some ad334) l0_2.length c0_2) ∧ w'.cell? ⟨gb325, 3, none⟩ = some (.int .i64 a0_3) ∧ w'.cell? ⟨gb325, 4, none⟩ = some (.int .i64 a0_4) ∧ w'.cell? ⟨gb325, 5, none⟩ = some (.int .i64 a0_5) ∧ w'.cell? (ad334.add (((ji45)).toNat * 3)) = some (.string ((rd_T72 l0_2 (ji45)).f0)) ∧ w'.cell? ⟨(ad334.add (((ji45)).toNat * 3)).block, (ad334.add (((ji45)).toNat * 3)).off + 1, none⟩ = some (.int .i64 ((rd_T72 l0_2 (ji45)).f1)) ∧ w'.cell? ⟨(ad334.add (((ji45)).toNat * 3)).block, (ad334.add (((ji45)).toNat * 3)).off + 2, none⟩ = some (.int .i64 ((rd_T72 l0_2 (ji45)).f2))) (ds := []) m0_35 (by kernel_rfl) rfl rfl ⟨ck BK335.out 0 rfl, ck BK335.out 1 rfl, ck BK335.out 2 rfl, ck BK325.out 0 rfl, ck BK325.out 1 rfl, ck BK325.out 2 rfl, ck BK325.out 3 rfl, ck BK325.out 4 rfl, ck BK325.out 5 rfl, ((HB.out.cell (World.block_lt_of_cell? w _ hw339_0)).trans hw339_0), ((HB.out.cell (World.block_lt_of_cell? w _ hw339_1)).trans hw339_1), ((HB.out.cell (World.block_lt_of_cell? w _ hw339_2)).trans hw339_2)⟩ (fun hHeld => ?_); refine with_tabW impl_FleetOk.tab11 impl_FleetOk.bits11 (fun HT_ HW_ => ?_)
                generalize w48.drew = w49 at BK325 BK335 HB hx339_0 hx339_1 hx339_2 hHeld ⊢
                refine pq_ HT_.out 0 57 m1_35 ?_
                refine tk_ HT_.out HW_.out 1 58 m2_35 rfl rfl (by kernel_rfl) (by rfl) (by rintro w' ⟨s0, s1, s2, s3, s4, s5, s6, s7, s8, s9, s10, s11⟩; go_simp; with_reducible rfl) hHeld (by simp only [sp_]; rfl) (fun _ _ _ h => h) ?_
                refine one_ (i := 2) (N := some 59) m3_35 rfl rfl (one_of HT_.out (by kernel_rfl)) (by decide) (fun K hK => ?_)
                refine goes_ Try.func51 (by kernel_rfl) rfl #[.string ((rd_T72 l0_2 x52_2).f0)] (by rfl) rfl rfl (by (try simp only [am_]); first | done | rfl) ?_
                with_reducible refine (impl_isName.calls k2 ((rd_T72 l0_2 x52_2).f0) true _ A38.out).mono ?_
                rintro e w' ⟨rfl, ⟨nd, rfl⟩⟩
                refine ⟨_, rfl, ?_⟩
                refine hK.out _ _ ⟨ck BK335.out 0 rfl, ck BK335.out 1 rfl, ck BK335.out 2 rfl, ck BK325.out 0 rfl, ck BK325.out 1 rfl, ck BK325.out 2 rfl, ck BK325.out 3 rfl, ck BK325.out 4 rfl, ck BK325.out 5 rfl, ((HB.out.cell (World.block_lt_of_cell? w _ hw339_0)).trans hw339_0), ((HB.out.cell (World.block_lt_of_cell? w _ hw339_1)).trans hw339_1), ((HB.out.cell (World.block_lt_of_cell? w _ hw339_2)).trans hw339_2)⟩ (fun hHeld => ?_)
                clear hK K
                refine norm_ (a' := ?_) ?_ ?_
                rotate_left
                ·
                 show Act.put _ (some 59) _ = _
                 simp only [sp_]
                 rfl
                refine pq_ HT_.out 3 60 m4_35 ?_
                refine pq_ HT_.out 4 61 m5_35 ?_
                refine pq_ HT_.out 5 62 m6_35 ?_
                refine tk_ HT_.out HW_.out 6 63 m7_35 rfl rfl (by kernel_rfl) (by rfl) (by rintro w' ⟨s0, s1, s2, s3, s4, s5, s6, s7, s8, s9, s10, s11⟩; go_simp; with_reducible rfl) hHeld (by simp only [sp_]; rfl) (fun _ _ _ h => h) ?_
                refine one_ (i := 7) (N := some 64) m8_35 rfl rfl (one_of HT_.out (by kernel_rfl)) (by decide) (fun K hK => ?_)
                refine goes_ Try.func55 (by kernel_rfl) rfl #[.int .i64 ((rd_T72 l0_2 x52_2).f1), .int .i64 1, .int .i64 1000000] (by rfl) rfl rfl (by (try simp only [am_]); first | done | rfl) ?_
                with_reducible refine (impl_in.calls ((rd_T72 l0_2 x52_2).f1) 1 1000000 true _ A40.out).mono ?_
                rintro e w' ⟨rfl, ⟨nd, rfl⟩⟩
                refine ⟨_, rfl, ?_⟩
                refine hK.out _ _ ⟨ck BK335.out 0 rfl, ck BK335.out 1 rfl, ck BK335.out 2 rfl, ck BK325.out 0 rfl, ck BK325.out 1 rfl, ck BK325.out 2 rfl, ck BK325.out 3 rfl, ck BK325.out 4 rfl, ck BK325.out 5 rfl, ((HB.out.cell (World.block_lt_of_cell? w _ hw339_0)).trans hw339_0), ((HB.out.cell (World.block_lt_of_cell? w _ hw339_1)).trans hw339_1), ((HB.out.cell (World.block_lt_of_cell? w _ hw339_2)).trans hw339_2)⟩ (fun hHeld => ?_)
                clear hK K
                refine norm_ (a' := ?_) ?_ ?_
                rotate_left
                ·
                 show Act.put _ (some 64) _ = _
                 simp only [sp_]
                 rfl
                refine pq_ HT_.out 8 65 m9_35 ?_
                refine pq_ HT_.out 9 66 m10_35 ?_
                refine pq_ HT_.out 10 67 m11_35 ?_
                refine pq_ HT_.out 11 68 m12_35 ?_
                refine pq_ HT_.out 13 70 n217 ?_
                refine pq_ HT_.out 14 71 n218 ?_
                refine tk_ HT_.out HW_.out 12 69 m15_35 rfl rfl (by kernel_rfl) (by rfl) (by rintro w' ⟨s0, s1, s2, s3, s4, s5, s6, s7, s8, s9, s10, s11⟩; go_simp; with_reducible rfl) hHeld (by simp only [sp_]; rfl) (fun _ _ _ h => h) ?_
                refine tk_ HT_.out HW_.out 15 72 m16_35 rfl rfl (by kernel_rfl) (by rfl) (by rintro w' ⟨s0, s1, s2, s3, s4, s5, s6, s7, s8, s9, s10, s11⟩; go_simp; with_reducible rfl) hHeld (by simp only [sp_]; rfl) (fun _ _ _ h => h) ?_
                refine one_ (i := 16) (N := some 73) m17_35 rfl rfl (one_of HT_.out (by kernel_rfl)) (by decide) (fun K hK => ?_)
                refine goes_ Try.func55 (by kernel_rfl) rfl #[.int .i64 ((rd_T72 l0_2 x52_2).f2), .int .i64 0, .int .i64 a0_5] (by rfl) rfl rfl (by (try simp only [am_]); first | done | rfl) ?_
                with_reducible refine (impl_in.calls ((rd_T72 l0_2 x52_2).f2) 0 a0_5 true _ A42.out).mono ?_
                rintro e w' ⟨rfl, ⟨nd, rfl⟩⟩
                refine ⟨_, rfl, ?_⟩
                refine hK.out _ _ ⟨ck BK335.out 0 rfl, ck BK335.out 1 rfl, ck BK335.out 2 rfl, ck BK325.out 0 rfl, ck BK325.out 1 rfl, ck BK325.out 2 rfl, ck BK325.out 3 rfl, ck BK325.out 4 rfl, ck BK325.out 5 rfl, ((HB.out.cell (World.block_lt_of_cell? w _ hw339_0)).trans hw339_0), ((HB.out.cell (World.block_lt_of_cell? w _ hw339_1)).trans hw339_1), ((HB.out.cell (World.block_lt_of_cell? w _ hw339_2)).trans hw339_2)⟩ (fun hHeld => ?_)
                clear hK K
                refine norm_ (a' := ?_) ?_ ?_
                rotate_left
                ·
                 show Act.put _ (some 73) _ = _
                 simp only [sp_]
                 rfl
                refine pq_ HT_.out 17 74 m18_35 ?_
                refine pq_ HT_.out 18 75 m19_35 ?_
                refine pq_ HT_.out 19 76 m20_35 ?_
                refine pq_ HT_.out 20 77 m21_35 ?_
                refine pq_ HT_.out 21 78 m22_35 ?_
                refine pq_ HT_.out 22 79 m23_35 ?_
                refine pq_ HT_.out 23 80 m24_35 ?_
                refine pq_ HT_.out 25 82 n219 ?_
                refine pq_ HT_.out 26 83 n220 ?_
                refine pq_ HT_.out 30 87 n221 ?_
                refine tk_ HT_.out HW_.out 24 81 n234 rfl rfl (by kernel_rfl) (by rfl) (by rintro w' ⟨s0, s1, s2, s3, s4, s5, s6, s7, s8, s9, s10, s11⟩; go_simp; with_reducible rfl) hHeld (by simp only [sp_]; rfl) (fun _ _ _ h => h) ?_
                refine pq_ HT_.out 27 84 n222 ?_
                refine pq_ HT_.out 28 85 n223 ?_
                refine tk_ HT_.out HW_.out 29 86 m31_35 rfl rfl (by kernel_rfl) (by rfl) (by rintro w' ⟨s0, s1, s2, s3, s4, s5, s6, s7, s8, s9, s10, s11⟩; go_simp; with_reducible rfl) hHeld (by simp only [sp_]; rfl) (fun _ _ _ h => h) ?_
                refine tk_ HT_.out HW_.out 31 88 m32_35 rfl rfl (by kernel_rfl) (by rfl) (by rintro w' ⟨s0, s1, s2, s3, s4, s5, s6, s7, s8, s9, s10, s11⟩; go_simp; with_reducible rfl) hHeld (by simp only [sp_]; rfl) (fun _ _ _ h => h) ?_
                refine pq_ HT_.out 32 89 m33_35 ?_
                refine pq_ HT_.out 33 90 m34_35 ?_
                refine pq_ HT_.out 34 91 m35_35 ?_
                refine done_ (done_of HT_.out (by kernel_rfl)) ?_
                try go_wp2
                go_meet
                case rel => exact ⟨_, (decide (((rd_T72 l0_2 (ji45)).f1) ≥ ((rd_T72 l0_2 x52_2).f1))), (by first | rfl | (simp; done) | (simp only [← hji45] <;> (first | rfl | simp)) | (simp [*]; done)), H', ⟨by have := HK1.out; have := HK2.out; first | omega | exact Nat.le_refl _⟩, ⟨bk BK325.out⟩, ⟨bk BK335.out⟩, ⟨by repeat with_reducible first | exact bl HB.out | refine below_set ?_ GE325.out | refine below_set ?_ GE335.out | refine bq ?_⟩⟩
               ·
                rw [if_neg c47] at H
                exact absurd H (by simp)
              ·
               rw [if_neg c46] at H
               exact absurd H (by simp)
             ·
              rw [if_neg c44] at H
              have c44b0 : decide (0 < x52_2) = false := decide_eq_false c44
              clear c44
              (first | rw [c44b0] | (simp only [i64_w, i32_w]; rw [c44b0]) | skip)
              have H' := Aside0.mk H
              clear H
              try go_wp2
              have n0_ : Aside0 ((((w35.setCell ⟨gb335, 0, none⟩ (.string ((rd_T72 l0_2 x52_2).f0))).setCell ⟨gb335, 1, none⟩ (.int .i64 ((rd_T72 l0_2 x52_2).f1))).setCell ⟨gb335, 2, none⟩ (.int .i64 ((rd_T72 l0_2 x52_2).f2))).heap[gb325]? = some (.cells #[.slice A0_0 l0_0.length c0_0, .slice A0_1 l0_1.length c0_1, .slice (some ad334) l0_2.length c0_2, .int .i64 a0_3, .int .i64 a0_4, .int .i64 a0_5] 56 (0, 0))) := ⟨by (repeat refine bk1 ?_); refine blk_far ?_ NB325_335.out _; (repeat refine bk1 ?_); refine blk_far ?_ NB325_335.out _; (repeat refine bk1 ?_); refine blk_far ?_ NB325_335.out _; (repeat refine bk1 ?_); exact BK325.out⟩
              have n1_ : Aside0 ((((w35.setCell ⟨gb335, 0, none⟩ (.string ((rd_T72 l0_2 x52_2).f0))).setCell ⟨gb335, 1, none⟩ (.int .i64 ((rd_T72 l0_2 x52_2).f1))).setCell ⟨gb335, 2, none⟩ (.int .i64 ((rd_T72 l0_2 x52_2).f2))).heap[gb335]? = some (.cells #[.string ((rd_T72 l0_2 x52_2).f0), .int .i64 ((rd_T72 l0_2 x52_2).f1), .int .i64 ((rd_T72 l0_2 x52_2).f2)] 72 (0, 0))) := ⟨by (repeat refine bk1 ?_); refine blk_put (cs := #[.string ((rd_T72 l0_2 x52_2).f0), .int .i64 ((rd_T72 l0_2 x52_2).f1), .int .i64 0]) ?_ 2 _ rfl; (repeat refine bk1 ?_); refine blk_put (cs := #[.string ((rd_T72 l0_2 x52_2).f0), .int .i64 0, .int .i64 0]) ?_ 1 _ rfl; (repeat refine bk1 ?_); refine blk_put (cs := #[.string (⟨#[]⟩ : ByteArray), .int .i64 0, .int .i64 0]) ?_ 0 _ rfl; (repeat refine bk1 ?_); exact BK335.out⟩
              have n2_ : Aside0 (Below w.heap.size w (((w35.setCell ⟨gb335, 0, none⟩ (.string ((rd_T72 l0_2 x52_2).f0))).setCell ⟨gb335, 1, none⟩ (.int .i64 ((rd_T72 l0_2 x52_2).f1))).setCell ⟨gb335, 2, none⟩ (.int .i64 ((rd_T72 l0_2 x52_2).f2)))) := ⟨by repeat with_reducible first | exact bl HB.out | refine below_set ?_ GE325.out | refine below_set ?_ GE335.out | refine bq ?_⟩
              (try clear BK325)
              (try clear BK335)
              (try clear HB)
              generalize (((w35.setCell ⟨gb335, 0, none⟩ (.string ((rd_T72 l0_2 x52_2).f0))).setCell ⟨gb335, 1, none⟩ (.int .i64 ((rd_T72 l0_2 x52_2).f1))).setCell ⟨gb335, 2, none⟩ (.int .i64 ((rd_T72 l0_2 x52_2).f2))) = w50 at n0_ n1_ n2_ ⊢
              have BK325 := n0_
              have BK335 := n1_
              have HB := n2_
              clear n0_ n1_ n2_
              have n0_ := Aside0.mk (blk_drew BK325.out)
              have n1_ := Aside0.mk (blk_drew BK335.out)
              have n2_ := Aside0.mk (below_drew1 HB.out)
              clear BK325
              clear BK335
              clear HB
              have BK325 := n0_
              have BK335 := n1_
              have HB := n2_
              clear n0_ n1_ n2_
              refine start_ (n := 35) (S := fun w' => w'.cell? ⟨gb335, 0, none⟩ = some (.string ((rd_T72 l0_2 x52_2).f0)) ∧ w'.cell? ⟨gb335, 1, none⟩ = some (.int .i64 ((rd_T72 l0_2 x52_2).f1)) ∧ w'.cell? ⟨gb335, 2, none⟩ = some (.int .i64 ((rd_T72 l0_2 x52_2).f2)) ∧ w'.cell? ⟨gb325, 0, none⟩ = some (.slice A0_0 l0_0.length c0_0) ∧ w'.cell? ⟨gb325, 1, none⟩ = some (.slice A0_1 l0_1.length c0_1) ∧ w'.cell? ⟨gb325, 2, none⟩ = some (.slice (some ad334) l0_2.length c0_2) ∧ w'.cell? ⟨gb325, 3, none⟩ = some (.int .i64 a0_3) ∧ w'.cell? ⟨gb325, 4, none⟩ = some (.int .i64 a0_4) ∧ w'.cell? ⟨gb325, 5, none⟩ = some (.int .i64 a0_5)) (ds := []) m0_35 (by kernel_rfl) rfl rfl ⟨ck BK335.out 0 rfl, ck BK335.out 1 rfl, ck BK335.out 2 rfl, ck BK325.out 0 rfl, ck BK325.out 1 rfl, ck BK325.out 2 rfl, ck BK325.out 3 rfl, ck BK325.out 4 rfl, ck BK325.out 5 rfl⟩ (fun hHeld => ?_); refine with_tabW impl_FleetOk.tab11 impl_FleetOk.bits11 (fun HT_ HW_ => ?_)
              generalize w50.drew = w51 at BK325 BK335 HB hHeld ⊢
              refine pq_ HT_.out 0 57 m1_35 ?_
              refine tk_ HT_.out HW_.out 1 58 m2_35 rfl rfl (by kernel_rfl) (by rfl) (by rintro w' ⟨s0, s1, s2, s3, s4, s5, s6, s7, s8⟩; go_simp; with_reducible rfl) hHeld (by simp only [sp_]; rfl) (fun _ _ _ h => h) ?_
              refine one_ (i := 2) (N := some 59) m3_35 rfl rfl (one_of HT_.out (by kernel_rfl)) (by decide) (fun K hK => ?_)
              refine goes_ Try.func51 (by kernel_rfl) rfl #[.string ((rd_T72 l0_2 x52_2).f0)] (by rfl) rfl rfl (by (try simp only [am_]); first | done | rfl) ?_
              with_reducible refine (impl_isName.calls k2 ((rd_T72 l0_2 x52_2).f0) true _ A38.out).mono ?_
              rintro e w' ⟨rfl, ⟨nd, rfl⟩⟩
              refine ⟨_, rfl, ?_⟩
              refine hK.out _ _ ⟨ck BK335.out 0 rfl, ck BK335.out 1 rfl, ck BK335.out 2 rfl, ck BK325.out 0 rfl, ck BK325.out 1 rfl, ck BK325.out 2 rfl, ck BK325.out 3 rfl, ck BK325.out 4 rfl, ck BK325.out 5 rfl⟩ (fun hHeld => ?_)
              clear hK K
              refine norm_ (a' := ?_) ?_ ?_
              rotate_left
              ·
               show Act.put _ (some 59) _ = _
               simp only [sp_]
               rfl
              refine pq_ HT_.out 3 60 m4_35 ?_
              refine pq_ HT_.out 4 61 m5_35 ?_
              refine pq_ HT_.out 5 62 m6_35 ?_
              refine tk_ HT_.out HW_.out 6 63 m7_35 rfl rfl (by kernel_rfl) (by rfl) (by rintro w' ⟨s0, s1, s2, s3, s4, s5, s6, s7, s8⟩; go_simp; with_reducible rfl) hHeld (by simp only [sp_]; rfl) (fun _ _ _ h => h) ?_
              refine one_ (i := 7) (N := some 64) m8_35 rfl rfl (one_of HT_.out (by kernel_rfl)) (by decide) (fun K hK => ?_)
              refine goes_ Try.func55 (by kernel_rfl) rfl #[.int .i64 ((rd_T72 l0_2 x52_2).f1), .int .i64 1, .int .i64 1000000] (by rfl) rfl rfl (by (try simp only [am_]); first | done | rfl) ?_
              with_reducible refine (impl_in.calls ((rd_T72 l0_2 x52_2).f1) 1 1000000 true _ A40.out).mono ?_
              rintro e w' ⟨rfl, ⟨nd, rfl⟩⟩
              refine ⟨_, rfl, ?_⟩
              refine hK.out _ _ ⟨ck BK335.out 0 rfl, ck BK335.out 1 rfl, ck BK335.out 2 rfl, ck BK325.out 0 rfl, ck BK325.out 1 rfl, ck BK325.out 2 rfl, ck BK325.out 3 rfl, ck BK325.out 4 rfl, ck BK325.out 5 rfl⟩ (fun hHeld => ?_)
              clear hK K
              refine norm_ (a' := ?_) ?_ ?_
              rotate_left
              ·
               show Act.put _ (some 64) _ = _
               simp only [sp_]
               rfl
              refine pq_ HT_.out 8 65 m9_35 ?_
              refine pq_ HT_.out 9 66 m10_35 ?_
              refine pq_ HT_.out 10 67 m11_35 ?_
              refine pq_ HT_.out 11 68 m12_35 ?_
              refine pq_ HT_.out 13 70 n217 ?_
              refine pq_ HT_.out 14 71 n218 ?_
              refine tk_ HT_.out HW_.out 12 69 m15_35 rfl rfl (by kernel_rfl) (by rfl) (by rintro w' ⟨s0, s1, s2, s3, s4, s5, s6, s7, s8⟩; go_simp; with_reducible rfl) hHeld (by simp only [sp_]; rfl) (fun _ _ _ h => h) ?_
              refine tk_ HT_.out HW_.out 15 72 m16_35 rfl rfl (by kernel_rfl) (by rfl) (by rintro w' ⟨s0, s1, s2, s3, s4, s5, s6, s7, s8⟩; go_simp; with_reducible rfl) hHeld (by simp only [sp_]; rfl) (fun _ _ _ h => h) ?_
              refine one_ (i := 16) (N := some 73) m17_35 rfl rfl (one_of HT_.out (by kernel_rfl)) (by decide) (fun K hK => ?_)
              refine goes_ Try.func55 (by kernel_rfl) rfl #[.int .i64 ((rd_T72 l0_2 x52_2).f2), .int .i64 0, .int .i64 a0_5] (by rfl) rfl rfl (by (try simp only [am_]); first | done | rfl) ?_
              with_reducible refine (impl_in.calls ((rd_T72 l0_2 x52_2).f2) 0 a0_5 true _ A42.out).mono ?_
              rintro e w' ⟨rfl, ⟨nd, rfl⟩⟩
              refine ⟨_, rfl, ?_⟩
              refine hK.out _ _ ⟨ck BK335.out 0 rfl, ck BK335.out 1 rfl, ck BK335.out 2 rfl, ck BK325.out 0 rfl, ck BK325.out 1 rfl, ck BK325.out 2 rfl, ck BK325.out 3 rfl, ck BK325.out 4 rfl, ck BK325.out 5 rfl⟩ (fun hHeld => ?_)
              clear hK K
              refine norm_ (a' := ?_) ?_ ?_
              rotate_left
              ·
               show Act.put _ (some 73) _ = _
               simp only [sp_]
               rfl
              refine pq_ HT_.out 17 74 m18_35 ?_
              refine pq_ HT_.out 18 75 m19_35 ?_
              refine pq_ HT_.out 19 76 m20_35 ?_
              refine pq_ HT_.out 20 77 m21_35 ?_
              refine pq_ HT_.out 21 78 m22_35 ?_
              refine pq_ HT_.out 22 79 m23_35 ?_
              refine pv_ HT_.out 23 80 m24_35 ?_
              refine pv_ HT_.out 24 81 m25_35 ?_
              refine pv_ HT_.out 25 82 m26_35 ?_
              refine pv_ HT_.out 26 83 m27_35 ?_
              refine pv_ HT_.out 27 84 m28_35 ?_
              refine pv_ HT_.out 28 85 m29_35 ?_
              refine pv_ HT_.out 29 86 m30_35 ?_
              refine pv_ HT_.out 30 87 m31_35 ?_
              refine pv_ HT_.out 31 88 m32_35 ?_
              refine pv_ HT_.out 32 89 m33_35 ?_
              refine pq_ HT_.out 33 90 m34_35 ?_
              refine pq_ HT_.out 34 91 m35_35 ?_
              refine done_ (done_of HT_.out (by kernel_rfl)) ?_
              try go_wp2
              go_meet
              case rel => exact ⟨_, (false), (by first | rfl | (simp; done) | (simp [*]; done)), H', ⟨by have := HK1.out; have := HK2.out; first | omega | exact Nat.le_refl _⟩, ⟨bk BK325.out⟩, ⟨bk BK335.out⟩, ⟨by repeat with_reducible first | exact bl HB.out | refine below_set ?_ GE325.out | refine below_set ?_ GE335.out | refine bq ?_⟩⟩
            ·
             replace c43 := Bool.eq_false_iff.mpr c43
             subst c43
             have H1 : (impl_FleetOk.j3 k2 l0_2 (l0_2.length : Int) x52_2 true l0_0 l0_1 l0_2 a0_3 a0_4 a0_5) = some r := by rw [if_neg (show ¬ (false = true) by decide)] at H; exact H
             clear H
             have H := H1
             clear H1
             have H' := Aside0.mk H
             clear H
             try go_wp2
             have n0_ : Aside0 ((((w35.setCell ⟨gb335, 0, none⟩ (.string ((rd_T72 l0_2 x52_2).f0))).setCell ⟨gb335, 1, none⟩ (.int .i64 ((rd_T72 l0_2 x52_2).f1))).setCell ⟨gb335, 2, none⟩ (.int .i64 ((rd_T72 l0_2 x52_2).f2))).heap[gb325]? = some (.cells #[.slice A0_0 l0_0.length c0_0, .slice A0_1 l0_1.length c0_1, .slice (some ad334) l0_2.length c0_2, .int .i64 a0_3, .int .i64 a0_4, .int .i64 a0_5] 56 (0, 0))) := ⟨by (repeat refine bk1 ?_); refine blk_far ?_ NB325_335.out _; (repeat refine bk1 ?_); refine blk_far ?_ NB325_335.out _; (repeat refine bk1 ?_); refine blk_far ?_ NB325_335.out _; (repeat refine bk1 ?_); exact BK325.out⟩
             have n1_ : Aside0 ((((w35.setCell ⟨gb335, 0, none⟩ (.string ((rd_T72 l0_2 x52_2).f0))).setCell ⟨gb335, 1, none⟩ (.int .i64 ((rd_T72 l0_2 x52_2).f1))).setCell ⟨gb335, 2, none⟩ (.int .i64 ((rd_T72 l0_2 x52_2).f2))).heap[gb335]? = some (.cells #[.string ((rd_T72 l0_2 x52_2).f0), .int .i64 ((rd_T72 l0_2 x52_2).f1), .int .i64 ((rd_T72 l0_2 x52_2).f2)] 72 (0, 0))) := ⟨by (repeat refine bk1 ?_); refine blk_put (cs := #[.string ((rd_T72 l0_2 x52_2).f0), .int .i64 ((rd_T72 l0_2 x52_2).f1), .int .i64 0]) ?_ 2 _ rfl; (repeat refine bk1 ?_); refine blk_put (cs := #[.string ((rd_T72 l0_2 x52_2).f0), .int .i64 0, .int .i64 0]) ?_ 1 _ rfl; (repeat refine bk1 ?_); refine blk_put (cs := #[.string (⟨#[]⟩ : ByteArray), .int .i64 0, .int .i64 0]) ?_ 0 _ rfl; (repeat refine bk1 ?_); exact BK335.out⟩
             have n2_ : Aside0 (Below w.heap.size w (((w35.setCell ⟨gb335, 0, none⟩ (.string ((rd_T72 l0_2 x52_2).f0))).setCell ⟨gb335, 1, none⟩ (.int .i64 ((rd_T72 l0_2 x52_2).f1))).setCell ⟨gb335, 2, none⟩ (.int .i64 ((rd_T72 l0_2 x52_2).f2)))) := ⟨by repeat with_reducible first | exact bl HB.out | refine below_set ?_ GE325.out | refine below_set ?_ GE335.out | refine bq ?_⟩
             (try clear BK325)
             (try clear BK335)
             (try clear HB)
             generalize (((w35.setCell ⟨gb335, 0, none⟩ (.string ((rd_T72 l0_2 x52_2).f0))).setCell ⟨gb335, 1, none⟩ (.int .i64 ((rd_T72 l0_2 x52_2).f1))).setCell ⟨gb335, 2, none⟩ (.int .i64 ((rd_T72 l0_2 x52_2).f2))) = w52 at n0_ n1_ n2_ ⊢
             have BK325 := n0_
             have BK335 := n1_
             have HB := n2_
             clear n0_ n1_ n2_
             have n0_ := Aside0.mk (blk_drew BK325.out)
             have n1_ := Aside0.mk (blk_drew BK335.out)
             have n2_ := Aside0.mk (below_drew1 HB.out)
             clear BK325
             clear BK335
             clear HB
             have BK325 := n0_
             have BK335 := n1_
             have HB := n2_
             clear n0_ n1_ n2_
             refine start_ (n := 35) (S := fun w' => w'.cell? ⟨gb335, 0, none⟩ = some (.string ((rd_T72 l0_2 x52_2).f0)) ∧ w'.cell? ⟨gb335, 1, none⟩ = some (.int .i64 ((rd_T72 l0_2 x52_2).f1)) ∧ w'.cell? ⟨gb335, 2, none⟩ = some (.int .i64 ((rd_T72 l0_2 x52_2).f2)) ∧ w'.cell? ⟨gb325, 0, none⟩ = some (.slice A0_0 l0_0.length c0_0) ∧ w'.cell? ⟨gb325, 1, none⟩ = some (.slice A0_1 l0_1.length c0_1) ∧ w'.cell? ⟨gb325, 2, none⟩ = some (.slice (some ad334) l0_2.length c0_2) ∧ w'.cell? ⟨gb325, 3, none⟩ = some (.int .i64 a0_3) ∧ w'.cell? ⟨gb325, 4, none⟩ = some (.int .i64 a0_4) ∧ w'.cell? ⟨gb325, 5, none⟩ = some (.int .i64 a0_5)) (ds := []) m0_35 (by kernel_rfl) rfl rfl ⟨ck BK335.out 0 rfl, ck BK335.out 1 rfl, ck BK335.out 2 rfl, ck BK325.out 0 rfl, ck BK325.out 1 rfl, ck BK325.out 2 rfl, ck BK325.out 3 rfl, ck BK325.out 4 rfl, ck BK325.out 5 rfl⟩ (fun hHeld => ?_); refine with_tabW impl_FleetOk.tab11 impl_FleetOk.bits11 (fun HT_ HW_ => ?_)
             generalize w52.drew = w53 at BK325 BK335 HB hHeld ⊢
             refine pq_ HT_.out 0 57 m1_35 ?_
             refine tk_ HT_.out HW_.out 1 58 m2_35 rfl rfl (by kernel_rfl) (by rfl) (by rintro w' ⟨s0, s1, s2, s3, s4, s5, s6, s7, s8⟩; go_simp; with_reducible rfl) hHeld (by simp only [sp_]; rfl) (fun _ _ _ h => h) ?_
             refine one_ (i := 2) (N := some 59) m3_35 rfl rfl (one_of HT_.out (by kernel_rfl)) (by decide) (fun K hK => ?_)
             refine goes_ Try.func51 (by kernel_rfl) rfl #[.string ((rd_T72 l0_2 x52_2).f0)] (by rfl) rfl rfl (by (try simp only [am_]); first | done | rfl) ?_
             with_reducible refine (impl_isName.calls k2 ((rd_T72 l0_2 x52_2).f0) true _ A38.out).mono ?_
             rintro e w' ⟨rfl, ⟨nd, rfl⟩⟩
             refine ⟨_, rfl, ?_⟩
             refine hK.out _ _ ⟨ck BK335.out 0 rfl, ck BK335.out 1 rfl, ck BK335.out 2 rfl, ck BK325.out 0 rfl, ck BK325.out 1 rfl, ck BK325.out 2 rfl, ck BK325.out 3 rfl, ck BK325.out 4 rfl, ck BK325.out 5 rfl⟩ (fun hHeld => ?_)
             clear hK K
             refine norm_ (a' := ?_) ?_ ?_
             rotate_left
             ·
              show Act.put _ (some 59) _ = _
              simp only [sp_]
              rfl
             refine pq_ HT_.out 3 60 m4_35 ?_
             refine pq_ HT_.out 4 61 m5_35 ?_
             refine pq_ HT_.out 5 62 m6_35 ?_
             refine tk_ HT_.out HW_.out 6 63 m7_35 rfl rfl (by kernel_rfl) (by rfl) (by rintro w' ⟨s0, s1, s2, s3, s4, s5, s6, s7, s8⟩; go_simp; with_reducible rfl) hHeld (by simp only [sp_]; rfl) (fun _ _ _ h => h) ?_
             refine one_ (i := 7) (N := some 64) m8_35 rfl rfl (one_of HT_.out (by kernel_rfl)) (by decide) (fun K hK => ?_)
             refine goes_ Try.func55 (by kernel_rfl) rfl #[.int .i64 ((rd_T72 l0_2 x52_2).f1), .int .i64 1, .int .i64 1000000] (by rfl) rfl rfl (by (try simp only [am_]); first | done | rfl) ?_
             with_reducible refine (impl_in.calls ((rd_T72 l0_2 x52_2).f1) 1 1000000 true _ A40.out).mono ?_
             rintro e w' ⟨rfl, ⟨nd, rfl⟩⟩
             refine ⟨_, rfl, ?_⟩
             refine hK.out _ _ ⟨ck BK335.out 0 rfl, ck BK335.out 1 rfl, ck BK335.out 2 rfl, ck BK325.out 0 rfl, ck BK325.out 1 rfl, ck BK325.out 2 rfl, ck BK325.out 3 rfl, ck BK325.out 4 rfl, ck BK325.out 5 rfl⟩ (fun hHeld => ?_)
             clear hK K
             refine norm_ (a' := ?_) ?_ ?_
             rotate_left
             ·
              show Act.put _ (some 64) _ = _
              simp only [sp_]
              rfl
             refine pq_ HT_.out 8 65 m9_35 ?_
             refine pq_ HT_.out 9 66 m10_35 ?_
             refine pq_ HT_.out 10 67 m11_35 ?_
             refine pq_ HT_.out 11 68 m12_35 ?_
             refine pq_ HT_.out 13 70 n217 ?_
             refine pq_ HT_.out 14 71 n218 ?_
             refine tk_ HT_.out HW_.out 12 69 m15_35 rfl rfl (by kernel_rfl) (by rfl) (by rintro w' ⟨s0, s1, s2, s3, s4, s5, s6, s7, s8⟩; go_simp; with_reducible rfl) hHeld (by simp only [sp_]; rfl) (fun _ _ _ h => h) ?_
             refine tk_ HT_.out HW_.out 15 72 m16_35 rfl rfl (by kernel_rfl) (by rfl) (by rintro w' ⟨s0, s1, s2, s3, s4, s5, s6, s7, s8⟩; go_simp; with_reducible rfl) hHeld (by simp only [sp_]; rfl) (fun _ _ _ h => h) ?_
             refine one_ (i := 16) (N := some 73) m17_35 rfl rfl (one_of HT_.out (by kernel_rfl)) (by decide) (fun K hK => ?_)
             refine goes_ Try.func55 (by kernel_rfl) rfl #[.int .i64 ((rd_T72 l0_2 x52_2).f2), .int .i64 0, .int .i64 a0_5] (by rfl) rfl rfl (by (try simp only [am_]); first | done | rfl) ?_
             with_reducible refine (impl_in.calls ((rd_T72 l0_2 x52_2).f2) 0 a0_5 false _ A42.out).mono ?_
             rintro e w' ⟨rfl, ⟨nd, rfl⟩⟩
             refine ⟨_, rfl, ?_⟩
             refine hK.out _ _ ⟨ck BK335.out 0 rfl, ck BK335.out 1 rfl, ck BK335.out 2 rfl, ck BK325.out 0 rfl, ck BK325.out 1 rfl, ck BK325.out 2 rfl, ck BK325.out 3 rfl, ck BK325.out 4 rfl, ck BK325.out 5 rfl⟩ (fun hHeld => ?_)
             clear hK K
             refine norm_ (a' := ?_) ?_ ?_
             rotate_left
             ·
              show Act.put _ (some 73) _ = _
              simp only [sp_]
              rfl
             refine pq_ HT_.out 17 74 m18_35 ?_
             refine pq_ HT_.out 18 75 m19_35 ?_
             refine pq_ HT_.out 19 76 m20_35 ?_
             refine pv_ HT_.out 20 77 m21_35 ?_
             refine pv_ HT_.out 21 78 m22_35 ?_
             refine pv_ HT_.out 22 79 m23_35 ?_
             refine pv_ HT_.out 23 80 m24_35 ?_
             refine pv_ HT_.out 24 81 m25_35 ?_
             refine pv_ HT_.out 25 82 m26_35 ?_
             refine pv_ HT_.out 26 83 m27_35 ?_
             refine pv_ HT_.out 27 84 m28_35 ?_
             refine pv_ HT_.out 28 85 m29_35 ?_
             refine pv_ HT_.out 29 86 m30_35 ?_
             refine pv_ HT_.out 30 87 m31_35 ?_
             refine pv_ HT_.out 31 88 m32_35 ?_
             refine pv_ HT_.out 32 89 m33_35 ?_
             refine pv_ HT_.out 33 90 m34_35 ?_
             refine pq_ HT_.out 34 91 m35_35 ?_
             refine done_ (done_of HT_.out (by kernel_rfl)) ?_
             try go_wp2
             go_meet
             case rel => exact ⟨_, (true), (by first | rfl | (simp; done) | (simp [*]; done)), H', ⟨by have := HK1.out; have := HK2.out; first | omega | exact Nat.le_refl _⟩, ⟨bk BK325.out⟩, ⟨bk BK335.out⟩, ⟨by repeat with_reducible first | exact bl HB.out | refine below_set ?_ GE325.out | refine below_set ?_ GE335.out | refine bq ?_⟩⟩
           ·
            replace c41 := Bool.eq_false_iff.mpr c41
            subst c41
            have H1 : (impl_FleetOk.j3 k2 l0_2 (l0_2.length : Int) x52_2 true l0_0 l0_1 l0_2 a0_3 a0_4 a0_5) = some r := by rw [if_neg (show ¬ (false = true) by decide)] at H; exact H
            clear H
            have H := H1
            clear H1
            have H' := Aside0.mk H
            clear H
            try go_wp2
            have n0_ : Aside0 ((((w35.setCell ⟨gb335, 0, none⟩ (.string ((rd_T72 l0_2 x52_2).f0))).setCell ⟨gb335, 1, none⟩ (.int .i64 ((rd_T72 l0_2 x52_2).f1))).setCell ⟨gb335, 2, none⟩ (.int .i64 ((rd_T72 l0_2 x52_2).f2))).heap[gb325]? = some (.cells #[.slice A0_0 l0_0.length c0_0, .slice A0_1 l0_1.length c0_1, .slice (some ad334) l0_2.length c0_2, .int .i64 a0_3, .int .i64 a0_4, .int .i64 a0_5] 56 (0, 0))) := ⟨by (repeat refine bk1 ?_); refine blk_far ?_ NB325_335.out _; (repeat refine bk1 ?_); refine blk_far ?_ NB325_335.out _; (repeat refine bk1 ?_); refine blk_far ?_ NB325_335.out _; (repeat refine bk1 ?_); exact BK325.out⟩
            have n1_ : Aside0 ((((w35.setCell ⟨gb335, 0, none⟩ (.string ((rd_T72 l0_2 x52_2).f0))).setCell ⟨gb335, 1, none⟩ (.int .i64 ((rd_T72 l0_2 x52_2).f1))).setCell ⟨gb335, 2, none⟩ (.int .i64 ((rd_T72 l0_2 x52_2).f2))).heap[gb335]? = some (.cells #[.string ((rd_T72 l0_2 x52_2).f0), .int .i64 ((rd_T72 l0_2 x52_2).f1), .int .i64 ((rd_T72 l0_2 x52_2).f2)] 72 (0, 0))) := ⟨by (repeat refine bk1 ?_); refine blk_put (cs := #[.string ((rd_T72 l0_2 x52_2).f0), .int .i64 ((rd_T72 l0_2 x52_2).f1), .int .i64 0]) ?_ 2 _ rfl; (repeat refine bk1 ?_); refine blk_put (cs := #[.string ((rd_T72 l0_2 x52_2).f0), .int .i64 0, .int .i64 0]) ?_ 1 _ rfl; (repeat refine bk1 ?_); refine blk_put (cs := #[.string (⟨#[]⟩ : ByteArray), .int .i64 0, .int .i64 0]) ?_ 0 _ rfl; (repeat refine bk1 ?_); exact BK335.out⟩
            have n2_ : Aside0 (Below w.heap.size w (((w35.setCell ⟨gb335, 0, none⟩ (.string ((rd_T72 l0_2 x52_2).f0))).setCell ⟨gb335, 1, none⟩ (.int .i64 ((rd_T72 l0_2 x52_2).f1))).setCell ⟨gb335, 2, none⟩ (.int .i64 ((rd_T72 l0_2 x52_2).f2)))) := ⟨by repeat with_reducible first | exact bl HB.out | refine below_set ?_ GE325.out | refine below_set ?_ GE335.out | refine bq ?_⟩
            (try clear BK325)
            (try clear BK335)
            (try clear HB)
            generalize (((w35.setCell ⟨gb335, 0, none⟩ (.string ((rd_T72 l0_2 x52_2).f0))).setCell ⟨gb335, 1, none⟩ (.int .i64 ((rd_T72 l0_2 x52_2).f1))).setCell ⟨gb335, 2, none⟩ (.int .i64 ((rd_T72 l0_2 x52_2).f2))) = w54 at n0_ n1_ n2_ ⊢
            have BK325 := n0_
            have BK335 := n1_
            have HB := n2_
            clear n0_ n1_ n2_
            have n0_ := Aside0.mk (blk_drew BK325.out)
            have n1_ := Aside0.mk (blk_drew BK335.out)
            have n2_ := Aside0.mk (below_drew1 HB.out)
            clear BK325
            clear BK335
            clear HB
            have BK325 := n0_
            have BK335 := n1_
            have HB := n2_
            clear n0_ n1_ n2_
            refine start_ (n := 35) (S := fun w' => w'.cell? ⟨gb335, 0, none⟩ = some (.string ((rd_T72 l0_2 x52_2).f0)) ∧ w'.cell? ⟨gb335, 1, none⟩ = some (.int .i64 ((rd_T72 l0_2 x52_2).f1)) ∧ w'.cell? ⟨gb335, 2, none⟩ = some (.int .i64 ((rd_T72 l0_2 x52_2).f2))) (ds := []) m0_35 (by kernel_rfl) rfl rfl ⟨ck BK335.out 0 rfl, ck BK335.out 1 rfl, ck BK335.out 2 rfl⟩ (fun hHeld => ?_); refine with_tabW impl_FleetOk.tab11 impl_FleetOk.bits11 (fun HT_ HW_ => ?_)
            generalize w54.drew = w55 at BK325 BK335 HB hHeld ⊢
            refine pq_ HT_.out 0 57 m1_35 ?_
            refine tk_ HT_.out HW_.out 1 58 m2_35 rfl rfl (by kernel_rfl) (by rfl) (by rintro w' ⟨s0, s1, s2⟩; go_simp; with_reducible rfl) hHeld (by simp only [sp_]; rfl) (fun _ _ _ h => h) ?_
            refine one_ (i := 2) (N := some 59) m3_35 rfl rfl (one_of HT_.out (by kernel_rfl)) (by decide) (fun K hK => ?_)
            refine goes_ Try.func51 (by kernel_rfl) rfl #[.string ((rd_T72 l0_2 x52_2).f0)] (by rfl) rfl rfl (by (try simp only [am_]); first | done | rfl) ?_
            with_reducible refine (impl_isName.calls k2 ((rd_T72 l0_2 x52_2).f0) true _ A38.out).mono ?_
            rintro e w' ⟨rfl, ⟨nd, rfl⟩⟩
            refine ⟨_, rfl, ?_⟩
            refine hK.out _ _ ⟨ck BK335.out 0 rfl, ck BK335.out 1 rfl, ck BK335.out 2 rfl⟩ (fun hHeld => ?_)
            clear hK K
            refine norm_ (a' := ?_) ?_ ?_
            rotate_left
            ·
             show Act.put _ (some 59) _ = _
             simp only [sp_]
             rfl
            refine pq_ HT_.out 3 60 m4_35 ?_
            refine pq_ HT_.out 4 61 m5_35 ?_
            refine pq_ HT_.out 5 62 m6_35 ?_
            refine tk_ HT_.out HW_.out 6 63 m7_35 rfl rfl (by kernel_rfl) (by rfl) (by rintro w' ⟨s0, s1, s2⟩; go_simp; with_reducible rfl) hHeld (by simp only [sp_]; rfl) (fun _ _ _ h => h) ?_
            refine one_ (i := 7) (N := some 64) m8_35 rfl rfl (one_of HT_.out (by kernel_rfl)) (by decide) (fun K hK => ?_)
            refine goes_ Try.func55 (by kernel_rfl) rfl #[.int .i64 ((rd_T72 l0_2 x52_2).f1), .int .i64 1, .int .i64 1000000] (by rfl) rfl rfl (by (try simp only [am_]); first | done | rfl) ?_
            with_reducible refine (impl_in.calls ((rd_T72 l0_2 x52_2).f1) 1 1000000 false _ A40.out).mono ?_
            rintro e w' ⟨rfl, ⟨nd, rfl⟩⟩
            refine ⟨_, rfl, ?_⟩
            refine hK.out _ _ ⟨ck BK335.out 0 rfl, ck BK335.out 1 rfl, ck BK335.out 2 rfl⟩ (fun hHeld => ?_)
            clear hK K
            refine norm_ (a' := ?_) ?_ ?_
            rotate_left
            ·
             show Act.put _ (some 64) _ = _
             simp only [sp_]
             rfl
            refine pq_ HT_.out 8 65 m9_35 ?_
            refine pq_ HT_.out 9 66 m10_35 ?_
            refine pq_ HT_.out 10 67 m11_35 ?_
            refine pv_ HT_.out 11 68 m12_35 ?_
            refine pv_ HT_.out 12 69 m13_35 ?_
            refine pv_ HT_.out 13 70 m14_35 ?_
            refine pv_ HT_.out 14 71 m15_35 ?_
            refine pv_ HT_.out 15 72 m16_35 ?_
            refine pv_ HT_.out 16 73 m17_35 ?_
            refine pv_ HT_.out 17 74 m18_35 ?_
            refine pq_ HT_.out 18 75 m19_35 ?_
            refine pq_ HT_.out 19 76 m20_35 ?_
            refine pv_ HT_.out 20 77 m21_35 ?_
            refine pv_ HT_.out 21 78 m22_35 ?_
            refine pv_ HT_.out 22 79 m23_35 ?_
            refine pv_ HT_.out 23 80 m24_35 ?_
            refine pv_ HT_.out 24 81 m25_35 ?_
            refine pv_ HT_.out 25 82 m26_35 ?_
            refine pv_ HT_.out 26 83 m27_35 ?_
            refine pv_ HT_.out 27 84 m28_35 ?_
            refine pv_ HT_.out 28 85 m29_35 ?_
            refine pv_ HT_.out 29 86 m30_35 ?_
            refine pv_ HT_.out 30 87 m31_35 ?_
            refine pv_ HT_.out 31 88 m32_35 ?_
            refine pv_ HT_.out 32 89 m33_35 ?_
            refine pv_ HT_.out 33 90 m34_35 ?_
            refine pq_ HT_.out 34 91 m35_35 ?_
            refine done_ (done_of HT_.out (by kernel_rfl)) ?_
            try go_wp2
            go_meet
            case rel => exact ⟨_, (true), (by first | rfl | (simp; done) | (simp [*]; done)), H', ⟨by have := HK1.out; have := HK2.out; first | omega | exact Nat.le_refl _⟩, ⟨bk BK325.out⟩, ⟨bk BK335.out⟩, ⟨by repeat with_reducible first | exact bl HB.out | refine below_set ?_ GE325.out | refine below_set ?_ GE335.out | refine bq ?_⟩⟩
          ·
           replace c39 := Bool.eq_false_iff.mpr c39
           subst c39
           have H1 : (impl_FleetOk.j3 k2 l0_2 (l0_2.length : Int) x52_2 true l0_0 l0_1 l0_2 a0_3 a0_4 a0_5) = some r := by rw [if_neg (show ¬ (false = true) by decide)] at H; exact H
           clear H
           have H := H1
           clear H1
           have H' := Aside0.mk H
           clear H
           try go_wp2
           have n0_ : Aside0 ((((w35.setCell ⟨gb335, 0, none⟩ (.string ((rd_T72 l0_2 x52_2).f0))).setCell ⟨gb335, 1, none⟩ (.int .i64 ((rd_T72 l0_2 x52_2).f1))).setCell ⟨gb335, 2, none⟩ (.int .i64 ((rd_T72 l0_2 x52_2).f2))).heap[gb325]? = some (.cells #[.slice A0_0 l0_0.length c0_0, .slice A0_1 l0_1.length c0_1, .slice (some ad334) l0_2.length c0_2, .int .i64 a0_3, .int .i64 a0_4, .int .i64 a0_5] 56 (0, 0))) := ⟨by (repeat refine bk1 ?_); refine blk_far ?_ NB325_335.out _; (repeat refine bk1 ?_); refine blk_far ?_ NB325_335.out _; (repeat refine bk1 ?_); refine blk_far ?_ NB325_335.out _; (repeat refine bk1 ?_); exact BK325.out⟩
           have n1_ : Aside0 ((((w35.setCell ⟨gb335, 0, none⟩ (.string ((rd_T72 l0_2 x52_2).f0))).setCell ⟨gb335, 1, none⟩ (.int .i64 ((rd_T72 l0_2 x52_2).f1))).setCell ⟨gb335, 2, none⟩ (.int .i64 ((rd_T72 l0_2 x52_2).f2))).heap[gb335]? = some (.cells #[.string ((rd_T72 l0_2 x52_2).f0), .int .i64 ((rd_T72 l0_2 x52_2).f1), .int .i64 ((rd_T72 l0_2 x52_2).f2)] 72 (0, 0))) := ⟨by (repeat refine bk1 ?_); refine blk_put (cs := #[.string ((rd_T72 l0_2 x52_2).f0), .int .i64 ((rd_T72 l0_2 x52_2).f1), .int .i64 0]) ?_ 2 _ rfl; (repeat refine bk1 ?_); refine blk_put (cs := #[.string ((rd_T72 l0_2 x52_2).f0), .int .i64 0, .int .i64 0]) ?_ 1 _ rfl; (repeat refine bk1 ?_); refine blk_put (cs := #[.string (⟨#[]⟩ : ByteArray), .int .i64 0, .int .i64 0]) ?_ 0 _ rfl; (repeat refine bk1 ?_); exact BK335.out⟩
           have n2_ : Aside0 (Below w.heap.size w (((w35.setCell ⟨gb335, 0, none⟩ (.string ((rd_T72 l0_2 x52_2).f0))).setCell ⟨gb335, 1, none⟩ (.int .i64 ((rd_T72 l0_2 x52_2).f1))).setCell ⟨gb335, 2, none⟩ (.int .i64 ((rd_T72 l0_2 x52_2).f2)))) := ⟨by repeat with_reducible first | exact bl HB.out | refine below_set ?_ GE325.out | refine below_set ?_ GE335.out | refine bq ?_⟩
           (try clear BK325)
           (try clear BK335)
           (try clear HB)
           generalize (((w35.setCell ⟨gb335, 0, none⟩ (.string ((rd_T72 l0_2 x52_2).f0))).setCell ⟨gb335, 1, none⟩ (.int .i64 ((rd_T72 l0_2 x52_2).f1))).setCell ⟨gb335, 2, none⟩ (.int .i64 ((rd_T72 l0_2 x52_2).f2))) = w56 at n0_ n1_ n2_ ⊢
           have BK325 := n0_
           have BK335 := n1_
           have HB := n2_
           clear n0_ n1_ n2_
           have n0_ := Aside0.mk (blk_drew BK325.out)
           have n1_ := Aside0.mk (blk_drew BK335.out)
           have n2_ := Aside0.mk (below_drew1 HB.out)
           clear BK325
           clear BK335
           clear HB
           have BK325 := n0_
           have BK335 := n1_
           have HB := n2_
           clear n0_ n1_ n2_
           refine start_ (n := 35) (S := fun w' => w'.cell? ⟨gb335, 0, none⟩ = some (.string ((rd_T72 l0_2 x52_2).f0)) ∧ w'.cell? ⟨gb335, 1, none⟩ = some (.int .i64 ((rd_T72 l0_2 x52_2).f1)) ∧ w'.cell? ⟨gb335, 2, none⟩ = some (.int .i64 ((rd_T72 l0_2 x52_2).f2))) (ds := []) m0_35 (by kernel_rfl) rfl rfl ⟨ck BK335.out 0 rfl, ck BK335.out 1 rfl, ck BK335.out 2 rfl⟩ (fun hHeld => ?_); refine with_tabW impl_FleetOk.tab11 impl_FleetOk.bits11 (fun HT_ HW_ => ?_)
           generalize w56.drew = w57 at BK325 BK335 HB hHeld ⊢
           refine pq_ HT_.out 0 57 m1_35 ?_
           refine tk_ HT_.out HW_.out 1 58 m2_35 rfl rfl (by kernel_rfl) (by rfl) (by rintro w' ⟨s0, s1, s2⟩; go_simp; with_reducible rfl) hHeld (by simp only [sp_]; rfl) (fun _ _ _ h => h) ?_
           refine one_ (i := 2) (N := some 59) m3_35 rfl rfl (one_of HT_.out (by kernel_rfl)) (by decide) (fun K hK => ?_)
           refine goes_ Try.func51 (by kernel_rfl) rfl #[.string ((rd_T72 l0_2 x52_2).f0)] (by rfl) rfl rfl (by (try simp only [am_]); first | done | rfl) ?_
           with_reducible refine (impl_isName.calls k2 ((rd_T72 l0_2 x52_2).f0) false _ A38.out).mono ?_
           rintro e w' ⟨rfl, ⟨nd, rfl⟩⟩
           refine ⟨_, rfl, ?_⟩
           refine hK.out _ _ ⟨ck BK335.out 0 rfl, ck BK335.out 1 rfl, ck BK335.out 2 rfl⟩ (fun hHeld => ?_)
           clear hK K
           refine norm_ (a' := ?_) ?_ ?_
           rotate_left
           ·
            show Act.put _ (some 59) _ = _
            simp only [sp_]
            rfl
           refine pq_ HT_.out 3 60 m4_35 ?_
           refine pq_ HT_.out 4 61 m5_35 ?_
           refine pv_ HT_.out 5 62 m6_35 ?_
           refine pv_ HT_.out 6 63 m7_35 ?_
           refine pv_ HT_.out 7 64 m8_35 ?_
           refine pv_ HT_.out 8 65 m9_35 ?_
           refine pq_ HT_.out 9 66 m10_35 ?_
           refine pq_ HT_.out 10 67 m11_35 ?_
           refine pv_ HT_.out 11 68 m12_35 ?_
           refine pv_ HT_.out 12 69 m13_35 ?_
           refine pv_ HT_.out 13 70 m14_35 ?_
           refine pv_ HT_.out 14 71 m15_35 ?_
           refine pv_ HT_.out 15 72 m16_35 ?_
           refine pv_ HT_.out 16 73 m17_35 ?_
           refine pv_ HT_.out 17 74 m18_35 ?_
           refine pq_ HT_.out 18 75 m19_35 ?_
           refine pq_ HT_.out 19 76 m20_35 ?_
           refine pv_ HT_.out 20 77 m21_35 ?_
           refine pv_ HT_.out 21 78 m22_35 ?_
           refine pv_ HT_.out 22 79 m23_35 ?_
           refine pv_ HT_.out 23 80 m24_35 ?_
           refine pv_ HT_.out 24 81 m25_35 ?_
           refine pv_ HT_.out 25 82 m26_35 ?_
           refine pv_ HT_.out 26 83 m27_35 ?_
           refine pv_ HT_.out 27 84 m28_35 ?_
           refine pv_ HT_.out 28 85 m29_35 ?_
           refine pv_ HT_.out 29 86 m30_35 ?_
           refine pv_ HT_.out 30 87 m31_35 ?_
           refine pv_ HT_.out 31 88 m32_35 ?_
           refine pv_ HT_.out 32 89 m33_35 ?_
           refine pv_ HT_.out 33 90 m34_35 ?_
           refine pq_ HT_.out 34 91 m35_35 ?_
           refine done_ (done_of HT_.out (by kernel_rfl)) ?_
           try go_wp2
           go_meet
           case rel => exact ⟨_, (true), (by first | rfl | (simp; done) | (simp [*]; done)), H', ⟨by have := HK1.out; have := HK2.out; first | omega | exact Nat.le_refl _⟩, ⟨bk BK325.out⟩, ⟨bk BK335.out⟩, ⟨by repeat with_reducible first | exact bl HB.out | refine below_set ?_ GE325.out | refine below_set ?_ GE335.out | refine bq ?_⟩⟩
         case rest =>
          clear HC34
          try clear p2
          try clear c3
          try clear c4
          try clear c5
          try clear c39
          try clear c41
          try clear c51
          try clear c55
          obtain ⟨kq, x91_33, rfl, HA, HJ33, BK325, BK335, HB⟩ := hcut
          cases kq with
          | zero => exact absurd HA.out (by simp [impl_FleetOk.j3])
          | succ kj33 =>
           have H := HA.out
           clear HA
           simp only [impl_FleetOk.j3] at H
           by_cases c58 : x91_33 = true
           ·
            subst c58
            have H1 : (some false) = some r := by rw [if_pos rfl] at H; exact H
            clear H
            have H := H1
            clear H1
            obtain rfl := Option.some.inj H
            go_wp2
            go_ret
            exact ⟨by first | rfl | (simp [errW_none, errW_some] <;> rfl) | (simp [*, errW_none, errW_some] <;> rfl), by repeat with_reducible first | exact bl HB.out | refine below_set ?_ GE325.out | refine below_set ?_ GE335.out | refine bq ?_⟩
           ·
            replace c58 := Bool.eq_false_iff.mpr c58
            subst c58
            have H1 : (impl_FleetOk.l1 kj33 l0_2 (l0_2.length : Int) (wrap64 (x52_2 + 1)) l0_0 l0_1 l0_2 a0_3 a0_4 a0_5) = some r := by rw [if_neg (show ¬ (false = true) by decide)] at H; exact H
            clear H
            have H := H1
            clear H1
            have H' := Aside0.mk H
            clear H
            go_wp2
            go_roundg kj33
            case measure => have := HK1.out; have := HK2.out; have := HJ33.out; omega
            case rel => exact ⟨(wrap64 (x52_2 + 1)), (by first | rfl | (simp; done) | (simp [*]; done)), H', ⟨by have := HK1.out; have := HK2.out; have := HJ33.out; omega⟩, ⟨bk BK325.out⟩, ⟨by repeat with_reducible first | exact bl HB.out | refine below_set ?_ GE325.out | refine below_set ?_ GE335.out | refine bq ?_⟩⟩
        ·
         rw [if_neg c33] at H
         exact absurd H (by simp)
       ·
        rw [if_neg c32] at H
        exact absurd H (by simp)
      ·
       rw [if_neg c31] at H
       have c31b0 : decide (x52_2 < (l0_2.length : Int)) = false := decide_eq_false c31
       clear c31
       by_cases c59 : (l0_0.length : Int) ≤ 40
       ·
        rw [if_pos c59] at H
        have c59b0 : decide ((l0_0.length : Int) ≤ 40) = true := decide_eq_true c59
        have c59b1 : decide (l0_0.length ≤ 40) = true := decide_eq_true (by omega)
        clear c59
        by_cases c60 : (l0_2.length : Int) ≤ 20
        ·
         rw [if_pos c60] at H
         have c60b0 : decide ((l0_2.length : Int) ≤ 20) = true := decide_eq_true c60
         have c60b1 : decide (l0_2.length ≤ 20) = true := decide_eq_true (by omega)
         clear c60
         replace H := Option.bind_eq_some_iff.mp H
         obtain ⟨t340, A610, H⟩ := H
         replace H : (if t340 = true then ((impl_ClockOk.f k2 a0_3 a0_4 a0_5).bind fun t341 => (some t341)) else (some false)) = some r := H
         have A61 := Aside0.mk A610
         clear A610
         by_cases c62 : t340 = true
         ·
          subst c62
          have H1 : ((impl_ClockOk.f k2 a0_3 a0_4 a0_5).bind fun t341 => (some t341)) = some r := by rw [if_pos rfl] at H; exact H
          clear H
          have H := H1
          clear H1
          replace H := Option.bind_eq_some_iff.mp H
          obtain ⟨t341, A630, H⟩ := H
          replace H : (some t341) = some r := H
          have A63 := Aside0.mk A630
          clear A630
          obtain rfl := Option.some.inj H
          obtain ⟨hcz64_0, hcz64_1, hcz64_2, hcz64_3, hcz64_4, hcz64_5⟩ := ck6 BK325.out
          obtain ⟨hfz64_0, hfz64_1, hfz64_2, hfz64_3, hfz64_4, hfz64_5⟩ := fz6 BK325.out
          go_wp2_with (first | (go_at_call 23; (with_reducible refine (impl_CarryOk.calls k2 _ _ l0_1 true _ ?side1 ?side2 A61.out).mono ?_); (case side1 => exact rc (Kd.C_below HR0_1.out HB.out)); (case side2 => exact HC0_1.out); rintro e w65 ⟨rfl, hb⟩; replace BK325 := Aside0.mk (blk_below (bk BK325.out) hb); replace HB := Aside0.mk (below_step (by repeat with_reducible first | exact bl HB.out | refine below_set ?_ GE325.out | refine bq ?_) hb); (try clear hb); (try clear hb2); (try clear hk); (try clear hi); obtain ⟨hcz66_0, hcz66_1, hcz66_2, hcz66_3, hcz66_4, hcz66_5⟩ := ck6 BK325.out; obtain ⟨hfz66_0, hfz66_1, hfz66_2, hfz66_3, hfz66_4, hfz66_5⟩ := fz6 BK325.out) | (go_at_call 15; (with_reducible refine (impl_ClockOk.calls k2 a0_3 a0_4 a0_5 t341 _ A63.out).mono ?_); rintro e w67 ⟨rfl, hb⟩; replace BK325 := Aside0.mk (blk_below (bk BK325.out) hb); replace HB := Aside0.mk (below_step (by repeat with_reducible first | exact bl HB.out | refine below_set ?_ GE325.out | refine bq ?_) hb); (try clear hb); (try clear hb2); (try clear hk); (try clear hi)))
          go_ret
          exact ⟨by first | rfl | (simp [errW_none, errW_some] <;> rfl) | (simp [*, errW_none, errW_some] <;> rfl), by repeat with_reducible first | exact bl HB.out | refine below_set ?_ GE325.out | refine bq ?_⟩
         ·
          replace c62 := Bool.eq_false_iff.mpr c62
          subst c62
          have H1 : (some false) = some r := by rw [if_neg (show ¬ (false = true) by decide)] at H; exact H
          clear H
          have H := H1
          clear H1
          obtain rfl := Option.some.inj H
          obtain ⟨hcz68_0, hcz68_1, hcz68_2, hcz68_3, hcz68_4, hcz68_5⟩ := ck6 BK325.out
          obtain ⟨hfz68_0, hfz68_1, hfz68_2, hfz68_3, hfz68_4, hfz68_5⟩ := fz6 BK325.out
          go_wp2_with (first | (go_at_call 23; (with_reducible refine (impl_CarryOk.calls k2 _ _ l0_1 false _ ?side1 ?side2 A61.out).mono ?_); (case side1 => exact rc (Kd.C_below HR0_1.out HB.out)); (case side2 => exact HC0_1.out); rintro e w69 ⟨rfl, hb⟩; replace BK325 := Aside0.mk (blk_below (bk BK325.out) hb); replace HB := Aside0.mk (below_step (by repeat with_reducible first | exact bl HB.out | refine below_set ?_ GE325.out | refine bq ?_) hb); (try clear hb); (try clear hb2); (try clear hk); (try clear hi)))
          go_ret
          exact ⟨by first | rfl | (simp [errW_none, errW_some] <;> rfl) | (simp [*, errW_none, errW_some] <;> rfl), by repeat with_reducible first | exact bl HB.out | refine below_set ?_ GE325.out | refine bq ?_⟩
        ·
         rw [if_neg c60] at H
         have c60b0 : decide ((l0_2.length : Int) ≤ 20) = false := decide_eq_false c60
         have c60b1 : decide (l0_2.length ≤ 20) = false := decide_eq_false (by omega)
         clear c60
         obtain rfl := Option.some.inj H
         obtain ⟨hcz70_0, hcz70_1, hcz70_2, hcz70_3, hcz70_4, hcz70_5⟩ := ck6 BK325.out
         obtain ⟨hfz70_0, hfz70_1, hfz70_2, hfz70_3, hfz70_4, hfz70_5⟩ := fz6 BK325.out
         go_wp2
         go_ret
         exact ⟨by first | rfl | (simp [errW_none, errW_some] <;> rfl) | (simp [*, errW_none, errW_some] <;> rfl), by repeat with_reducible first | exact bl HB.out | refine below_set ?_ GE325.out | refine bq ?_⟩
       ·
        rw [if_neg c59] at H
        have c59b0 : decide ((l0_0.length : Int) ≤ 40) = false := decide_eq_false c59
        have c59b1 : decide (l0_0.length ≤ 40) = false := decide_eq_false (by omega)
        clear c59
        obtain rfl := Option.some.inj H
        obtain ⟨hcz71_0, hcz71_1, hcz71_2, hcz71_3, hcz71_4, hcz71_5⟩ := ck6 BK325.out
        obtain ⟨hfz71_0, hfz71_1, hfz71_2, hfz71_3, hfz71_4, hfz71_5⟩ := fz6 BK325.out
        go_wp2
        go_ret
        exact ⟨by first | rfl | (simp [errW_none, errW_some] <;> rfl) | (simp [*, errW_none, errW_some] <;> rfl), by repeat with_reducible first | exact bl HB.out | refine below_set ?_ GE325.out | refine bq ?_⟩

end Go.Proofs.Ytbgdibbgngpggaa.PFnExactNextDue
