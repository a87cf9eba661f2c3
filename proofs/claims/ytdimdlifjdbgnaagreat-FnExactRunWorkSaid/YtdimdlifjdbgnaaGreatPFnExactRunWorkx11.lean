import Derived.Test.YtdimdlifjdbgnaaGreatPFnExactRunWorkx10
namespace Go.Proofs.YtdimdlifjdbgnaaGreat.PFnExactRunWork
open Go.RowKit Go.Proofs.YtdimdlifjdbgnaaGreatW.PrintWords Go.Proofs.YtdimdlifjdbgnaaGreatW.PrintLast Go.Proofs.YtdimdlifjdbgnaaGreatW.PrintMore Go.Proofs.YtdimdlifjdbgnaaGreat.Sq
attribute [local go_sem] max2_int min2_int max_two min_two max_three min_three max_four min_four
set_option linter.unusedVariables false
set_option linter.unusedSimpArgs false

/-! ### impl_Due19: function 87 -/
mutual
def impl_Due19.j0 : Nat → List Int → Bool → ByteArray → Int → Int → Int → Int → Int → Int → Option (Bool × Int × Int × Int × Bool)
 | 0, _, _, _, _, _, _, _, _, _ => none
 | k + 1, x7, x30, x299000, x299001, x299002, x299003, x299004, x299005, x299006 => if x30 = true then (some (false, 0, 0, 0, false)) else ((impl_Task_numbers.f x299000 x299001 x299002 x299003 x299004 x299005 x299006).bind fun t310 => (impl_Due19.l0 k x7 (([] : List Int)) t310 (t310.length : Int) 0 x299000 x299001 x299002 x299003 x299004 x299005 x299006))
def impl_Due19.l0 : Nat → List Int → List Int → List Int → Int → Int → ByteArray → Int → Int → Int → Int → Int → Int → Option (Bool × Int × Int × Int × Bool)
 | 0, _, _, _, _, _, _, _, _, _, _, _, _ => none
 | k + 1, x7, x9, x34, x35, x36, x299000, x299001, x299002, x299003, x299004, x299005, x299006 => if x36 < x35 then (if 0 ≤ x36 then (if x36 < (x34.length : Int) then (if x36 < (x7.length : Int) then (if x9.length < 17592186044416 then (impl_Due19.l0 k x7 (x9 ++ [mx (wrap64 ((rd x34 x36) - (rd x7 x36))) 0]) x34 x35 (wrap64 (x36 + 1)) x299000 x299001 x299002 x299003 x299004 x299005 x299006) else (none)) else (none)) else (none)) else (none)) else ((impl_Task_numbers.f x299000 x299001 x299002 x299003 x299004 x299005 x299006).bind fun t318 => ((impl_isDue.f k t318 x7).bind fun t321 => (if 0 < (x9.length : Int) then (if 1 < (x9.length : Int) then (if 2 < (x9.length : Int) then (some (t321, rd x9 0, rd x9 1, rd x9 2, true)) else (none)) else (none)) else (none))))
end
def impl_Due19.f (k : Nat) (a0_0 : ByteArray) (a0_1 : Int) (a0_2 : Int) (a0_3 : Int) (a0_4 : Int) (a0_5 : Int) (a0_6 : Int) (a1_0 : Int) (a1_1 : Int) (a1_2 : Int) : Option (Bool × Int × Int × Int × Bool) := (impl_passed.f k a0_4 a0_5 a0_6 a1_0 a1_1 a1_2).bind fun bt301 => ((impl_TaskOk.f k a0_0 a0_1 a0_2 a0_3 a0_4 a0_5 a0_6).bind fun t305 => (if t305 = true then ((impl_ClockOk.f k a1_0 a1_1 a1_2).bind fun t306 => (if t306 = true then (impl_Due19.j0 k bt301.1 (!bt301.2) a0_0 a0_1 a0_2 a0_3 a0_4 a0_5 a0_6) else (impl_Due19.j0 k bt301.1 true a0_0 a0_1 a0_2 a0_3 a0_4 a0_5 a0_6))) else (impl_Due19.j0 k bt301.1 true a0_0 a0_1 a0_2 a0_3 a0_4 a0_5 a0_6)))
def impl_Due19.T10 : Bool × List (List Nat × List Nat) := (true, [([], []), ([0], [0]), ([], []), ([1, 2, 1], [1, 2]), ([], []), ([4], [4]), ([5], [5]), ([], []), ([7], [7]), ([8], [8]), ([], []), ([10], [10]), ([11], [11]), ([6, 9, 12], [6, 9, 12]), ([3, 3, 0, 1, 2, 3], [3]), ([13, 14, 0, 1, 2, 3, 4, 5, 6, 7, 8, 9, 10, 11, 12, 13, 14], [13]), ([15, 0, 1, 2, 3, 4, 5, 6, 7, 8, 9, 10, 11, 12, 13, 14, 15], [])])
def impl_Due19.B10 : List Nat := [0, 1, 0, 7, 0, 16, 48, 0, 128, 384, 0, 1024, 3072, 8176, 15, 32767, 65535]
theorem impl_Due19.tab10 : rtab .any (opsOf Tryz.f87 10) = impl_Due19.T10 := by kernel_rfl
theorem impl_Due19.bits10 : waitsOk impl_Due19.T10.2 impl_Due19.B10 = true := by kernel_rfl
set_option maxHeartbeats 8000000 in
set_option maxRecDepth 100000 in
theorem impl_Due19.calls (k : Nat) (a0_0 : ByteArray) (a0_1 : Int) (a0_2 : Int) (a0_3 : Int) (a0_4 : Int) (a0_5 : Int) (a0_6 : Int) (a1_0 : Int) (a1_1 : Int) (a1_2 : Int) (r1 : Bool) (r2 : Int) (r3 : Int) (r4 : Int) (r5 : Bool) (w : World) (h : impl_Due19.f k a0_0 a0_1 a0_2 a0_3 a0_4 a0_5 a0_6 a1_0 a1_1 a1_2 = some (r1, r2, r3, r4, r5)) :
  Calls Tryz.prog 87 #[.agg #[.string a0_0, .int .i64 a0_1, .int .i64 a0_2, .int .i64 a0_3, .int .i64 a0_4, .int .i64 a0_5, .int .i64 a0_6], .agg #[.int .i64 a1_0, .int .i64 a1_1, .int .i64 a1_2]] w fun e w' => e = .returned (.tuple #[.bool r1, .agg #[.int .i64 r2, .int .i64 r3, .int .i64 r4], .bool r5]) ∧ Below w.heap.size w w' := by
 have hu86 := Tryz.underlying86
 have hu35 := Tryz.underlying35
 have HB := Aside0.mk (Below.refl w.heap.size w)
 have H : ((impl_passed.f k a0_4 a0_5 a0_6 a1_0 a1_1 a1_2).bind fun bt301 => ((impl_TaskOk.f k a0_0 a0_1 a0_2 a0_3 a0_4 a0_5 a0_6).bind fun t305 => (if t305 = true then ((impl_ClockOk.f k a1_0 a1_1 a1_2).bind fun t306 => (if t306 = true then (impl_Due19.j0 k bt301.1 (!bt301.2) a0_0 a0_1 a0_2 a0_3 a0_4 a0_5 a0_6) else (impl_Due19.j0 k bt301.1 true a0_0 a0_1 a0_2 a0_3 a0_4 a0_5 a0_6))) else (impl_Due19.j0 k bt301.1 true a0_0 a0_1 a0_2 a0_3 a0_4 a0_5 a0_6)))) = some (r1, r2, r3, r4, r5) := h
 clear h
 replace H := Option.bind_eq_some_iff.mp H
 obtain ⟨⟨t301, t304⟩, A30, H⟩ := H
 replace H : ((impl_TaskOk.f k a0_0 a0_1 a0_2 a0_3 a0_4 a0_5 a0_6).bind fun t305 => (if t305 = true then ((impl_ClockOk.f k a1_0 a1_1 a1_2).bind fun t306 => (if t306 = true then (impl_Due19.j0 k t301 (!t304) a0_0 a0_1 a0_2 a0_3 a0_4 a0_5 a0_6) else (impl_Due19.j0 k t301 true a0_0 a0_1 a0_2 a0_3 a0_4 a0_5 a0_6))) else (impl_Due19.j0 k t301 true a0_0 a0_1 a0_2 a0_3 a0_4 a0_5 a0_6))) = some (r1, r2, r3, r4, r5) := H
 have A3 := Aside0.mk A30
 clear A30
 have HC4 := Aside0.mk H
 clear H
 go_enter Tryz.func87, Tryz.ntmps87
 go_upto_region 2 with (first | ((with_reducible refine gate_dst (N := 2) rfl ?_); refine box_event ?hg (N := 2) ?hd (cs := #[.string a0_0, .int .i64 a0_1, .int .i64 a0_2, .int .i64 a0_3, .int .i64 a0_4, .int .i64 a0_5, .int .i64 a0_6]) (t := 86) ?hr ?_; (case hd => rfl); (case hg => rfl); (case hr => first | (go_simp; done) | (go_simp; rfl)); intro gb298 hg w5 hbox hb; have BK298 := Aside0.mk (hbox); have GW298 := Aside0.mk ((by rw [hg]; exact (below_size (bl HB.out)) : w.heap.size ≤ gb298)); have GE298 := GW298; replace HB := Aside0.mk (below_step (bl HB.out) hb); clear hb hbox hg) | ((with_reducible refine gate_dst (N := 3) rfl ?_); refine box_event ?hg (N := 3) ?hd (cs := #[.int .i64 a1_0, .int .i64 a1_1, .int .i64 a1_2]) (t := 35) ?hr ?_; (case hd => rfl); (case hg => rfl); (case hr => first | (go_simp; done) | (go_simp; rfl)); intro gb299 hg w6 hbox hb; have BK299 := Aside0.mk (hbox); have GW299 := Aside0.mk ((by rw [hg]; exact (below_size (by repeat with_reducible first | exact bl HB.out | refine below_set ?_ GE298.out | refine bq ?_)) : w.heap.size ≤ gb299)); have GE299 := GW299; replace HB := Aside0.mk (below_step (by repeat with_reducible first | exact bl HB.out | refine below_set ?_ GE298.out | refine bq ?_) hb); have NB298_299 := nb_ hg BK298.out; have NB299_298 := Aside0.mk NB298_299.out.symm; replace BK298 := Aside0.mk (blk_below (bk BK298.out) hb); clear hb hbox hg) | ((with_reducible refine gate_dst (N := 5) rfl ?_); refine box_event ?hg (N := 5) ?hd (cs := #[.int .i64 0, .int .i64 0, .int .i64 0]) (t := 35) ?hr ?_; (case hd => rfl); (case hg => rfl); (case hr => first | (go_simp; done) | (go_simp; rfl)); intro gb300 hg w7 hbox hb; have BK300 := Aside0.mk (hbox); have GW300 := Aside0.mk ((by rw [hg]; exact (below_size (by repeat with_reducible first | exact bl HB.out | refine below_set ?_ GE298.out | refine below_set ?_ GE299.out | refine bq ?_)) : w.heap.size ≤ gb300)); have GE300 := GW300; replace HB := Aside0.mk (below_step (by repeat with_reducible first | exact bl HB.out | refine below_set ?_ GE298.out | refine below_set ?_ GE299.out | refine bq ?_) hb); have NB298_300 := nb_ hg BK298.out; have NB300_298 := Aside0.mk NB298_300.out.symm; replace BK298 := Aside0.mk (blk_below (bk BK298.out) hb); have NB299_300 := nb_ hg BK299.out; have NB300_299 := Aside0.mk NB299_300.out.symm; replace BK299 := Aside0.mk (blk_below (bk BK299.out) hb); clear hb hbox hg; have hnb8 := NB298_299.out; have hnc8 := NB299_298.out; have hnb9 := NB298_300.out; have hnc9 := NB300_298.out; obtain ⟨hcz10_0, hcz10_1, hcz10_2, hcz10_3, hcz10_4, hcz10_5, hcz10_6⟩ := ck7 BK298.out; obtain ⟨hfz10_0, hfz10_1, hfz10_2, hfz10_3, hfz10_4, hfz10_5, hfz10_6⟩ := fz7 BK298.out; have hnb11 := NB299_300.out; have hnc11 := NB300_299.out; obtain ⟨hcz12_0, hcz12_1, hcz12_2⟩ := ck3 BK299.out; obtain ⟨hfz12_0, hfz12_1, hfz12_2⟩ := fz3 BK299.out) | ((with_reducible refine gate_callee (f := 67) rfl ?_); refine goesL_ (some 16) rfl rfl Tryz.func67 (by kernel_rfl) rfl #[.agg #[.int .i64 a0_4, .int .i64 a0_5, .int .i64 a0_6], .agg #[.int .i64 a1_0, .int .i64 a1_1, .int .i64 a1_2]] rfl (by (try simp only [am_]); first | done | rfl) ?_; (with_reducible refine (impl_passed.calls k a0_4 a0_5 a0_6 a1_0 a1_1 a1_2 t301 t304 _ A3.out).mono ?_); rintro e w13 ⟨v302, rfl, ho0, hb⟩; refine ⟨_, rfl, ?_⟩; have HO303 := Aside0.mk (Kd.R_lower ho0 (below_size (by repeat with_reducible first | exact bl HB.out | refine below_set ?_ GE298.out | refine below_set ?_ GE299.out | refine below_set ?_ GE300.out | refine bq ?_))); replace BK298 := Aside0.mk (blk_below (bk BK298.out) hb); replace BK299 := Aside0.mk (blk_below (bk BK299.out) hb); replace BK300 := Aside0.mk (blk_below (bk BK300.out) hb); replace HB := Aside0.mk (below_step (by repeat with_reducible first | exact bl HB.out | refine below_set ?_ GE298.out | refine below_set ?_ GE299.out | refine below_set ?_ GE300.out | refine bq ?_) hb); (try clear hb); (try clear hb2); (try clear hk); (try clear hi); (try clear ho0)))
 (try simp only [Act.put, List.setIfInBounds_toArray, List.set_cons_zero, List.set_cons_succ])
 go_cut [30] (fun v30 wc => ∃ (kq : Nat) (x30_3 : Bool), v30 = .bool x30_3 ∧ Aside0 (impl_Due19.j0 kq t301 x30_3 a0_0 a0_1 a0_2 a0_3 a0_4 a0_5 a0_6 = some (r1, r2, r3, r4, r5)) ∧ Aside0 (kq ≤ k) ∧ Aside0 (Kd.R (Kd.int .i64) 3 wc w.heap.size (fun _ => True) v302 t301) ∧ Aside0 (wc.heap[gb298]? = some (.cells #[.string a0_0, .int .i64 a0_1, .int .i64 a0_2, .int .i64 a0_3, .int .i64 a0_4, .int .i64 a0_5, .int .i64 a0_6] 86 (0, 0))) ∧ Aside0 (wc.heap[gb299]? = some (.cells #[.int .i64 a1_0, .int .i64 a1_1, .int .i64 a1_2] 35 (0, 0))) ∧ Aside0 (wc.heap[gb300]? = some (.cells #[.int .i64 0, .int .i64 0, .int .i64 0] 35 (0, 0))) ∧ Aside0 (Below w.heap.size w wc))
 case first =>
  have H := HC4.out
  clear HC4
  replace H := Option.bind_eq_some_iff.mp H
  obtain ⟨t305, A140, H⟩ := H
  replace H : (if t305 = true then ((impl_ClockOk.f k a1_0 a1_1 a1_2).bind fun t306 => (if t306 = true then (impl_Due19.j0 k t301 (!t304) a0_0 a0_1 a0_2 a0_3 a0_4 a0_5 a0_6) else (impl_Due19.j0 k t301 true a0_0 a0_1 a0_2 a0_3 a0_4 a0_5 a0_6))) else (impl_Due19.j0 k t301 true a0_0 a0_1 a0_2 a0_3 a0_4 a0_5 a0_6)) = some (r1, r2, r3, r4, r5) := H
  have A14 := Aside0.mk A140
  clear A140
  by_cases c15 : t305 = true
  ·
   subst c15
   have H1 : ((impl_ClockOk.f k a1_0 a1_1 a1_2).bind fun t306 => (if t306 = true then (impl_Due19.j0 k t301 (!t304) a0_0 a0_1 a0_2 a0_3 a0_4 a0_5 a0_6) else (impl_Due19.j0 k t301 true a0_0 a0_1 a0_2 a0_3 a0_4 a0_5 a0_6))) = some (r1, r2, r3, r4, r5) := by rw [if_pos rfl] at H; exact H
   clear H
   have H := H1
   clear H1
   replace H := Option.bind_eq_some_iff.mp H
   obtain ⟨t306, A160, H⟩ := H
   replace H : (if t306 = true then (impl_Due19.j0 k t301 (!t304) a0_0 a0_1 a0_2 a0_3 a0_4 a0_5 a0_6) else (impl_Due19.j0 k t301 true a0_0 a0_1 a0_2 a0_3 a0_4 a0_5 a0_6)) = some (r1, r2, r3, r4, r5) := H
   have A16 := Aside0.mk A160
   clear A160
   by_cases c17 : t306 = true
   ·
    subst c17
    have H1 : (impl_Due19.j0 k t301 (!t304) a0_0 a0_1 a0_2 a0_3 a0_4 a0_5 a0_6) = some (r1, r2, r3, r4, r5) := by rw [if_pos rfl] at H; exact H
    clear H
    have H := H1
    clear H1
    have H' := Aside0.mk H
    clear H
    have hnb18 := NB298_299.out
    have hnc18 := NB299_298.out
    have hnb19 := NB298_300.out
    have hnc19 := NB300_298.out
    obtain ⟨hcz20_0, hcz20_1, hcz20_2, hcz20_3, hcz20_4, hcz20_5, hcz20_6⟩ := ck7 BK298.out
    obtain ⟨hfz20_0, hfz20_1, hfz20_2, hfz20_3, hfz20_4, hfz20_5, hfz20_6⟩ := fz7 BK298.out
    go_wp2_with (first | ((with_reducible refine gate_callee (f := 68) rfl ?_); refine goesL_ (some 20) rfl rfl Tryz.func68 (by kernel_rfl) rfl #[.agg #[.string a0_0, .int .i64 a0_1, .int .i64 a0_2, .int .i64 a0_3, .int .i64 a0_4, .int .i64 a0_5, .int .i64 a0_6]] rfl (by (try simp only [am_]); first | done | rfl) ?_; (with_reducible refine (impl_TaskOk.calls k a0_0 a0_1 a0_2 a0_3 a0_4 a0_5 a0_6 true _ A14.out).mono ?_); rintro e w21 ⟨rfl, hb⟩; refine ⟨_, rfl, ?_⟩; replace HO303 := Aside0.mk (Kd.R_below (rl HO303.out) hb); replace BK298 := Aside0.mk (blk_below (bk BK298.out) hb); replace BK299 := Aside0.mk (blk_below (bk BK299.out) hb); replace BK300 := Aside0.mk (blk_below (bk BK300.out) hb); replace HB := Aside0.mk (below_step (by repeat with_reducible first | exact bl HB.out | refine below_set ?_ GE298.out | refine below_set ?_ GE299.out | refine below_set ?_ GE300.out | refine bq ?_) hb); (try clear hb); (try clear hb2); (try clear hk); (try clear hi); have hnb22 := NB299_300.out; have hnc22 := NB300_299.out; obtain ⟨hcz23_0, hcz23_1, hcz23_2⟩ := ck3 BK299.out; obtain ⟨hfz23_0, hfz23_1, hfz23_2⟩ := fz3 BK299.out) | (go_at_call 56; (with_reducible refine (impl_ClockOk.calls k a1_0 a1_1 a1_2 true _ A16.out).mono ?_); rintro e w24 ⟨rfl, hb⟩; replace HO303 := Aside0.mk (Kd.R_below (rl HO303.out) hb); replace BK298 := Aside0.mk (blk_below (bk BK298.out) hb); replace BK299 := Aside0.mk (blk_below (bk BK299.out) hb); replace BK300 := Aside0.mk (blk_below (bk BK300.out) hb); replace HB := Aside0.mk (below_step (by repeat with_reducible first | exact bl HB.out | refine below_set ?_ GE298.out | refine below_set ?_ GE299.out | refine below_set ?_ GE300.out | refine bq ?_) hb); (try clear hb); (try clear hb2); (try clear hk); (try clear hi)))
    go_meet
    case rel => exact ⟨_, (!t304), (by first | rfl | (simp; done) | (simp [*]; done)), H', ⟨by first | omega | exact Nat.le_refl _⟩, ⟨rl HO303.out⟩, ⟨bk BK298.out⟩, ⟨bk BK299.out⟩, ⟨bk BK300.out⟩, ⟨by repeat with_reducible first | exact bl HB.out | refine below_set ?_ GE298.out | refine below_set ?_ GE299.out | refine below_set ?_ GE300.out | refine bq ?_⟩⟩
   ·
    replace c17 := Bool.eq_false_iff.mpr c17
    subst c17
    have H1 : (impl_Due19.j0 k t301 true a0_0 a0_1 a0_2 a0_3 a0_4 a0_5 a0_6) = some (r1, r2, r3, r4, r5) := by rw [if_neg (show ¬ (false = true) by decide)] at H; exact H
    clear H
    have H := H1
    clear H1
    have H' := Aside0.mk H
    clear H
    have hnb25 := NB298_299.out
    have hnc25 := NB299_298.out
    have hnb26 := NB298_300.out
    have hnc26 := NB300_298.out
    obtain ⟨hcz27_0, hcz27_1, hcz27_2, hcz27_3, hcz27_4, hcz27_5, hcz27_6⟩ := ck7 BK298.out
    obtain ⟨hfz27_0, hfz27_1, hfz27_2, hfz27_3, hfz27_4, hfz27_5, hfz27_6⟩ := fz7 BK298.out
    go_wp2_with (first | ((with_reducible refine gate_callee (f := 68) rfl ?_); refine goesL_ (some 20) rfl rfl Tryz.func68 (by kernel_rfl) rfl #[.agg #[.string a0_0, .int .i64 a0_1, .int .i64 a0_2, .int .i64 a0_3, .int .i64 a0_4, .int .i64 a0_5, .int .i64 a0_6]] rfl (by (try simp only [am_]); first | done | rfl) ?_; (with_reducible refine (impl_TaskOk.calls k a0_0 a0_1 a0_2 a0_3 a0_4 a0_5 a0_6 true _ A14.out).mono ?_); rintro e w28 ⟨rfl, hb⟩; refine ⟨_, rfl, ?_⟩; replace HO303 := Aside0.mk (Kd.R_below (rl HO303.out) hb); replace BK298 := Aside0.mk (blk_below (bk BK298.out) hb); replace BK299 := Aside0.mk (blk_below (bk BK299.out) hb); replace BK300 := Aside0.mk (blk_below (bk BK300.out) hb); replace HB := Aside0.mk (below_step (by repeat with_reducible first | exact bl HB.out | refine below_set ?_ GE298.out | refine below_set ?_ GE299.out | refine below_set ?_ GE300.out | refine bq ?_) hb); (try clear hb); (try clear hb2); (try clear hk); (try clear hi); have hnb29 := NB299_300.out; have hnc29 := NB300_299.out; obtain ⟨hcz30_0, hcz30_1, hcz30_2⟩ := ck3 BK299.out; obtain ⟨hfz30_0, hfz30_1, hfz30_2⟩ := fz3 BK299.out) | (go_at_call 56; (with_reducible refine (impl_ClockOk.calls k a1_0 a1_1 a1_2 false _ A16.out).mono ?_); rintro e w31 ⟨rfl, hb⟩; replace HO303 := Aside0.mk (Kd.R_below (rl HO303.out) hb); replace BK298 := Aside0.mk (blk_below (bk BK298.out) hb); replace BK299 := Aside0.mk (blk_below (bk BK299.out) hb); replace BK300 := Aside0.mk (blk_below (bk BK300.out) hb); replace HB := Aside0.mk (below_step (by repeat with_reducible first | exact bl HB.out | refine below_set ?_ GE298.out | refine below_set ?_ GE299.out | refine below_set ?_ GE300.out | refine bq ?_) hb); (try clear hb); (try clear hb2); (try clear hk); (try clear hi)))
    go_meet
    case rel => exact ⟨_, (true), (by first | rfl | (simp; done) | (simp [*]; done)), H', ⟨by first | omega | exact Nat.le_refl _⟩, ⟨rl HO303.out⟩, ⟨bk BK298.out⟩, ⟨bk BK299.out⟩, ⟨bk BK300.out⟩, ⟨by repeat with_reducible first | exact bl HB.out | refine below_set ?_ GE298.out | refine below_set ?_ GE299.out | refine below_set ?_ GE300.out | refine bq ?_⟩⟩
  ·
   replace c15 := Bool.eq_false_iff.mpr c15
   subst c15
   have H1 : (impl_Due19.j0 k t301 true a0_0 a0_1 a0_2 a0_3 a0_4 a0_5 a0_6) = some (r1, r2, r3, r4, r5) := by rw [if_neg (show ¬ (false = true) by decide)] at H; exact H
   clear H
   have H := H1
   clear H1
   have H' := Aside0.mk H
   clear H
   have hnb32 := NB298_299.out
   have hnc32 := NB299_298.out
   have hnb33 := NB298_300.out
   have hnc33 := NB300_298.out
   obtain ⟨hcz34_0, hcz34_1, hcz34_2, hcz34_3, hcz34_4, hcz34_5, hcz34_6⟩ := ck7 BK298.out
   obtain ⟨hfz34_0, hfz34_1, hfz34_2, hfz34_3, hfz34_4, hfz34_5, hfz34_6⟩ := fz7 BK298.out
   go_wp2_with (first | ((with_reducible refine gate_callee (f := 68) rfl ?_); refine goesL_ (some 20) rfl rfl Tryz.func68 (by kernel_rfl) rfl #[.agg #[.string a0_0, .int .i64 a0_1, .int .i64 a0_2, .int .i64 a0_3, .int .i64 a0_4, .int .i64 a0_5, .int .i64 a0_6]] rfl (by (try simp only [am_]); first | done | rfl) ?_; (with_reducible refine (impl_TaskOk.calls k a0_0 a0_1 a0_2 a0_3 a0_4 a0_5 a0_6 false _ A14.out).mono ?_); rintro e w35 ⟨rfl, hb⟩; refine ⟨_, rfl, ?_⟩; replace HO303 := Aside0.mk (Kd.R_below (rl HO303.out) hb); replace BK298 := Aside0.mk (blk_below (bk BK298.out) hb); replace BK299 := Aside0.mk (blk_below (bk BK299.out) hb); replace BK300 := Aside0.mk (blk_below (bk BK300.out) hb); replace HB := Aside0.mk (below_step (by repeat with_reducible first | exact bl HB.out | refine below_set ?_ GE298.out | refine below_set ?_ GE299.out | refine below_set ?_ GE300.out | refine bq ?_) hb); (try clear hb); (try clear hb2); (try clear hk); (try clear hi)))
   go_meet
   case rel => exact ⟨_, (true), (by first | rfl | (simp; done) | (simp [*]; done)), H', ⟨by first | omega | exact Nat.le_refl _⟩, ⟨rl HO303.out⟩, ⟨bk BK298.out⟩, ⟨bk BK299.out⟩, ⟨bk BK300.out⟩, ⟨by repeat with_reducible first | exact bl HB.out | refine below_set ?_ GE298.out | refine below_set ?_ GE299.out | refine below_set ?_ GE300.out | refine bq ?_⟩⟩
 case rest =>
  clear HC4
  try clear c1
  try clear c2
  try clear p2
  try clear c3
  try clear c6
  try clear c8
  try clear c9
  try clear c11
  try clear c15
  try clear c17
  try clear c18
  try clear c19
  try clear c22
  try clear c25
  try clear c26
  try clear c29
  try clear c32
  try clear c33
  try clear hcz10_0 hcz10_1 hcz10_2 hcz10_3 hcz10_4 hcz10_5 hcz10_6 hfz10_0 hfz10_1 hfz10_2 hfz10_3 hfz10_4 hfz10_5 hfz10_6
  try clear hcz12_0 hcz12_1 hcz12_2 hfz12_0 hfz12_1 hfz12_2
  try clear hcz20_0 hcz20_1 hcz20_2 hcz20_3 hcz20_4 hcz20_5 hcz20_6 hfz20_0 hfz20_1 hfz20_2 hfz20_3 hfz20_4 hfz20_5 hfz20_6
  try clear hcz23_0 hcz23_1 hcz23_2 hfz23_0 hfz23_1 hfz23_2
  try clear hcz27_0 hcz27_1 hcz27_2 hcz27_3 hcz27_4 hcz27_5 hcz27_6 hfz27_0 hfz27_1 hfz27_2 hfz27_3 hfz27_4 hfz27_5 hfz27_6
  try clear hcz30_0 hcz30_1 hcz30_2 hfz30_0 hfz30_1 hfz30_2
  try clear hcz34_0 hcz34_1 hcz34_2 hcz34_3 hcz34_4 hcz34_5 hcz34_6 hfz34_0 hfz34_1 hfz34_2 hfz34_3 hfz34_4 hfz34_5 hfz34_6
  obtain ⟨kq, x30_3, rfl, HA, HJ3, HO_7, BK298, BK299, BK300, HB⟩ := hcut
  cases kq with
  | zero => exact absurd HA.out (by simp [impl_Due19.j0])
  | succ kj3 =>
   have H := HA.out
   clear HA
   simp only [impl_Due19.j0] at H
   by_cases c36 : x30_3 = true
   ·
    subst c36
    have H1 : (some (false, 0, 0, 0, false)) = some (r1, r2, r3, r4, r5) := by rw [if_pos rfl] at H; exact H
    clear H
    have H := H1
    clear H1
    simp only [Option.some.injEq, Prod.mk.injEq] at H
    obtain ⟨rfl, rfl, rfl, rfl, rfl⟩ := H
    have hnb37 := NB300_298.out
    have hnc37 := NB298_300.out
    have hnb38 := NB300_299.out
    have hnc38 := NB299_300.out
    obtain ⟨hcz39_0, hcz39_1, hcz39_2⟩ := ck3 BK300.out
    obtain ⟨hfz39_0, hfz39_1, hfz39_2⟩ := fz3 BK300.out
    go_wp2
    refine bodyPost_ret (results_list (rs := [.tmp 4, .cell 5 35, .tmp 6]) rfl (by simp) (.tmp (.cell gb300 35 #[.int .i64 0, .int .i64 0, .int .i64 0] (0, 0) _ rfl (by (repeat refine bk1 ?_); refine blk_put (cs := #[.int .i64 0, .int .i64 0, .int .i64 0]) ?_ 2 _ rfl; (repeat refine bk1 ?_); refine blk_put (cs := #[.int .i64 0, .int .i64 0, .int .i64 0]) ?_ 1 _ rfl; (repeat refine bk1 ?_); refine blk_put (cs := #[.int .i64 0, .int .i64 0, .int .i64 0]) ?_ 0 _ rfl; (repeat refine bk1 ?_); exact BK300.out) Tryz.underlying35 rfl (by kernel_rfl) (.tmp .nil)))) rfl ?_
    exact ⟨by first | rfl | (simp [errW_none, errW_some] <;> rfl) | (simp [*, errW_none, errW_some] <;> rfl), by repeat with_reducible first | exact bl HB.out | refine below_set ?_ GE298.out | refine below_set ?_ GE299.out | refine below_set ?_ GE300.out | refine bq ?_⟩
   ·
    replace c36 := Bool.eq_false_iff.mpr c36
    subst c36
    have H1 : ((impl_Task_numbers.f a0_0 a0_1 a0_2 a0_3 a0_4 a0_5 a0_6).bind fun t310 => (impl_Due19.l0 kj3 t301 (([] : List Int)) t310 (t310.length : Int) 0 a0_0 a0_1 a0_2 a0_3 a0_4 a0_5 a0_6)) = some (r1, r2, r3, r4, r5) := by rw [if_neg (show ¬ (false = true) by decide)] at H; exact H
    clear H
    have H := H1
    clear H1
    obtain ⟨y307, hy307⟩ : ∃ y_ : List Int, y_ = (([] : List Int)) := ⟨_, rfl⟩
    replace H : ((impl_Task_numbers.f a0_0 a0_1 a0_2 a0_3 a0_4 a0_5 a0_6).bind fun t310 => (impl_Due19.l0 kj3 t301 y307 t310 (t310.length : Int) 0 a0_0 a0_1 a0_2 a0_3 a0_4 a0_5 a0_6)) = some (r1, r2, r3, r4, r5) := by first | (rw [hy307]; with_reducible exact H) | (have H2_ := (Option.bind_some _ _).symm.trans H; rw [hy307]; with_reducible exact H2_) | (have H2_ := (Option.bind_some _ _).symm.trans H; with_reducible exact H2_) | with_reducible exact H | (rw [hy307]; exact H) | exact H
    have Ny307 := Aside0.mk hy307
    clear hy307
    replace H := Option.bind_eq_some_iff.mp H
    obtain ⟨t310, A400, H⟩ := H
    replace H : (impl_Due19.l0 kj3 t301 y307 t310 (t310.length : Int) 0 a0_0 a0_1 a0_2 a0_3 a0_4 a0_5 a0_6) = some (r1, r2, r3, r4, r5) := H
    have A40 := Aside0.mk A400
    clear A400
    have H' := Aside0.mk H
    clear H
    go_wp2_with (first | ((with_reducible refine gate_dst (N := 32) rfl ?_); refine Kd.R_lit (Kd.int .i64) _ 3 ?hg (N := 32) ?hd (xs := ([] : List Int)) (inner := []) (ok := fun _ => True) (okp := fun _ => True) ?hr ?hp (fun _ hk => hk) trivial (Below.refl _ _) (Nat.le_refl _) (by simp) ?_; (case hd => rfl); (case hg => rfl); (case hr => first | (go_simp; done) | (go_simp; rfl)); (case hp => exact (Reps.none _ _)); intro v308 w41 ho42 hb hg_ hnew_; clear hg_ hnew_; (first | rw [← Ny307.out] at ho42 | (simp only [Int.reduceToNat] at ho42; rw [← Ny307.out] at ho42)); have HO309 := Aside0.mk (Kd.R_lower (Kd.R_new' ho42 (Kd.R_lt (by (repeat apply rl1); exact HO_7.out))) (below_size (by repeat with_reducible first | exact bl HB.out | refine below_set ?_ GE298.out | refine below_set ?_ GE299.out | refine below_set ?_ GE300.out | refine bq ?_))); replace HO_7 := Aside0.mk (Kd.R_elder' (rl HO_7.out) (Kd.R_base ho42) hb); replace BK298 := Aside0.mk (blk_below (bk BK298.out) hb); replace BK299 := Aside0.mk (blk_below (bk BK299.out) hb); replace BK300 := Aside0.mk (blk_below (bk BK300.out) hb); replace HB := Aside0.mk (below_step (by repeat with_reducible first | exact bl HB.out | refine below_set ?_ GE298.out | refine below_set ?_ GE299.out | refine below_set ?_ GE300.out | refine bq ?_) hb); clear hb ho42; have hnb43 := NB298_299.out; have hnc43 := NB299_298.out; have hnb44 := NB298_300.out; have hnc44 := NB300_298.out; obtain ⟨hcz45_0, hcz45_1, hcz45_2, hcz45_3, hcz45_4, hcz45_5, hcz45_6⟩ := ck7 BK298.out; obtain ⟨hfz45_0, hfz45_1, hfz45_2, hfz45_3, hfz45_4, hfz45_5, hfz45_6⟩ := fz7 BK298.out) | ((with_reducible refine gate_callee (f := 85) rfl ?_); refine goesL_ (some 34) rfl rfl Tryz.func85 (by kernel_rfl) rfl #[.agg #[.string a0_0, .int .i64 a0_1, .int .i64 a0_2, .int .i64 a0_3, .int .i64 a0_4, .int .i64 a0_5, .int .i64 a0_6]] rfl (by (try simp only [am_]); first | done | rfl) ?_; (with_reducible refine (impl_Task_numbers.calls a0_0 a0_1 a0_2 a0_3 a0_4 a0_5 a0_6 t310 _ A40.out).mono ?_); rintro e w46 ⟨v311, rfl, ho0, hb⟩; refine ⟨_, rfl, ?_⟩; have HO312 := Aside0.mk (Kd.R_lower (Kd.R_new' (Kd.R_new' ho0 (Kd.R_lt (by (repeat apply rl1); exact HO_7.out))) (Kd.R_lt (by (repeat apply rl1); exact HO309.out))) (below_size (by repeat with_reducible first | exact bl HB.out | refine below_set ?_ GE298.out | refine below_set ?_ GE299.out | refine below_set ?_ GE300.out | refine bq ?_))); replace HO_7 := Aside0.mk (Kd.R_elder' (rl HO_7.out) (Kd.R_base ho0) hb); replace HO309 := Aside0.mk (Kd.R_elder' (rl HO309.out) (Kd.R_base ho0) hb); replace BK298 := Aside0.mk (blk_below (bk BK298.out) hb); replace BK299 := Aside0.mk (blk_below (bk BK299.out) hb); replace BK300 := Aside0.mk (blk_below (bk BK300.out) hb); replace HB := Aside0.mk (below_step (by repeat with_reducible first | exact bl HB.out | refine below_set ?_ GE298.out | refine below_set ?_ GE299.out | refine below_set ?_ GE300.out | refine bq ?_) hb); (try clear hb); (try clear hb2); (try clear hk); (try clear hi); (try clear ho0); obtain ⟨Ao47, co47, eo47⟩ := Kd.R_slice HO312.out; subst eo47))
    go_loopg [9, 36] kj3 (fun kq v9 v36 w' => ∃ (x9_2 : List Int) (x36_2 : Int), v36 = .int .i64 x36_2 ∧ Aside0 (impl_Due19.l0 kq t301 x9_2 t310 (t310.length : Int) x36_2 a0_0 a0_1 a0_2 a0_3 a0_4 a0_5 a0_6 = some (r1, r2, r3, r4, r5)) ∧ Aside0 (kq ≤ kj3) ∧ Aside0 (Kd.R (Kd.int .i64) 3 w' w.heap.size (fun k_ => some k_ ≠ (v9 : Value).ownBlock ∧ some k_ ≠ ((.slice Ao47 t310.length co47) : Value).ownBlock) v302 t301) ∧ Aside0 (Kd.R (Kd.int .i64) 3 w' w.heap.size (fun k_ => some k_ ≠ (v302 : Value).ownBlock ∧ some k_ ≠ ((.slice Ao47 t310.length co47) : Value).ownBlock) v9 x9_2) ∧ Aside0 (Kd.R (Kd.int .i64) 3 w' w.heap.size (fun k_ => some k_ ≠ (v302 : Value).ownBlock ∧ some k_ ≠ (v9 : Value).ownBlock) (.slice Ao47 t310.length co47) t310) ∧ Aside0 (w'.heap[gb298]? = some (.cells #[.string a0_0, .int .i64 a0_1, .int .i64 a0_2, .int .i64 a0_3, .int .i64 a0_4, .int .i64 a0_5, .int .i64 a0_6] 86 (0, 0))) ∧ Aside0 (w'.heap[gb299]? = some (.cells #[.int .i64 a1_0, .int .i64 a1_1, .int .i64 a1_2] 35 (0, 0))) ∧ Aside0 (w'.heap[gb300]? = some (.cells #[.int .i64 0, .int .i64 0, .int .i64 0] 35 (0, 0))) ∧ Aside0 (Below w.heap.size w w'))
    case atStart => exact ⟨(y307), (0), (by first | rfl | (simp; done) | (simp [*]; done)), H', ⟨Nat.le_refl _⟩, ⟨by (repeat apply rl1); exact Kd.R_mono HO_7.out (fun _ hk => ⟨hk.1.2, hk.2⟩)⟩, ⟨by (repeat apply rl1); exact Kd.R_mono HO309.out (fun _ hk => ⟨hk.1.2, hk.2⟩)⟩, ⟨by (repeat apply rl1); exact Kd.R_mono HO312.out (fun _ hk => ⟨hk.1.2, hk.2⟩)⟩, ⟨bk BK298.out⟩, ⟨bk BK299.out⟩, ⟨bk BK300.out⟩, ⟨by repeat with_reducible first | exact bl HB.out | refine below_set ?_ GE298.out | refine below_set ?_ GE299.out | refine below_set ?_ GE300.out | refine bq ?_⟩⟩
    case round =>
     clear H'
     try clear c1
     try clear c2
     try clear p2
     try clear c3
     try clear c4
     try clear c6
     try clear c8
     try clear c9
     try clear c11
     try clear c15
     try clear c17
     try clear c18
     try clear c19
     try clear c22
     try clear c25
     try clear c26
     try clear c29
     try clear c32
     try clear c33
     try clear c36
     try clear c37
     try clear c38
     try clear c43
     try clear c44
     try clear hcz10_0 hcz10_1 hcz10_2 hcz10_3 hcz10_4 hcz10_5 hcz10_6 hfz10_0 hfz10_1 hfz10_2 hfz10_3 hfz10_4 hfz10_5 hfz10_6
     try clear hcz12_0 hcz12_1 hcz12_2 hfz12_0 hfz12_1 hfz12_2
     try clear hcz20_0 hcz20_1 hcz20_2 hcz20_3 hcz20_4 hcz20_5 hcz20_6 hfz20_0 hfz20_1 hfz20_2 hfz20_3 hfz20_4 hfz20_5 hfz20_6
     try clear hcz23_0 hcz23_1 hcz23_2 hfz23_0 hfz23_1 hfz23_2
     try clear hcz27_0 hcz27_1 hcz27_2 hcz27_3 hcz27_4 hcz27_5 hcz27_6 hfz27_0 hfz27_1 hfz27_2 hfz27_3 hfz27_4 hfz27_5 hfz27_6
     try clear hcz30_0 hcz30_1 hcz30_2 hfz30_0 hfz30_1 hfz30_2
     try clear hcz34_0 hcz34_1 hcz34_2 hcz34_3 hcz34_4 hcz34_5 hcz34_6 hfz34_0 hfz34_1 hfz34_2 hfz34_3 hfz34_4 hfz34_5 hfz34_6
     try clear hcz39_0 hcz39_1 hcz39_2 hfz39_0 hfz39_1 hfz39_2
     try clear hcz45_0 hcz45_1 hcz45_2 hcz45_3 hcz45_4 hcz45_5 hcz45_6 hfz45_0 hfz45_1 hfz45_2 hfz45_3 hfz45_4 hfz45_5 hfz45_6
     try clear p2
     obtain ⟨x9_2, x36_2, rfl, HA, HK2, HO_7, HO_9, HO_34, BK298, BK299, BK300, HB⟩ := hrel
     cases gk with
     | zero => exact absurd HA.out (by simp [impl_Due19.l0])
     | succ k2 =>
      have H := HA.out
      clear HA
      simp only [impl_Due19.l0] at H
      by_cases c48 : x36_2 < (t310.length : Int)
      ·
       rw [if_pos c48] at H
       have c48b0 : decide (x36_2 < (t310.length : Int)) = true := decide_eq_true c48
       clear c48
       by_cases c49 : 0 ≤ x36_2
       ·
        rw [if_pos c49] at H
        have c49b0 : decide (0 ≤ x36_2) = true := decide_eq_true c49
        clear c49
        by_cases c50 : x36_2 < (t310.length : Int)
        ·
         rw [if_pos c50] at H
         have c50b0 : decide (x36_2 < (t310.length : Int)) = true := decide_eq_true c50
         clear c50
         by_cases c51 : x36_2 < (t301.length : Int)
         ·
          rw [if_pos c51] at H
          have c51b0 : decide (x36_2 < (t301.length : Int)) = true := decide_eq_true c51
          clear c51
          obtain ⟨ji52, hji52⟩ : ∃ j_ : Int, (mx (wrap64 ((rd t310 x36_2) - (rd t301 x36_2))) 0) = j_ := ⟨_, rfl⟩
          replace H : (if x9_2.length < 17592186044416 then (impl_Due19.l0 k2 t301 (x9_2 ++ [ji52]) t310 (t310.length : Int) (wrap64 (x36_2 + 1)) a0_0 a0_1 a0_2 a0_3 a0_4 a0_5 a0_6) else (none)) = some (r1, r2, r3, r4, r5) := by first | (rw [hji52] at H; exact H) | (simp only [hji52] at H ⊢; exact H)
          have hji52_ : (if (wrap64 ((rd t310 x36_2) - (rd t301 x36_2))) < 0 then 0 else (wrap64 ((rd t310 x36_2) - (rd t301 x36_2)))) = ji52 := hji52
          by_cases c53 : x9_2.length < 17592186044416
          ·
           rw [if_pos c53] at H
           have LMc53 := Aside0.mk c53
           clear c53
           obtain ⟨y315, hy315⟩ : ∃ y_ : List Int, y_ = (x9_2 ++ [ji52]) := ⟨_, rfl⟩
           replace H : (impl_Due19.l0 k2 t301 y315 t310 (t310.length : Int) (wrap64 (x36_2 + 1)) a0_0 a0_1 a0_2 a0_3 a0_4 a0_5 a0_6) = some (r1, r2, r3, r4, r5) := by first | (rw [hy315]; with_reducible exact H) | (have H2_ := (Option.bind_some _ _).symm.trans H; rw [hy315]; with_reducible exact H2_) | (have H2_ := (Option.bind_some _ _).symm.trans H; with_reducible exact H2_) | with_reducible exact H | (rw [hy315]; exact H) | exact H
           have Ny315 := Aside0.mk hy315
           clear hy315
           have H' := Aside0.mk H
           clear H
           have p313 : 0 ≤ (x36_2 : Int) := of_decide_eq_true (by first | (with_reducible assumption) | assumption)
           have q313 : x36_2 < (t310.length : Int) := of_decide_eq_true (by first | (with_reducible assumption) | assumption)
           obtain ⟨ad313, e313, hx313_0⟩ := Kd.at_int (Kd.R_reads' HO_34.out).2.2 x36_2 p313 q313
           cases e313
           replace p313 := eq_true p313
           replace q313 := eq_true q313
           obtain ⟨Ao54, co54, eo54⟩ := Kd.R_slice HO_7.out
           subst eo54
           have p314 : 0 ≤ (x36_2 : Int) := of_decide_eq_true (by first | (with_reducible assumption) | assumption)
           have q314 : x36_2 < (t301.length : Int) := of_decide_eq_true (by first | (with_reducible assumption) | assumption)
           obtain ⟨ad314, e314, hx314_0⟩ := Kd.at_int (Kd.R_reads' HO_7.out).2.2 x36_2 p314 q314
           cases e314
           replace p314 := eq_true p314
           replace q314 := eq_true q314
           go_wp2_with (first | ((with_reducible refine gate_builtin (b := .append) (xs := #[.tmp 41, .tmp 49]) rfl ?_); at_builtin; refine Kd.R_append (Kd.int .i64) (w0 := w) w.heap.size rfl (.tmp 41) (.tmp 49) 107 3 (.int .i64 0) 8 rfl Tryz.underlying107 info3 rfl (by decide) (by omega) u9 x9_2 ji52 [.int .i64 ji52] (fun k_ => some k_ ≠ (.slice (some ad314) t301.length co54 : Value).ownBlock ∧ some k_ ≠ (.slice (some ad313) t310.length co47 : Value).ownBlock) (fun _ => False) rfl rfl ?aP (fun _ hk => hk.elim) ?aF ?aO ?aB ?aS ?aL ?_; (case aP => exact rfl); (case aB => exact (by repeat with_reducible first | exact bl HB.out | refine below_set ?_ GE298.out | refine below_set ?_ GE299.out | refine below_set ?_ GE300.out | refine bq ?_)); (case aF => exact (fun k_ hk => ⟨Kd.fresh' (Kd.R_lt (by (repeat apply rl1); exact HO_7.out)) k_ hk, Kd.fresh' (Kd.R_lt (by (repeat apply rl1); exact HO_34.out)) k_ hk⟩)); (case aO => exact (rl HO_9.out)); (case aS => exact (below_size (by repeat with_reducible first | exact bl HB.out | refine below_set ?_ GE298.out | refine below_set ?_ GE299.out | refine below_set ?_ GE300.out | refine bq ?_))); (case aL => have := LMc53.out; omega); intro v316 w55 ho hb hg hat; rw [← Ny315.out] at ho; replace HO_7 := Aside0.mk (Kd.R_after (ok := (fun k_ => some k_ ≠ (.slice (some ad313) t310.length co47 : Value).ownBlock)) (by (repeat apply rl1); exact Kd.R_mono HO_7.out (fun _ hk => ⟨hk.2, hk.1⟩)) hg hat); replace HO_34 := Aside0.mk (Kd.R_after (ok := (fun k_ => some k_ ≠ (.slice (some ad314) t301.length co54 : Value).ownBlock)) (rl HO_34.out) hg hat); replace BK298 := Aside0.mk (blk_grown (g := gb298) (o := .cells #[.string a0_0, .int .i64 a0_1, .int .i64 a0_2, .int .i64 a0_3, .int .i64 a0_4, .int .i64 a0_5, .int .i64 a0_6] 86 (0, 0)) (bk BK298.out) hg (Kd.R_ne HO_9.out BK298.out (by decide))); replace BK299 := Aside0.mk (blk_grown (g := gb299) (o := .cells #[.int .i64 a1_0, .int .i64 a1_1, .int .i64 a1_2] 35 (0, 0)) (bk BK299.out) hg (Kd.R_ne HO_9.out BK299.out (by decide))); replace BK300 := Aside0.mk (blk_grown (g := gb300) (o := .cells #[.int .i64 0, .int .i64 0, .int .i64 0] 35 (0, 0)) (bk BK300.out) hg (Kd.R_ne HO_9.out BK300.out (by decide))); replace HB := Aside0.mk (hb); have HO317 := Aside0.mk (ho); clear HO_9; clear ho hb hg hat))
           go_roundg k2
           case measure => have := HJ3.out; have := HK2.out; omega
           case rel => exact ⟨(y315), (wrap64 (x36_2 + 1)), (by first | rfl | (simp; done) | (simp [*]; done)), H', ⟨by have := HJ3.out; have := HK2.out; omega⟩, ⟨by (repeat apply rl1); exact Kd.R_mono HO_7.out (fun _ hk => ⟨hk.2, hk.1⟩)⟩, ⟨rl HO317.out⟩, ⟨rl HO_34.out⟩, ⟨bk BK298.out⟩, ⟨bk BK299.out⟩, ⟨bk BK300.out⟩, ⟨by repeat with_reducible first | exact bl HB.out | refine below_set ?_ GE298.out | refine below_set ?_ GE299.out | refine below_set ?_ GE300.out | refine bq ?_⟩⟩
          ·
           rw [if_neg c53] at H
           exact absurd H (by simp)
         ·
          rw [if_neg c51] at H
          exact absurd H (by simp)
        ·
         rw [if_neg c50] at H
         exact absurd H (by simp)
       ·
        rw [if_neg c49] at H
        exact absurd H (by simp)
      ·
       rw [if_neg c48] at H
       have c48b0 : decide (x36_2 < (t310.length : Int)) = false := decide_eq_false c48
       clear c48
       replace H := Option.bind_eq_some_iff.mp H
       obtain ⟨t318, A560, H⟩ := H
       replace H : ((impl_isDue.f k2 t318 t301).bind fun t321 => (if 0 < (x9_2.length : Int) then (if 1 < (x9_2.length : Int) then (if 2 < (x9_2.length : Int) then (some (t321, rd x9_2 0, rd x9_2 1, rd x9_2 2, true)) else (none)) else (none)) else (none))) = some (r1, r2, r3, r4, r5) := H
       have A56 := Aside0.mk A560
       clear A560
       replace H := Option.bind_eq_some_iff.mp H
       obtain ⟨t321, A570, H⟩ := H
       replace H : (if 0 < (x9_2.length : Int) then (if 1 < (x9_2.length : Int) then (if 2 < (x9_2.length : Int) then (some (t321, rd x9_2 0, rd x9_2 1, rd x9_2 2, true)) else (none)) else (none)) else (none)) = some (r1, r2, r3, r4, r5) := H
       have A57 := Aside0.mk A570
       clear A570
       by_cases c58 : 0 < (x9_2.length : Int)
       ·
        rw [if_pos c58] at H
        have c58b0 : decide (0 < (x9_2.length : Int)) = true := decide_eq_true c58
        have c58b1 : decide (0 < x9_2.length) = true := decide_eq_true (by omega)
        clear c58
        by_cases c59 : 1 < (x9_2.length : Int)
        ·
         rw [if_pos c59] at H
         have c59b0 : decide (1 < (x9_2.length : Int)) = true := decide_eq_true c59
         have c59b1 : decide (1 < x9_2.length) = true := decide_eq_true (by omega)
         clear c59
         by_cases c60 : 2 < (x9_2.length : Int)
         ·
          rw [if_pos c60] at H
          have c60b0 : decide (2 < (x9_2.length : Int)) = true := decide_eq_true c60
          have c60b1 : decide (2 < x9_2.length) = true := decide_eq_true (by omega)
          clear c60
          simp only [Option.some.injEq, Prod.mk.injEq] at H
          obtain ⟨rfl, rfl, rfl, rfl, rfl⟩ := H
          try go_wp2
          have n0_ := Aside0.mk (Kd.R_drew HO_7.out)
          have n1_ := Aside0.mk (Kd.R_drew HO_9.out)
          have n2_ := Aside0.mk (Kd.R_drew HO_34.out)
          have n3_ := Aside0.mk (blk_drew BK298.out)
          have n4_ := Aside0.mk (blk_drew BK299.out)
          have n5_ := Aside0.mk (blk_drew BK300.out)
          have n6_ := Aside0.mk (below_drew1 HB.out)
          clear HO_7
          clear HO_9
          clear HO_34
          clear BK298
          clear BK299
          clear BK300
          clear HB
          have HO_7 := n0_
          have HO_9 := n1_
          have HO_34 := n2_
          have BK298 := n3_
          have BK299 := n4_
          have BK300 := n5_
          have HB := n6_
          clear n0_ n1_ n2_ n3_ n4_ n5_ n6_
          obtain ⟨Ao62, co62, eo62⟩ := Kd.R_slice HO_9.out
          (first | subst eo62 | (injection eo62 with f1_ f2_ f3_; have f4_ := f1_.symm; have f5_ := f3_.symm; clear f1_ f2_ f3_; subst f4_; subst f5_))
          have p322 : 0 ≤ (0 : Int) := (by omega)
          have q322 : 0 < (x9_2.length : Int) := of_decide_eq_true (by first | (with_reducible assumption) | assumption)
          obtain ⟨ad322, e322, hx322_0⟩ := Kd.at_int (Kd.R_reads' HO_9.out).2.2 0 p322 q322
          cases e322
          have qi322 : (0 < x9_2.length) = True := eq_true (by omega)
          (try rw [show ((0 : Int)).toNat = 0 from rfl] at hx322_0)
          (try rw [Addr.add_zero'] at hx322_0)
          replace p322 := eq_true p322
          replace q322 := eq_true q322
          have p323 : 0 ≤ (1 : Int) := (by omega)
          have q323 : 1 < (x9_2.length : Int) := of_decide_eq_true (by first | (with_reducible assumption) | assumption)
          obtain ⟨ad323, e323, hx323_0⟩ := Kd.at_int (Kd.R_reads' HO_9.out).2.2 1 p323 q323
          obtain rfl : ad322 = ad323 := (by injection e323)
          (try simp only [show (1 : Int).toNat = 1 from rfl, Nat.reduceMul, Nat.reduceEqDiff, Go.Addr.add, ↓reduceIte] at hx323_0)
          have qi323 : (1 < x9_2.length) = True := eq_true (by omega)
          (try rw [show ((1 : Int)).toNat = 1 from rfl] at hx323_0)
          replace p323 := eq_true p323
          replace q323 := eq_true q323
          have p324 : 0 ≤ (2 : Int) := (by omega)
          have q324 : 2 < (x9_2.length : Int) := of_decide_eq_true (by first | (with_reducible assumption) | assumption)
          obtain ⟨ad324, e324, hx324_0⟩ := Kd.at_int (Kd.R_reads' HO_9.out).2.2 2 p324 q324
          obtain rfl : ad322 = ad324 := (by injection e324)
          (try simp only [show (2 : Int).toNat = 2 from rfl, Nat.reduceMul, Nat.reduceEqDiff, Go.Addr.add, ↓reduceIte] at hx324_0)
          have qi324 : (2 < x9_2.length) = True := eq_true (by omega)
          (try rw [show ((2 : Int)).toNat = 2 from rfl] at hx324_0)
          replace p324 := eq_true p324
          replace q324 := eq_true q324
          refine start_ (n := 17) (S := fun w' => w'.cell? ⟨gb298, 0, none⟩ = some (.string a0_0) ∧ w'.cell? ⟨gb298, 1, none⟩ = some (.int .i64 a0_1) ∧ w'.cell? ⟨gb298, 2, none⟩ = some (.int .i64 a0_2) ∧ w'.cell? ⟨gb298, 3, none⟩ = some (.int .i64 a0_3) ∧ w'.cell? ⟨gb298, 4, none⟩ = some (.int .i64 a0_4) ∧ w'.cell? ⟨gb298, 5, none⟩ = some (.int .i64 a0_5) ∧ w'.cell? ⟨gb298, 6, none⟩ = some (.int .i64 a0_6) ∧ w'.cell? ad322 = some (.int .i64 (rd x9_2 0)) ∧ w'.cell? ⟨ad322.block, ad322.off + 1, none⟩ = some (.int .i64 (rd x9_2 1)) ∧ w'.cell? ⟨ad322.block, ad322.off + 2, none⟩ = some (.int .i64 (rd x9_2 2))) (ds := []) m0_17 (by kernel_rfl) rfl rfl ⟨ck BK298.out 0 rfl, ck BK298.out 1 rfl, ck BK298.out 2 rfl, ck BK298.out 3 rfl, ck BK298.out 4 rfl, ck BK298.out 5 rfl, ck BK298.out 6 rfl, hx322_0, hx323_0, hx324_0⟩ (fun hHeld => ?_); refine with_tabW impl_Due19.tab10 impl_Due19.bits10 (fun HT_ HW_ => ?_)
          generalize wr.drew = w61 at HO_7 HO_9 HO_34 BK298 BK299 BK300 HB hx322_0 hx323_0 hx324_0 hHeld ⊢
          refine pq_ HT_.out 2 54 n54 ?_
          refine pq_ HT_.out 4 56 n55 ?_
          refine pq_ HT_.out 5 57 n56 ?_
          refine pq_ HT_.out 7 59 n57 ?_
          refine pq_ HT_.out 8 60 n58 ?_
          refine pq_ HT_.out 10 62 n59 ?_
          refine pq_ HT_.out 11 63 n60 ?_
          refine tk_ HT_.out HW_.out 0 52 n62 rfl rfl (by kernel_rfl) (by rfl) (by rintro w' ⟨s0, s1, s2, s3, s4, s5, s6, s7, s8, s9⟩; go_simp; with_reducible rfl) hHeld (by simp only [sp_]; rfl) (fun _ _ _ h => h) ?_
          refine tk_ HT_.out HW_.out 6 58 n63 rfl rfl (by kernel_rfl) (by rfl) (by rintro w' ⟨s0, s1, s2, s3, s4, s5, s6, s7, s8, s9⟩; go_simp; with_reducible rfl) hHeld (by simp only [sp_]; rfl) (fun _ _ _ h => h) ?_
          refine tk_ HT_.out HW_.out 9 61 n64 rfl rfl (by kernel_rfl) (by rfl) (by rintro w' ⟨s0, s1, s2, s3, s4, s5, s6, s7, s8, s9⟩; go_simp; with_reducible rfl) hHeld (by simp only [sp_]; rfl) (fun _ _ _ h => h) ?_
          refine tk_ HT_.out HW_.out 12 64 n65 rfl rfl (by kernel_rfl) (by rfl) (by rintro w' ⟨s0, s1, s2, s3, s4, s5, s6, s7, s8, s9⟩; go_simp; with_reducible rfl) hHeld (by simp only [sp_]; rfl) (fun _ _ _ h => h) ?_
          refine pq_ HT_.out 13 65 n61 ?_
          refine one_ (i := 1) (N := some 53) n66 rfl rfl (one_of HT_.out (by kernel_rfl)) (by decide) (fun K hK => ?_)
          refine goes_ Tryz.func85 (by kernel_rfl) rfl #[.agg #[.string a0_0, .int .i64 a0_1, .int .i64 a0_2, .int .i64 a0_3, .int .i64 a0_4, .int .i64 a0_5, .int .i64 a0_6]] (by rfl) rfl rfl (by (try simp only [am_]); first | done | rfl) ?_
          with_reducible refine (impl_Task_numbers.calls a0_0 a0_1 a0_2 a0_3 a0_4 a0_5 a0_6 t318 _ A56.out).mono ?_
          rintro e w63 ⟨v319, rfl, ho0, hb⟩
          have HS7_ := (hb.cell (World.block_lt_of_cell? _ _ (hHeld.2.2.2.2.2.2.2.1))).trans (hHeld.2.2.2.2.2.2.2.1)
          have HS8_ := (hb.cell (World.block_lt_of_cell? _ _ (hHeld.2.2.2.2.2.2.2.2.1))).trans (hHeld.2.2.2.2.2.2.2.2.1)
          have HS9_ := (hb.cell (World.block_lt_of_cell? _ _ (hHeld.2.2.2.2.2.2.2.2.2))).trans (hHeld.2.2.2.2.2.2.2.2.2)
          refine ⟨_, rfl, ?_⟩
          have n0_ := Aside0.mk (Kd.R_elder' (rl HO_7.out) (Kd.R_base ho0) hb)
          have n1_ := Aside0.mk (Kd.R_elder' (rl HO_9.out) (Kd.R_base ho0) hb)
          have n2_ := Aside0.mk (Kd.R_elder' (rl HO_34.out) (Kd.R_base ho0) hb)
          have n3_ := Aside0.mk (Kd.R_lower (Kd.R_new' (Kd.R_new' (Kd.R_new' ho0 (Kd.R_lt (by (repeat apply rl1); exact HO_7.out))) (Kd.R_lt (by (repeat apply rl1); exact HO_9.out))) (Kd.R_lt (by (repeat apply rl1); exact HO_34.out))) (below_size (by repeat with_reducible first | exact bl HB.out | refine below_set ?_ GE298.out | refine below_set ?_ GE299.out | refine below_set ?_ GE300.out | refine bq ?_)))
          have n4_ := Aside0.mk (blk_below (bk BK298.out) hb)
          have n5_ := Aside0.mk (blk_below (bk BK299.out) hb)
          have n6_ := Aside0.mk (blk_below (bk BK300.out) hb)
          have n7_ := Aside0.mk (below_step (by repeat with_reducible first | exact bl HB.out | refine below_set ?_ GE298.out | refine below_set ?_ GE299.out | refine below_set ?_ GE300.out | refine bq ?_) hb)
          clear HO_7
          clear HO_9
          clear HO_34
          clear BK298
          clear BK299
          clear BK300
          clear HB
          have HO_7 := n0_
          have HO_9 := n1_
          have HO_34 := n2_
          have HO320 := n3_
          have BK298 := n4_
          have BK299 := n5_
          have BK300 := n6_
          have HB := n7_
          clear n0_ n1_ n2_ n3_ n4_ n5_ n6_ n7_
          (try clear hb)
          (try clear hb2)
          (try clear hk)
          (try clear hi)
          (try clear ho0)
          obtain ⟨Ao64, co64, eo64⟩ := Kd.R_slice HO320.out
          (first | subst eo64 | (injection eo64 with f1_ f2_ f3_; have f4_ := f1_.symm; have f5_ := f3_.symm; clear f1_ f2_ f3_; subst f4_; subst f5_))
          obtain ⟨Ao65, co65, eo65⟩ := Kd.R_slice HO_7.out
          (first | subst eo65 | (injection eo65 with f1_ f2_ f3_; have f4_ := f1_.symm; have f5_ := f3_.symm; clear f1_ f2_ f3_; subst f4_; subst f5_))
          refine hK.out _ _ ⟨ck BK298.out 0 rfl, ck BK298.out 1 rfl, ck BK298.out 2 rfl, ck BK298.out 3 rfl, ck BK298.out 4 rfl, ck BK298.out 5 rfl, ck BK298.out 6 rfl, HS7_, HS8_, HS9_⟩ (fun hHeld => ?_)
          clear hK K
          refine norm_ (a' := ?_) ?_ ?_
          rotate_left
          ·
           show Act.put _ (some 53) _ = _
           simp only [sp_]
           rfl
          refine one_ (i := 3) (N := some 55) m14_17 rfl rfl (one_of HT_.out (by kernel_rfl)) (by decide) (fun K hK => ?_)
          refine goes_ Tryz.func100 (by kernel_rfl) rfl #[.slice Ao64 t318.length co64, .slice Ao65 t301.length co65] (by rfl) rfl rfl (by (try simp only [am_]); first | done | rfl) ?_
          with_reducible refine (impl_isDue.calls k2 _ _ t318 _ _ t301 t321 _ ?side1 ?side2 ?side3 ?side4 A57.out).mono ?_
          (case side1 => exact rc (Kd.R_reads' HO320.out).2.2)
          (case side2 => exact (Kd.R_reads' HO320.out).2.1)
          (case side3 => exact rc (Kd.R_reads' HO_7.out).2.2)
          (case side4 => exact (Kd.R_reads' HO_7.out).2.1)
          rintro e w' ⟨rfl, ⟨nd, rfl⟩⟩
          refine ⟨_, rfl, ?_⟩
          refine hK.out _ _ ⟨ck BK298.out 0 rfl, ck BK298.out 1 rfl, ck BK298.out 2 rfl, ck BK298.out 3 rfl, ck BK298.out 4 rfl, ck BK298.out 5 rfl, ck BK298.out 6 rfl, hHeld.2.2.2.2.2.2.2.1, hHeld.2.2.2.2.2.2.2.2.1, hHeld.2.2.2.2.2.2.2.2.2⟩ (fun hHeld => ?_)
          clear hK K
          refine norm_ (a' := ?_) ?_ ?_
          rotate_left
          ·
           show Act.put _ (some 55) _ = _
           simp only [sp_]
           rfl
          refine pq_ HT_.out 14 4 m15_17 ?_
          refine one_ (i := 15) (N := none) m16_17 rfl rfl (one_of HT_.out (by kernel_rfl)) (by decide) (fun K hK => ?_)
          have hs66 : w63.cell? ⟨gb300, 0, none⟩ = some (.int .i64 0) := ck BK300.out 0 rfl
          have hfs66 := blk_frozen BK300.out 0
          have hns66_0 := NB298_300.out
          have hns66_1 := NB299_300.out
          have hms66_0 := NB300_298.out
          have hms66_1 := NB300_299.out
          have hs67 : w63.cell? ⟨gb300, 1, none⟩ = some (.int .i64 0) := ck BK300.out 1 rfl
          have hfs67 := blk_frozen BK300.out 1
          have hns67_0 := NB298_300.out
          have hns67_1 := NB299_300.out
          have hms67_0 := NB300_298.out
          have hms67_1 := NB300_299.out
          have hs68 : w63.cell? ⟨gb300, 2, none⟩ = some (.int .i64 0) := ck BK300.out 2 rfl
          have hfs68 := blk_frozen BK300.out 2
          have hns68_0 := NB298_300.out
          have hns68_1 := NB299_300.out
          have hms68_0 := NB300_298.out
          have hms68_1 := NB300_299.out
          refine skip_ (w1 := ?_) (by rfl) rfl ?_ ?_
          rotate_left
          ·
           go_simp
           rfl
          refine hK.out _ _ ⟨((cell_far (p := ⟨gb300, _, none⟩) NB298_300.out _).trans (((cell_far (p := ⟨gb300, _, none⟩) NB298_300.out _).trans (((cell_far (p := ⟨gb300, _, none⟩) NB298_300.out _).trans (hHeld.1)))))), ((cell_far (p := ⟨gb300, _, none⟩) NB298_300.out _).trans (((cell_far (p := ⟨gb300, _, none⟩) NB298_300.out _).trans (((cell_far (p := ⟨gb300, _, none⟩) NB298_300.out _).trans (hHeld.2.1)))))), ((cell_far (p := ⟨gb300, _, none⟩) NB298_300.out _).trans (((cell_far (p := ⟨gb300, _, none⟩) NB298_300.out _).trans (((cell_far (p := ⟨gb300, _, none⟩) NB298_300.out _).trans (hHeld.2.2.1)))))), ((cell_far (p := ⟨gb300, _, none⟩) NB298_300.out _).trans (((cell_far (p := ⟨gb300, _, none⟩) NB298_300.out _).trans (((cell_far (p := ⟨gb300, _, none⟩) NB298_300.out _).trans (hHeld.2.2.2.1)))))), ((cell_far (p := ⟨gb300, _, none⟩) NB298_300.out _).trans (((cell_far (p := ⟨gb300, _, none⟩) NB298_300.out _).trans (((cell_far (p := ⟨gb300, _, none⟩) NB298_300.out _).trans (hHeld.2.2.2.2.1)))))), ((cell_far (p := ⟨gb300, _, none⟩) NB298_300.out _).trans (((cell_far (p := ⟨gb300, _, none⟩) NB298_300.out _).trans (((cell_far (p := ⟨gb300, _, none⟩) NB298_300.out _).trans (hHeld.2.2.2.2.2.1)))))), ((cell_far (p := ⟨gb300, _, none⟩) NB298_300.out _).trans (((cell_far (p := ⟨gb300, _, none⟩) NB298_300.out _).trans (((cell_far (p := ⟨gb300, _, none⟩) NB298_300.out _).trans (hHeld.2.2.2.2.2.2.1)))))), ((cell_far (p := ⟨gb300, _, none⟩) (by first | exact Kd.own_blk (Kd.R_ne HO_9.out BK300.out (by decide)) | (rw [add_block]; exact Kd.own_blk (Kd.R_ne HO_9.out BK300.out (by decide))) | (show (Addr.add _ _).block ≠ _; rw [add_block]; exact Kd.own_blk (Kd.R_ne HO_9.out BK300.out (by decide))) | (dsimp only; exact Kd.own_blk (Kd.R_ne HO_9.out BK300.out (by decide)))) _).trans (((cell_far (p := ⟨gb300, _, none⟩) (by first | exact Kd.own_blk (Kd.R_ne HO_9.out BK300.out (by decide)) | (rw [add_block]; exact Kd.own_blk (Kd.R_ne HO_9.out BK300.out (by decide))) | (show (Addr.add _ _).block ≠ _; rw [add_block]; exact Kd.own_blk (Kd.R_ne HO_9.out BK300.out (by decide))) | (dsimp only; exact Kd.own_blk (Kd.R_ne HO_9.out BK300.out (by decide)))) _).trans (((cell_far (p := ⟨gb300, _, none⟩) (by first | exact Kd.own_blk (Kd.R_ne HO_9.out BK300.out (by decide)) | (rw [add_block]; exact Kd.own_blk (Kd.R_ne HO_9.out BK300.out (by decide))) | (show (Addr.add _ _).block ≠ _; rw [add_block]; exact Kd.own_blk (Kd.R_ne HO_9.out BK300.out (by decide))) | (dsimp only; exact Kd.own_blk (Kd.R_ne HO_9.out BK300.out (by decide)))) _).trans (hHeld.2.2.2.2.2.2.2.1)))))), ((cell_far (p := ⟨gb300, _, none⟩) (by first | exact Kd.own_blk (Kd.R_ne HO_9.out BK300.out (by decide)) | (rw [add_block]; exact Kd.own_blk (Kd.R_ne HO_9.out BK300.out (by decide))) | (show (Addr.add _ _).block ≠ _; rw [add_block]; exact Kd.own_blk (Kd.R_ne HO_9.out BK300.out (by decide))) | (dsimp only; exact Kd.own_blk (Kd.R_ne HO_9.out BK300.out (by decide)))) _).trans (((cell_far (p := ⟨gb300, _, none⟩) (by first | exact Kd.own_blk (Kd.R_ne HO_9.out BK300.out (by decide)) | (rw [add_block]; exact Kd.own_blk (Kd.R_ne HO_9.out BK300.out (by decide))) | (show (Addr.add _ _).block ≠ _; rw [add_block]; exact Kd.own_blk (Kd.R_ne HO_9.out BK300.out (by decide))) | (dsimp only; exact Kd.own_blk (Kd.R_ne HO_9.out BK300.out (by decide)))) _).trans (((cell_far (p := ⟨gb300, _, none⟩) (by first | exact Kd.own_blk (Kd.R_ne HO_9.out BK300.out (by decide)) | (rw [add_block]; exact Kd.own_blk (Kd.R_ne HO_9.out BK300.out (by decide))) | (show (Addr.add _ _).block ≠ _; rw [add_block]; exact Kd.own_blk (Kd.R_ne HO_9.out BK300.out (by decide))) | (dsimp only; exact Kd.own_blk (Kd.R_ne HO_9.out BK300.out (by decide)))) _).trans (hHeld.2.2.2.2.2.2.2.2.1)))))), ((cell_far (p := ⟨gb300, _, none⟩) (by first | exact Kd.own_blk (Kd.R_ne HO_9.out BK300.out (by decide)) | (rw [add_block]; exact Kd.own_blk (Kd.R_ne HO_9.out BK300.out (by decide))) | (show (Addr.add _ _).block ≠ _; rw [add_block]; exact Kd.own_blk (Kd.R_ne HO_9.out BK300.out (by decide))) | (dsimp only; exact Kd.own_blk (Kd.R_ne HO_9.out BK300.out (by decide)))) _).trans (((cell_far (p := ⟨gb300, _, none⟩) (by first | exact Kd.own_blk (Kd.R_ne HO_9.out BK300.out (by decide)) | (rw [add_block]; exact Kd.own_blk (Kd.R_ne HO_9.out BK300.out (by decide))) | (show (Addr.add _ _).block ≠ _; rw [add_block]; exact Kd.own_blk (Kd.R_ne HO_9.out BK300.out (by decide))) | (dsimp only; exact Kd.own_blk (Kd.R_ne HO_9.out BK300.out (by decide)))) _).trans (((cell_far (p := ⟨gb300, _, none⟩) (by first | exact Kd.own_blk (Kd.R_ne HO_9.out BK300.out (by decide)) | (rw [add_block]; exact Kd.own_blk (Kd.R_ne HO_9.out BK300.out (by decide))) | (show (Addr.add _ _).block ≠ _; rw [add_block]; exact Kd.own_blk (Kd.R_ne HO_9.out BK300.out (by decide))) | (dsimp only; exact Kd.own_blk (Kd.R_ne HO_9.out BK300.out (by decide)))) _).trans (hHeld.2.2.2.2.2.2.2.2.2))))))⟩ (fun hHeld => ?_)
          clear hK K
          refine pq_ HT_.out 16 6 m17_17 ?_
          refine done_ (done_of HT_.out (by kernel_rfl)) ?_
          try go_wp2
          refine bodyPost_ret (results_list (rs := [.tmp 4, .cell 5 35, .tmp 6]) rfl (by simp) (.tmp (.cell gb300 35 #[.int .i64 (rd x9_2 0), .int .i64 (rd x9_2 1), .int .i64 (rd x9_2 2)] (0, 0) _ rfl (by (repeat refine bk1 ?_); refine blk_put (cs := #[.int .i64 (rd x9_2 0), .int .i64 (rd x9_2 1), .int .i64 0]) ?_ 2 _ rfl; (repeat refine bk1 ?_); refine blk_put (cs := #[.int .i64 (rd x9_2 0), .int .i64 0, .int .i64 0]) ?_ 1 _ rfl; (repeat refine bk1 ?_); refine blk_put (cs := #[.int .i64 0, .int .i64 0, .int .i64 0]) ?_ 0 _ rfl; (repeat refine bk1 ?_); exact BK300.out) Tryz.underlying35 rfl (by kernel_rfl) (.tmp .nil)))) rfl ?_
          exact ⟨by first | rfl | (simp [errW_none, errW_some] <;> rfl) | (simp [*, errW_none, errW_some] <;> rfl), by repeat with_reducible first | exact bl HB.out | refine below_set ?_ GE298.out | refine below_set ?_ GE299.out | refine below_set ?_ GE300.out | refine bq ?_⟩
         ·
          rw [if_neg c60] at H
          exact absurd H (by simp)
        ·
         rw [if_neg c59] at H
         exact absurd H (by simp)
       ·
        rw [if_neg c58] at H
        exact absurd H (by simp)

-- NOT PRINTED: function 98 (impl_Defect_98)

-- NOT PRINTED: function 88 (impl_Fleet_first)

end Go.Proofs.YtdimdlifjdbgnaaGreat.PFnExactRunWork
