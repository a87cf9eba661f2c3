import Derived.Test.YtdimdlifjdbgnaaGreatPFnExactRunWorkx3
namespace Go.Proofs.YtdimdlifjdbgnaaGreat.PFnExactRunWork
open Go.RowKit Go.Proofs.YtdimdlifjdbgnaaGreatW.PrintWords Go.Proofs.YtdimdlifjdbgnaaGreatW.PrintLast Go.Proofs.YtdimdlifjdbgnaaGreatW.PrintMore Go.Proofs.YtdimdlifjdbgnaaGreat.Sq
attribute [local go_sem] max2_int min2_int max_two min_two max_three min_three max_four min_four
set_option linter.unusedVariables false
set_option linter.unusedSimpArgs false

/-! ### spec_Due19: function 81 -/
mutual
def spec_Due19.j0 : Nat → Bool → ByteArray → Int → Int → Int → Int → Int → Int → Int → Int → Int → Option (Bool × Int × Int × Int × Bool)
 | 0, _, _, _, _, _, _, _, _, _, _, _ => none
 | k + 1, x25, x155000, x155001, x155002, x155003, x155004, x155005, x155006, x156000, x156001, x156002 => if x25 = true then (some (false, 0, 0, 0, false)) else (if x155001 > 0 then (if (wrap64 (x156000 - x155004)) ≥ x155001 then (spec_Due19.j1 k (wrap64 (x156000 - x155004)) (wrap64 (x156001 - x155005)) (wrap64 (x156002 - x155006)) true x155000 x155001 x155002 x155003 x155004 x155005 x155006) else (if x155002 > 0 then (if (wrap64 (x156001 - x155005)) ≥ x155002 then (spec_Due19.j1 k (wrap64 (x156000 - x155004)) (wrap64 (x156001 - x155005)) (wrap64 (x156002 - x155006)) true x155000 x155001 x155002 x155003 x155004 x155005 x155006) else (if x155003 > 0 then (spec_Due19.j1 k (wrap64 (x156000 - x155004)) (wrap64 (x156001 - x155005)) (wrap64 (x156002 - x155006)) (decide ((wrap64 (x156002 - x155006)) ≥ x155003)) x155000 x155001 x155002 x155003 x155004 x155005 x155006) else (spec_Due19.j1 k (wrap64 (x156000 - x155004)) (wrap64 (x156001 - x155005)) (wrap64 (x156002 - x155006)) false x155000 x155001 x155002 x155003 x155004 x155005 x155006))) else (if x155003 > 0 then (spec_Due19.j1 k (wrap64 (x156000 - x155004)) (wrap64 (x156001 - x155005)) (wrap64 (x156002 - x155006)) (decide ((wrap64 (x156002 - x155006)) ≥ x155003)) x155000 x155001 x155002 x155003 x155004 x155005 x155006) else (spec_Due19.j1 k (wrap64 (x156000 - x155004)) (wrap64 (x156001 - x155005)) (wrap64 (x156002 - x155006)) false x155000 x155001 x155002 x155003 x155004 x155005 x155006)))) else (if x155002 > 0 then (if (wrap64 (x156001 - x155005)) ≥ x155002 then (spec_Due19.j1 k (wrap64 (x156000 - x155004)) (wrap64 (x156001 - x155005)) (wrap64 (x156002 - x155006)) true x155000 x155001 x155002 x155003 x155004 x155005 x155006) else (if x155003 > 0 then (spec_Due19.j1 k (wrap64 (x156000 - x155004)) (wrap64 (x156001 - x155005)) (wrap64 (x156002 - x155006)) (decide ((wrap64 (x156002 - x155006)) ≥ x155003)) x155000 x155001 x155002 x155003 x155004 x155005 x155006) else (spec_Due19.j1 k (wrap64 (x156000 - x155004)) (wrap64 (x156001 - x155005)) (wrap64 (x156002 - x155006)) false x155000 x155001 x155002 x155003 x155004 x155005 x155006))) else (if x155003 > 0 then (spec_Due19.j1 k (wrap64 (x156000 - x155004)) (wrap64 (x156001 - x155005)) (wrap64 (x156002 - x155006)) (decide ((wrap64 (x156002 - x155006)) ≥ x155003)) x155000 x155001 x155002 x155003 x155004 x155005 x155006) else (spec_Due19.j1 k (wrap64 (x156000 - x155004)) (wrap64 (x156001 - x155005)) (wrap64 (x156002 - x155006)) false x155000 x155001 x155002 x155003 x155004 x155005 x155006))))
def spec_Due19.j1 : Nat → Int → Int → Int → Bool → ByteArray → Int → Int → Int → Int → Int → Int → Option (Bool × Int × Int × Int × Bool)
 | 0, _, _, _, _, _, _, _, _, _, _, _ => none
 | k + 1, x7, x8, x9, x10, x155000, x155001, x155002, x155003, x155004, x155005, x155006 => (spec_l19Left.f x155001 x7).bind fun t160 => ((spec_l19Left.f x155002 x8).bind fun t161 => ((spec_l19Left.f x155003 x9).bind fun t162 => (some (x10, t160, t161, t162, true))))
end
def spec_Due19.f (k : Nat) (a0_0 : ByteArray) (a0_1 : Int) (a0_2 : Int) (a0_3 : Int) (a0_4 : Int) (a0_5 : Int) (a0_6 : Int) (a1_0 : Int) (a1_1 : Int) (a1_2 : Int) : Option (Bool × Int × Int × Int × Bool) := (spec_TaskOk.f k a0_0 a0_1 a0_2 a0_3 a0_4 a0_5 a0_6).bind fun t157 => (if t157 = true then ((spec_ClockOk.f a1_0 a1_1 a1_2).bind fun t158 => (if t158 = true then ((spec_l19Behind.f a0_4 a0_5 a0_6 a1_0 a1_1 a1_2).bind fun t159 => (spec_Due19.j0 k (!t159) a0_0 a0_1 a0_2 a0_3 a0_4 a0_5 a0_6 a1_0 a1_1 a1_2)) else (spec_Due19.j0 k true a0_0 a0_1 a0_2 a0_3 a0_4 a0_5 a0_6 a1_0 a1_1 a1_2))) else (spec_Due19.j0 k true a0_0 a0_1 a0_2 a0_3 a0_4 a0_5 a0_6 a1_0 a1_1 a1_2))
def spec_Due19.T3 : Bool × List (List Nat × List Nat) := (true, [([], []), ([0], [0]), ([], []), ([2], [2]), ([3], [3]), ([1, 4], [1, 4]), ([], []), ([6], [6]), ([], []), ([8], [8]), ([9], [9]), ([7, 10], [7, 10]), ([], []), ([12], [12]), ([], []), ([14], [14]), ([15], [15]), ([13, 16], [13, 16]), ([5, 0, 1, 2, 3, 4, 5], [5]), ([11, 18, 0, 1, 2, 3, 4, 5, 6, 7, 8, 9, 10, 11, 18], [11]), ([17, 19, 0, 1, 2, 3, 4, 5, 6, 7, 8, 9, 10, 11, 12, 13, 14, 15, 16, 17, 18, 19], [17])])
def spec_Due19.B3 : List Nat := [0, 1, 0, 4, 12, 31, 0, 64, 0, 256, 768, 1984, 0, 4096, 0, 16384, 49152, 126976, 63, 266239, 1048575]
theorem spec_Due19.tab3 : rtab .any (opsOf Tryz.f81 3) = spec_Due19.T3 := by kernel_rfl
theorem spec_Due19.bits3 : waitsOk spec_Due19.T3.2 spec_Due19.B3 = true := by kernel_rfl
def spec_Due19.T5 : Bool × List (List Nat × List Nat) := (true, [([], []), ([], []), ([1], [1]), ([], []), ([2, 3], [2, 3]), ([], []), ([5], [5]), ([], []), ([6, 7, 4], [6, 7]), ([], []), ([9], [9]), ([], []), ([10, 11, 8], [10, 11]), ([4, 8, 12], [4, 8, 12]), ([0, 12, 0], [0]), ([13, 14, 0, 1, 2, 3, 4, 5, 6, 7, 8, 9, 10, 11, 12, 13, 14], [13]), ([15, 0, 1, 2, 3, 4, 5, 6, 7, 8, 9, 10, 11, 12, 13, 14, 15], [])])
def spec_Due19.B5 : List Nat := [0, 0, 2, 0, 14, 0, 32, 0, 254, 0, 512, 0, 4094, 8190, 8191, 32767, 65535]
theorem spec_Due19.tab5 : rtab .any (opsOf Tryz.f81 5) = spec_Due19.T5 := by kernel_rfl
theorem spec_Due19.bits5 : waitsOk spec_Due19.T5.2 spec_Due19.B5 = true := by kernel_rfl
set_option maxHeartbeats 8000000 in
set_option maxRecDepth 100000 in
theorem spec_Due19.calls (k : Nat) (a0_0 : ByteArray) (a0_1 : Int) (a0_2 : Int) (a0_3 : Int) (a0_4 : Int) (a0_5 : Int) (a0_6 : Int) (a1_0 : Int) (a1_1 : Int) (a1_2 : Int) (r1 : Bool) (r2 : Int) (r3 : Int) (r4 : Int) (r5 : Bool) (w : World) (h : spec_Due19.f k a0_0 a0_1 a0_2 a0_3 a0_4 a0_5 a0_6 a1_0 a1_1 a1_2 = some (r1, r2, r3, r4, r5)) :
  Calls Tryz.prog 81 #[.agg #[.string a0_0, .int .i64 a0_1, .int .i64 a0_2, .int .i64 a0_3, .int .i64 a0_4, .int .i64 a0_5, .int .i64 a0_6], .agg #[.int .i64 a1_0, .int .i64 a1_1, .int .i64 a1_2]] w fun e w' => e = .returned (.tuple #[.bool r1, .agg #[.int .i64 r2, .int .i64 r3, .int .i64 r4], .bool r5]) ∧ Below w.heap.size w w' := by
 have hu86 := Tryz.underlying86
 have hu35 := Tryz.underlying35
 have HB := Aside0.mk (Below.refl w.heap.size w)
 have H : ((spec_TaskOk.f k a0_0 a0_1 a0_2 a0_3 a0_4 a0_5 a0_6).bind fun t157 => (if t157 = true then ((spec_ClockOk.f a1_0 a1_1 a1_2).bind fun t158 => (if t158 = true then ((spec_l19Behind.f a0_4 a0_5 a0_6 a1_0 a1_1 a1_2).bind fun t159 => (spec_Due19.j0 k (!t159) a0_0 a0_1 a0_2 a0_3 a0_4 a0_5 a0_6 a1_0 a1_1 a1_2)) else (spec_Due19.j0 k true a0_0 a0_1 a0_2 a0_3 a0_4 a0_5 a0_6 a1_0 a1_1 a1_2))) else (spec_Due19.j0 k true a0_0 a0_1 a0_2 a0_3 a0_4 a0_5 a0_6 a1_0 a1_1 a1_2))) = some (r1, r2, r3, r4, r5) := h
 clear h
 have HC3 := Aside0.mk H
 clear H
 go_enter Tryz.func81, Tryz.ntmps81
 go_upto_region 1 with (first | ((with_reducible refine gate_dst (N := 2) rfl ?_); refine box_event ?hg (N := 2) ?hd (cs := #[.string a0_0, .int .i64 a0_1, .int .i64 a0_2, .int .i64 a0_3, .int .i64 a0_4, .int .i64 a0_5, .int .i64 a0_6]) (t := 86) ?hr ?_; (case hd => rfl); (case hg => rfl); (case hr => first | (go_simp; done) | (go_simp; rfl)); intro gb154 hg w4 hbox hb; have BK154 := Aside0.mk (hbox); have GW154 := Aside0.mk ((by rw [hg]; exact (below_size (bl HB.out)) : w.heap.size ≤ gb154)); have GE154 := GW154; replace HB := Aside0.mk (below_step (bl HB.out) hb); clear hb hbox hg) | ((with_reducible refine gate_dst (N := 3) rfl ?_); refine box_event ?hg (N := 3) ?hd (cs := #[.int .i64 a1_0, .int .i64 a1_1, .int .i64 a1_2]) (t := 35) ?hr ?_; (case hd => rfl); (case hg => rfl); (case hr => first | (go_simp; done) | (go_simp; rfl)); intro gb155 hg w5 hbox hb; have BK155 := Aside0.mk (hbox); have GW155 := Aside0.mk ((by rw [hg]; exact (below_size (by repeat with_reducible first | exact bl HB.out | refine below_set ?_ GE154.out | refine bq ?_)) : w.heap.size ≤ gb155)); have GE155 := GW155; replace HB := Aside0.mk (below_step (by repeat with_reducible first | exact bl HB.out | refine below_set ?_ GE154.out | refine bq ?_) hb); have NB154_155 := nb_ hg BK154.out; have NB155_154 := Aside0.mk NB154_155.out.symm; replace BK154 := Aside0.mk (blk_below (bk BK154.out) hb); clear hb hbox hg) | ((with_reducible refine gate_dst (N := 5) rfl ?_); refine box_event ?hg (N := 5) ?hd (cs := #[.int .i64 0, .int .i64 0, .int .i64 0]) (t := 35) ?hr ?_; (case hd => rfl); (case hg => rfl); (case hr => first | (go_simp; done) | (go_simp; rfl)); intro gb156 hg w6 hbox hb; have BK156 := Aside0.mk (hbox); have GW156 := Aside0.mk ((by rw [hg]; exact (below_size (by repeat with_reducible first | exact bl HB.out | refine below_set ?_ GE154.out | refine below_set ?_ GE155.out | refine bq ?_)) : w.heap.size ≤ gb156)); have GE156 := GW156; replace HB := Aside0.mk (below_step (by repeat with_reducible first | exact bl HB.out | refine below_set ?_ GE154.out | refine below_set ?_ GE155.out | refine bq ?_) hb); have NB154_156 := nb_ hg BK154.out; have NB156_154 := Aside0.mk NB154_156.out.symm; replace BK154 := Aside0.mk (blk_below (bk BK154.out) hb); have NB155_156 := nb_ hg BK155.out; have NB156_155 := Aside0.mk NB155_156.out.symm; replace BK155 := Aside0.mk (blk_below (bk BK155.out) hb); clear hb hbox hg))
 (try simp only [Act.put, List.setIfInBounds_toArray, List.set_cons_zero, List.set_cons_succ])
 go_cut [25] (fun v25 wc => ∃ (kq : Nat) (x25_2 : Bool), v25 = .bool x25_2 ∧ Aside0 (spec_Due19.j0 kq x25_2 a0_0 a0_1 a0_2 a0_3 a0_4 a0_5 a0_6 a1_0 a1_1 a1_2 = some (r1, r2, r3, r4, r5)) ∧ Aside0 (kq ≤ k) ∧ Aside0 (wc.heap[gb154]? = some (.cells #[.string a0_0, .int .i64 a0_1, .int .i64 a0_2, .int .i64 a0_3, .int .i64 a0_4, .int .i64 a0_5, .int .i64 a0_6] 86 (0, 0))) ∧ Aside0 (wc.heap[gb155]? = some (.cells #[.int .i64 a1_0, .int .i64 a1_1, .int .i64 a1_2] 35 (0, 0))) ∧ Aside0 (wc.heap[gb156]? = some (.cells #[.int .i64 0, .int .i64 0, .int .i64 0] 35 (0, 0))) ∧ Aside0 (Below w.heap.size w wc))
 case first =>
  have H := HC3.out
  clear HC3
  replace H := Option.bind_eq_some_iff.mp H
  obtain ⟨t157, A70, H⟩ := H
  replace H : (if t157 = true then ((spec_ClockOk.f a1_0 a1_1 a1_2).bind fun t158 => (if t158 = true then ((spec_l19Behind.f a0_4 a0_5 a0_6 a1_0 a1_1 a1_2).bind fun t159 => (spec_Due19.j0 k (!t159) a0_0 a0_1 a0_2 a0_3 a0_4 a0_5 a0_6 a1_0 a1_1 a1_2)) else (spec_Due19.j0 k true a0_0 a0_1 a0_2 a0_3 a0_4 a0_5 a0_6 a1_0 a1_1 a1_2))) else (spec_Due19.j0 k true a0_0 a0_1 a0_2 a0_3 a0_4 a0_5 a0_6 a1_0 a1_1 a1_2)) = some (r1, r2, r3, r4, r5) := H
  have A7 := Aside0.mk A70
  clear A70
  by_cases c8 : t157 = true
  ·
   subst c8
   have H1 : ((spec_ClockOk.f a1_0 a1_1 a1_2).bind fun t158 => (if t158 = true then ((spec_l19Behind.f a0_4 a0_5 a0_6 a1_0 a1_1 a1_2).bind fun t159 => (spec_Due19.j0 k (!t159) a0_0 a0_1 a0_2 a0_3 a0_4 a0_5 a0_6 a1_0 a1_1 a1_2)) else (spec_Due19.j0 k true a0_0 a0_1 a0_2 a0_3 a0_4 a0_5 a0_6 a1_0 a1_1 a1_2))) = some (r1, r2, r3, r4, r5) := by rw [if_pos rfl] at H; exact H
   clear H
   have H := H1
   clear H1
   replace H := Option.bind_eq_some_iff.mp H
   obtain ⟨t158, A90, H⟩ := H
   replace H : (if t158 = true then ((spec_l19Behind.f a0_4 a0_5 a0_6 a1_0 a1_1 a1_2).bind fun t159 => (spec_Due19.j0 k (!t159) a0_0 a0_1 a0_2 a0_3 a0_4 a0_5 a0_6 a1_0 a1_1 a1_2)) else (spec_Due19.j0 k true a0_0 a0_1 a0_2 a0_3 a0_4 a0_5 a0_6 a1_0 a1_1 a1_2)) = some (r1, r2, r3, r4, r5) := H
   have A9 := Aside0.mk A90
   clear A90
   by_cases c10 : t158 = true
   ·
    subst c10
    have H1 : ((spec_l19Behind.f a0_4 a0_5 a0_6 a1_0 a1_1 a1_2).bind fun t159 => (spec_Due19.j0 k (!t159) a0_0 a0_1 a0_2 a0_3 a0_4 a0_5 a0_6 a1_0 a1_1 a1_2)) = some (r1, r2, r3, r4, r5) := by rw [if_pos rfl] at H; exact H
    clear H
    have H := H1
    clear H1
    replace H := Option.bind_eq_some_iff.mp H
    obtain ⟨t159, A110, H⟩ := H
    replace H : (spec_Due19.j0 k (!t159) a0_0 a0_1 a0_2 a0_3 a0_4 a0_5 a0_6 a1_0 a1_1 a1_2) = some (r1, r2, r3, r4, r5) := H
    have A11 := Aside0.mk A110
    clear A110
    have H' := Aside0.mk H
    clear H
    have hnb12 := NB154_155.out
    have hnc12 := NB155_154.out
    have hnb13 := NB154_156.out
    have hnc13 := NB156_154.out
    obtain ⟨hcz14_0, hcz14_1, hcz14_2, hcz14_3, hcz14_4, hcz14_5, hcz14_6⟩ := ck7 BK154.out
    obtain ⟨hfz14_0, hfz14_1, hfz14_2, hfz14_3, hfz14_4, hfz14_5, hfz14_6⟩ := fz7 BK154.out
    go_wp2_with (first | ((with_reducible refine gate_callee (f := 62) rfl ?_); refine goesL_ (some 12) rfl rfl Tryz.func62 (by kernel_rfl) rfl #[.agg #[.string a0_0, .int .i64 a0_1, .int .i64 a0_2, .int .i64 a0_3, .int .i64 a0_4, .int .i64 a0_5, .int .i64 a0_6]] rfl (by (try simp only [am_]); first | done | rfl) ?_; (with_reducible refine (spec_TaskOk.calls k a0_0 a0_1 a0_2 a0_3 a0_4 a0_5 a0_6 true _ A7.out).mono ?_); rintro e w15 ⟨rfl, hb⟩; refine ⟨_, rfl, ?_⟩; replace BK154 := Aside0.mk (blk_below (bk BK154.out) hb); replace BK155 := Aside0.mk (blk_below (bk BK155.out) hb); replace BK156 := Aside0.mk (blk_below (bk BK156.out) hb); replace HB := Aside0.mk (below_step (by repeat with_reducible first | exact bl HB.out | refine below_set ?_ GE154.out | refine below_set ?_ GE155.out | refine below_set ?_ GE156.out | refine bq ?_) hb); (try clear hb); (try clear hb2); (try clear hk); (try clear hi); have hnb16 := NB155_156.out; have hnc16 := NB156_155.out; obtain ⟨hcz17_0, hcz17_1, hcz17_2⟩ := ck3 BK155.out; obtain ⟨hfz17_0, hfz17_1, hfz17_2⟩ := fz3 BK155.out) | (go_at_call 60; (with_reducible refine (spec_ClockOk.calls a1_0 a1_1 a1_2 true _ A9.out).mono ?_); rintro e w18 ⟨rfl, hb⟩; replace BK154 := Aside0.mk (blk_below (bk BK154.out) hb); replace BK155 := Aside0.mk (blk_below (bk BK155.out) hb); replace BK156 := Aside0.mk (blk_below (bk BK156.out) hb); replace HB := Aside0.mk (below_step (by repeat with_reducible first | exact bl HB.out | refine below_set ?_ GE154.out | refine below_set ?_ GE155.out | refine below_set ?_ GE156.out | refine bq ?_) hb); (try clear hb); (try clear hb2); (try clear hk); (try clear hi); obtain ⟨hcz19_0, hcz19_1, hcz19_2, hcz19_3, hcz19_4, hcz19_5, hcz19_6⟩ := ck7 BK154.out; obtain ⟨hfz19_0, hfz19_1, hfz19_2, hfz19_3, hfz19_4, hfz19_5, hfz19_6⟩ := fz7 BK154.out; obtain ⟨hcz20_0, hcz20_1, hcz20_2⟩ := ck3 BK155.out; obtain ⟨hfz20_0, hfz20_1, hfz20_2⟩ := fz3 BK155.out) | (go_at_call 63; (with_reducible refine (spec_l19Behind.calls a0_4 a0_5 a0_6 a1_0 a1_1 a1_2 t159 _ A11.out).mono ?_); rintro e w21 ⟨rfl, hb⟩; replace BK154 := Aside0.mk (blk_below (bk BK154.out) hb); replace BK155 := Aside0.mk (blk_below (bk BK155.out) hb); replace BK156 := Aside0.mk (blk_below (bk BK156.out) hb); replace HB := Aside0.mk (below_step (by repeat with_reducible first | exact bl HB.out | refine below_set ?_ GE154.out | refine below_set ?_ GE155.out | refine below_set ?_ GE156.out | refine bq ?_) hb); (try clear hb); (try clear hb2); (try clear hk); (try clear hi)))
    go_meet
    case rel => exact ⟨_, (!t159), (by first | rfl | (simp; done) | (simp [*]; done)), H', ⟨by first | omega | exact Nat.le_refl _⟩, ⟨bk BK154.out⟩, ⟨bk BK155.out⟩, ⟨bk BK156.out⟩, ⟨by repeat with_reducible first | exact bl HB.out | refine below_set ?_ GE154.out | refine below_set ?_ GE155.out | refine below_set ?_ GE156.out | refine bq ?_⟩⟩
   ·
    replace c10 := Bool.eq_false_iff.mpr c10
    subst c10
    have H1 : (spec_Due19.j0 k true a0_0 a0_1 a0_2 a0_3 a0_4 a0_5 a0_6 a1_0 a1_1 a1_2) = some (r1, r2, r3, r4, r5) := by rw [if_neg (show ¬ (false = true) by decide)] at H; exact H
    clear H
    have H := H1
    clear H1
    have H' := Aside0.mk H
    clear H
    have hnb22 := NB154_155.out
    have hnc22 := NB155_154.out
    have hnb23 := NB154_156.out
    have hnc23 := NB156_154.out
    obtain ⟨hcz24_0, hcz24_1, hcz24_2, hcz24_3, hcz24_4, hcz24_5, hcz24_6⟩ := ck7 BK154.out
    obtain ⟨hfz24_0, hfz24_1, hfz24_2, hfz24_3, hfz24_4, hfz24_5, hfz24_6⟩ := fz7 BK154.out
    go_wp2_with (first | ((with_reducible refine gate_callee (f := 62) rfl ?_); refine goesL_ (some 12) rfl rfl Tryz.func62 (by kernel_rfl) rfl #[.agg #[.string a0_0, .int .i64 a0_1, .int .i64 a0_2, .int .i64 a0_3, .int .i64 a0_4, .int .i64 a0_5, .int .i64 a0_6]] rfl (by (try simp only [am_]); first | done | rfl) ?_; (with_reducible refine (spec_TaskOk.calls k a0_0 a0_1 a0_2 a0_3 a0_4 a0_5 a0_6 true _ A7.out).mono ?_); rintro e w25 ⟨rfl, hb⟩; refine ⟨_, rfl, ?_⟩; replace BK154 := Aside0.mk (blk_below (bk BK154.out) hb); replace BK155 := Aside0.mk (blk_below (bk BK155.out) hb); replace BK156 := Aside0.mk (blk_below (bk BK156.out) hb); replace HB := Aside0.mk (below_step (by repeat with_reducible first | exact bl HB.out | refine below_set ?_ GE154.out | refine below_set ?_ GE155.out | refine below_set ?_ GE156.out | refine bq ?_) hb); (try clear hb); (try clear hb2); (try clear hk); (try clear hi); have hnb26 := NB155_156.out; have hnc26 := NB156_155.out; obtain ⟨hcz27_0, hcz27_1, hcz27_2⟩ := ck3 BK155.out; obtain ⟨hfz27_0, hfz27_1, hfz27_2⟩ := fz3 BK155.out) | (go_at_call 60; (with_reducible refine (spec_ClockOk.calls a1_0 a1_1 a1_2 false _ A9.out).mono ?_); rintro e w28 ⟨rfl, hb⟩; replace BK154 := Aside0.mk (blk_below (bk BK154.out) hb); replace BK155 := Aside0.mk (blk_below (bk BK155.out) hb); replace BK156 := Aside0.mk (blk_below (bk BK156.out) hb); replace HB := Aside0.mk (below_step (by repeat with_reducible first | exact bl HB.out | refine below_set ?_ GE154.out | refine below_set ?_ GE155.out | refine below_set ?_ GE156.out | refine bq ?_) hb); (try clear hb); (try clear hb2); (try clear hk); (try clear hi)))
    go_meet
    case rel => exact ⟨_, (true), (by first | rfl | (simp; done) | (simp [*]; done)), H', ⟨by first | omega | exact Nat.le_refl _⟩, ⟨bk BK154.out⟩, ⟨bk BK155.out⟩, ⟨bk BK156.out⟩, ⟨by repeat with_reducible first | exact bl HB.out | refine below_set ?_ GE154.out | refine below_set ?_ GE155.out | refine below_set ?_ GE156.out | refine bq ?_⟩⟩
  ·
   replace c8 := Bool.eq_false_iff.mpr c8
   subst c8
   have H1 : (spec_Due19.j0 k true a0_0 a0_1 a0_2 a0_3 a0_4 a0_5 a0_6 a1_0 a1_1 a1_2) = some (r1, r2, r3, r4, r5) := by rw [if_neg (show ¬ (false = true) by decide)] at H; exact H
   clear H
   have H := H1
   clear H1
   have H' := Aside0.mk H
   clear H
   have hnb29 := NB154_155.out
   have hnc29 := NB155_154.out
   have hnb30 := NB154_156.out
   have hnc30 := NB156_154.out
   obtain ⟨hcz31_0, hcz31_1, hcz31_2, hcz31_3, hcz31_4, hcz31_5, hcz31_6⟩ := ck7 BK154.out
   obtain ⟨hfz31_0, hfz31_1, hfz31_2, hfz31_3, hfz31_4, hfz31_5, hfz31_6⟩ := fz7 BK154.out
   go_wp2_with (first | ((with_reducible refine gate_callee (f := 62) rfl ?_); refine goesL_ (some 12) rfl rfl Tryz.func62 (by kernel_rfl) rfl #[.agg #[.string a0_0, .int .i64 a0_1, .int .i64 a0_2, .int .i64 a0_3, .int .i64 a0_4, .int .i64 a0_5, .int .i64 a0_6]] rfl (by (try simp only [am_]); first | done | rfl) ?_; (with_reducible refine (spec_TaskOk.calls k a0_0 a0_1 a0_2 a0_3 a0_4 a0_5 a0_6 false _ A7.out).mono ?_); rintro e w32 ⟨rfl, hb⟩; refine ⟨_, rfl, ?_⟩; replace BK154 := Aside0.mk (blk_below (bk BK154.out) hb); replace BK155 := Aside0.mk (blk_below (bk BK155.out) hb); replace BK156 := Aside0.mk (blk_below (bk BK156.out) hb); replace HB := Aside0.mk (below_step (by repeat with_reducible first | exact bl HB.out | refine below_set ?_ GE154.out | refine below_set ?_ GE155.out | refine below_set ?_ GE156.out | refine bq ?_) hb); (try clear hb); (try clear hb2); (try clear hk); (try clear hi)))
   go_meet
   case rel => exact ⟨_, (true), (by first | rfl | (simp; done) | (simp [*]; done)), H', ⟨by first | omega | exact Nat.le_refl _⟩, ⟨bk BK154.out⟩, ⟨bk BK155.out⟩, ⟨bk BK156.out⟩, ⟨by repeat with_reducible first | exact bl HB.out | refine below_set ?_ GE154.out | refine below_set ?_ GE155.out | refine below_set ?_ GE156.out | refine bq ?_⟩⟩
 case rest =>
  clear HC3
  try clear c1
  try clear c2
  try clear p2
  try clear c3
  try clear c6
  try clear c8
  try clear c10
  try clear c12
  try clear c13
  try clear c16
  try clear c22
  try clear c23
  try clear c26
  try clear c29
  try clear c30
  try clear hcz14_0 hcz14_1 hcz14_2 hcz14_3 hcz14_4 hcz14_5 hcz14_6 hfz14_0 hfz14_1 hfz14_2 hfz14_3 hfz14_4 hfz14_5 hfz14_6
  try clear hcz17_0 hcz17_1 hcz17_2 hfz17_0 hfz17_1 hfz17_2
  try clear hcz19_0 hcz19_1 hcz19_2 hcz19_3 hcz19_4 hcz19_5 hcz19_6 hfz19_0 hfz19_1 hfz19_2 hfz19_3 hfz19_4 hfz19_5 hfz19_6
  try clear hcz20_0 hcz20_1 hcz20_2 hfz20_0 hfz20_1 hfz20_2
  try clear hcz24_0 hcz24_1 hcz24_2 hcz24_3 hcz24_4 hcz24_5 hcz24_6 hfz24_0 hfz24_1 hfz24_2 hfz24_3 hfz24_4 hfz24_5 hfz24_6
  try clear hcz27_0 hcz27_1 hcz27_2 hfz27_0 hfz27_1 hfz27_2
  try clear hcz31_0 hcz31_1 hcz31_2 hcz31_3 hcz31_4 hcz31_5 hcz31_6 hfz31_0 hfz31_1 hfz31_2 hfz31_3 hfz31_4 hfz31_5 hfz31_6
  obtain ⟨kq, x25_2, rfl, HA, HJ2, BK154, BK155, BK156, HB⟩ := hcut
  cases kq with
  | zero => exact absurd HA.out (by simp [spec_Due19.j0])
  | succ kj2 =>
   have H := HA.out
   clear HA
   simp only [spec_Due19.j0] at H
   by_cases c33 : x25_2 = true
   ·
    subst c33
    have H1 : (some (false, 0, 0, 0, false)) = some (r1, r2, r3, r4, r5) := by rw [if_pos rfl] at H; exact H
    clear H
    have H := H1
    clear H1
    simp only [Option.some.injEq, Prod.mk.injEq] at H
    obtain ⟨rfl, rfl, rfl, rfl, rfl⟩ := H
    have hnb34 := NB156_154.out
    have hnc34 := NB154_156.out
    have hnb35 := NB156_155.out
    have hnc35 := NB155_156.out
    obtain ⟨hcz36_0, hcz36_1, hcz36_2⟩ := ck3 BK156.out
    obtain ⟨hfz36_0, hfz36_1, hfz36_2⟩ := fz3 BK156.out
    go_wp2
    refine bodyPost_ret (results_list (rs := [.tmp 4, .cell 5 35, .tmp 6]) rfl (by simp) (.tmp (.cell gb156 35 #[.int .i64 0, .int .i64 0, .int .i64 0] (0, 0) _ rfl (by (repeat refine bk1 ?_); refine blk_put (cs := #[.int .i64 0, .int .i64 0, .int .i64 0]) ?_ 2 _ rfl; (repeat refine bk1 ?_); refine blk_put (cs := #[.int .i64 0, .int .i64 0, .int .i64 0]) ?_ 1 _ rfl; (repeat refine bk1 ?_); refine blk_put (cs := #[.int .i64 0, .int .i64 0, .int .i64 0]) ?_ 0 _ rfl; (repeat refine bk1 ?_); exact BK156.out) Tryz.underlying35 rfl (by kernel_rfl) (.tmp .nil)))) rfl ?_
    exact ⟨by first | rfl | (simp [errW_none, errW_some] <;> rfl) | (simp [*, errW_none, errW_some] <;> rfl), by repeat with_reducible first | exact bl HB.out | refine below_set ?_ GE154.out | refine below_set ?_ GE155.out | refine below_set ?_ GE156.out | refine bq ?_⟩
   ·
    replace c33 := Bool.eq_false_iff.mpr c33
    subst c33
    have H1 : (if a0_1 > 0 then (if (wrap64 (a1_0 - a0_4)) ≥ a0_1 then (spec_Due19.j1 kj2 (wrap64 (a1_0 - a0_4)) (wrap64 (a1_1 - a0_5)) (wrap64 (a1_2 - a0_6)) true a0_0 a0_1 a0_2 a0_3 a0_4 a0_5 a0_6) else (if a0_2 > 0 then (if (wrap64 (a1_1 - a0_5)) ≥ a0_2 then (spec_Due19.j1 kj2 (wrap64 (a1_0 - a0_4)) (wrap64 (a1_1 - a0_5)) (wrap64 (a1_2 - a0_6)) true a0_0 a0_1 a0_2 a0_3 a0_4 a0_5 a0_6) else (if a0_3 > 0 then (spec_Due19.j1 kj2 (wrap64 (a1_0 - a0_4)) (wrap64 (a1_1 - a0_5)) (wrap64 (a1_2 - a0_6)) (decide ((wrap64 (a1_2 - a0_6)) ≥ a0_3)) a0_0 a0_1 a0_2 a0_3 a0_4 a0_5 a0_6) else (spec_Due19.j1 kj2 (wrap64 (a1_0 - a0_4)) (wrap64 (a1_1 - a0_5)) (wrap64 (a1_2 - a0_6)) false a0_0 a0_1 a0_2 a0_3 a0_4 a0_5 a0_6))) else (if a0_3 > 0 then (spec_Due19.j1 kj2 (wrap64 (a1_0 - a0_4)) (wrap64 (a1_1 - a0_5)) (wrap64 (a1_2 - a0_6)) (decide ((wrap64 (a1_2 - a0_6)) ≥ a0_3)) a0_0 a0_1 a0_2 a0_3 a0_4 a0_5 a0_6) else (spec_Due19.j1 kj2 (wrap64 (a1_0 - a0_4)) (wrap64 (a1_1 - a0_5)) (wrap64 (a1_2 - a0_6)) false a0_0 a0_1 a0_2 a0_3 a0_4 a0_5 a0_6)))) else (if a0_2 > 0 then (if (wrap64 (a1_1 - a0_5)) ≥ a0_2 then (spec_Due19.j1 kj2 (wrap64 (a1_0 - a0_4)) (wrap64 (a1_1 - a0_5)) (wrap64 (a1_2 - a0_6)) true a0_0 a0_1 a0_2 a0_3 a0_4 a0_5 a0_6) else (if a0_3 > 0 then (spec_Due19.j1 kj2 (wrap64 (a1_0 - a0_4)) (wrap64 (a1_1 - a0_5)) (wrap64 (a1_2 - a0_6)) (decide ((wrap64 (a1_2 - a0_6)) ≥ a0_3)) a0_0 a0_1 a0_2 a0_3 a0_4 a0_5 a0_6) else (spec_Due19.j1 kj2 (wrap64 (a1_0 - a0_4)) (wrap64 (a1_1 - a0_5)) (wrap64 (a1_2 - a0_6)) false a0_0 a0_1 a0_2 a0_3 a0_4 a0_5 a0_6))) else (if a0_3 > 0 then (spec_Due19.j1 kj2 (wrap64 (a1_0 - a0_4)) (wrap64 (a1_1 - a0_5)) (wrap64 (a1_2 - a0_6)) (decide ((wrap64 (a1_2 - a0_6)) ≥ a0_3)) a0_0 a0_1 a0_2 a0_3 a0_4 a0_5 a0_6) else (spec_Due19.j1 kj2 (wrap64 (a1_0 - a0_4)) (wrap64 (a1_1 - a0_5)) (wrap64 (a1_2 - a0_6)) false a0_0 a0_1 a0_2 a0_3 a0_4 a0_5 a0_6)))) = some (r1, r2, r3, r4, r5) := by rw [if_neg (show ¬ (false = true) by decide)] at H; exact H
    clear H
    have H := H1
    clear H1
    have HC37 := Aside0.mk H
    clear H
    try go_wp2
    have n0_ := Aside0.mk (blk_drew BK154.out)
    have n1_ := Aside0.mk (blk_drew BK155.out)
    have n2_ := Aside0.mk (blk_drew BK156.out)
    have n3_ := Aside0.mk (below_drew1 HB.out)
    clear BK154
    clear BK155
    clear BK156
    clear HB
    have BK154 := n0_
    have BK155 := n1_
    have BK156 := n2_
    have HB := n3_
    clear n0_ n1_ n2_ n3_
    refine start_ (n := 21) (S := fun w' => w'.cell? ⟨gb155, 0, none⟩ = some (.int .i64 a1_0) ∧ w'.cell? ⟨gb155, 1, none⟩ = some (.int .i64 a1_1) ∧ w'.cell? ⟨gb155, 2, none⟩ = some (.int .i64 a1_2) ∧ w'.cell? ⟨gb154, 0, none⟩ = some (.string a0_0) ∧ w'.cell? ⟨gb154, 1, none⟩ = some (.int .i64 a0_1) ∧ w'.cell? ⟨gb154, 2, none⟩ = some (.int .i64 a0_2) ∧ w'.cell? ⟨gb154, 3, none⟩ = some (.int .i64 a0_3) ∧ w'.cell? ⟨gb154, 4, none⟩ = some (.int .i64 a0_4) ∧ w'.cell? ⟨gb154, 5, none⟩ = some (.int .i64 a0_5) ∧ w'.cell? ⟨gb154, 6, none⟩ = some (.int .i64 a0_6)) (ds := []) m0_21 (by kernel_rfl) rfl rfl ⟨ck BK155.out 0 rfl, ck BK155.out 1 rfl, ck BK155.out 2 rfl, ck BK154.out 0 rfl, ck BK154.out 1 rfl, ck BK154.out 2 rfl, ck BK154.out 3 rfl, ck BK154.out 4 rfl, ck BK154.out 5 rfl, ck BK154.out 6 rfl⟩ (fun hHeld => ?_); refine with_tabW spec_Due19.tab3 spec_Due19.bits3 (fun HT_ HW_ => ?_)
    generalize wc.drew = w38 at BK154 BK155 BK156 HB hHeld ⊢
    refine pq_ HT_.out 0 27 m1_21 ?_
    refine pq_ HT_.out 2 29 n1 ?_
    refine pq_ HT_.out 3 30 n2 ?_
    refine pq_ HT_.out 6 33 n3 ?_
    refine pq_ HT_.out 8 35 n4 ?_
    refine pq_ HT_.out 9 36 n5 ?_
    refine pq_ HT_.out 12 39 n6 ?_
    refine pq_ HT_.out 14 41 n7 ?_
    refine pq_ HT_.out 15 42 n8 ?_
    refine tk_ HT_.out HW_.out 1 28 n25 rfl rfl (by kernel_rfl) (by rfl) (by rintro w' ⟨s0, s1, s2, s3, s4, s5, s6, s7, s8, s9⟩; go_simp; with_reducible rfl) hHeld (by simp only [sp_]; rfl) (fun _ _ _ h => h) ?_
    refine tk_ HT_.out HW_.out 4 31 n26 rfl rfl (by kernel_rfl) (by rfl) (by rintro w' ⟨s0, s1, s2, s3, s4, s5, s6, s7, s8, s9⟩; go_simp; with_reducible rfl) hHeld (by simp only [sp_]; rfl) (fun _ _ _ h => h) ?_
    refine pq_ HT_.out 5 32 n9 ?_
    refine pq_ HT_.out 18 7 n10 ?_
    refine tk_ HT_.out HW_.out 7 34 n27 rfl rfl (by kernel_rfl) (by rfl) (by rintro w' ⟨s0, s1, s2, s3, s4, s5, s6, s7, s8, s9⟩; go_simp; with_reducible rfl) hHeld (by simp only [sp_]; rfl) (fun _ _ _ h => h) ?_
    refine tk_ HT_.out HW_.out 10 37 n28 rfl rfl (by kernel_rfl) (by rfl) (by rintro w' ⟨s0, s1, s2, s3, s4, s5, s6, s7, s8, s9⟩; go_simp; with_reducible rfl) hHeld (by simp only [sp_]; rfl) (fun _ _ _ h => h) ?_
    refine pq_ HT_.out 11 38 n11 ?_
    refine pq_ HT_.out 19 8 n12 ?_
    refine tk_ HT_.out HW_.out 13 40 n29 rfl rfl (by kernel_rfl) (by rfl) (by rintro w' ⟨s0, s1, s2, s3, s4, s5, s6, s7, s8, s9⟩; go_simp; with_reducible rfl) hHeld (by simp only [sp_]; rfl) (fun _ _ _ h => h) ?_
    refine tk_ HT_.out HW_.out 16 43 n30 rfl rfl (by kernel_rfl) (by rfl) (by rintro w' ⟨s0, s1, s2, s3, s4, s5, s6, s7, s8, s9⟩; go_simp; with_reducible rfl) hHeld (by simp only [sp_]; rfl) (fun _ _ _ h => h) ?_
    refine pq_ HT_.out 17 44 m20_21 ?_
    refine pq_ HT_.out 20 9 m21_21 ?_
    refine done_ (done_of HT_.out (by kernel_rfl)) ?_
    go_upto_region 4 with (fail)
    go_cut [10] (fun v10 wc => ∃ (kq : Nat) (x10_36 : Bool), v10 = .bool x10_36 ∧ Aside0 (spec_Due19.j1 kq (wrap64 (a1_0 - a0_4)) (wrap64 (a1_1 - a0_5)) (wrap64 (a1_2 - a0_6)) x10_36 a0_0 a0_1 a0_2 a0_3 a0_4 a0_5 a0_6 = some (r1, r2, r3, r4, r5)) ∧ Aside0 (kq ≤ kj2) ∧ Aside0 (wc.heap[gb154]? = some (.cells #[.string a0_0, .int .i64 a0_1, .int .i64 a0_2, .int .i64 a0_3, .int .i64 a0_4, .int .i64 a0_5, .int .i64 a0_6] 86 (0, 0))) ∧ Aside0 (wc.heap[gb155]? = some (.cells #[.int .i64 a1_0, .int .i64 a1_1, .int .i64 a1_2] 35 (0, 0))) ∧ Aside0 (wc.heap[gb156]? = some (.cells #[.int .i64 0, .int .i64 0, .int .i64 0] 35 (0, 0))) ∧ Aside0 (Below w.heap.size w wc))
    case first =>
     have H := HC37.out
     clear HC37
     by_cases c39 : a0_1 > 0
     ·
      rw [if_pos c39] at H
      have c39b0 : decide (0 < a0_1) = true := decide_eq_true c39
      clear c39
      (first | rw [c39b0] | (simp only [i64_w, i32_w]; rw [c39b0]) | skip)
      by_cases c40 : (wrap64 (a1_0 - a0_4)) ≥ a0_1
      ·
       rw [if_pos c40] at H
       have c40b0 : decide (a0_1 ≤ (wrap64 (a1_0 - a0_4))) = true := decide_eq_true c40
       clear c40
       have H' := Aside0.mk H
       clear H
       have hnb41 := NB154_155.out
       have hnc41 := NB155_154.out
       have hnb42 := NB154_156.out
       have hnc42 := NB156_154.out
       obtain ⟨hcz43_0, hcz43_1, hcz43_2, hcz43_3, hcz43_4, hcz43_5, hcz43_6⟩ := ck7 BK154.out
       obtain ⟨hfz43_0, hfz43_1, hfz43_2, hfz43_3, hfz43_4, hfz43_5, hfz43_6⟩ := fz7 BK154.out
       go_wp2
       go_meet
       case rel => exact ⟨_, (true), (by first | rfl | (simp; done) | (simp [*]; done)), H', ⟨by have := HJ2.out; first | omega | exact Nat.le_refl _⟩, ⟨bk BK154.out⟩, ⟨bk BK155.out⟩, ⟨bk BK156.out⟩, ⟨by repeat with_reducible first | exact bl HB.out | refine below_set ?_ GE154.out | refine below_set ?_ GE155.out | refine below_set ?_ GE156.out | refine bq ?_⟩⟩
      ·
       rw [if_neg c40] at H
       have c40b0 : decide (a0_1 ≤ (wrap64 (a1_0 - a0_4))) = false := decide_eq_false c40
       clear c40
       by_cases c44 : a0_2 > 0
       ·
        rw [if_pos c44] at H
        have c44b0 : decide (0 < a0_2) = true := decide_eq_true c44
        clear c44
        by_cases c45 : (wrap64 (a1_1 - a0_5)) ≥ a0_2
        ·
         rw [if_pos c45] at H
         have c45b0 : decide (a0_2 ≤ (wrap64 (a1_1 - a0_5))) = true := decide_eq_true c45
         clear c45
         have H' := Aside0.mk H
         clear H
         have hnb46 := NB154_155.out
         have hnc46 := NB155_154.out
         have hnb47 := NB154_156.out
         have hnc47 := NB156_154.out
         obtain ⟨hcz48_0, hcz48_1, hcz48_2, hcz48_3, hcz48_4, hcz48_5, hcz48_6⟩ := ck7 BK154.out
         obtain ⟨hfz48_0, hfz48_1, hfz48_2, hfz48_3, hfz48_4, hfz48_5, hfz48_6⟩ := fz7 BK154.out
         go_wp2
         go_meet
         case rel => exact ⟨_, (true), (by first | rfl | (simp; done) | (simp [*]; done)), H', ⟨by have := HJ2.out; first | omega | exact Nat.le_refl _⟩, ⟨bk BK154.out⟩, ⟨bk BK155.out⟩, ⟨bk BK156.out⟩, ⟨by repeat with_reducible first | exact bl HB.out | refine below_set ?_ GE154.out | refine below_set ?_ GE155.out | refine below_set ?_ GE156.out | refine bq ?_⟩⟩
        ·
         rw [if_neg c45] at H
         have c45b0 : decide (a0_2 ≤ (wrap64 (a1_1 - a0_5))) = false := decide_eq_false c45
         clear c45
         by_cases c49 : a0_3 > 0
         ·
          rw [if_pos c49] at H
          have c49b0 : decide (0 < a0_3) = true := decide_eq_true c49
          clear c49
          have H' := Aside0.mk H
          clear H
          have hnb50 := NB154_155.out
          have hnc50 := NB155_154.out
          have hnb51 := NB154_156.out
          have hnc51 := NB156_154.out
          obtain ⟨hcz52_0, hcz52_1, hcz52_2, hcz52_3, hcz52_4, hcz52_5, hcz52_6⟩ := ck7 BK154.out
          obtain ⟨hfz52_0, hfz52_1, hfz52_2, hfz52_3, hfz52_4, hfz52_5, hfz52_6⟩ := fz7 BK154.out
          go_wp2
          go_meet
          case rel => exact ⟨_, (decide ((wrap64 (a1_2 - a0_6)) ≥ a0_3)), (by first | rfl | (simp; done) | (simp [*]; done)), H', ⟨by have := HJ2.out; first | omega | exact Nat.le_refl _⟩, ⟨bk BK154.out⟩, ⟨bk BK155.out⟩, ⟨bk BK156.out⟩, ⟨by repeat with_reducible first | exact bl HB.out | refine below_set ?_ GE154.out | refine below_set ?_ GE155.out | refine below_set ?_ GE156.out | refine bq ?_⟩⟩
         ·
          rw [if_neg c49] at H
          have c49b0 : decide (0 < a0_3) = false := decide_eq_false c49
          clear c49
          have H' := Aside0.mk H
          clear H
          have hnb53 := NB154_155.out
          have hnc53 := NB155_154.out
          have hnb54 := NB154_156.out
          have hnc54 := NB156_154.out
          obtain ⟨hcz55_0, hcz55_1, hcz55_2, hcz55_3, hcz55_4, hcz55_5, hcz55_6⟩ := ck7 BK154.out
          obtain ⟨hfz55_0, hfz55_1, hfz55_2, hfz55_3, hfz55_4, hfz55_5, hfz55_6⟩ := fz7 BK154.out
          go_wp2
          go_meet
          case rel => exact ⟨_, (false), (by first | rfl | (simp; done) | (simp [*]; done)), H', ⟨by have := HJ2.out; first | omega | exact Nat.le_refl _⟩, ⟨bk BK154.out⟩, ⟨bk BK155.out⟩, ⟨bk BK156.out⟩, ⟨by repeat with_reducible first | exact bl HB.out | refine below_set ?_ GE154.out | refine below_set ?_ GE155.out | refine below_set ?_ GE156.out | refine bq ?_⟩⟩
       ·
        rw [if_neg c44] at H
        have c44b0 : decide (0 < a0_2) = false := decide_eq_false c44
        clear c44
        by_cases c56 : a0_3 > 0
        ·
         rw [if_pos c56] at H
         have c56b0 : decide (0 < a0_3) = true := decide_eq_true c56
         clear c56
         have H' := Aside0.mk H
         clear H
         have hnb57 := NB154_155.out
         have hnc57 := NB155_154.out
         have hnb58 := NB154_156.out
         have hnc58 := NB156_154.out
         obtain ⟨hcz59_0, hcz59_1, hcz59_2, hcz59_3, hcz59_4, hcz59_5, hcz59_6⟩ := ck7 BK154.out
         obtain ⟨hfz59_0, hfz59_1, hfz59_2, hfz59_3, hfz59_4, hfz59_5, hfz59_6⟩ := fz7 BK154.out
         go_wp2
         go_meet
         case rel => exact ⟨_, (decide ((wrap64 (a1_2 - a0_6)) ≥ a0_3)), (by first | rfl | (simp; done) | (simp [*]; done)), H', ⟨by have := HJ2.out; first | omega | exact Nat.le_refl _⟩, ⟨bk BK154.out⟩, ⟨bk BK155.out⟩, ⟨bk BK156.out⟩, ⟨by repeat with_reducible first | exact bl HB.out | refine below_set ?_ GE154.out | refine below_set ?_ GE155.out | refine below_set ?_ GE156.out | refine bq ?_⟩⟩
        ·
         rw [if_neg c56] at H
         have c56b0 : decide (0 < a0_3) = false := decide_eq_false c56
         clear c56
         have H' := Aside0.mk H
         clear H
         have hnb60 := NB154_155.out
         have hnc60 := NB155_154.out
         have hnb61 := NB154_156.out
         have hnc61 := NB156_154.out
         obtain ⟨hcz62_0, hcz62_1, hcz62_2, hcz62_3, hcz62_4, hcz62_5, hcz62_6⟩ := ck7 BK154.out
         obtain ⟨hfz62_0, hfz62_1, hfz62_2, hfz62_3, hfz62_4, hfz62_5, hfz62_6⟩ := fz7 BK154.out
         go_wp2
         go_meet
         case rel => exact ⟨_, (false), (by first | rfl | (simp; done) | (simp [*]; done)), H', ⟨by have := HJ2.out; first | omega | exact Nat.le_refl _⟩, ⟨bk BK154.out⟩, ⟨bk BK155.out⟩, ⟨bk BK156.out⟩, ⟨by repeat with_reducible first | exact bl HB.out | refine below_set ?_ GE154.out | refine below_set ?_ GE155.out | refine below_set ?_ GE156.out | refine bq ?_⟩⟩
     ·
      rw [if_neg c39] at H
      have c39b0 : decide (0 < a0_1) = false := decide_eq_false c39
      clear c39
      (first | rw [c39b0] | (simp only [i64_w, i32_w]; rw [c39b0]) | skip)
      by_cases c63 : a0_2 > 0
      ·
       rw [if_pos c63] at H
       have c63b0 : decide (0 < a0_2) = true := decide_eq_true c63
       clear c63
       by_cases c64 : (wrap64 (a1_1 - a0_5)) ≥ a0_2
       ·
        rw [if_pos c64] at H
        have c64b0 : decide (a0_2 ≤ (wrap64 (a1_1 - a0_5))) = true := decide_eq_true c64
        clear c64
        have H' := Aside0.mk H
        clear H
        have hnb65 := NB154_155.out
        have hnc65 := NB155_154.out
        have hnb66 := NB154_156.out
        have hnc66 := NB156_154.out
        obtain ⟨hcz67_0, hcz67_1, hcz67_2, hcz67_3, hcz67_4, hcz67_5, hcz67_6⟩ := ck7 BK154.out
        obtain ⟨hfz67_0, hfz67_1, hfz67_2, hfz67_3, hfz67_4, hfz67_5, hfz67_6⟩ := fz7 BK154.out
        go_wp2
        go_meet
        case rel => exact ⟨_, (true), (by first | rfl | (simp; done) | (simp [*]; done)), H', ⟨by have := HJ2.out; first | omega | exact Nat.le_refl _⟩, ⟨bk BK154.out⟩, ⟨bk BK155.out⟩, ⟨bk BK156.out⟩, ⟨by repeat with_reducible first | exact bl HB.out | refine below_set ?_ GE154.out | refine below_set ?_ GE155.out | refine below_set ?_ GE156.out | refine bq ?_⟩⟩
       ·
        rw [if_neg c64] at H
        have c64b0 : decide (a0_2 ≤ (wrap64 (a1_1 - a0_5))) = false := decide_eq_false c64
        clear c64
        by_cases c68 : a0_3 > 0
        ·
         rw [if_pos c68] at H
         have c68b0 : decide (0 < a0_3) = true := decide_eq_true c68
         clear c68
         have H' := Aside0.mk H
         clear H
         have hnb69 := NB154_155.out
         have hnc69 := NB155_154.out
         have hnb70 := NB154_156.out
         have hnc70 := NB156_154.out
         obtain ⟨hcz71_0, hcz71_1, hcz71_2, hcz71_3, hcz71_4, hcz71_5, hcz71_6⟩ := ck7 BK154.out
         obtain ⟨hfz71_0, hfz71_1, hfz71_2, hfz71_3, hfz71_4, hfz71_5, hfz71_6⟩ := fz7 BK154.out
         go_wp2
         go_meet
         case rel => exact ⟨_, (decide ((wrap64 (a1_2 - a0_6)) ≥ a0_3)), (by first | rfl | (simp; done) | (simp [*]; done)), H', ⟨by have := HJ2.out; first | omega | exact Nat.le_refl _⟩, ⟨bk BK154.out⟩, ⟨bk BK155.out⟩, ⟨bk BK156.out⟩, ⟨by repeat with_reducible first | exact bl HB.out | refine below_set ?_ GE154.out | refine below_set ?_ GE155.out | refine below_set ?_ GE156.out | refine bq ?_⟩⟩
        ·
         rw [if_neg c68] at H
         have c68b0 : decide (0 < a0_3) = false := decide_eq_false c68
         clear c68
         have H' := Aside0.mk H
         clear H
         have hnb72 := NB154_155.out
         have hnc72 := NB155_154.out
         have hnb73 := NB154_156.out
         have hnc73 := NB156_154.out
         obtain ⟨hcz74_0, hcz74_1, hcz74_2, hcz74_3, hcz74_4, hcz74_5, hcz74_6⟩ := ck7 BK154.out
         obtain ⟨hfz74_0, hfz74_1, hfz74_2, hfz74_3, hfz74_4, hfz74_5, hfz74_6⟩ := fz7 BK154.out
         go_wp2
         go_meet
         case rel => exact ⟨_, (false), (by first | rfl | (simp; done) | (simp [*]; done)), H', ⟨by have := HJ2.out; first | omega | exact Nat.le_refl _⟩, ⟨bk BK154.out⟩, ⟨bk BK155.out⟩, ⟨bk BK156.out⟩, ⟨by repeat with_reducible first | exact bl HB.out | refine below_set ?_ GE154.out | refine below_set ?_ GE155.out | refine below_set ?_ GE156.out | refine bq ?_⟩⟩
      ·
       rw [if_neg c63] at H
       have c63b0 : decide (0 < a0_2) = false := decide_eq_false c63
       clear c63
       by_cases c75 : a0_3 > 0
       ·
        rw [if_pos c75] at H
        have c75b0 : decide (0 < a0_3) = true := decide_eq_true c75
        clear c75
        have H' := Aside0.mk H
        clear H
        have hnb76 := NB154_155.out
        have hnc76 := NB155_154.out
        have hnb77 := NB154_156.out
        have hnc77 := NB156_154.out
        obtain ⟨hcz78_0, hcz78_1, hcz78_2, hcz78_3, hcz78_4, hcz78_5, hcz78_6⟩ := ck7 BK154.out
        obtain ⟨hfz78_0, hfz78_1, hfz78_2, hfz78_3, hfz78_4, hfz78_5, hfz78_6⟩ := fz7 BK154.out
        go_wp2
        go_meet
        case rel => exact ⟨_, (decide ((wrap64 (a1_2 - a0_6)) ≥ a0_3)), (by first | rfl | (simp; done) | (simp [*]; done)), H', ⟨by have := HJ2.out; first | omega | exact Nat.le_refl _⟩, ⟨bk BK154.out⟩, ⟨bk BK155.out⟩, ⟨bk BK156.out⟩, ⟨by repeat with_reducible first | exact bl HB.out | refine below_set ?_ GE154.out | refine below_set ?_ GE155.out | refine below_set ?_ GE156.out | refine bq ?_⟩⟩
       ·
        rw [if_neg c75] at H
        have c75b0 : decide (0 < a0_3) = false := decide_eq_false c75
        clear c75
        have H' := Aside0.mk H
        clear H
        have hnb79 := NB154_155.out
        have hnc79 := NB155_154.out
        have hnb80 := NB154_156.out
        have hnc80 := NB156_154.out
        obtain ⟨hcz81_0, hcz81_1, hcz81_2, hcz81_3, hcz81_4, hcz81_5, hcz81_6⟩ := ck7 BK154.out
        obtain ⟨hfz81_0, hfz81_1, hfz81_2, hfz81_3, hfz81_4, hfz81_5, hfz81_6⟩ := fz7 BK154.out
        go_wp2
        go_meet
        case rel => exact ⟨_, (false), (by first | rfl | (simp; done) | (simp [*]; done)), H', ⟨by have := HJ2.out; first | omega | exact Nat.le_refl _⟩, ⟨bk BK154.out⟩, ⟨bk BK155.out⟩, ⟨bk BK156.out⟩, ⟨by repeat with_reducible first | exact bl HB.out | refine below_set ?_ GE154.out | refine below_set ?_ GE155.out | refine below_set ?_ GE156.out | refine bq ?_⟩⟩
    case rest =>
     clear HC37
     try clear p2
     try clear c3
     try clear c4
     try clear c5
     try clear c6
     try clear p6
     try clear c7
     try clear c8
     try clear c33
     try clear c34
     try clear c35
     try clear c39
     try clear c39b0
     try clear c40
     try clear c40b0
     try clear c41
     try clear c42
     try clear c44
     try clear c44b0
     try clear c45
     try clear c45b0
     try clear c46
     try clear c47
     try clear c49
     try clear c49b0
     try clear c50
     try clear c51
     try clear c53
     try clear c54
     try clear c56
     try clear c56b0
     try clear c57
     try clear c58
     try clear c60
     try clear c61
     try clear c63
     try clear c63b0
     try clear c64
     try clear c64b0
     try clear p64
     try clear c65
     try clear c66
     try clear c68
     try clear c68b0
     try clear c69
     try clear c70
     try clear c72
     try clear c73
     try clear c75
     try clear c75b0
     try clear c76
     try clear c77
     try clear c79
     try clear c80
     try clear hcz27_0 hcz27_1 hcz27_2 hfz27_0 hfz27_1 hfz27_2
     try clear hcz31_0 hcz31_1 hcz31_2 hcz31_3 hcz31_4 hcz31_5 hcz31_6 hfz31_0 hfz31_1 hfz31_2 hfz31_3 hfz31_4 hfz31_5 hfz31_6
     try clear hcz36_0 hcz36_1 hcz36_2 hfz36_0 hfz36_1 hfz36_2
     try clear hcz43_0 hcz43_1 hcz43_2 hcz43_3 hcz43_4 hcz43_5 hcz43_6 hfz43_0 hfz43_1 hfz43_2 hfz43_3 hfz43_4 hfz43_5 hfz43_6
     try clear hcz48_0 hcz48_1 hcz48_2 hcz48_3 hcz48_4 hcz48_5 hcz48_6 hfz48_0 hfz48_1 hfz48_2 hfz48_3 hfz48_4 hfz48_5 hfz48_6
     try clear hcz52_0 hcz52_1 hcz52_2 hcz52_3 hcz52_4 hcz52_5 hcz52_6 hfz52_0 hfz52_1 hfz52_2 hfz52_3 hfz52_4 hfz52_5 hfz52_6
     try clear hcz55_0 hcz55_1 hcz55_2 hcz55_3 hcz55_4 hcz55_5 hcz55_6 hfz55_0 hfz55_1 hfz55_2 hfz55_3 hfz55_4 hfz55_5 hfz55_6
     try clear hcz59_0 hcz59_1 hcz59_2 hcz59_3 hcz59_4 hcz59_5 hcz59_6 hfz59_0 hfz59_1 hfz59_2 hfz59_3 hfz59_4 hfz59_5 hfz59_6
     try clear hcz62_0 hcz62_1 hcz62_2 hcz62_3 hcz62_4 hcz62_5 hcz62_6 hfz62_0 hfz62_1 hfz62_2 hfz62_3 hfz62_4 hfz62_5 hfz62_6
     try clear hcz67_0 hcz67_1 hcz67_2 hcz67_3 hcz67_4 hcz67_5 hcz67_6 hfz67_0 hfz67_1 hfz67_2 hfz67_3 hfz67_4 hfz67_5 hfz67_6
     try clear hcz71_0 hcz71_1 hcz71_2 hcz71_3 hcz71_4 hcz71_5 hcz71_6 hfz71_0 hfz71_1 hfz71_2 hfz71_3 hfz71_4 hfz71_5 hfz71_6
     try clear hcz74_0 hcz74_1 hcz74_2 hcz74_3 hcz74_4 hcz74_5 hcz74_6 hfz74_0 hfz74_1 hfz74_2 hfz74_3 hfz74_4 hfz74_5 hfz74_6
     try clear hcz78_0 hcz78_1 hcz78_2 hcz78_3 hcz78_4 hcz78_5 hcz78_6 hfz78_0 hfz78_1 hfz78_2 hfz78_3 hfz78_4 hfz78_5 hfz78_6
     try clear hcz81_0 hcz81_1 hcz81_2 hcz81_3 hcz81_4 hcz81_5 hcz81_6 hfz81_0 hfz81_1 hfz81_2 hfz81_3 hfz81_4 hfz81_5 hfz81_6
     try clear hfz14_0 hfz14_1 hfz14_2 hfz14_3 hfz14_4 hfz14_5 hfz14_6
     try clear hfz17_0 hfz17_1 hfz17_2
     try clear hfz19_0 hfz19_1 hfz19_2 hfz19_3 hfz19_4 hfz19_5 hfz19_6
     try clear hfz20_0 hfz20_1 hfz20_2
     try clear hfz24_0 hfz24_1 hfz24_2 hfz24_3 hfz24_4 hfz24_5 hfz24_6
     obtain ⟨kq, x10_36, rfl, HA, HJ36, BK154, BK155, BK156, HB⟩ := hcut
     cases kq with
     | zero => exact absurd HA.out (by simp [spec_Due19.j1])
     | succ kj36 =>
      have H := HA.out
      clear HA
      simp only [spec_Due19.j1] at H
      replace H := Option.bind_eq_some_iff.mp H
      obtain ⟨t160, A820, H⟩ := H
      replace H : ((spec_l19Left.f a0_2 (wrap64 (a1_1 - a0_5))).bind fun t161 => ((spec_l19Left.f a0_3 (wrap64 (a1_2 - a0_6))).bind fun t162 => (some (x10_36, t160, t161, t162, true)))) = some (r1, r2, r3, r4, r5) := H
      have A82 := Aside0.mk A820
      clear A820
      replace H := Option.bind_eq_some_iff.mp H
      obtain ⟨t161, A830, H⟩ := H
      replace H : ((spec_l19Left.f a0_3 (wrap64 (a1_2 - a0_6))).bind fun t162 => (some (x10_36, t160, t161, t162, true))) = some (r1, r2, r3, r4, r5) := H
      have A83 := Aside0.mk A830
      clear A830
      replace H := Option.bind_eq_some_iff.mp H
      obtain ⟨t162, A840, H⟩ := H
      replace H : (some (x10_36, t160, t161, t162, true)) = some (r1, r2, r3, r4, r5) := H
      have A84 := Aside0.mk A840
      clear A840
      simp only [Option.some.injEq, Prod.mk.injEq] at H
      obtain ⟨rfl, rfl, rfl, rfl, rfl⟩ := H
      try go_wp2
      have n0_ := Aside0.mk (blk_drew BK154.out)
      have n1_ := Aside0.mk (blk_drew BK155.out)
      have n2_ := Aside0.mk (blk_drew BK156.out)
      have n3_ := Aside0.mk (below_drew1 HB.out)
      clear BK154
      clear BK155
      clear BK156
      clear HB
      have BK154 := n0_
      have BK155 := n1_
      have BK156 := n2_
      have HB := n3_
      clear n0_ n1_ n2_ n3_
      refine start_ (n := 17) (S := fun w' => w'.cell? ⟨gb154, 0, none⟩ = some (.string a0_0) ∧ w'.cell? ⟨gb154, 1, none⟩ = some (.int .i64 a0_1) ∧ w'.cell? ⟨gb154, 2, none⟩ = some (.int .i64 a0_2) ∧ w'.cell? ⟨gb154, 3, none⟩ = some (.int .i64 a0_3) ∧ w'.cell? ⟨gb154, 4, none⟩ = some (.int .i64 a0_4) ∧ w'.cell? ⟨gb154, 5, none⟩ = some (.int .i64 a0_5) ∧ w'.cell? ⟨gb154, 6, none⟩ = some (.int .i64 a0_6)) (ds := []) m0_17 (by kernel_rfl) rfl rfl ⟨ck BK154.out 0 rfl, ck BK154.out 1 rfl, ck BK154.out 2 rfl, ck BK154.out 3 rfl, ck BK154.out 4 rfl, ck BK154.out 5 rfl, ck BK154.out 6 rfl⟩ (fun hHeld => ?_); refine with_tabW spec_Due19.tab5 spec_Due19.bits5 (fun HT_ HW_ => ?_)
      generalize wc.drew = w85 at BK154 BK155 BK156 HB hHeld ⊢
      refine pq_ HT_.out 0 76 m1_17 ?_
      refine pq_ HT_.out 1 77 m2_17 ?_
      refine pq_ HT_.out 3 79 n17 ?_
      refine pq_ HT_.out 5 81 n18 ?_
      refine pq_ HT_.out 7 83 n19 ?_
      refine pq_ HT_.out 9 85 n20 ?_
      refine pq_ HT_.out 11 87 n21 ?_
      refine tk_ HT_.out HW_.out 2 78 n31 rfl rfl (by kernel_rfl) (by rfl) (by rintro w' ⟨s0, s1, s2, s3, s4, s5, s6⟩; go_simp; with_reducible rfl) hHeld (by simp only [sp_]; rfl) (fun _ _ _ h => h) ?_
      refine tk_ HT_.out HW_.out 6 82 n32 rfl rfl (by kernel_rfl) (by rfl) (by rintro w' ⟨s0, s1, s2, s3, s4, s5, s6⟩; go_simp; with_reducible rfl) hHeld (by simp only [sp_]; rfl) (fun _ _ _ h => h) ?_
      refine tk_ HT_.out HW_.out 10 86 n33 rfl rfl (by kernel_rfl) (by rfl) (by rintro w' ⟨s0, s1, s2, s3, s4, s5, s6⟩; go_simp; with_reducible rfl) hHeld (by simp only [sp_]; rfl) (fun _ _ _ h => h) ?_
      refine one_ (i := 4) (N := some 80) n36 rfl rfl (one_of HT_.out (by kernel_rfl)) (by decide) (fun K hK => ?_)
      refine goes_ Tryz.func99 (by kernel_rfl) rfl #[.int .i64 a0_1, .int .i64 (wrap64 (a1_0 - a0_4))] (by rfl) rfl rfl (by (try simp only [am_]); first | done | rfl) ?_
      with_reducible refine (spec_l19Left.calls a0_1 (wrap64 (a1_0 - a0_4)) t160 _ A82.out).mono ?_
      rintro e w' ⟨rfl, ⟨nd, rfl⟩⟩
      refine ⟨_, rfl, ?_⟩
      refine hK.out _ _ ⟨ck BK154.out 0 rfl, ck BK154.out 1 rfl, ck BK154.out 2 rfl, ck BK154.out 3 rfl, ck BK154.out 4 rfl, ck BK154.out 5 rfl, ck BK154.out 6 rfl⟩ (fun hHeld => ?_)
      clear hK K
      refine norm_ (a' := ?_) ?_ ?_
      rotate_left
      ·
       show Act.put _ (some 80) _ = _
       simp only [sp_]
       rfl
      refine one_ (i := 8) (N := some 84) m12_17 rfl rfl (one_of HT_.out (by kernel_rfl)) (by decide) (fun K hK => ?_)
      refine goes_ Tryz.func99 (by kernel_rfl) rfl #[.int .i64 a0_2, .int .i64 (wrap64 (a1_1 - a0_5))] (by rfl) rfl rfl (by (try simp only [am_]); first | done | rfl) ?_
      with_reducible refine (spec_l19Left.calls a0_2 (wrap64 (a1_1 - a0_5)) t161 _ A83.out).mono ?_
      rintro e w' ⟨rfl, ⟨nd, rfl⟩⟩
      refine ⟨_, rfl, ?_⟩
      refine hK.out _ _ ⟨ck BK154.out 0 rfl, ck BK154.out 1 rfl, ck BK154.out 2 rfl, ck BK154.out 3 rfl, ck BK154.out 4 rfl, ck BK154.out 5 rfl, ck BK154.out 6 rfl⟩ (fun hHeld => ?_)
      clear hK K
      refine norm_ (a' := ?_) ?_ ?_
      rotate_left
      ·
       show Act.put _ (some 84) _ = _
       simp only [sp_]
       rfl
      refine one_ (i := 12) (N := some 88) m13_17 rfl rfl (one_of HT_.out (by kernel_rfl)) (by decide) (fun K hK => ?_)
      refine goes_ Tryz.func99 (by kernel_rfl) rfl #[.int .i64 a0_3, .int .i64 (wrap64 (a1_2 - a0_6))] (by rfl) rfl rfl (by (try simp only [am_]); first | done | rfl) ?_
      with_reducible refine (spec_l19Left.calls a0_3 (wrap64 (a1_2 - a0_6)) t162 _ A84.out).mono ?_
      rintro e w' ⟨rfl, ⟨nd, rfl⟩⟩
      refine ⟨_, rfl, ?_⟩
      refine hK.out _ _ ⟨ck BK154.out 0 rfl, ck BK154.out 1 rfl, ck BK154.out 2 rfl, ck BK154.out 3 rfl, ck BK154.out 4 rfl, ck BK154.out 5 rfl, ck BK154.out 6 rfl⟩ (fun hHeld => ?_)
      clear hK K
      refine norm_ (a' := ?_) ?_ ?_
      rotate_left
      ·
       show Act.put _ (some 88) _ = _
       simp only [sp_]
       rfl
      refine pq_ HT_.out 13 89 m14_17 ?_
      refine pq_ HT_.out 14 4 m15_17 ?_
      refine one_ (i := 15) (N := none) m16_17 rfl rfl (one_of HT_.out (by kernel_rfl)) (by decide) (fun K hK => ?_)
      have hs86 : w85.cell? ⟨gb156, 0, none⟩ = some (.int .i64 0) := ck BK156.out 0 rfl
      have hfs86 := blk_frozen BK156.out 0
      have hns86_0 := NB154_156.out
      have hns86_1 := NB155_156.out
      have hms86_0 := NB156_154.out
      have hms86_1 := NB156_155.out
      have hs87 : w85.cell? ⟨gb156, 1, none⟩ = some (.int .i64 0) := ck BK156.out 1 rfl
      have hfs87 := blk_frozen BK156.out 1
      have hns87_0 := NB154_156.out
      have hns87_1 := NB155_156.out
      have hms87_0 := NB156_154.out
      have hms87_1 := NB156_155.out
      have hs88 : w85.cell? ⟨gb156, 2, none⟩ = some (.int .i64 0) := ck BK156.out 2 rfl
      have hfs88 := blk_frozen BK156.out 2
      have hns88_0 := NB154_156.out
      have hns88_1 := NB155_156.out
      have hms88_0 := NB156_154.out
      have hms88_1 := NB156_155.out
      refine skip_ (w1 := ?_) (by rfl) rfl ?_ ?_
      rotate_left
      ·
       go_simp
       rfl
      refine hK.out _ _ ⟨((cell_far (p := ⟨gb156, _, none⟩) NB154_156.out _).trans (((cell_far (p := ⟨gb156, _, none⟩) NB154_156.out _).trans (((cell_far (p := ⟨gb156, _, none⟩) NB154_156.out _).trans (hHeld.1)))))), ((cell_far (p := ⟨gb156, _, none⟩) NB154_156.out _).trans (((cell_far (p := ⟨gb156, _, none⟩) NB154_156.out _).trans (((cell_far (p := ⟨gb156, _, none⟩) NB154_156.out _).trans (hHeld.2.1)))))), ((cell_far (p := ⟨gb156, _, none⟩) NB154_156.out _).trans (((cell_far (p := ⟨gb156, _, none⟩) NB154_156.out _).trans (((cell_far (p := ⟨gb156, _, none⟩) NB154_156.out _).trans (hHeld.2.2.1)))))), ((cell_far (p := ⟨gb156, _, none⟩) NB154_156.out _).trans (((cell_far (p := ⟨gb156, _, none⟩) NB154_156.out _).trans (((cell_far (p := ⟨gb156, _, none⟩) NB154_156.out _).trans (hHeld.2.2.2.1)))))), ((cell_far (p := ⟨gb156, _, none⟩) NB154_156.out _).trans (((cell_far (p := ⟨gb156, _, none⟩) NB154_156.out _).trans (((cell_far (p := ⟨gb156, _, none⟩) NB154_156.out _).trans (hHeld.2.2.2.2.1)))))), ((cell_far (p := ⟨gb156, _, none⟩) NB154_156.out _).trans (((cell_far (p := ⟨gb156, _, none⟩) NB154_156.out _).trans (((cell_far (p := ⟨gb156, _, none⟩) NB154_156.out _).trans (hHeld.2.2.2.2.2.1)))))), ((cell_far (p := ⟨gb156, _, none⟩) NB154_156.out _).trans (((cell_far (p := ⟨gb156, _, none⟩) NB154_156.out _).trans (((cell_far (p := ⟨gb156, _, none⟩) NB154_156.out _).trans (hHeld.2.2.2.2.2.2))))))⟩ (fun hHeld => ?_)
      clear hK K
      refine pq_ HT_.out 16 6 m17_17 ?_
      refine done_ (done_of HT_.out (by kernel_rfl)) ?_
      try go_wp2
      refine bodyPost_ret (results_list (rs := [.tmp 4, .cell 5 35, .tmp 6]) rfl (by simp) (.tmp (.cell gb156 35 #[.int .i64 t160, .int .i64 t161, .int .i64 t162] (0, 0) _ rfl (by (repeat refine bk1 ?_); refine blk_put (cs := #[.int .i64 t160, .int .i64 t161, .int .i64 0]) ?_ 2 _ rfl; (repeat refine bk1 ?_); refine blk_put (cs := #[.int .i64 t160, .int .i64 0, .int .i64 0]) ?_ 1 _ rfl; (repeat refine bk1 ?_); refine blk_put (cs := #[.int .i64 0, .int .i64 0, .int .i64 0]) ?_ 0 _ rfl; (repeat refine bk1 ?_); exact BK156.out) Tryz.underlying35 rfl (by kernel_rfl) (.tmp .nil)))) rfl ?_
      exact ⟨by first | rfl | (simp [errW_none, errW_some] <;> rfl) | (simp [*, errW_none, errW_some] <;> rfl), by repeat with_reducible first | exact bl HB.out | refine below_set ?_ GE154.out | refine below_set ?_ GE155.out | refine below_set ?_ GE156.out | refine bq ?_⟩

end Go.Proofs.YtdimdlifjdbgnaaGreat.PFnExactRunWork
