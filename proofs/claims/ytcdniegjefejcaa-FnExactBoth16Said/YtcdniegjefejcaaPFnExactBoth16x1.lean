-- Written by a program of this session (wip/xprint.py) out of the translation; Lean checks it.
import Derived.Test.YtcdniegjefejcaaPFnExactBoth16x0
namespace Go.Proofs.Ytcdniegjefejcaa.PFnExactBoth16
open Go.RowKit Go.Proofs.YtcdniegjefejcaaW.PrintWords Go.Proofs.YtcdniegjefejcaaW.PrintLast Go.Proofs.YtcdniegjefejcaaW.PrintMore Go.Proofs.Ytcdniegjefejcaa.Sq
attribute [local go_sem] max2_int min2_int max_two min_two max_three min_three max_four min_four   -- for this text's walks alone
set_option linter.unusedVariables false
set_option linter.unusedSimpArgs false

/-! ### laws_toReceiver: function 15 -/
def laws_toReceiver.f (a0_0 : Int) (a0_1 : Int) (a0_2 : Int) : Option (Int × Int × Int) := some (a0_0, a0_1, a0_2)
set_option maxHeartbeats 8000000 in
set_option maxRecDepth 100000 in
theorem laws_toReceiver.calls (a0_0 : Int) (a0_1 : Int) (a0_2 : Int) (r1 : Int) (r2 : Int) (r3 : Int) (w : World) (h : laws_toReceiver.f a0_0 a0_1 a0_2 = some (r1, r2, r3)) :
  Calls Try.prog 15 #[.agg #[.int .i64 a0_0, .int .i64 a0_1, .int .i64 a0_2]] w fun e w' => e = .returned (.agg #[.int .i64 r1, .int .i64 r2, .int .i64 r3]) ∧ Below w.heap.size w w' := by
 have hu23 := Try.underlying23
 have hu25 := Try.underlying25
 have HB := Aside0.mk (Below.refl w.heap.size w)
 have H : (some (a0_0, a0_1, a0_2)) = some (r1, r2, r3) := h
 clear h
 simp only [Option.some.injEq, Prod.mk.injEq] at H
 obtain ⟨rfl, rfl, rfl⟩ := H
 go_enter Try.func15, Try.ntmps15
 go_wp2_with (first | ((with_reducible refine gate_dst (N := 1) rfl ?_); refine box_event ?hg (N := 1) ?hd (cs := #[.int .i64 a0_0, .int .i64 a0_1, .int .i64 a0_2]) (t := 23) ?hr ?_; (case hd => rfl); (case hg => rfl); (case hr => first | (go_simp; done) | (go_simp; rfl)); intro gb101 hg w2 hbox hb; have BK101 := Aside0.mk (hbox); have GW101 := Aside0.mk ((by rw [hg]; exact (below_size (bl HB.out)) : w.heap.size ≤ gb101)); have GE101 := GW101; replace HB := Aside0.mk (below_step (bl HB.out) hb); clear hb hbox hg) | ((with_reducible refine gate_dst (N := 2) rfl ?_); refine box_event ?hg (N := 2) ?hd (cs := #[.int .i64 0, .int .i64 0, .int .i64 0]) (t := 25) ?hr ?_; (case hd => rfl); (case hg => rfl); (case hr => first | (go_simp; done) | (go_simp; rfl)); intro gb102 hg w3 hbox hb; have BK102 := Aside0.mk (hbox); have GW102 := Aside0.mk ((by rw [hg]; exact (below_size (by repeat with_reducible first | exact bl HB.out | refine below_set ?_ GE101.out | refine bq ?_)) : w.heap.size ≤ gb102)); have GE102 := GW102; replace HB := Aside0.mk (below_step (by repeat with_reducible first | exact bl HB.out | refine below_set ?_ GE101.out | refine bq ?_) hb); have NB101_102 := nb_ hg BK101.out; have NB102_101 := Aside0.mk NB101_102.out.symm; replace BK101 := Aside0.mk (blk_below (bk BK101.out) hb); clear hb hbox hg) | ((with_reducible refine gate_dst (N := 3) rfl ?_); refine box_event ?hg (N := 3) ?hd (cs := #[.int .i64 0, .int .i64 0, .int .i64 0]) (t := 25) ?hr ?_; (case hd => rfl); (case hg => rfl); (case hr => first | (go_simp; done) | (go_simp; rfl)); intro gb103 hg w4 hbox hb; have BK103 := Aside0.mk (hbox); have GW103 := Aside0.mk ((by rw [hg]; exact (below_size (by repeat with_reducible first | exact bl HB.out | refine below_set ?_ GE101.out | refine below_set ?_ GE102.out | refine bq ?_)) : w.heap.size ≤ gb103)); have GE103 := GW103; replace HB := Aside0.mk (below_step (by repeat with_reducible first | exact bl HB.out | refine below_set ?_ GE101.out | refine below_set ?_ GE102.out | refine bq ?_) hb); have NB101_103 := nb_ hg BK101.out; have NB103_101 := Aside0.mk NB101_103.out.symm; replace BK101 := Aside0.mk (blk_below (bk BK101.out) hb); have NB102_103 := nb_ hg BK102.out; have NB103_102 := Aside0.mk NB102_103.out.symm; replace BK102 := Aside0.mk (blk_below (bk BK102.out) hb); clear hb hbox hg; have hnb5 := NB101_102.out; have hnc5 := NB102_101.out; have hnb6 := NB101_103.out; have hnc6 := NB103_101.out; obtain ⟨hcz7_0, hcz7_1, hcz7_2⟩ := ck3 BK101.out; obtain ⟨hfz7_0, hfz7_1, hfz7_2⟩ := fz3 BK101.out; have hnb8 := NB103_102.out; have hnc8 := NB102_103.out; obtain ⟨hcz9_0, hcz9_1, hcz9_2⟩ := ck3 BK103.out; obtain ⟨hfz9_0, hfz9_1, hfz9_2⟩ := fz3 BK103.out; obtain ⟨hcz10_0, hcz10_1, hcz10_2⟩ := ck3 BK102.out; obtain ⟨hfz10_0, hfz10_1, hfz10_2⟩ := fz3 BK102.out))
 refine bodyPost_ret (results_cell_row rfl _ _ gb102 25 #[.int .i64 a0_0, .int .i64 a0_1, .int .i64 a0_2] (0, 0) _ rfl (by (repeat refine bk1 ?_); refine blk_put (cs := #[.int .i64 a0_0, .int .i64 a0_1, .int .i64 0]) ?_ 2 _ rfl; (repeat refine bk1 ?_); refine blk_put (cs := #[.int .i64 a0_0, .int .i64 0, .int .i64 0]) ?_ 1 _ rfl; (repeat refine bk1 ?_); refine blk_put (cs := #[.int .i64 0, .int .i64 0, .int .i64 0]) ?_ 0 _ rfl; (repeat refine bk1 ?_); refine blk_far ?_ NB102_103.out _; (repeat refine bk1 ?_); refine blk_far ?_ NB102_103.out _; (repeat refine bk1 ?_); refine blk_far ?_ NB102_103.out _; (repeat refine bk1 ?_); exact BK102.out) Try.underlying25 rfl (by kernel_rfl)) rfl ?_
 exact ⟨by first | rfl | (simp [errW_none, errW_some] <;> rfl) | (simp [*, errW_none, errW_some] <;> rfl), by repeat with_reducible first | exact bl HB.out | refine below_set ?_ GE101.out | refine below_set ?_ GE102.out | refine below_set ?_ GE103.out | refine bq ?_⟩

end Go.Proofs.Ytcdniegjefejcaa.PFnExactBoth16
