import Derived.Test.YtdimdlifjdbgnaaPFnExactDoWorkx9
namespace Go.Proofs.Ytdimdlifjdbgnaa.PFnExactDoWork
open Go.RowKit Go.Proofs.YtdimdlifjdbgnaaW.PrintWords Go.Proofs.YtdimdlifjdbgnaaW.PrintLast Go.Proofs.YtdimdlifjdbgnaaW.PrintMore Go.Proofs.Ytdimdlifjdbgnaa.Sq
attribute [local go_sem] max2_int min2_int max_two min_two max_three min_three max_four min_four
set_option linter.unusedVariables false
set_option linter.unusedSimpArgs false

/-! ### spec_l19Copy: function 47 -/
def spec_l19Copy.f (l0_0 : List (S44)) (l0_1 : List (S84)) (l0_2 : List (S57)) (a0_3 : Int) (a0_4 : Int) (a0_5 : Int) : Option ((List (S44)) × (List (S84)) × (List (S57)) × Int × Int × Int) := (some (([] : List (S44)) : List (S44))).bind fun y225 => (if y225.length + l0_0.length < 2199023255552 then ((some (([] : List (S84)) : List (S84))).bind fun y231 => (if y231.length + l0_1.length < 4398046511104 then ((some (([] : List (S57)) : List (S57))).bind fun y237 => (if y237.length + l0_2.length < 4398046511104 then (some ((y225 ++ l0_0), (y231 ++ l0_1), (y237 ++ l0_2), a0_3, a0_4, a0_5)) else (none))) else (none))) else (none))
set_option maxHeartbeats 8000000 in
set_option maxRecDepth 100000 in
theorem spec_l19Copy.calls (A0_0 : Option Addr) (c0_0 : Nat) (l0_0 : List (S44)) (A0_1 : Option Addr) (c0_1 : Nat) (l0_1 : List (S84)) (A0_2 : Option Addr) (c0_2 : Nat) (l0_2 : List (S57)) (a0_3 : Int) (a0_4 : Int) (a0_5 : Int) (r1 : List (S44)) (r2 : List (S84)) (r3 : List (S57)) (r4 : Int) (r5 : Int) (r6 : Int) (w : World) (hr0_0 : Kd.C k44 w A0_0 l0_0.length l0_0) (hc0_0 : l0_0.length ≤ c0_0) (hr0_1 : Kd.C k84 w A0_1 l0_1.length l0_1) (hc0_1 : l0_1.length ≤ c0_1) (hr0_2 : Kd.C k57 w A0_2 l0_2.length l0_2) (hc0_2 : l0_2.length ≤ c0_2) (h : spec_l19Copy.f l0_0 l0_1 l0_2 a0_3 a0_4 a0_5 = some (r1, r2, r3, r4, r5, r6)) :
  Calls Try.prog 47 #[.agg #[.slice A0_0 l0_0.length c0_0, .slice A0_1 l0_1.length c0_1, .slice A0_2 l0_2.length c0_2, .int .i64 a0_3, .int .i64 a0_4, .int .i64 a0_5]] w fun e w' => ∃ v0_ v1_ v2_ : Value, e = .returned (.agg #[v0_, v1_, v2_, .int .i64 r4, .int .i64 r5, .int .i64 r6]) ∧ Kd.R k44 44 w' w.heap.size (fun _ => True) v0_ r1 ∧ Kd.R k84 84 w' w.heap.size (fun _ => True) v1_ r2 ∧ Kd.R k57 57 w' w.heap.size (fun _ => True) v2_ r3 ∧ Below w.heap.size w w' := by
 have hu30 := Try.underlying30
 have HR0_0 := Aside0.mk hr0_0
 have HC0_0 := Aside0.mk hc0_0
 clear hr0_0 hc0_0
 have HR0_1 := Aside0.mk hr0_1
 have HC0_1 := Aside0.mk hc0_1
 clear hr0_1 hc0_1
 have HR0_2 := Aside0.mk hr0_2
 have HC0_2 := Aside0.mk hc0_2
 clear hr0_2 hc0_2
 have HB := Aside0.mk (Below.refl w.heap.size w)
 have H : ((some (([] : List (S44)) : List (S44))).bind fun y225 => (if y225.length + l0_0.length < 2199023255552 then ((some (([] : List (S84)) : List (S84))).bind fun y231 => (if y231.length + l0_1.length < 4398046511104 then ((some (([] : List (S57)) : List (S57))).bind fun y237 => (if y237.length + l0_2.length < 4398046511104 then (some ((y225 ++ l0_0), (y231 ++ l0_1), (y237 ++ l0_2), a0_3, a0_4, a0_5)) else (none))) else (none))) else (none))) = some (r1, r2, r3, r4, r5, r6) := h
 clear h
 obtain ⟨y225, hy225⟩ : ∃ y_ : List (S44), y_ = (([] : List (S44))) := ⟨_, rfl⟩
 replace H : (if y225.length + l0_0.length < 2199023255552 then ((some (([] : List (S84)) : List (S84))).bind fun y231 => (if y231.length + l0_1.length < 4398046511104 then ((some (([] : List (S57)) : List (S57))).bind fun y237 => (if y237.length + l0_2.length < 4398046511104 then (some ((y225 ++ l0_0), (y231 ++ l0_1), (y237 ++ l0_2), a0_3, a0_4, a0_5)) else (none))) else (none))) else (none)) = some (r1, r2, r3, r4, r5, r6) := by first | (rw [hy225]; with_reducible exact H) | (have H2_ := (Option.bind_some _ _).symm.trans H; rw [hy225]; with_reducible exact H2_) | (have H2_ := (Option.bind_some _ _).symm.trans H; with_reducible exact H2_) | with_reducible exact H | (rw [hy225]; exact H) | exact H
 have Ny225 := Aside0.mk hy225
 clear hy225
 by_cases c2 : y225.length + l0_0.length < 2199023255552
 ·
  rw [if_pos c2] at H
  have LMc2 := Aside0.mk c2
  clear c2
  obtain ⟨y228, hy228⟩ : ∃ y_ : List (S44), y_ = (y225 ++ l0_0) := ⟨_, rfl⟩
  replace H : ((some (([] : List (S84)) : List (S84))).bind fun y231 => (if y231.length + l0_1.length < 4398046511104 then ((some (([] : List (S57)) : List (S57))).bind fun y237 => (if y237.length + l0_2.length < 4398046511104 then (some (y228, (y231 ++ l0_1), (y237 ++ l0_2), a0_3, a0_4, a0_5)) else (none))) else (none))) = some (r1, r2, r3, r4, r5, r6) := by first | (rw [hy228]; with_reducible exact H) | (have H2_ := (Option.bind_some _ _).symm.trans H; rw [hy228]; with_reducible exact H2_) | (have H2_ := (Option.bind_some _ _).symm.trans H; with_reducible exact H2_) | with_reducible exact H | (rw [hy228]; exact H) | exact H
  have Ny228 := Aside0.mk hy228
  clear hy228
  obtain ⟨y231, hy231⟩ : ∃ y_ : List (S84), y_ = (([] : List (S84))) := ⟨_, rfl⟩
  replace H : (if y231.length + l0_1.length < 4398046511104 then ((some (([] : List (S57)) : List (S57))).bind fun y237 => (if y237.length + l0_2.length < 4398046511104 then (some (y228, (y231 ++ l0_1), (y237 ++ l0_2), a0_3, a0_4, a0_5)) else (none))) else (none)) = some (r1, r2, r3, r4, r5, r6) := by first | (rw [hy231]; with_reducible exact H) | (have H2_ := (Option.bind_some _ _).symm.trans H; rw [hy231]; with_reducible exact H2_) | (have H2_ := (Option.bind_some _ _).symm.trans H; with_reducible exact H2_) | with_reducible exact H | (rw [hy231]; exact H) | exact H
  have Ny231 := Aside0.mk hy231
  clear hy231
  by_cases c3 : y231.length + l0_1.length < 4398046511104
  ·
   rw [if_pos c3] at H
   have LMc3 := Aside0.mk c3
   clear c3
   obtain ⟨y234, hy234⟩ : ∃ y_ : List (S84), y_ = (y231 ++ l0_1) := ⟨_, rfl⟩
   replace H : ((some (([] : List (S57)) : List (S57))).bind fun y237 => (if y237.length + l0_2.length < 4398046511104 then (some (y228, y234, (y237 ++ l0_2), a0_3, a0_4, a0_5)) else (none))) = some (r1, r2, r3, r4, r5, r6) := by first | (rw [hy234]; with_reducible exact H) | (have H2_ := (Option.bind_some _ _).symm.trans H; rw [hy234]; with_reducible exact H2_) | (have H2_ := (Option.bind_some _ _).symm.trans H; with_reducible exact H2_) | with_reducible exact H | (rw [hy234]; exact H) | exact H
   have Ny234 := Aside0.mk hy234
   clear hy234
   obtain ⟨y237, hy237⟩ : ∃ y_ : List (S57), y_ = (([] : List (S57))) := ⟨_, rfl⟩
   replace H : (if y237.length + l0_2.length < 4398046511104 then (some (y228, y234, (y237 ++ l0_2), a0_3, a0_4, a0_5)) else (none)) = some (r1, r2, r3, r4, r5, r6) := by first | (rw [hy237]; with_reducible exact H) | (have H2_ := (Option.bind_some _ _).symm.trans H; rw [hy237]; with_reducible exact H2_) | (have H2_ := (Option.bind_some _ _).symm.trans H; with_reducible exact H2_) | with_reducible exact H | (rw [hy237]; exact H) | exact H
   have Ny237 := Aside0.mk hy237
   clear hy237
   by_cases c4 : y237.length + l0_2.length < 4398046511104
   ·
    rw [if_pos c4] at H
    have LMc4 := Aside0.mk c4
    clear c4
    obtain ⟨y240, hy240⟩ : ∃ y_ : List (S57), y_ = (y237 ++ l0_2) := ⟨_, rfl⟩
    replace H : (some (y228, y234, y240, a0_3, a0_4, a0_5)) = some (r1, r2, r3, r4, r5, r6) := by first | (rw [hy240]; with_reducible exact H) | (have H2_ := (Option.bind_some _ _).symm.trans H; rw [hy240]; with_reducible exact H2_) | (have H2_ := (Option.bind_some _ _).symm.trans H; with_reducible exact H2_) | with_reducible exact H | (rw [hy240]; exact H) | exact H
    have Ny240 := Aside0.mk hy240
    clear hy240
    simp only [Option.some.injEq, Prod.mk.injEq] at H
    obtain ⟨rfl, rfl, rfl, rfl, rfl, rfl⟩ := H
    go_enter Try.func47, Try.ntmps47
    go_wp2_with (first | ((with_reducible refine gate_dst (N := 1) rfl ?_); refine box_event ?hg (N := 1) ?hd (cs := #[.slice A0_0 l0_0.length c0_0, .slice A0_1 l0_1.length c0_1, .slice A0_2 l0_2.length c0_2, .int .i64 a0_3, .int .i64 a0_4, .int .i64 a0_5]) (t := 30) ?hr ?_; (case hd => rfl); (case hg => rfl); (case hr => first | (go_simp; done) | (go_simp; rfl)); intro gb223 hg w5 hbox hb; have BK223 := Aside0.mk (hbox); have GW223 := Aside0.mk ((by rw [hg]; exact (below_size (bl HB.out)) : w.heap.size ≤ gb223)); have GE223 := GW223; replace HB := Aside0.mk (below_step (bl HB.out) hb); clear hb hbox hg) | ((with_reducible refine gate_dst (N := 2) rfl ?_); refine box_event ?hg (N := 2) ?hd (cs := #[.slice none 0 0, .slice none 0 0, .slice none 0 0, .int .i64 0, .int .i64 0, .int .i64 0]) (t := 30) ?hr ?_; (case hd => rfl); (case hg => rfl); (case hr => first | (go_simp; done) | (go_simp; rfl)); intro gb224 hg w6 hbox hb; have BK224 := Aside0.mk (hbox); have GW224 := Aside0.mk ((by rw [hg]; exact (below_size (by repeat with_reducible first | exact bl HB.out | refine below_set ?_ GE223.out | refine bq ?_)) : w.heap.size ≤ gb224)); have GE224 := GW224; replace HB := Aside0.mk (below_step (by repeat with_reducible first | exact bl HB.out | refine below_set ?_ GE223.out | refine bq ?_) hb); have NB223_224 := nb_ hg BK223.out; have NB224_223 := Aside0.mk NB223_224.out.symm; replace BK223 := Aside0.mk (blk_below (bk BK223.out) hb); clear hb hbox hg) | ((with_reducible refine gate_dst (N := 3) rfl ?_); refine Kd.R_lit k44 _ 44 ?hg (N := 3) ?hd (xs := ([] : List (S44))) (inner := []) (ok := fun _ => True) (okp := fun _ => True) ?hr ?hp (fun _ hk => hk) trivial (Below.refl _ _) (Nat.le_refl _) (by simp) ?_; (case hd => rfl); (case hg => rfl); (case hr => first | (go_simp; done) | (go_simp; rfl)); (case hp => exact (Reps.none _ _)); intro v226 w7 ho8 hb hg_ hnew_; clear hg_ hnew_; (first | rw [← Ny225.out] at ho8 | (simp only [Int.reduceToNat] at ho8; rw [← Ny225.out] at ho8)); have HO227 := Aside0.mk (Kd.R_lower ho8 (below_size (by repeat with_reducible first | exact bl HB.out | refine below_set ?_ GE223.out | refine below_set ?_ GE224.out | refine bq ?_))); replace BK223 := Aside0.mk (blk_below (bk BK223.out) hb); replace BK224 := Aside0.mk (blk_below (bk BK224.out) hb); replace HB := Aside0.mk (below_step (by repeat with_reducible first | exact bl HB.out | refine below_set ?_ GE223.out | refine below_set ?_ GE224.out | refine bq ?_) hb); clear hb ho8; have hnb9 := NB223_224.out; have hnc9 := NB224_223.out; obtain ⟨hcz10_0, hcz10_1, hcz10_2, hcz10_3, hcz10_4, hcz10_5⟩ := ck6 BK223.out; obtain ⟨hfz10_0, hfz10_1, hfz10_2, hfz10_3, hfz10_4, hfz10_5⟩ := fz6 BK223.out) | ((with_reducible refine gate_builtin (b := .append) (xs := #[.tmp 3, .tmp 5]) rfl ?_); at_builtin; refine Kd.R_append_rows k44 (w0 := w) w.heap.size rfl (.tmp 3) (.tmp 5) 24 44 (.agg #[(.string ⟨#[]⟩), (.int .i64 0), (.int .i64 0), (.int .i64 0), (.int .i64 0), (.int .i64 0), (.int .i64 0)]) 64 rfl Try.underlying24 info44 rfl (by decide) (by omega) v226 y225 l0_0 _ _ _ (fun _ => True) (fun _ => False) rfl rfl ?aO ?aR (fun _ _ h => h) (fun _ h => h.elim) ?aF ?aB ?aS ?aL ?_; (case aR => exact rc (Kd.C_below HR0_0.out HB.out)); (case aB => exact (by repeat with_reducible first | exact bl HB.out | refine below_set ?_ GE223.out | refine below_set ?_ GE224.out | refine bq ?_)); (case aF => exact (fun _ _ => trivial)); (case aO => exact (rl HO227.out)); (case aS => exact (below_size (by repeat with_reducible first | exact bl HB.out | refine below_set ?_ GE223.out | refine below_set ?_ GE224.out | refine bq ?_))); (case aL => have := LMc2.out; omega); intro v229 w11 ho hb hg hat; rw [← Ny228.out] at ho; replace BK223 := Aside0.mk (blk_grown (g := gb223) (o := .cells #[.slice A0_0 l0_0.length c0_0, .slice A0_1 l0_1.length c0_1, .slice A0_2 l0_2.length c0_2, .int .i64 a0_3, .int .i64 a0_4, .int .i64 a0_5] 30 (0, 0)) (bk BK223.out) hg (Kd.R_ne HO227.out BK223.out (by decide))); replace BK224 := Aside0.mk (blk_grown (g := gb224) (o := .cells #[.slice none 0 0, .slice none 0 0, .slice none 0 0, .int .i64 0, .int .i64 0, .int .i64 0] 30 (0, 0)) (bk BK224.out) hg (Kd.R_ne HO227.out BK224.out (by decide))); replace HB := Aside0.mk (hb); have HO230 := Aside0.mk (ho); clear HO227; clear ho hb hg hat; obtain ⟨Ao12, co12, eo12⟩ := Kd.R_slice HO230.out; subst eo12; obtain ⟨hcz13_0, hcz13_1, hcz13_2, hcz13_3, hcz13_4, hcz13_5⟩ := ck6 BK223.out; obtain ⟨hfz13_0, hfz13_1, hfz13_2, hfz13_3, hfz13_4, hfz13_5⟩ := fz6 BK223.out) | ((with_reducible refine gate_dst (N := 8) rfl ?_); refine Kd.R_lit k84 _ 84 ?hg (N := 8) ?hd (xs := ([] : List (S84))) (inner := []) (ok := fun _ => True) (okp := fun _ => True) ?hr ?hp (fun _ hk => hk) trivial (Below.refl _ _) (Nat.le_refl _) (by simp) ?_; (case hd => rfl); (case hg => rfl); (case hr => first | (go_simp; done) | (go_simp; rfl)); (case hp => exact (Reps.none _ _)); intro v232 w14 ho15 hb hg_ hnew_; clear hg_ hnew_; (first | rw [← Ny231.out] at ho15 | (simp only [Int.reduceToNat] at ho15; rw [← Ny231.out] at ho15)); replace HO230 := Aside0.mk (Kd.R_below (by (repeat apply rl1); exact (Kd.R_mono (Kd.R_far (p := ⟨gb223, 0, none⟩) (Kd.R_types HO230.out BK223.out (by decide)) (fun _ hk => hk.2) (.slice Ao12 y228.length co12)) (fun _ h_ => h_.1))) hb); have HO233 := Aside0.mk (Kd.R_lower ho15 (below_size (by repeat with_reducible first | exact bl HB.out | refine below_set ?_ GE223.out | refine below_set ?_ GE224.out | refine bq ?_))); replace BK223 := Aside0.mk (blk_below (g := gb223) (o := .cells #[.slice Ao12 y228.length co12, .slice A0_1 l0_1.length c0_1, .slice A0_2 l0_2.length c0_2, .int .i64 a0_3, .int .i64 a0_4, .int .i64 a0_5] 30 (0, 0)) (by (repeat refine bk1 ?_); refine blk_put (cs := #[.slice A0_0 l0_0.length c0_0, .slice A0_1 l0_1.length c0_1, .slice A0_2 l0_2.length c0_2, .int .i64 a0_3, .int .i64 a0_4, .int .i64 a0_5]) ?_ 0 _ rfl; (repeat refine bk1 ?_); exact BK223.out) hb); replace BK224 := Aside0.mk (blk_below (g := gb224) (o := .cells #[.slice none 0 0, .slice none 0 0, .slice none 0 0, .int .i64 0, .int .i64 0, .int .i64 0] 30 (0, 0)) (by (repeat refine bk1 ?_); refine blk_far ?_ NB224_223.out _; (repeat refine bk1 ?_); exact BK224.out) hb); replace HB := Aside0.mk (below_step (by repeat with_reducible first | exact bl HB.out | refine below_set ?_ GE223.out | refine below_set ?_ GE224.out | refine bq ?_) hb); clear hb ho15; obtain ⟨hcz16_0, hcz16_1, hcz16_2, hcz16_3, hcz16_4, hcz16_5⟩ := ck6 BK223.out; obtain ⟨hfz16_0, hfz16_1, hfz16_2, hfz16_3, hfz16_4, hfz16_5⟩ := fz6 BK223.out) | ((with_reducible refine gate_builtin (b := .append) (xs := #[.tmp 8, .tmp 10]) rfl ?_); at_builtin; refine Kd.R_append_rows k84 (w0 := w) w.heap.size rfl (.tmp 8) (.tmp 10) 25 84 (.agg #[(.string ⟨#[]⟩), (.int .i64 0), (.int .i64 0)]) 32 rfl Try.underlying25 info84 rfl (by decide) (by omega) v232 y231 l0_1 _ _ _ (fun _ => True) (fun _ => False) rfl rfl ?aO ?aR (fun _ _ h => h) (fun _ h => h.elim) ?aF ?aB ?aS ?aL ?_; (case aR => exact rc (Kd.C_below HR0_1.out HB.out)); (case aB => exact (by repeat with_reducible first | exact bl HB.out | refine below_set ?_ GE223.out | refine below_set ?_ GE224.out | refine bq ?_)); (case aF => exact (fun _ _ => trivial)); (case aO => exact (rl HO233.out)); (case aS => exact (below_size (by repeat with_reducible first | exact bl HB.out | refine below_set ?_ GE223.out | refine below_set ?_ GE224.out | refine bq ?_))); (case aL => have := LMc3.out; omega); intro v235 w17 ho hb hg hat; rw [← Ny234.out] at ho; replace BK223 := Aside0.mk (blk_grown (g := gb223) (o := .cells #[.slice Ao12 y228.length co12, .slice A0_1 l0_1.length c0_1, .slice A0_2 l0_2.length c0_2, .int .i64 a0_3, .int .i64 a0_4, .int .i64 a0_5] 30 (0, 0)) (bk BK223.out) hg (Kd.R_ne HO233.out BK223.out (by decide))); replace BK224 := Aside0.mk (blk_grown (g := gb224) (o := .cells #[.slice none 0 0, .slice none 0 0, .slice none 0 0, .int .i64 0, .int .i64 0, .int .i64 0] 30 (0, 0)) (bk BK224.out) hg (Kd.R_ne HO233.out BK224.out (by decide))); replace HO230 := Aside0.mk (Kd.R_over' (rl HO230.out) (Kd.R_typed (rl HO233.out)) (by decide) hg); replace HB := Aside0.mk (hb); have HO236 := Aside0.mk (ho); clear HO233; clear ho hb hg hat; obtain ⟨Ao18, co18, eo18⟩ := Kd.R_slice HO236.out; subst eo18; obtain ⟨hcz19_0, hcz19_1, hcz19_2, hcz19_3, hcz19_4, hcz19_5⟩ := ck6 BK223.out; obtain ⟨hfz19_0, hfz19_1, hfz19_2, hfz19_3, hfz19_4, hfz19_5⟩ := fz6 BK223.out) | ((with_reducible refine gate_dst (N := 13) rfl ?_); refine Kd.R_lit k57 _ 57 ?hg (N := 13) ?hd (xs := ([] : List (S57))) (inner := []) (ok := fun _ => True) (okp := fun _ => True) ?hr ?hp (fun _ hk => hk) trivial (Below.refl _ _) (Nat.le_refl _) (by simp) ?_; (case hd => rfl); (case hg => rfl); (case hr => first | (go_simp; done) | (go_simp; rfl)); (case hp => exact (Reps.none _ _)); intro v238 w20 ho21 hb hg_ hnew_; clear hg_ hnew_; (first | rw [← Ny237.out] at ho21 | (simp only [Int.reduceToNat] at ho21; rw [← Ny237.out] at ho21)); replace HO230 := Aside0.mk (Kd.R_below (by (repeat apply rl1); exact (Kd.R_mono (Kd.R_far (p := ⟨gb223, 1, none⟩) (Kd.R_types HO230.out BK223.out (by decide)) (fun _ hk => hk.2) (.slice Ao18 y234.length co18)) (fun _ h_ => h_.1))) hb); replace HO236 := Aside0.mk (Kd.R_below (by (repeat apply rl1); exact (Kd.R_mono (Kd.R_far (p := ⟨gb223, 1, none⟩) (Kd.R_types HO236.out BK223.out (by decide)) (fun _ hk => hk.2) (.slice Ao18 y234.length co18)) (fun _ h_ => h_.1))) hb); have HO239 := Aside0.mk (Kd.R_lower ho21 (below_size (by repeat with_reducible first | exact bl HB.out | refine below_set ?_ GE223.out | refine below_set ?_ GE224.out | refine bq ?_))); replace BK223 := Aside0.mk (blk_below (g := gb223) (o := .cells #[.slice Ao12 y228.length co12, .slice Ao18 y234.length co18, .slice A0_2 l0_2.length c0_2, .int .i64 a0_3, .int .i64 a0_4, .int .i64 a0_5] 30 (0, 0)) (by (repeat refine bk1 ?_); refine blk_put (cs := #[.slice Ao12 y228.length co12, .slice A0_1 l0_1.length c0_1, .slice A0_2 l0_2.length c0_2, .int .i64 a0_3, .int .i64 a0_4, .int .i64 a0_5]) ?_ 1 _ rfl; (repeat refine bk1 ?_); exact BK223.out) hb); replace BK224 := Aside0.mk (blk_below (g := gb224) (o := .cells #[.slice none 0 0, .slice none 0 0, .slice none 0 0, .int .i64 0, .int .i64 0, .int .i64 0] 30 (0, 0)) (by (repeat refine bk1 ?_); refine blk_far ?_ NB224_223.out _; (repeat refine bk1 ?_); exact BK224.out) hb); replace HB := Aside0.mk (below_step (by repeat with_reducible first | exact bl HB.out | refine below_set ?_ GE223.out | refine below_set ?_ GE224.out | refine bq ?_) hb); clear hb ho21; obtain ⟨hcz22_0, hcz22_1, hcz22_2, hcz22_3, hcz22_4, hcz22_5⟩ := ck6 BK223.out; obtain ⟨hfz22_0, hfz22_1, hfz22_2, hfz22_3, hfz22_4, hfz22_5⟩ := fz6 BK223.out) | ((with_reducible refine gate_builtin (b := .append) (xs := #[.tmp 13, .tmp 15]) rfl ?_); at_builtin; refine Kd.R_append_rows k57 (w0 := w) w.heap.size rfl (.tmp 13) (.tmp 15) 26 57 (.agg #[(.string ⟨#[]⟩), (.int .i64 0), (.int .i64 0)]) 32 rfl Try.underlying26 info57 rfl (by decide) (by omega) v238 y237 l0_2 _ _ _ (fun _ => True) (fun _ => False) rfl rfl ?aO ?aR (fun _ _ h => h) (fun _ h => h.elim) ?aF ?aB ?aS ?aL ?_; (case aR => exact rc (Kd.C_below HR0_2.out HB.out)); (case aB => exact (by repeat with_reducible first | exact bl HB.out | refine below_set ?_ GE223.out | refine below_set ?_ GE224.out | refine bq ?_)); (case aF => exact (fun _ _ => trivial)); (case aO => exact (rl HO239.out)); (case aS => exact (below_size (by repeat with_reducible first | exact bl HB.out | refine below_set ?_ GE223.out | refine below_set ?_ GE224.out | refine bq ?_))); (case aL => have := LMc4.out; omega); intro v241 w23 ho hb hg hat; rw [← Ny240.out] at ho; replace BK223 := Aside0.mk (blk_grown (g := gb223) (o := .cells #[.slice Ao12 y228.length co12, .slice Ao18 y234.length co18, .slice A0_2 l0_2.length c0_2, .int .i64 a0_3, .int .i64 a0_4, .int .i64 a0_5] 30 (0, 0)) (bk BK223.out) hg (Kd.R_ne HO239.out BK223.out (by decide))); replace BK224 := Aside0.mk (blk_grown (g := gb224) (o := .cells #[.slice none 0 0, .slice none 0 0, .slice none 0 0, .int .i64 0, .int .i64 0, .int .i64 0] 30 (0, 0)) (bk BK224.out) hg (Kd.R_ne HO239.out BK224.out (by decide))); replace HO230 := Aside0.mk (Kd.R_over' (rl HO230.out) (Kd.R_typed (rl HO239.out)) (by decide) hg); replace HO236 := Aside0.mk (Kd.R_over' (rl HO236.out) (Kd.R_typed (rl HO239.out)) (by decide) hg); replace HB := Aside0.mk (hb); have HO242 := Aside0.mk (ho); clear HO239; clear ho hb hg hat; obtain ⟨Ao24, co24, eo24⟩ := Kd.R_slice HO242.out; subst eo24; obtain ⟨hcz25_0, hcz25_1, hcz25_2, hcz25_3, hcz25_4, hcz25_5⟩ := ck6 BK223.out; obtain ⟨hfz25_0, hfz25_1, hfz25_2, hfz25_3, hfz25_4, hfz25_5⟩ := fz6 BK223.out; obtain ⟨hcz26_0, hcz26_1, hcz26_2, hcz26_3, hcz26_4, hcz26_5⟩ := ck6 BK224.out; obtain ⟨hfz26_0, hfz26_1, hfz26_2, hfz26_3, hfz26_4, hfz26_5⟩ := fz6 BK224.out))
    refine bodyPost_ret (results_cell_row rfl _ _ gb224 30 #[.slice Ao12 y228.length co12, .slice Ao18 y234.length co18, .slice Ao24 y240.length co24, .int .i64 a0_3, .int .i64 a0_4, .int .i64 a0_5] (0, 0) _ rfl (by (repeat refine bk1 ?_); refine blk_put (cs := #[.slice Ao12 y228.length co12, .slice Ao18 y234.length co18, .slice Ao24 y240.length co24, .int .i64 a0_3, .int .i64 a0_4, .int .i64 0]) ?_ 5 _ rfl; (repeat refine bk1 ?_); refine blk_put (cs := #[.slice Ao12 y228.length co12, .slice Ao18 y234.length co18, .slice Ao24 y240.length co24, .int .i64 a0_3, .int .i64 0, .int .i64 0]) ?_ 4 _ rfl; (repeat refine bk1 ?_); refine blk_put (cs := #[.slice Ao12 y228.length co12, .slice Ao18 y234.length co18, .slice Ao24 y240.length co24, .int .i64 0, .int .i64 0, .int .i64 0]) ?_ 3 _ rfl; (repeat refine bk1 ?_); refine blk_put (cs := #[.slice Ao12 y228.length co12, .slice Ao18 y234.length co18, .slice none 0 0, .int .i64 0, .int .i64 0, .int .i64 0]) ?_ 2 _ rfl; (repeat refine bk1 ?_); refine blk_put (cs := #[.slice Ao12 y228.length co12, .slice none 0 0, .slice none 0 0, .int .i64 0, .int .i64 0, .int .i64 0]) ?_ 1 _ rfl; (repeat refine bk1 ?_); refine blk_put (cs := #[.slice none 0 0, .slice none 0 0, .slice none 0 0, .int .i64 0, .int .i64 0, .int .i64 0]) ?_ 0 _ rfl; (repeat refine bk1 ?_); refine blk_far ?_ NB224_223.out _; (repeat refine bk1 ?_); exact BK224.out) Try.underlying30 rfl (by kernel_rfl)) rfl ?_
    exact ⟨_, _, _, by first | rfl | (simp [errW_none, errW_some] <;> rfl) | (simp [*, errW_none, errW_some] <;> rfl), by (repeat apply rl1); exact Kd.R_mono (Kd.R_far (p := ⟨gb224, 5, none⟩) (Kd.R_far (p := ⟨gb224, 4, none⟩) (Kd.R_far (p := ⟨gb224, 3, none⟩) (Kd.R_far (p := ⟨gb224, 2, none⟩) (Kd.R_far (p := ⟨gb224, 1, none⟩) (Kd.R_far (p := ⟨gb224, 0, none⟩) (Kd.R_far (p := ⟨gb223, 2, none⟩) (Kd.R_types (Kd.R_types HO230.out BK223.out (by decide)) BK224.out (by decide)) (fun _ hk => hk.1.2) (.slice Ao24 y240.length co24)) (fun _ hk => hk.2) (.slice Ao12 y228.length co12)) (fun _ hk => hk.2) (.slice Ao18 y234.length co18)) (fun _ hk => hk.2) (.slice Ao24 y240.length co24)) (fun _ hk => hk.2) (.int .i64 a0_3)) (fun _ hk => hk.2) (.int .i64 a0_4)) (fun _ hk => hk.2) (.int .i64 a0_5)) (fun _ hk => trivial), by (repeat apply rl1); exact Kd.R_mono (Kd.R_far (p := ⟨gb224, 5, none⟩) (Kd.R_far (p := ⟨gb224, 4, none⟩) (Kd.R_far (p := ⟨gb224, 3, none⟩) (Kd.R_far (p := ⟨gb224, 2, none⟩) (Kd.R_far (p := ⟨gb224, 1, none⟩) (Kd.R_far (p := ⟨gb224, 0, none⟩) (Kd.R_far (p := ⟨gb223, 2, none⟩) (Kd.R_types (Kd.R_types HO236.out BK223.out (by decide)) BK224.out (by decide)) (fun _ hk => hk.1.2) (.slice Ao24 y240.length co24)) (fun _ hk => hk.2) (.slice Ao12 y228.length co12)) (fun _ hk => hk.2) (.slice Ao18 y234.length co18)) (fun _ hk => hk.2) (.slice Ao24 y240.length co24)) (fun _ hk => hk.2) (.int .i64 a0_3)) (fun _ hk => hk.2) (.int .i64 a0_4)) (fun _ hk => hk.2) (.int .i64 a0_5)) (fun _ hk => trivial), by (repeat apply rl1); exact Kd.R_mono (Kd.R_far (p := ⟨gb224, 5, none⟩) (Kd.R_far (p := ⟨gb224, 4, none⟩) (Kd.R_far (p := ⟨gb224, 3, none⟩) (Kd.R_far (p := ⟨gb224, 2, none⟩) (Kd.R_far (p := ⟨gb224, 1, none⟩) (Kd.R_far (p := ⟨gb224, 0, none⟩) (Kd.R_far (p := ⟨gb223, 2, none⟩) (Kd.R_types (Kd.R_types HO242.out BK223.out (by decide)) BK224.out (by decide)) (fun _ hk => hk.1.2) (.slice Ao24 y240.length co24)) (fun _ hk => hk.2) (.slice Ao12 y228.length co12)) (fun _ hk => hk.2) (.slice Ao18 y234.length co18)) (fun _ hk => hk.2) (.slice Ao24 y240.length co24)) (fun _ hk => hk.2) (.int .i64 a0_3)) (fun _ hk => hk.2) (.int .i64 a0_4)) (fun _ hk => hk.2) (.int .i64 a0_5)) (fun _ hk => trivial), by repeat with_reducible first | exact bl HB.out | refine below_set ?_ GE223.out | refine below_set ?_ GE224.out | refine bq ?_⟩
   ·
    rw [if_neg c4] at H
    exact absurd H (by simp)
  ·
   rw [if_neg c3] at H
   exact absurd H (by simp)
 ·
  rw [if_neg c2] at H
  exact absurd H (by simp)

/-! ### spec_l1Max: function 85 -/
def spec_l1Max.f (a0 : Int) (a1 : Int) : Option (Int) := if a0 > a1 then (some a0) else (some a1)
set_option maxHeartbeats 8000000 in
set_option maxRecDepth 100000 in
theorem spec_l1Max.calls (a0 : Int) (a1 : Int) (r : Int) (w : World) (h : spec_l1Max.f a0 a1 = some r) :
  Calls Try.prog 85 #[.int .i64 a0, .int .i64 a1] w fun e w' => e = .returned (.int .i64 r) ∧ Drawn0 w w' := by
 have H : (if a0 > a1 then (some a0) else (some a1)) = some r := h
 clear h
 by_cases c3 : a0 > a1
 ·
  rw [if_pos c3] at H
  have c3b0 : decide (a1 < a0) = true := decide_eq_true c3
  clear c3
  obtain rfl := Option.some.inj H
  go_enter Try.func85, Try.ntmps85
  go_wp2
  go_ret
  exact ⟨by first | rfl | (simp; done) | (simp [*]; done), by repeat (first | exact Drawn0.refl _ | apply Drawn0.step)⟩
 ·
  rw [if_neg c3] at H
  have c3b0 : decide (a1 < a0) = false := decide_eq_false c3
  clear c3
  obtain rfl := Option.some.inj H
  go_enter Try.func85, Try.ntmps85
  go_wp2
  go_ret
  exact ⟨by first | rfl | (simp; done) | (simp [*]; done), by repeat (first | exact Drawn0.refl _ | apply Drawn0.step)⟩

/-! ### spec_l19Left: function 120 -/
def spec_l19Left.f (a0 : Int) (a1 : Int) : Option (Int) := if a0 = 0 then (some 0) else ((spec_l1Max.f 0 (wrap64 (a0 - a1))).bind fun t243 => (some t243))
set_option maxHeartbeats 8000000 in
set_option maxRecDepth 100000 in
theorem spec_l19Left.calls (a0 : Int) (a1 : Int) (r : Int) (w : World) (h : spec_l19Left.f a0 a1 = some r) :
  Calls Try.prog 120 #[.int .i64 a0, .int .i64 a1] w fun e w' => e = .returned (.int .i64 r) ∧ Drawn0 w w' := by
 have H : (if a0 = 0 then (some 0) else ((spec_l1Max.f 0 (wrap64 (a0 - a1))).bind fun t243 => (some t243))) = some r := h
 clear h
 by_cases c3 : a0 = 0
 ·
  rw [if_pos c3] at H
  have c3b0 : (a0 == 0) = true := beq_iff_eq.mpr c3
  have c3b1 : (a0 != 0) = false := bne_eq_false_iff_eq.mpr c3
  clear c3
  obtain rfl := Option.some.inj H
  go_enter Try.func120, Try.ntmps120
  go_wp2
  go_ret
  exact ⟨by first | rfl | (simp; done) | (simp [*]; done), by repeat (first | exact Drawn0.refl _ | apply Drawn0.step)⟩
 ·
  rw [if_neg c3] at H
  have c3b0 : (a0 == 0) = false := beq_eq_false_iff_ne.mpr c3
  have c3b1 : (a0 != 0) = true := bne_iff_ne.mpr c3
  replace H := Option.bind_eq_some_iff.mp H
  obtain ⟨t243, A40, H⟩ := H
  replace H : (some t243) = some r := H
  have A4 := Aside0.mk A40
  clear A40
  obtain rfl := Option.some.inj H
  go_enter Try.func120, Try.ntmps120
  go_wp2_with (first | ((with_reducible refine gate_callee (f := 85) rfl ?_); refine goesL_ (some 10) rfl rfl Try.func85 (by kernel_rfl) rfl #[.int .i64 0, .int .i64 (wrap64 (a0 - a1))] rfl (by (try simp only [am_]); first | done | rfl) ?_; (with_reducible refine (spec_l1Max.calls 0 (wrap64 (a0 - a1)) t243 _ A4.out).mono ?_); rintro e w' ⟨rfl, ⟨nd, rfl⟩⟩; refine ⟨_, rfl, ?_⟩))
  go_ret
  exact ⟨by first | rfl | (simp; done) | (simp [*]; done), by repeat (first | exact Drawn0.refl _ | apply Drawn0.step)⟩

end Go.Proofs.Ytdimdlifjdbgnaa.PFnExactDoWork
