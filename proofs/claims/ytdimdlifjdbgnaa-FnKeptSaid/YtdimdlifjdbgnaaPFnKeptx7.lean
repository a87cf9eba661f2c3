-- Written by a program of this session (wip/xprint.py) out of the translation; Lean checks it.
import Derived.Test.YtdimdlifjdbgnaaPFnKeptx0
import Derived.Test.YtdimdlifjdbgnaaPFnKeptx1
import Derived.Test.YtdimdlifjdbgnaaPFnKeptx2
import Derived.Test.YtdimdlifjdbgnaaPFnKeptx3
import Derived.Test.YtdimdlifjdbgnaaPFnKeptx4
import Derived.Test.YtdimdlifjdbgnaaPFnKeptx5
import Derived.Test.YtdimdlifjdbgnaaPFnKeptx6
namespace Go.Proofs.Ytdimdlifjdbgnaa.PFnKept
open Go.RowKit Go.Proofs.YtdimdlifjdbgnaaW.PrintWords Go.Proofs.YtdimdlifjdbgnaaW.PrintLast Go.Proofs.YtdimdlifjdbgnaaW.PrintMore Go.Proofs.Ytdimdlifjdbgnaa.Sq
attribute [local go_sem] max2_int min2_int max_two min_two max_three min_three max_four min_four   -- for this text's walks alone
set_option linter.unusedVariables false
set_option linter.unusedSimpArgs false

/-! ### impl_cloneFleet: function 36 -/
def impl_cloneFleet.f (l0_0 : List (S44)) (l0_1 : List (S84)) (l0_2 : List (S57)) (a0_3 : Int) (a0_4 : Int) (a0_5 : Int) : Option ((List (S44)) × (List (S84)) × (List (S57)) × Int × Int × Int) := (impl_Task.f l0_0).bind fun t374 => ((impl_Carry.f l0_1).bind fun t377 => ((impl_Defect_77.f l0_2).bind fun t380 => (some (t374, t377, t380, a0_3, a0_4, a0_5))))
def impl_cloneFleet.T1 : Bool × List (List Nat × List Nat) := (true, [([], []), ([0], [0]), ([1], [1]), ([], []), ([3], [3]), ([4, 2], [4]), ([], []), ([6], [6]), ([7, 5], [7]), ([], []), ([9], [9]), ([2, 5, 8, 10], [2, 5, 8, 10]), ([11, 8, 0, 1, 2, 3, 4, 5, 6, 7, 8, 9, 10, 11], [11])])
def impl_cloneFleet.B1 : List Nat := [0, 1, 3, 0, 8, 31, 0, 64, 255, 0, 512, 2047, 4095]
theorem impl_cloneFleet.tab1 : rtab .any (opsOf Try.f36 1) = impl_cloneFleet.T1 := by kernel_rfl
theorem impl_cloneFleet.bits1 : waitsOk impl_cloneFleet.T1.2 impl_cloneFleet.B1 = true := by kernel_rfl
set_option maxHeartbeats 8000000 in
set_option maxRecDepth 100000 in
theorem impl_cloneFleet.calls (A0_0 : Option Addr) (c0_0 : Nat) (l0_0 : List (S44)) (A0_1 : Option Addr) (c0_1 : Nat) (l0_1 : List (S84)) (A0_2 : Option Addr) (c0_2 : Nat) (l0_2 : List (S57)) (a0_3 : Int) (a0_4 : Int) (a0_5 : Int) (r1 : List (S44)) (r2 : List (S84)) (r3 : List (S57)) (r4 : Int) (r5 : Int) (r6 : Int) (w : World) (hr0_0 : Kd.C k44 w A0_0 l0_0.length l0_0) (hc0_0 : l0_0.length ≤ c0_0) (hr0_1 : Kd.C k84 w A0_1 l0_1.length l0_1) (hc0_1 : l0_1.length ≤ c0_1) (hr0_2 : Kd.C k57 w A0_2 l0_2.length l0_2) (hc0_2 : l0_2.length ≤ c0_2) (h : impl_cloneFleet.f l0_0 l0_1 l0_2 a0_3 a0_4 a0_5 = some (r1, r2, r3, r4, r5, r6)) :
  Calls Try.prog 36 #[.agg #[.slice A0_0 l0_0.length c0_0, .slice A0_1 l0_1.length c0_1, .slice A0_2 l0_2.length c0_2, .int .i64 a0_3, .int .i64 a0_4, .int .i64 a0_5]] w fun e w' => ∃ v0_ v1_ v2_ : Value, e = .returned (.agg #[v0_, v1_, v2_, .int .i64 r4, .int .i64 r5, .int .i64 r6]) ∧ Kd.R k44 44 w' w.heap.size (fun _ => True) v0_ r1 ∧ Kd.R k84 84 w' w.heap.size (fun _ => True) v1_ r2 ∧ Kd.R k57 57 w' w.heap.size (fun _ => True) v2_ r3 ∧ Below w.heap.size w w' := by
 have hu30 := Try.underlying30
 have hu28 := Try.underlying28
 have HR0_0 := Aside0.mk hr0_0
 have HC0_0 := Aside0.mk hc0_0
 clear hr0_0 hc0_0
 have HR0_1 := Aside0.mk hr0_1
 have HC0_1 := Aside0.mk hc0_1
 clear hr0_1 hc0_1
 have HR0_2 := Aside0.mk hr0_2
 have HC0_2 := Aside0.mk hc0_2
 clear hr0_2 hc0_2
 have HB := Aside0.mk (Below.refl w.heap.size w)
 have H : ((impl_Task.f l0_0).bind fun t374 => ((impl_Carry.f l0_1).bind fun t377 => ((impl_Defect_77.f l0_2).bind fun t380 => (some (t374, t377, t380, a0_3, a0_4, a0_5))))) = some (r1, r2, r3, r4, r5, r6) := h
 clear h
 replace H := Option.bind_eq_some_iff.mp H
 obtain ⟨t374, A20, H⟩ := H
 replace H : ((impl_Carry.f l0_1).bind fun t377 => ((impl_Defect_77.f l0_2).bind fun t380 => (some (t374, t377, t380, a0_3, a0_4, a0_5)))) = some (r1, r2, r3, r4, r5, r6) := H
 have A2 := Aside0.mk A20
 clear A20
 replace H := Option.bind_eq_some_iff.mp H
 obtain ⟨t377, A30, H⟩ := H
 replace H : ((impl_Defect_77.f l0_2).bind fun t380 => (some (t374, t377, t380, a0_3, a0_4, a0_5))) = some (r1, r2, r3, r4, r5, r6) := H
 have A3 := Aside0.mk A30
 clear A30
 replace H := Option.bind_eq_some_iff.mp H
 obtain ⟨t380, A40, H⟩ := H
 replace H : (some (t374, t377, t380, a0_3, a0_4, a0_5)) = some (r1, r2, r3, r4, r5, r6) := H
 have A4 := Aside0.mk A40
 clear A40
 simp only [Option.some.injEq, Prod.mk.injEq] at H
 obtain ⟨rfl, rfl, rfl, rfl, rfl, rfl⟩ := H
 go_enter Try.func36, Try.ntmps36
 try go_wp2_with (first | ((with_reducible refine gate_dst (N := 1) rfl ?_); refine box_event ?hg (N := 1) ?hd (cs := #[.slice A0_0 l0_0.length c0_0, .slice A0_1 l0_1.length c0_1, .slice A0_2 l0_2.length c0_2, .int .i64 a0_3, .int .i64 a0_4, .int .i64 a0_5]) (t := 30) ?hr ?_; (case hd => rfl); (case hg => rfl); (case hr => first | (go_simp; done) | (go_simp; rfl)); intro gb372 hg w5 hbox hb; have BK372 := Aside0.mk (hbox); have GW372 := Aside0.mk ((by rw [hg]; exact (below_size (bl HB.out)) : w.heap.size ≤ gb372)); have GE372 := GW372; replace HB := Aside0.mk (below_step (bl HB.out) hb); clear hb hbox hg) | ((with_reducible refine gate_dst (N := 2) rfl ?_); refine box_event ?hg (N := 2) ?hd (cs := #[.slice none 0 0, .slice none 0 0, .slice none 0 0, .int .i64 0, .int .i64 0, .int .i64 0]) (t := 30) ?hr ?_; (case hd => rfl); (case hg => rfl); (case hr => first | (go_simp; done) | (go_simp; rfl)); intro gb373 hg w6 hbox hb; have BK373 := Aside0.mk (hbox); have GW373 := Aside0.mk ((by rw [hg]; exact (below_size (by repeat with_reducible first | exact bl HB.out | refine below_set ?_ GE372.out | refine bq ?_)) : w.heap.size ≤ gb373)); have GE373 := GW373; replace HB := Aside0.mk (below_step (by repeat with_reducible first | exact bl HB.out | refine below_set ?_ GE372.out | refine bq ?_) hb); have NB372_373 := nb_ hg BK372.out; have NB373_372 := Aside0.mk NB372_373.out.symm; replace BK372 := Aside0.mk (blk_below (bk BK372.out) hb); clear hb hbox hg))
 have n0_ := Aside0.mk (blk_drew BK372.out)
 have n1_ := Aside0.mk (blk_drew BK373.out)
 have n2_ := Aside0.mk (below_drew1 HB.out)
 clear BK372
 clear BK373
 clear HB
 have BK372 := n0_
 have BK373 := n1_
 have HB := n2_
 clear n0_ n1_ n2_
 refine start_ (n := 13) (S := fun w' => w'.cell? ⟨gb372, 0, none⟩ = some (.slice A0_0 l0_0.length c0_0) ∧ w'.cell? ⟨gb372, 1, none⟩ = some (.slice A0_1 l0_1.length c0_1) ∧ w'.cell? ⟨gb372, 2, none⟩ = some (.slice A0_2 l0_2.length c0_2) ∧ w'.cell? ⟨gb372, 3, none⟩ = some (.int .i64 a0_3) ∧ w'.cell? ⟨gb372, 4, none⟩ = some (.int .i64 a0_4) ∧ w'.cell? ⟨gb372, 5, none⟩ = some (.int .i64 a0_5)) (ds := []) m0_13 (by kernel_rfl) rfl rfl ⟨ck BK372.out 0 rfl, ck BK372.out 1 rfl, ck BK372.out 2 rfl, ck BK372.out 3 rfl, ck BK372.out 4 rfl, ck BK372.out 5 rfl⟩ (fun hHeld => ?_); refine with_tabW impl_cloneFleet.tab1 impl_cloneFleet.bits1 (fun HT_ HW_ => ?_)
 generalize w6.drew = w7 at BK372 BK373 HB hHeld ⊢
 refine pq_ HT_.out 0 3 m1_13 ?_
 refine pq_ HT_.out 3 6 n45 ?_
 refine pq_ HT_.out 6 9 n46 ?_
 refine pq_ HT_.out 9 12 n47 ?_
 refine tk_ HT_.out HW_.out 1 4 n48 rfl rfl (by kernel_rfl) (by rfl) (by rintro w' ⟨s0, s1, s2, s3, s4, s5⟩; go_simp; with_reducible rfl) hHeld (by simp only [sp_]; rfl) (fun _ _ _ h => h) ?_
 refine tk_ HT_.out HW_.out 4 7 n49 rfl rfl (by kernel_rfl) (by rfl) (by rintro w' ⟨s0, s1, s2, s3, s4, s5⟩; go_simp; with_reducible rfl) hHeld (by simp only [sp_]; rfl) (fun _ _ _ h => h) ?_
 refine tk_ HT_.out HW_.out 7 10 n50 rfl rfl (by kernel_rfl) (by rfl) (by rintro w' ⟨s0, s1, s2, s3, s4, s5⟩; go_simp; with_reducible rfl) hHeld (by simp only [sp_]; rfl) (fun _ _ _ h => h) ?_
 refine tk_ HT_.out HW_.out 10 13 n51 rfl rfl (by kernel_rfl) (by rfl) (by rintro w' ⟨s0, s1, s2, s3, s4, s5⟩; go_simp; with_reducible rfl) hHeld (by simp only [sp_]; rfl) (fun _ _ _ h => h) ?_
 refine one_ (i := 2) (N := some 5) n52 rfl rfl (one_of HT_.out (by kernel_rfl)) (by decide) (fun K hK => ?_)
 refine goes_ Try.func75 (by kernel_rfl) rfl #[.slice A0_0 l0_0.length c0_0] (by rfl) rfl rfl (by (try simp only [am_]); first | done | rfl) ?_
 with_reducible refine (impl_Task.calls _ _ l0_0 t374 _ ?side1 ?side2 A2.out).mono ?_
 (case side1 => exact rc (Kd.C_below HR0_0.out HB.out))
 (case side2 => exact HC0_0.out)
 rintro e w8 ⟨v375, rfl, ho0, hb⟩
 refine ⟨_, rfl, ?_⟩
 have n0_ := Aside0.mk (Kd.R_lower ho0 (below_size (by repeat with_reducible first | exact bl HB.out | refine below_set ?_ GE372.out | refine below_set ?_ GE373.out | refine bq ?_)))
 have n1_ := Aside0.mk (blk_below (bk BK372.out) hb)
 have n2_ := Aside0.mk (blk_below (bk BK373.out) hb)
 have n3_ := Aside0.mk (below_step (by repeat with_reducible first | exact bl HB.out | refine below_set ?_ GE372.out | refine below_set ?_ GE373.out | refine bq ?_) hb)
 clear BK372
 clear BK373
 clear HB
 have HO376 := n0_
 have BK372 := n1_
 have BK373 := n2_
 have HB := n3_
 clear n0_ n1_ n2_ n3_
 (try clear hb)
 (try clear hb2)
 (try clear hk)
 (try clear hi)
 (try clear ho0)
 refine hK.out _ _ ⟨ck BK372.out 0 rfl, ck BK372.out 1 rfl, ck BK372.out 2 rfl, ck BK372.out 3 rfl, ck BK372.out 4 rfl, ck BK372.out 5 rfl⟩ (fun hHeld => ?_)
 clear hK K
 refine norm_ (a' := ?_) ?_ ?_
 rotate_left
 ·
  show Act.put _ (some 5) _ = _
  simp only [sp_]
  rfl
 refine one_ (i := 5) (N := some 8) n53 rfl rfl (one_of HT_.out (by kernel_rfl)) (by decide) (fun K hK => ?_)
 refine goes_ Try.func76 (by kernel_rfl) rfl #[.slice A0_1 l0_1.length c0_1] (by rfl) rfl rfl (by (try simp only [am_]); first | done | rfl) ?_
 with_reducible refine (impl_Carry.calls _ _ l0_1 t377 _ ?side1 ?side2 A3.out).mono ?_
 (case side1 => exact rc (Kd.C_below HR0_1.out HB.out))
 (case side2 => exact HC0_1.out)
 rintro e w9 ⟨v378, rfl, ho0, hb⟩
 refine ⟨_, rfl, ?_⟩
 have n0_ := Aside0.mk (Kd.R_below (rl HO376.out) hb)
 have n1_ := Aside0.mk (Kd.R_lower ho0 (below_size (by repeat with_reducible first | exact bl HB.out | refine below_set ?_ GE372.out | refine below_set ?_ GE373.out | refine bq ?_)))
 have n2_ := Aside0.mk (blk_below (bk BK372.out) hb)
 have n3_ := Aside0.mk (blk_below (bk BK373.out) hb)
 have n4_ := Aside0.mk (below_step (by repeat with_reducible first | exact bl HB.out | refine below_set ?_ GE372.out | refine below_set ?_ GE373.out | refine bq ?_) hb)
 clear HO376
 clear BK372
 clear BK373
 clear HB
 have HO376 := n0_
 have HO379 := n1_
 have BK372 := n2_
 have BK373 := n3_
 have HB := n4_
 clear n0_ n1_ n2_ n3_ n4_
 (try clear hb)
 (try clear hb2)
 (try clear hk)
 (try clear hi)
 (try clear ho0)
 refine hK.out _ _ ⟨ck BK372.out 0 rfl, ck BK372.out 1 rfl, ck BK372.out 2 rfl, ck BK372.out 3 rfl, ck BK372.out 4 rfl, ck BK372.out 5 rfl⟩ (fun hHeld => ?_)
 clear hK K
 refine norm_ (a' := ?_) ?_ ?_
 rotate_left
 ·
  show Act.put _ (some 8) _ = _
  simp only [sp_]
  rfl
 refine one_ (i := 8) (N := some 11) m11_13 rfl rfl (one_of HT_.out (by kernel_rfl)) (by decide) (fun K hK => ?_)
 refine goes_ Try.func77 (by kernel_rfl) rfl #[.slice A0_2 l0_2.length c0_2] (by rfl) rfl rfl (by (try simp only [am_]); first | done | rfl) ?_
 with_reducible refine (impl_Defect_77.calls _ _ l0_2 t380 _ ?side1 ?side2 A4.out).mono ?_
 (case side1 => exact rc (Kd.C_below HR0_2.out HB.out))
 (case side2 => exact HC0_2.out)
 rintro e w10 ⟨v381, rfl, ho0, hb⟩
 refine ⟨_, rfl, ?_⟩
 have n0_ := Aside0.mk (Kd.R_below (rl HO376.out) hb)
 have n1_ := Aside0.mk (Kd.R_below (rl HO379.out) hb)
 have n2_ := Aside0.mk (Kd.R_lower ho0 (below_size (by repeat with_reducible first | exact bl HB.out | refine below_set ?_ GE372.out | refine below_set ?_ GE373.out | refine bq ?_)))
 have n3_ := Aside0.mk (blk_below (bk BK372.out) hb)
 have n4_ := Aside0.mk (blk_below (bk BK373.out) hb)
 have n5_ := Aside0.mk (below_step (by repeat with_reducible first | exact bl HB.out | refine below_set ?_ GE372.out | refine below_set ?_ GE373.out | refine bq ?_) hb)
 clear HO376
 clear HO379
 clear BK372
 clear BK373
 clear HB
 have HO376 := n0_
 have HO379 := n1_
 have HO382 := n2_
 have BK372 := n3_
 have BK373 := n4_
 have HB := n5_
 clear n0_ n1_ n2_ n3_ n4_ n5_
 (try clear hb)
 (try clear hb2)
 (try clear hk)
 (try clear hi)
 (try clear ho0)
 obtain ⟨Ao11, co11, eo11⟩ := Kd.R_slice HO382.out
 (first | subst eo11 | (injection eo11 with f1_ f2_ f3_; have f4_ := f1_.symm; have f5_ := f3_.symm; clear f1_ f2_ f3_; subst f4_; subst f5_))
 obtain ⟨Ao12, co12, eo12⟩ := Kd.R_slice HO379.out
 (first | subst eo12 | (injection eo12 with f1_ f2_ f3_; have f4_ := f1_.symm; have f5_ := f3_.symm; clear f1_ f2_ f3_; subst f4_; subst f5_))
 obtain ⟨Ao13, co13, eo13⟩ := Kd.R_slice HO376.out
 (first | subst eo13 | (injection eo13 with f1_ f2_ f3_; have f4_ := f1_.symm; have f5_ := f3_.symm; clear f1_ f2_ f3_; subst f4_; subst f5_))
 refine hK.out _ _ ⟨ck BK372.out 0 rfl, ck BK372.out 1 rfl, ck BK372.out 2 rfl, ck BK372.out 3 rfl, ck BK372.out 4 rfl, ck BK372.out 5 rfl⟩ (fun hHeld => ?_)
 clear hK K
 refine norm_ (a' := ?_) ?_ ?_
 rotate_left
 ·
  show Act.put _ (some 11) _ = _
  simp only [sp_]
  rfl
 refine pq_ HT_.out 11 14 m12_13 ?_
 refine one_ (i := 12) (N := none) m13_13 rfl rfl (one_of HT_.out (by kernel_rfl)) (by decide) (fun K hK => ?_)
 have hs14 : w10.cell? ⟨gb373, 0, none⟩ = some (.slice none 0 0) := ck BK373.out 0 rfl
 have hfs14 := blk_frozen BK373.out 0
 have hns14_0 := NB372_373.out
 have hms14_0 := NB373_372.out
 have hs15 : w10.cell? ⟨gb373, 1, none⟩ = some (.slice none 0 0) := ck BK373.out 1 rfl
 have hfs15 := blk_frozen BK373.out 1
 have hns15_0 := NB372_373.out
 have hms15_0 := NB373_372.out
 have hs16 : w10.cell? ⟨gb373, 2, none⟩ = some (.slice none 0 0) := ck BK373.out 2 rfl
 have hfs16 := blk_frozen BK373.out 2
 have hns16_0 := NB372_373.out
 have hms16_0 := NB373_372.out
 have hs17 : w10.cell? ⟨gb373, 3, none⟩ = some (.int .i64 0) := ck BK373.out 3 rfl
 have hfs17 := blk_frozen BK373.out 3
 have hns17_0 := NB372_373.out
 have hms17_0 := NB373_372.out
 have hs18 : w10.cell? ⟨gb373, 4, none⟩ = some (.int .i64 0) := ck BK373.out 4 rfl
 have hfs18 := blk_frozen BK373.out 4
 have hns18_0 := NB372_373.out
 have hms18_0 := NB373_372.out
 have hs19 : w10.cell? ⟨gb373, 5, none⟩ = some (.int .i64 0) := ck BK373.out 5 rfl
 have hfs19 := blk_frozen BK373.out 5
 have hns19_0 := NB372_373.out
 have hms19_0 := NB373_372.out
 refine skip_ (w1 := ?_) (by rfl) rfl ?_ ?_
 rotate_left
 ·
  go_simp
  rfl
 refine hK.out _ _ ⟨((cell_far (p := ⟨gb373, _, none⟩) NB372_373.out _).trans (((cell_far (p := ⟨gb373, _, none⟩) NB372_373.out _).trans (((cell_far (p := ⟨gb373, _, none⟩) NB372_373.out _).trans (((cell_far (p := ⟨gb373, _, none⟩) NB372_373.out _).trans (((cell_far (p := ⟨gb373, _, none⟩) NB372_373.out _).trans (((cell_far (p := ⟨gb373, _, none⟩) NB372_373.out _).trans (hHeld.1)))))))))))), ((cell_far (p := ⟨gb373, _, none⟩) NB372_373.out _).trans (((cell_far (p := ⟨gb373, _, none⟩) NB372_373.out _).trans (((cell_far (p := ⟨gb373, _, none⟩) NB372_373.out _).trans (((cell_far (p := ⟨gb373, _, none⟩) NB372_373.out _).trans (((cell_far (p := ⟨gb373, _, none⟩) NB372_373.out _).trans (((cell_far (p := ⟨gb373, _, none⟩) NB372_373.out _).trans (hHeld.2.1)))))))))))), ((cell_far (p := ⟨gb373, _, none⟩) NB372_373.out _).trans (((cell_far (p := ⟨gb373, _, none⟩) NB372_373.out _).trans (((cell_far (p := ⟨gb373, _, none⟩) NB372_373.out _).trans (((cell_far (p := ⟨gb373, _, none⟩) NB372_373.out _).trans (((cell_far (p := ⟨gb373, _, none⟩) NB372_373.out _).trans (((cell_far (p := ⟨gb373, _, none⟩) NB372_373.out _).trans (hHeld.2.2.1)))))))))))), ((cell_far (p := ⟨gb373, _, none⟩) NB372_373.out _).trans (((cell_far (p := ⟨gb373, _, none⟩) NB372_373.out _).trans (((cell_far (p := ⟨gb373, _, none⟩) NB372_373.out _).trans (((cell_far (p := ⟨gb373, _, none⟩) NB372_373.out _).trans (((cell_far (p := ⟨gb373, _, none⟩) NB372_373.out _).trans (((cell_far (p := ⟨gb373, _, none⟩) NB372_373.out _).trans (hHeld.2.2.2.1)))))))))))), ((cell_far (p := ⟨gb373, _, none⟩) NB372_373.out _).trans (((cell_far (p := ⟨gb373, _, none⟩) NB372_373.out _).trans (((cell_far (p := ⟨gb373, _, none⟩) NB372_373.out _).trans (((cell_far (p := ⟨gb373, _, none⟩) NB372_373.out _).trans (((cell_far (p := ⟨gb373, _, none⟩) NB372_373.out _).trans (((cell_far (p := ⟨gb373, _, none⟩) NB372_373.out _).trans (hHeld.2.2.2.2.1)))))))))))), ((cell_far (p := ⟨gb373, _, none⟩) NB372_373.out _).trans (((cell_far (p := ⟨gb373, _, none⟩) NB372_373.out _).trans (((cell_far (p := ⟨gb373, _, none⟩) NB372_373.out _).trans (((cell_far (p := ⟨gb373, _, none⟩) NB372_373.out _).trans (((cell_far (p := ⟨gb373, _, none⟩) NB372_373.out _).trans (((cell_far (p := ⟨gb373, _, none⟩) NB372_373.out _).trans (hHeld.2.2.2.2.2))))))))))))⟩ (fun hHeld => ?_)
 clear hK K
 refine done_ (done_of HT_.out (by kernel_rfl)) ?_
 try go_wp2
 refine bodyPost_ret (results_cell_row rfl _ _ gb373 30 #[.slice Ao13 t374.length co13, .slice Ao12 t377.length co12, .slice Ao11 t380.length co11, .int .i64 a0_3, .int .i64 a0_4, .int .i64 a0_5] (0, 0) _ rfl (by (repeat refine bk1 ?_); refine blk_put (cs := #[.slice Ao13 t374.length co13, .slice Ao12 t377.length co12, .slice Ao11 t380.length co11, .int .i64 a0_3, .int .i64 a0_4, .int .i64 0]) ?_ 5 _ rfl; (repeat refine bk1 ?_); refine blk_put (cs := #[.slice Ao13 t374.length co13, .slice Ao12 t377.length co12, .slice Ao11 t380.length co11, .int .i64 a0_3, .int .i64 0, .int .i64 0]) ?_ 4 _ rfl; (repeat refine bk1 ?_); refine blk_put (cs := #[.slice Ao13 t374.length co13, .slice Ao12 t377.length co12, .slice Ao11 t380.length co11, .int .i64 0, .int .i64 0, .int .i64 0]) ?_ 3 _ rfl; (repeat refine bk1 ?_); refine blk_put (cs := #[.slice Ao13 t374.length co13, .slice Ao12 t377.length co12, .slice none 0 0, .int .i64 0, .int .i64 0, .int .i64 0]) ?_ 2 _ rfl; (repeat refine bk1 ?_); refine blk_put (cs := #[.slice Ao13 t374.length co13, .slice none 0 0, .slice none 0 0, .int .i64 0, .int .i64 0, .int .i64 0]) ?_ 1 _ rfl; (repeat refine bk1 ?_); refine blk_put (cs := #[.slice none 0 0, .slice none 0 0, .slice none 0 0, .int .i64 0, .int .i64 0, .int .i64 0]) ?_ 0 _ rfl; (repeat refine bk1 ?_); exact BK373.out) Try.underlying30 rfl (by kernel_rfl)) rfl ?_
 exact ⟨_, _, _, by first | rfl | (simp [errW_none, errW_some] <;> rfl) | (simp [*, errW_none, errW_some] <;> rfl), by (repeat apply rl1); exact Kd.R_mono (Kd.R_far (p := ⟨gb373, 5, none⟩) (Kd.R_far (p := ⟨gb373, 4, none⟩) (Kd.R_far (p := ⟨gb373, 3, none⟩) (Kd.R_far (p := ⟨gb373, 2, none⟩) (Kd.R_far (p := ⟨gb373, 1, none⟩) (Kd.R_far (p := ⟨gb373, 0, none⟩) (Kd.R_types HO376.out BK373.out (by decide)) (fun _ hk => hk.2) (.slice Ao13 t374.length co13)) (fun _ hk => hk.2) (.slice Ao12 t377.length co12)) (fun _ hk => hk.2) (.slice Ao11 t380.length co11)) (fun _ hk => hk.2) (.int .i64 a0_3)) (fun _ hk => hk.2) (.int .i64 a0_4)) (fun _ hk => hk.2) (.int .i64 a0_5)) (fun _ hk => trivial), by (repeat apply rl1); exact Kd.R_mono (Kd.R_far (p := ⟨gb373, 5, none⟩) (Kd.R_far (p := ⟨gb373, 4, none⟩) (Kd.R_far (p := ⟨gb373, 3, none⟩) (Kd.R_far (p := ⟨gb373, 2, none⟩) (Kd.R_far (p := ⟨gb373, 1, none⟩) (Kd.R_far (p := ⟨gb373, 0, none⟩) (Kd.R_types HO379.out BK373.out (by decide)) (fun _ hk => hk.2) (.slice Ao13 t374.length co13)) (fun _ hk => hk.2) (.slice Ao12 t377.length co12)) (fun _ hk => hk.2) (.slice Ao11 t380.length co11)) (fun _ hk => hk.2) (.int .i64 a0_3)) (fun _ hk => hk.2) (.int .i64 a0_4)) (fun _ hk => hk.2) (.int .i64 a0_5)) (fun _ hk => trivial), by (repeat apply rl1); exact Kd.R_mono (Kd.R_far (p := ⟨gb373, 5, none⟩) (Kd.R_far (p := ⟨gb373, 4, none⟩) (Kd.R_far (p := ⟨gb373, 3, none⟩) (Kd.R_far (p := ⟨gb373, 2, none⟩) (Kd.R_far (p := ⟨gb373, 1, none⟩) (Kd.R_far (p := ⟨gb373, 0, none⟩) (Kd.R_types HO382.out BK373.out (by decide)) (fun _ hk => hk.2) (.slice Ao13 t374.length co13)) (fun _ hk => hk.2) (.slice Ao12 t377.length co12)) (fun _ hk => hk.2) (.slice Ao11 t380.length co11)) (fun _ hk => hk.2) (.int .i64 a0_3)) (fun _ hk => hk.2) (.int .i64 a0_4)) (fun _ hk => hk.2) (.int .i64 a0_5)) (fun _ hk => trivial), by repeat with_reducible first | exact bl HB.out | refine below_set ?_ GE372.out | refine below_set ?_ GE373.out | refine bq ?_⟩

/-! ### impl_isDue: function 39 -/
def impl_isDue.l0 : Nat → List Int → List Int → Int → Int → Option (Bool)
 | 0, _, _, _, _ => none
 | k + 1, x1, x7, x8, x9 => if x9 < x8 then (if 0 ≤ x9 then (if x9 < (x7.length : Int) then (if (rd x7 x9) > 0 then (if x9 < (x1.length : Int) then (if (rd x1 x9) ≥ (rd x7 x9) then (some true) else (impl_isDue.l0 k x1 x7 x8 (wrap64 (x9 + 1)))) else (none)) else (impl_isDue.l0 k x1 x7 x8 (wrap64 (x9 + 1)))) else (none)) else (none)) else (some false)
def impl_isDue.f (k : Nat) (l0 : List Int) (l1 : List Int) : Option (Bool) := impl_isDue.l0 k l1 l0 (l0.length : Int) 0
theorem impl_isDue.mono_l : ∀ k, (∀ y0 y1 y2 y3, LeO (impl_isDue.l0 k y0 y1 y2 y3) (impl_isDue.l0 (k + 1) y0 y1 y2 y3))
 | 0 => fun _ _ _ _ r h => by simp [impl_isDue.l0] at h
 | k + 1 => by
  have ih0 := impl_isDue.mono_l k
  ·
   intro y0 y1 y2 y3
   unfold impl_isDue.l0
   repeat' first
   | (with_reducible exact ih0 _ _ _ _)
   | (with_reducible exact LeO.refl _)
   | (with_reducible exact LeO.none _)
   | (with_reducible refine LeO.ite ?_ ?_)
   | (with_reducible refine LeO.bind ?_ (fun _ => ?_))
   | exact ih0 _ _ _ _
   | exact LeO.none _
   | refine LeO.ite ?_ ?_
   | refine LeO.bind ?_ (fun _ => ?_)
theorem impl_isDue.mono : ∀ a0 a1 k, LeO (impl_isDue.f k a0 a1) (impl_isDue.f (k + 1) a0 a1) := by
 intro a0 a1 k
 have ih0 := impl_isDue.mono_l k
 unfold impl_isDue.f
 repeat' first
   | (with_reducible exact ih0 _ _ _ _)
   | (with_reducible exact LeO.refl _)
   | (with_reducible exact LeO.none _)
   | (with_reducible refine LeO.ite ?_ ?_)
   | (with_reducible refine LeO.bind ?_ (fun _ => ?_))
   | exact ih0 _ _ _ _
   | exact LeO.none _
   | refine LeO.ite ?_ ?_
   | refine LeO.bind ?_ (fun _ => ?_)
set_option maxHeartbeats 8000000 in
set_option maxRecDepth 100000 in
theorem impl_isDue.calls (k : Nat) (A0 : Option Addr) (c0 : Nat) (l0 : List Int) (A1 : Option Addr) (c1 : Nat) (l1 : List Int) (r : Bool) (w : World) (hr0 : Kd.C (Kd.int .i64) w A0 l0.length l0) (hc0 : l0.length ≤ c0) (hr1 : Kd.C (Kd.int .i64) w A1 l1.length l1) (hc1 : l1.length ≤ c1) (h : impl_isDue.f k l0 l1 = some r) :
  Calls Try.prog 39 #[.slice A0 l0.length c0, .slice A1 l1.length c1] w fun e w' => e = .returned (.bool r) ∧ Drawn0 w w' := by
 have HR0 := Aside0.mk hr0
 have HC0 := Aside0.mk hc0
 clear hr0 hc0
 have HR1 := Aside0.mk hr1
 have HC1 := Aside0.mk hc1
 clear hr1 hc1
 have H : (impl_isDue.l0 k l1 l0 (l0.length : Int) 0) = some r := h
 clear h
 have H' := Aside0.mk H
 clear H
 go_enter Try.func39, Try.ntmps39
 go_wp2
 go_loopg [9] k (fun kq v9 w' => ∃ (x9_1 : Int), v9 = .int .i64 x9_1 ∧ Aside0 (impl_isDue.l0 kq l1 l0 (l0.length : Int) x9_1 = some r) ∧ Aside0 (kq ≤ k) ∧ Drawn0 w w')
 case atStart => exact ⟨(0), (by first | rfl | (simp; done) | (simp [*]; done)), H', ⟨Nat.le_refl _⟩, by repeat (first | exact Drawn0.refl _ | apply Drawn0.step)⟩
 case round =>
  clear H'
  try clear c1
  try clear p2
  obtain ⟨x9_1, rfl, HA, HK1, ⟨m1, rfl⟩⟩ := hrel
  cases gk with
  | zero => exact absurd HA.out (by simp [impl_isDue.l0])
  | succ k1 =>
   have H := HA.out
   clear HA
   simp only [impl_isDue.l0] at H
   by_cases c3 : x9_1 < (l0.length : Int)
   ·
    rw [if_pos c3] at H
    have c3b0 : decide (x9_1 < (l0.length : Int)) = true := decide_eq_true c3
    clear c3
    by_cases c4 : 0 ≤ x9_1
    ·
     rw [if_pos c4] at H
     have c4b0 : decide (0 ≤ x9_1) = true := decide_eq_true c4
     clear c4
     by_cases c5 : x9_1 < (l0.length : Int)
     ·
      rw [if_pos c5] at H
      have c5b0 : decide (x9_1 < (l0.length : Int)) = true := decide_eq_true c5
      clear c5
      by_cases c6 : (rd l0 x9_1) > 0
      ·
       rw [if_pos c6] at H
       have c6b0 : decide (0 < (rd l0 x9_1)) = true := decide_eq_true c6
       clear c6
       by_cases c7 : x9_1 < (l1.length : Int)
       ·
        rw [if_pos c7] at H
        have c7b0 : decide (x9_1 < (l1.length : Int)) = true := decide_eq_true c7
        clear c7
        by_cases c8 : (rd l1 x9_1) ≥ (rd l0 x9_1)
        ·
         rw [if_pos c8] at H
         have c8b0 : decide ((rd l0 x9_1) ≤ (rd l1 x9_1)) = true := decide_eq_true c8
         clear c8
         obtain rfl := Option.some.inj H
         have p383 : 0 ≤ (x9_1 : Int) := of_decide_eq_true (by first | (with_reducible assumption) | assumption)
         have q383 : x9_1 < (l0.length : Int) := of_decide_eq_true (by first | (with_reducible assumption) | assumption)
         obtain ⟨ad383, e383, hx383_0⟩ := Kd.at_int HR0.out x9_1 p383 q383
         cases e383
         replace p383 := eq_true p383
         replace q383 := eq_true q383
         have p384 : 0 ≤ (x9_1 : Int) := of_decide_eq_true (by first | (with_reducible assumption) | assumption)
         have q384 : x9_1 < (l1.length : Int) := of_decide_eq_true (by first | (with_reducible assumption) | assumption)
         obtain ⟨ad384, e384, hx384_0⟩ := Kd.at_int HR1.out x9_1 p384 q384
         cases e384
         replace p384 := eq_true p384
         replace q384 := eq_true q384
         go_wp2
         go_ret
         exact ⟨by first | rfl | (simp; done) | (simp [*]; done), by repeat (first | exact Drawn0.refl _ | apply Drawn0.step)⟩
        ·
         rw [if_neg c8] at H
         have c8b0 : decide ((rd l0 x9_1) ≤ (rd l1 x9_1)) = false := decide_eq_false c8
         clear c8
         have H' := Aside0.mk H
         clear H
         have p383 : 0 ≤ (x9_1 : Int) := of_decide_eq_true (by first | (with_reducible assumption) | assumption)
         have q383 : x9_1 < (l0.length : Int) := of_decide_eq_true (by first | (with_reducible assumption) | assumption)
         obtain ⟨ad383, e383, hx383_0⟩ := Kd.at_int HR0.out x9_1 p383 q383
         cases e383
         replace p383 := eq_true p383
         replace q383 := eq_true q383
         have p384 : 0 ≤ (x9_1 : Int) := of_decide_eq_true (by first | (with_reducible assumption) | assumption)
         have q384 : x9_1 < (l1.length : Int) := of_decide_eq_true (by first | (with_reducible assumption) | assumption)
         obtain ⟨ad384, e384, hx384_0⟩ := Kd.at_int HR1.out x9_1 p384 q384
         cases e384
         replace p384 := eq_true p384
         replace q384 := eq_true q384
         go_wp2
         go_roundg k1
         case measure => have := HK1.out; omega
         case rel => exact ⟨(wrap64 (x9_1 + 1)), (by first | rfl | (simp; done) | (simp [*]; done)), H', ⟨by have := HK1.out; omega⟩, by repeat (first | exact Drawn0.refl _ | apply Drawn0.step)⟩
       ·
        rw [if_neg c7] at H
        exact absurd H (by simp)
      ·
       rw [if_neg c6] at H
       have c6b0 : decide (0 < (rd l0 x9_1)) = false := decide_eq_false c6
       clear c6
       have H' := Aside0.mk H
       clear H
       have p383 : 0 ≤ (x9_1 : Int) := of_decide_eq_true (by first | (with_reducible assumption) | assumption)
       have q383 : x9_1 < (l0.length : Int) := of_decide_eq_true (by first | (with_reducible assumption) | assumption)
       obtain ⟨ad383, e383, hx383_0⟩ := Kd.at_int HR0.out x9_1 p383 q383
       cases e383
       replace p383 := eq_true p383
       replace q383 := eq_true q383
       go_wp2
       go_roundg k1
       case measure => have := HK1.out; omega
       case rel => exact ⟨(wrap64 (x9_1 + 1)), (by first | rfl | (simp; done) | (simp [*]; done)), H', ⟨by have := HK1.out; omega⟩, by repeat (first | exact Drawn0.refl _ | apply Drawn0.step)⟩
     ·
      rw [if_neg c5] at H
      exact absurd H (by simp)
    ·
     rw [if_neg c4] at H
     exact absurd H (by simp)
   ·
    rw [if_neg c3] at H
    have c3b0 : decide (x9_1 < (l0.length : Int)) = false := decide_eq_false c3
    clear c3
    obtain rfl := Option.some.inj H
    go_wp2
    go_ret
    exact ⟨by first | rfl | (simp; done) | (simp [*]; done), by repeat (first | exact Drawn0.refl _ | apply Drawn0.step)⟩

end Go.Proofs.Ytdimdlifjdbgnaa.PFnKept
