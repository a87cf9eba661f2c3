import Derived.Test.YtdimdlifjdbgnaaPFnExactDoWorkx17
namespace Go.Proofs.Ytdimdlifjdbgnaa.PFnExactDoWork
open Go.RowKit Go.Proofs.YtdimdlifjdbgnaaW.PrintWords Go.Proofs.YtdimdlifjdbgnaaW.PrintLast Go.Proofs.YtdimdlifjdbgnaaW.PrintMore Go.Proofs.Ytdimdlifjdbgnaa.Sq
attribute [local go_sem] max2_int min2_int max_two min_two max_three min_three max_four min_four
set_option linter.unusedVariables false
set_option linter.unusedSimpArgs false

/-! ### laws_heldTaskS: function 60 -/
def laws_heldTaskS.l0 : Nat → List (S44) → Int → Int → Option (Int)
 | 0, _, _, _ => none
 | k + 1, x0, x1, x5 => if x5 < (x0.length : Int) then (if 0 ≤ x5 then ((laws_markText.f k x1).bind fun t365 => (if ((rd_T44 x0 x5).f0).toList = t365.toList then (if ((rd_T44 x0 x5).f1) = (wrap64 (x1 + 1)) then (if ((rd_T44 x0 x5).f2) = (wrap64 ((wrap64 (x1 + 1)) + 1)) then (if ((rd_T44 x0 x5).f3) = (wrap64 ((wrap64 ((wrap64 (x1 + 1)) + 1)) + 1)) then (if ((rd_T44 x0 x5).f4.f0) = (wrap64 ((wrap64 ((wrap64 ((wrap64 (x1 + 1)) + 1)) + 1)) + 1)) then (if ((rd_T44 x0 x5).f4.f1) = (wrap64 ((wrap64 ((wrap64 ((wrap64 ((wrap64 (x1 + 1)) + 1)) + 1)) + 1)) + 1)) then (if ((rd_T44 x0 x5).f4.f2) = (wrap64 ((wrap64 ((wrap64 ((wrap64 ((wrap64 ((wrap64 (x1 + 1)) + 1)) + 1)) + 1)) + 1)) + 1)) then (laws_heldTaskS.l0 k x0 (wrap64 ((wrap64 ((wrap64 ((wrap64 ((wrap64 ((wrap64 ((wrap64 (x1 + 1)) + 1)) + 1)) + 1)) + 1)) + 1)) + 1)) (wrap64 (x5 + 1))) else (some (-1))) else (some (-1))) else (some (-1))) else (some (-1))) else (some (-1))) else (some (-1))) else (some (-1)))) else (none)) else (some x1)
def laws_heldTaskS.f (k : Nat) (l0 : List (S44)) (a1 : Int) : Option (Int) := laws_heldTaskS.l0 k l0 a1 0
def laws_heldTaskS.T4 : Bool × List (List Nat × List Nat) := (true, [([], []), ([], []), ([0, 1], [0, 1]), ([2], [2]), ([3], [3]), ([], []), ([5], [5]), ([4, 6], [4, 6])])
def laws_heldTaskS.B4 : List Nat := [0, 0, 3, 7, 15, 0, 32, 127]
theorem laws_heldTaskS.tab4 : rtab .any (opsOf Try.f60 4) = laws_heldTaskS.T4 := by kernel_rfl
theorem laws_heldTaskS.bits4 : waitsOk laws_heldTaskS.T4.2 laws_heldTaskS.B4 = true := by kernel_rfl
set_option maxHeartbeats 8000000 in
set_option maxRecDepth 100000 in
theorem laws_heldTaskS.calls (k : Nat) (A0 : Option Addr) (c0 : Nat) (l0 : List (S44)) (a1 : Int) (r : Int) (w : World) (hr0 : Kd.C k44 w A0 l0.length l0) (hc0 : l0.length ≤ c0) (h : laws_heldTaskS.f k l0 a1 = some r) :
  Calls Try.prog 60 #[.slice A0 l0.length c0, .int .i64 a1] w fun e w' => e = .returned (.int .i64 r) ∧ Below w.heap.size w w' := by
 have HR0 := Aside0.mk hr0
 have HC0 := Aside0.mk hc0
 clear hr0 hc0
 have HB := Aside0.mk (Below.refl w.heap.size w)
 have H : (laws_heldTaskS.l0 k l0 a1 0) = some r := h
 clear h
 have H' := Aside0.mk H
 clear H
 go_enter Try.func60, Try.ntmps60
 go_wp2
 go_loopg [1, 5] k (fun kq v1 v5 w' => ∃ (x1_1 : Int) (x5_1 : Int), v1 = .int .i64 x1_1 ∧ v5 = .int .i64 x5_1 ∧ Aside0 (laws_heldTaskS.l0 kq l0 x1_1 x5_1 = some r) ∧ Aside0 (kq ≤ k) ∧ Aside0 (Below w.heap.size w w'))
 case atStart => exact ⟨(a1), (0), (by first | rfl | (simp; done) | (simp [*]; done)), (by first | rfl | (simp; done) | (simp [*]; done)), H', ⟨Nat.le_refl _⟩, ⟨bl HB.out⟩⟩
 case round =>
  clear H'
  try clear p2
  obtain ⟨x1_1, x5_1, rfl, rfl, HA, HK1, HB⟩ := hrel
  cases gk with
  | zero => exact absurd HA.out (by simp [laws_heldTaskS.l0])
  | succ k1 =>
   have H := HA.out
   clear HA
   simp only [laws_heldTaskS.l0] at H
   by_cases c3 : x5_1 < (l0.length : Int)
   ·
    rw [if_pos c3] at H
    have c3b0 : decide (x5_1 < (l0.length : Int)) = true := decide_eq_true c3
    clear c3
    by_cases c4 : 0 ≤ x5_1
    ·
     rw [if_pos c4] at H
     have c4b0 : decide (0 ≤ x5_1) = true := decide_eq_true c4
     clear c4
     replace H := Option.bind_eq_some_iff.mp H
     obtain ⟨t365, A50, H⟩ := H
     replace H : (if ((rd_T44 l0 x5_1).f0).toList = t365.toList then (if ((rd_T44 l0 x5_1).f1) = (wrap64 (x1_1 + 1)) then (if ((rd_T44 l0 x5_1).f2) = (wrap64 ((wrap64 (x1_1 + 1)) + 1)) then (if ((rd_T44 l0 x5_1).f3) = (wrap64 ((wrap64 ((wrap64 (x1_1 + 1)) + 1)) + 1)) then (if ((rd_T44 l0 x5_1).f4.f0) = (wrap64 ((wrap64 ((wrap64 ((wrap64 (x1_1 + 1)) + 1)) + 1)) + 1)) then (if ((rd_T44 l0 x5_1).f4.f1) = (wrap64 ((wrap64 ((wrap64 ((wrap64 ((wrap64 (x1_1 + 1)) + 1)) + 1)) + 1)) + 1)) then (if ((rd_T44 l0 x5_1).f4.f2) = (wrap64 ((wrap64 ((wrap64 ((wrap64 ((wrap64 ((wrap64 (x1_1 + 1)) + 1)) + 1)) + 1)) + 1)) + 1)) then (laws_heldTaskS.l0 k1 l0 (wrap64 ((wrap64 ((wrap64 ((wrap64 ((wrap64 ((wrap64 ((wrap64 (x1_1 + 1)) + 1)) + 1)) + 1)) + 1)) + 1)) + 1)) (wrap64 (x5_1 + 1))) else (some (-1))) else (some (-1))) else (some (-1))) else (some (-1))) else (some (-1))) else (some (-1))) else (some (-1))) = some r := H
     have A5 := Aside0.mk A50
     clear A50
     have HC6 := Aside0.mk H
     clear H
     try go_wp2
     have n0_ := Aside0.mk (below_drew1 HB.out)
     clear HB
     have HB := n0_
     clear n0_
     have p364 : 0 ≤ (x5_1 : Int) := of_decide_eq_true (by first | (with_reducible assumption) | assumption)
     have q364 : x5_1 < (l0.length : Int) := of_decide_eq_true (by first | (with_reducible assumption) | assumption)
     obtain ⟨ad364, e364, hx364_0, hx364_1, hx364_2, hx364_3, hx364_4, hx364_5, hx364_6⟩ := at_T44 HR0.out x5_1 p364 q364
     have hw364_6 := hx364_6
     have hw364_5 := hx364_5
     have hw364_4 := hx364_4
     have hw364_3 := hx364_3
     have hw364_2 := hx364_2
     have hw364_1 := hx364_1
     have hw364_0 := hx364_0
     cases e364
     replace hx364_0 := bc HB.out hx364_0
     replace hx364_1 := bc HB.out hx364_1
     replace hx364_2 := bc HB.out hx364_2
     replace hx364_3 := bc HB.out hx364_3
     replace hx364_4 := bc HB.out hx364_4
     replace hx364_5 := bc HB.out hx364_5
     replace hx364_6 := bc HB.out hx364_6
     replace p364 := eq_true p364
     replace q364 := eq_true q364
     refine start_ (n := 8) (S := fun w' => w'.cell? (ad364.add ((x5_1).toNat * 7)) = some (.string ((rd_T44 l0 x5_1).f0)) ∧ w'.cell? ⟨(ad364.add ((x5_1).toNat * 7)).block, (ad364.add ((x5_1).toNat * 7)).off + 1, none⟩ = some (.int .i64 ((rd_T44 l0 x5_1).f1)) ∧ w'.cell? ⟨(ad364.add ((x5_1).toNat * 7)).block, (ad364.add ((x5_1).toNat * 7)).off + 2, none⟩ = some (.int .i64 ((rd_T44 l0 x5_1).f2)) ∧ w'.cell? ⟨(ad364.add ((x5_1).toNat * 7)).block, (ad364.add ((x5_1).toNat * 7)).off + 3, none⟩ = some (.int .i64 ((rd_T44 l0 x5_1).f3)) ∧ w'.cell? ⟨(ad364.add ((x5_1).toNat * 7)).block, (ad364.add ((x5_1).toNat * 7)).off + 4, none⟩ = some (.int .i64 ((rd_T44 l0 x5_1).f4.f0)) ∧ w'.cell? ⟨(ad364.add ((x5_1).toNat * 7)).block, (ad364.add ((x5_1).toNat * 7)).off + 5, none⟩ = some (.int .i64 ((rd_T44 l0 x5_1).f4.f1)) ∧ w'.cell? ⟨(ad364.add ((x5_1).toNat * 7)).block, (ad364.add ((x5_1).toNat * 7)).off + 6, none⟩ = some (.int .i64 ((rd_T44 l0 x5_1).f4.f2))) (ds := []) m0_8 (by kernel_rfl) rfl rfl ⟨((HB.out.cell (World.block_lt_of_cell? w _ hw364_0)).trans hw364_0), ((HB.out.cell (World.block_lt_of_cell? w _ hw364_1)).trans hw364_1), ((HB.out.cell (World.block_lt_of_cell? w _ hw364_2)).trans hw364_2), ((HB.out.cell (World.block_lt_of_cell? w _ hw364_3)).trans hw364_3), ((HB.out.cell (World.block_lt_of_cell? w _ hw364_4)).trans hw364_4), ((HB.out.cell (World.block_lt_of_cell? w _ hw364_5)).trans hw364_5), ((HB.out.cell (World.block_lt_of_cell? w _ hw364_6)).trans hw364_6)⟩ (fun hHeld => ?_); refine with_tabW laws_heldTaskS.tab4 laws_heldTaskS.bits4 (fun HT_ HW_ => ?_)
     generalize wr.drew = w7 at HB hx364_0 hx364_1 hx364_2 hx364_3 hx364_4 hx364_5 hx364_6 hHeld ⊢
     refine pq_ HT_.out 0 12 m1_8 ?_
     refine pq_ HT_.out 1 13 m2_8 ?_
     refine pq_ HT_.out 2 14 m3_8 ?_
     refine pq_ HT_.out 3 15 m4_8 ?_
     refine pq_ HT_.out 5 17 n82 ?_
     refine tk_ HT_.out HW_.out 4 16 m6_8 rfl rfl (by kernel_rfl) (by rfl) (by rintro w' ⟨s0, s1, s2, s3, s4, s5, s6⟩; go_simp; with_reducible rfl) hHeld (by simp only [sp_]; rfl) (fun _ _ _ h => h) ?_
     refine one_ (i := 6) (N := some 18) m7_8 rfl rfl (one_of HT_.out (by kernel_rfl)) (by decide) (fun K hK => ?_)
     refine goes_ Try.func103 (by kernel_rfl) rfl #[.int .i64 x1_1] (by rfl) rfl rfl (by (try simp only [am_]); first | done | rfl) ?_
     with_reducible refine (laws_markText.calls k1 x1_1 t365 _ A5.out).mono ?_
     rintro e w8 ⟨rfl, hb⟩
     refine ⟨_, rfl, ?_⟩
     have n0_ := Aside0.mk (below_step (bl HB.out) hb)
     clear HB
     have HB := n0_
     clear n0_
     (try clear hb)
     (try clear hb2)
     (try clear hk)
     (try clear hi)
     refine hK.out _ _ ⟨((HB.out.cell (World.block_lt_of_cell? w _ hw364_0)).trans hw364_0), ((HB.out.cell (World.block_lt_of_cell? w _ hw364_1)).trans hw364_1), ((HB.out.cell (World.block_lt_of_cell? w _ hw364_2)).trans hw364_2), ((HB.out.cell (World.block_lt_of_cell? w _ hw364_3)).trans hw364_3), ((HB.out.cell (World.block_lt_of_cell? w _ hw364_4)).trans hw364_4), ((HB.out.cell (World.block_lt_of_cell? w _ hw364_5)).trans hw364_5), ((HB.out.cell (World.block_lt_of_cell? w _ hw364_6)).trans hw364_6)⟩ (fun hHeld => ?_)
     clear hK K
     refine norm_ (a' := ?_) ?_ ?_
     rotate_left
     ·
      show Act.put _ (some 18) _ = _
      simp only [sp_]
      rfl
     refine pq_ HT_.out 7 19 m8_8 ?_
     refine done_ (done_of HT_.out (by kernel_rfl)) ?_
     go_upto_if 19 with (fail)
     have H := HC6.out
     clear HC6
     by_cases c9 : ((rd_T44 l0 x5_1).f0).toList = t365.toList
     ·
      rw [if_pos c9] at H
      have c9b0 : (((rd_T44 l0 x5_1).f0).toList == t365.toList) = true := beq_iff_eq.mpr c9
      have c9b1 : (((rd_T44 l0 x5_1).f0).toList != t365.toList) = false := bne_eq_false_iff_eq.mpr c9
      clear c9
      (first | rw [c9b0] | (simp only [i64_w, i32_w]; rw [c9b0]) | skip)
      by_cases c10 : ((rd_T44 l0 x5_1).f1) = (wrap64 (x1_1 + 1))
      ·
       rw [if_pos c10] at H
       have c10b0 : (((rd_T44 l0 x5_1).f1) == (wrap64 (x1_1 + 1))) = true := beq_iff_eq.mpr c10
       have c10b1 : (((rd_T44 l0 x5_1).f1) != (wrap64 (x1_1 + 1))) = false := bne_eq_false_iff_eq.mpr c10
       clear c10
       by_cases c11 : ((rd_T44 l0 x5_1).f2) = (wrap64 ((wrap64 (x1_1 + 1)) + 1))
       ·
        rw [if_pos c11] at H
        have c11b0 : (((rd_T44 l0 x5_1).f2) == (wrap64 ((wrap64 (x1_1 + 1)) + 1))) = true := beq_iff_eq.mpr c11
        have c11b1 : (((rd_T44 l0 x5_1).f2) != (wrap64 ((wrap64 (x1_1 + 1)) + 1))) = false := bne_eq_false_iff_eq.mpr c11
        clear c11
        by_cases c12 : ((rd_T44 l0 x5_1).f3) = (wrap64 ((wrap64 ((wrap64 (x1_1 + 1)) + 1)) + 1))
        ·
         rw [if_pos c12] at H
         have c12b0 : (((rd_T44 l0 x5_1).f3) == (wrap64 ((wrap64 ((wrap64 (x1_1 + 1)) + 1)) + 1))) = true := beq_iff_eq.mpr c12
         have c12b1 : (((rd_T44 l0 x5_1).f3) != (wrap64 ((wrap64 ((wrap64 (x1_1 + 1)) + 1)) + 1))) = false := bne_eq_false_iff_eq.mpr c12
         clear c12
         by_cases c13 : ((rd_T44 l0 x5_1).f4.f0) = (wrap64 ((wrap64 ((wrap64 ((wrap64 (x1_1 + 1)) + 1)) + 1)) + 1))
         ·
          rw [if_pos c13] at H
          have c13b0 : (((rd_T44 l0 x5_1).f4.f0) == (wrap64 ((wrap64 ((wrap64 ((wrap64 (x1_1 + 1)) + 1)) + 1)) + 1))) = true := beq_iff_eq.mpr c13
          have c13b1 : (((rd_T44 l0 x5_1).f4.f0) != (wrap64 ((wrap64 ((wrap64 ((wrap64 (x1_1 + 1)) + 1)) + 1)) + 1))) = false := bne_eq_false_iff_eq.mpr c13
          clear c13
          by_cases c14 : ((rd_T44 l0 x5_1).f4.f1) = (wrap64 ((wrap64 ((wrap64 ((wrap64 ((wrap64 (x1_1 + 1)) + 1)) + 1)) + 1)) + 1))
          ·
           rw [if_pos c14] at H
           have c14b0 : (((rd_T44 l0 x5_1).f4.f1) == (wrap64 ((wrap64 ((wrap64 ((wrap64 ((wrap64 (x1_1 + 1)) + 1)) + 1)) + 1)) + 1))) = true := beq_iff_eq.mpr c14
           have c14b1 : (((rd_T44 l0 x5_1).f4.f1) != (wrap64 ((wrap64 ((wrap64 ((wrap64 ((wrap64 (x1_1 + 1)) + 1)) + 1)) + 1)) + 1))) = false := bne_eq_false_iff_eq.mpr c14
           clear c14
           by_cases c15 : ((rd_T44 l0 x5_1).f4.f2) = (wrap64 ((wrap64 ((wrap64 ((wrap64 ((wrap64 ((wrap64 (x1_1 + 1)) + 1)) + 1)) + 1)) + 1)) + 1))
           ·
            rw [if_pos c15] at H
            have c15b0 : (((rd_T44 l0 x5_1).f4.f2) == (wrap64 ((wrap64 ((wrap64 ((wrap64 ((wrap64 ((wrap64 (x1_1 + 1)) + 1)) + 1)) + 1)) + 1)) + 1))) = true := beq_iff_eq.mpr c15
            have c15b1 : (((rd_T44 l0 x5_1).f4.f2) != (wrap64 ((wrap64 ((wrap64 ((wrap64 ((wrap64 ((wrap64 (x1_1 + 1)) + 1)) + 1)) + 1)) + 1)) + 1))) = false := bne_eq_false_iff_eq.mpr c15
            clear c15
            have H' := Aside0.mk H
            clear H
            have p366 : 0 ≤ (x5_1 : Int) := of_decide_eq_true (by first | (with_reducible assumption) | assumption)
            have q366 : x5_1 < (l0.length : Int) := of_decide_eq_true (by first | (with_reducible assumption) | assumption)
            obtain ⟨ad366, e366, hx366_0, hx366_1, hx366_2, hx366_3, hx366_4, hx366_5, hx366_6⟩ := at_T44 HR0.out x5_1 p366 q366
            obtain rfl : ad364 = ad366 := (by injection e366)
            replace hx366_0 := bc HB.out hx366_0
            replace hx366_1 := bc HB.out hx366_1
            replace hx366_2 := bc HB.out hx366_2
            replace hx366_3 := bc HB.out hx366_3
            replace hx366_4 := bc HB.out hx366_4
            replace hx366_5 := bc HB.out hx366_5
            replace hx366_6 := bc HB.out hx366_6
            replace p366 := eq_true p366
            replace q366 := eq_true q366
            have p367 : 0 ≤ (x5_1 : Int) := of_decide_eq_true (by first | (with_reducible assumption) | assumption)
            have q367 : x5_1 < (l0.length : Int) := of_decide_eq_true (by first | (with_reducible assumption) | assumption)
            obtain ⟨ad367, e367, hx367_0, hx367_1, hx367_2, hx367_3, hx367_4, hx367_5, hx367_6⟩ := at_T44 HR0.out x5_1 p367 q367
            obtain rfl : ad364 = ad367 := (by injection e367)
            replace hx367_0 := bc HB.out hx367_0
            replace hx367_1 := bc HB.out hx367_1
            replace hx367_2 := bc HB.out hx367_2
            replace hx367_3 := bc HB.out hx367_3
            replace hx367_4 := bc HB.out hx367_4
            replace hx367_5 := bc HB.out hx367_5
            replace hx367_6 := bc HB.out hx367_6
            replace p367 := eq_true p367
            replace q367 := eq_true q367
            have p368 : 0 ≤ (x5_1 : Int) := of_decide_eq_true (by first | (with_reducible assumption) | assumption)
            have q368 : x5_1 < (l0.length : Int) := of_decide_eq_true (by first | (with_reducible assumption) | assumption)
            obtain ⟨ad368, e368, hx368_0, hx368_1, hx368_2, hx368_3, hx368_4, hx368_5, hx368_6⟩ := at_T44 HR0.out x5_1 p368 q368
            obtain rfl : ad364 = ad368 := (by injection e368)
            replace hx368_0 := bc HB.out hx368_0
            replace hx368_1 := bc HB.out hx368_1
            replace hx368_2 := bc HB.out hx368_2
            replace hx368_3 := bc HB.out hx368_3
            replace hx368_4 := bc HB.out hx368_4
            replace hx368_5 := bc HB.out hx368_5
            replace hx368_6 := bc HB.out hx368_6
            replace p368 := eq_true p368
            replace q368 := eq_true q368
            have p369 : 0 ≤ (x5_1 : Int) := of_decide_eq_true (by first | (with_reducible assumption) | assumption)
            have q369 : x5_1 < (l0.length : Int) := of_decide_eq_true (by first | (with_reducible assumption) | assumption)
            obtain ⟨ad369, e369, hx369_0, hx369_1, hx369_2, hx369_3, hx369_4, hx369_5, hx369_6⟩ := at_T44 HR0.out x5_1 p369 q369
            obtain rfl : ad364 = ad369 := (by injection e369)
            replace hx369_0 := bc HB.out hx369_0
            replace hx369_1 := bc HB.out hx369_1
            replace hx369_2 := bc HB.out hx369_2
            replace hx369_3 := bc HB.out hx369_3
            replace hx369_4 := bc HB.out hx369_4
            replace hx369_5 := bc HB.out hx369_5
            replace hx369_6 := bc HB.out hx369_6
            replace p369 := eq_true p369
            replace q369 := eq_true q369
            have p370 : 0 ≤ (x5_1 : Int) := of_decide_eq_true (by first | (with_reducible assumption) | assumption)
            have q370 : x5_1 < (l0.length : Int) := of_decide_eq_true (by first | (with_reducible assumption) | assumption)
            obtain ⟨ad370, e370, hx370_0, hx370_1, hx370_2, hx370_3, hx370_4, hx370_5, hx370_6⟩ := at_T44 HR0.out x5_1 p370 q370
            obtain rfl : ad364 = ad370 := (by injection e370)
            replace hx370_0 := bc HB.out hx370_0
            replace hx370_1 := bc HB.out hx370_1
            replace hx370_2 := bc HB.out hx370_2
            replace hx370_3 := bc HB.out hx370_3
            replace hx370_4 := bc HB.out hx370_4
            replace hx370_5 := bc HB.out hx370_5
            replace hx370_6 := bc HB.out hx370_6
            replace p370 := eq_true p370
            replace q370 := eq_true q370
            have p371 : 0 ≤ (x5_1 : Int) := of_decide_eq_true (by first | (with_reducible assumption) | assumption)
            have q371 : x5_1 < (l0.length : Int) := of_decide_eq_true (by first | (with_reducible assumption) | assumption)
            obtain ⟨ad371, e371, hx371_0, hx371_1, hx371_2, hx371_3, hx371_4, hx371_5, hx371_6⟩ := at_T44 HR0.out x5_1 p371 q371
            obtain rfl : ad364 = ad371 := (by injection e371)
            replace hx371_0 := bc HB.out hx371_0
            replace hx371_1 := bc HB.out hx371_1
            replace hx371_2 := bc HB.out hx371_2
            replace hx371_3 := bc HB.out hx371_3
            replace hx371_4 := bc HB.out hx371_4
            replace hx371_5 := bc HB.out hx371_5
            replace hx371_6 := bc HB.out hx371_6
            replace p371 := eq_true p371
            replace q371 := eq_true q371
            go_wp2
            go_roundg k1
            case measure => have := HK1.out; omega
            case rel => exact ⟨(wrap64 ((wrap64 ((wrap64 ((wrap64 ((wrap64 ((wrap64 ((wrap64 (x1_1 + 1)) + 1)) + 1)) + 1)) + 1)) + 1)) + 1)), (wrap64 (x5_1 + 1)), (by first | rfl | (simp; done) | (simp [*]; done)), (by first | rfl | (simp; done) | (simp [*]; done)), H', ⟨by have := HK1.out; omega⟩, ⟨bl HB.out⟩⟩
           ·
            rw [if_neg c15] at H
            have c15b0 : (((rd_T44 l0 x5_1).f4.f2) == (wrap64 ((wrap64 ((wrap64 ((wrap64 ((wrap64 ((wrap64 (x1_1 + 1)) + 1)) + 1)) + 1)) + 1)) + 1))) = false := beq_eq_false_iff_ne.mpr c15
            have c15b1 : (((rd_T44 l0 x5_1).f4.f2) != (wrap64 ((wrap64 ((wrap64 ((wrap64 ((wrap64 ((wrap64 (x1_1 + 1)) + 1)) + 1)) + 1)) + 1)) + 1))) = true := bne_iff_ne.mpr c15
            obtain rfl := Option.some.inj H
            have p366 : 0 ≤ (x5_1 : Int) := of_decide_eq_true (by first | (with_reducible assumption) | assumption)
            have q366 : x5_1 < (l0.length : Int) := of_decide_eq_true (by first | (with_reducible assumption) | assumption)
            obtain ⟨ad366, e366, hx366_0, hx366_1, hx366_2, hx366_3, hx366_4, hx366_5, hx366_6⟩ := at_T44 HR0.out x5_1 p366 q366
            obtain rfl : ad364 = ad366 := (by injection e366)
            replace hx366_0 := bc HB.out hx366_0
            replace hx366_1 := bc HB.out hx366_1
            replace hx366_2 := bc HB.out hx366_2
            replace hx366_3 := bc HB.out hx366_3
            replace hx366_4 := bc HB.out hx366_4
            replace hx366_5 := bc HB.out hx366_5
            replace hx366_6 := bc HB.out hx366_6
            replace p366 := eq_true p366
            replace q366 := eq_true q366
            have p367 : 0 ≤ (x5_1 : Int) := of_decide_eq_true (by first | (with_reducible assumption) | assumption)
            have q367 : x5_1 < (l0.length : Int) := of_decide_eq_true (by first | (with_reducible assumption) | assumption)
            obtain ⟨ad367, e367, hx367_0, hx367_1, hx367_2, hx367_3, hx367_4, hx367_5, hx367_6⟩ := at_T44 HR0.out x5_1 p367 q367
            obtain rfl : ad364 = ad367 := (by injection e367)
            replace hx367_0 := bc HB.out hx367_0
            replace hx367_1 := bc HB.out hx367_1
            replace hx367_2 := bc HB.out hx367_2
            replace hx367_3 := bc HB.out hx367_3
            replace hx367_4 := bc HB.out hx367_4
            replace hx367_5 := bc HB.out hx367_5
            replace hx367_6 := bc HB.out hx367_6
            replace p367 := eq_true p367
            replace q367 := eq_true q367
            have p368 : 0 ≤ (x5_1 : Int) := of_decide_eq_true (by first | (with_reducible assumption) | assumption)
            have q368 : x5_1 < (l0.length : Int) := of_decide_eq_true (by first | (with_reducible assumption) | assumption)
            obtain ⟨ad368, e368, hx368_0, hx368_1, hx368_2, hx368_3, hx368_4, hx368_5, hx368_6⟩ := at_T44 HR0.out x5_1 p368 q368
            obtain rfl : ad364 = ad368 := (by injection e368)
            replace hx368_0 := bc HB.out hx368_0
            replace hx368_1 := bc HB.out hx368_1
            replace hx368_2 := bc HB.out hx368_2
            replace hx368_3 := bc HB.out hx368_3
            replace hx368_4 := bc HB.out hx368_4
            replace hx368_5 := bc HB.out hx368_5
            replace hx368_6 := bc HB.out hx368_6
            replace p368 := eq_true p368
            replace q368 := eq_true q368
            have p369 : 0 ≤ (x5_1 : Int) := of_decide_eq_true (by first | (with_reducible assumption) | assumption)
            have q369 : x5_1 < (l0.length : Int) := of_decide_eq_true (by first | (with_reducible assumption) | assumption)
            obtain ⟨ad369, e369, hx369_0, hx369_1, hx369_2, hx369_3, hx369_4, hx369_5, hx369_6⟩ := at_T44 HR0.out x5_1 p369 q369
            obtain rfl : ad364 = ad369 := (by injection e369)
            replace hx369_0 := bc HB.out hx369_0
            replace hx369_1 := bc HB.out hx369_1
            replace hx369_2 := bc HB.out hx369_2
            replace hx369_3 := bc HB.out hx369_3
            replace hx369_4 := bc HB.out hx369_4
            replace hx369_5 := bc HB.out hx369_5
            replace hx369_6 := bc HB.out hx369_6
            replace p369 := eq_true p369
            replace q369 := eq_true q369
            have p370 : 0 ≤ (x5_1 : Int) := of_decide_eq_true (by first | (with_reducible assumption) | assumption)
            have q370 : x5_1 < (l0.length : Int) := of_decide_eq_true (by first | (with_reducible assumption) | assumption)
            obtain ⟨ad370, e370, hx370_0, hx370_1, hx370_2, hx370_3, hx370_4, hx370_5, hx370_6⟩ := at_T44 HR0.out x5_1 p370 q370
            obtain rfl : ad364 = ad370 := (by injection e370)
            replace hx370_0 := bc HB.out hx370_0
            replace hx370_1 := bc HB.out hx370_1
            replace hx370_2 := bc HB.out hx370_2
            replace hx370_3 := bc HB.out hx370_3
            replace hx370_4 := bc HB.out hx370_4
            replace hx370_5 := bc HB.out hx370_5
            replace hx370_6 := bc HB.out hx370_6
            replace p370 := eq_true p370
            replace q370 := eq_true q370
            have p371 : 0 ≤ (x5_1 : Int) := of_decide_eq_true (by first | (with_reducible assumption) | assumption)
            have q371 : x5_1 < (l0.length : Int) := of_decide_eq_true (by first | (with_reducible assumption) | assumption)
            obtain ⟨ad371, e371, hx371_0, hx371_1, hx371_2, hx371_3, hx371_4, hx371_5, hx371_6⟩ := at_T44 HR0.out x5_1 p371 q371
            obtain rfl : ad364 = ad371 := (by injection e371)
            replace hx371_0 := bc HB.out hx371_0
            replace hx371_1 := bc HB.out hx371_1
            replace hx371_2 := bc HB.out hx371_2
            replace hx371_3 := bc HB.out hx371_3
            replace hx371_4 := bc HB.out hx371_4
            replace hx371_5 := bc HB.out hx371_5
            replace hx371_6 := bc HB.out hx371_6
            replace p371 := eq_true p371
            replace q371 := eq_true q371
            go_wp2
            go_ret
            exact ⟨by first | rfl | (simp [errW_none, errW_some] <;> rfl) | (simp [*, errW_none, errW_some] <;> rfl), bl HB.out⟩
          ·
           rw [if_neg c14] at H
           have c14b0 : (((rd_T44 l0 x5_1).f4.f1) == (wrap64 ((wrap64 ((wrap64 ((wrap64 ((wrap64 (x1_1 + 1)) + 1)) + 1)) + 1)) + 1))) = false := beq_eq_false_iff_ne.mpr c14
           have c14b1 : (((rd_T44 l0 x5_1).f4.f1) != (wrap64 ((wrap64 ((wrap64 ((wrap64 ((wrap64 (x1_1 + 1)) + 1)) + 1)) + 1)) + 1))) = true := bne_iff_ne.mpr c14
           obtain rfl := Option.some.inj H
           have p366 : 0 ≤ (x5_1 : Int) := of_decide_eq_true (by first | (with_reducible assumption) | assumption)
           have q366 : x5_1 < (l0.length : Int) := of_decide_eq_true (by first | (with_reducible assumption) | assumption)
           obtain ⟨ad366, e366, hx366_0, hx366_1, hx366_2, hx366_3, hx366_4, hx366_5, hx366_6⟩ := at_T44 HR0.out x5_1 p366 q366
           obtain rfl : ad364 = ad366 := (by injection e366)
           replace hx366_0 := bc HB.out hx366_0
           replace hx366_1 := bc HB.out hx366_1
           replace hx366_2 := bc HB.out hx366_2
           replace hx366_3 := bc HB.out hx366_3
           replace hx366_4 := bc HB.out hx366_4
           replace hx366_5 := bc HB.out hx366_5
           replace hx366_6 := bc HB.out hx366_6
           replace p366 := eq_true p366
           replace q366 := eq_true q366
           have p367 : 0 ≤ (x5_1 : Int) := of_decide_eq_true (by first | (with_reducible assumption) | assumption)
           have q367 : x5_1 < (l0.length : Int) := of_decide_eq_true (by first | (with_reducible assumption) | assumption)
           obtain ⟨ad367, e367, hx367_0, hx367_1, hx367_2, hx367_3, hx367_4, hx367_5, hx367_6⟩ := at_T44 HR0.out x5_1 p367 q367
           obtain rfl : ad364 = ad367 := (by injection e367)
           replace hx367_0 := bc HB.out hx367_0
           replace hx367_1 := bc HB.out hx367_1
           replace hx367_2 := bc HB.out hx367_2
           replace hx367_3 := bc HB.out hx367_3
           replace hx367_4 := bc HB.out hx367_4
           replace hx367_5 := bc HB.out hx367_5
           replace hx367_6 := bc HB.out hx367_6
           replace p367 := eq_true p367
           replace q367 := eq_true q367
           have p368 : 0 ≤ (x5_1 : Int) := of_decide_eq_true (by first | (with_reducible assumption) | assumption)
           have q368 : x5_1 < (l0.length : Int) := of_decide_eq_true (by first | (with_reducible assumption) | assumption)
           obtain ⟨ad368, e368, hx368_0, hx368_1, hx368_2, hx368_3, hx368_4, hx368_5, hx368_6⟩ := at_T44 HR0.out x5_1 p368 q368
           obtain rfl : ad364 = ad368 := (by injection e368)
           replace hx368_0 := bc HB.out hx368_0
           replace hx368_1 := bc HB.out hx368_1
           replace hx368_2 := bc HB.out hx368_2
           replace hx368_3 := bc HB.out hx368_3
           replace hx368_4 := bc HB.out hx368_4
           replace hx368_5 := bc HB.out hx368_5
           replace hx368_6 := bc HB.out hx368_6
           replace p368 := eq_true p368
           replace q368 := eq_true q368
           have p369 : 0 ≤ (x5_1 : Int) := of_decide_eq_true (by first | (with_reducible assumption) | assumption)
           have q369 : x5_1 < (l0.length : Int) := of_decide_eq_true (by first | (with_reducible assumption) | assumption)
           obtain ⟨ad369, e369, hx369_0, hx369_1, hx369_2, hx369_3, hx369_4, hx369_5, hx369_6⟩ := at_T44 HR0.out x5_1 p369 q369
           obtain rfl : ad364 = ad369 := (by injection e369)
           replace hx369_0 := bc HB.out hx369_0
           replace hx369_1 := bc HB.out hx369_1
           replace hx369_2 := bc HB.out hx369_2
           replace hx369_3 := bc HB.out hx369_3
           replace hx369_4 := bc HB.out hx369_4
           replace hx369_5 := bc HB.out hx369_5
           replace hx369_6 := bc HB.out hx369_6
           replace p369 := eq_true p369
           replace q369 := eq_true q369
           have p370 : 0 ≤ (x5_1 : Int) := of_decide_eq_true (by first | (with_reducible assumption) | assumption)
           have q370 : x5_1 < (l0.length : Int) := of_decide_eq_true (by first | (with_reducible assumption) | assumption)
           obtain ⟨ad370, e370, hx370_0, hx370_1, hx370_2, hx370_3, hx370_4, hx370_5, hx370_6⟩ := at_T44 HR0.out x5_1 p370 q370
           obtain rfl : ad364 = ad370 := (by injection e370)
           replace hx370_0 := bc HB.out hx370_0
           replace hx370_1 := bc HB.out hx370_1
           replace hx370_2 := bc HB.out hx370_2
           replace hx370_3 := bc HB.out hx370_3
           replace hx370_4 := bc HB.out hx370_4
           replace hx370_5 := bc HB.out hx370_5
           replace hx370_6 := bc HB.out hx370_6
           replace p370 := eq_true p370
           replace q370 := eq_true q370
           go_wp2
           go_ret
           exact ⟨by first | rfl | (simp [errW_none, errW_some] <;> rfl) | (simp [*, errW_none, errW_some] <;> rfl), bl HB.out⟩
         ·
          rw [if_neg c13] at H
          have c13b0 : (((rd_T44 l0 x5_1).f4.f0) == (wrap64 ((wrap64 ((wrap64 ((wrap64 (x1_1 + 1)) + 1)) + 1)) + 1))) = false := beq_eq_false_iff_ne.mpr c13
          have c13b1 : (((rd_T44 l0 x5_1).f4.f0) != (wrap64 ((wrap64 ((wrap64 ((wrap64 (x1_1 + 1)) + 1)) + 1)) + 1))) = true := bne_iff_ne.mpr c13
          obtain rfl := Option.some.inj H
          have p366 : 0 ≤ (x5_1 : Int) := of_decide_eq_true (by first | (with_reducible assumption) | assumption)
          have q366 : x5_1 < (l0.length : Int) := of_decide_eq_true (by first | (with_reducible assumption) | assumption)
          obtain ⟨ad366, e366, hx366_0, hx366_1, hx366_2, hx366_3, hx366_4, hx366_5, hx366_6⟩ := at_T44 HR0.out x5_1 p366 q366
          obtain rfl : ad364 = ad366 := (by injection e366)
          replace hx366_0 := bc HB.out hx366_0
          replace hx366_1 := bc HB.out hx366_1
          replace hx366_2 := bc HB.out hx366_2
          replace hx366_3 := bc HB.out hx366_3
          replace hx366_4 := bc HB.out hx366_4
          replace hx366_5 := bc HB.out hx366_5
          replace hx366_6 := bc HB.out hx366_6
          replace p366 := eq_true p366
          replace q366 := eq_true q366
          have p367 : 0 ≤ (x5_1 : Int) := of_decide_eq_true (by first | (with_reducible assumption) | assumption)
          have q367 : x5_1 < (l0.length : Int) := of_decide_eq_true (by first | (with_reducible assumption) | assumption)
          obtain ⟨ad367, e367, hx367_0, hx367_1, hx367_2, hx367_3, hx367_4, hx367_5, hx367_6⟩ := at_T44 HR0.out x5_1 p367 q367
          obtain rfl : ad364 = ad367 := (by injection e367)
          replace hx367_0 := bc HB.out hx367_0
          replace hx367_1 := bc HB.out hx367_1
          replace hx367_2 := bc HB.out hx367_2
          replace hx367_3 := bc HB.out hx367_3
          replace hx367_4 := bc HB.out hx367_4
          replace hx367_5 := bc HB.out hx367_5
          replace hx367_6 := bc HB.out hx367_6
          replace p367 := eq_true p367
          replace q367 := eq_true q367
          have p368 : 0 ≤ (x5_1 : Int) := of_decide_eq_true (by first | (with_reducible assumption) | assumption)
          have q368 : x5_1 < (l0.length : Int) := of_decide_eq_true (by first | (with_reducible assumption) | assumption)
          obtain ⟨ad368, e368, hx368_0, hx368_1, hx368_2, hx368_3, hx368_4, hx368_5, hx368_6⟩ := at_T44 HR0.out x5_1 p368 q368
          obtain rfl : ad364 = ad368 := (by injection e368)
          replace hx368_0 := bc HB.out hx368_0
          replace hx368_1 := bc HB.out hx368_1
          replace hx368_2 := bc HB.out hx368_2
          replace hx368_3 := bc HB.out hx368_3
          replace hx368_4 := bc HB.out hx368_4
          replace hx368_5 := bc HB.out hx368_5
          replace hx368_6 := bc HB.out hx368_6
          replace p368 := eq_true p368
          replace q368 := eq_true q368
          have p369 : 0 ≤ (x5_1 : Int) := of_decide_eq_true (by first | (with_reducible assumption) | assumption)
          have q369 : x5_1 < (l0.length : Int) := of_decide_eq_true (by first | (with_reducible assumption) | assumption)
          obtain ⟨ad369, e369, hx369_0, hx369_1, hx369_2, hx369_3, hx369_4, hx369_5, hx369_6⟩ := at_T44 HR0.out x5_1 p369 q369
          obtain rfl : ad364 = ad369 := (by injection e369)
          replace hx369_0 := bc HB.out hx369_0
          replace hx369_1 := bc HB.out hx369_1
          replace hx369_2 := bc HB.out hx369_2
          replace hx369_3 := bc HB.out hx369_3
          replace hx369_4 := bc HB.out hx369_4
          replace hx369_5 := bc HB.out hx369_5
          replace hx369_6 := bc HB.out hx369_6
          replace p369 := eq_true p369
          replace q369 := eq_true q369
          go_wp2
          go_ret
          exact ⟨by first | rfl | (simp [errW_none, errW_some] <;> rfl) | (simp [*, errW_none, errW_some] <;> rfl), bl HB.out⟩
        ·
         rw [if_neg c12] at H
         have c12b0 : (((rd_T44 l0 x5_1).f3) == (wrap64 ((wrap64 ((wrap64 (x1_1 + 1)) + 1)) + 1))) = false := beq_eq_false_iff_ne.mpr c12
         have c12b1 : (((rd_T44 l0 x5_1).f3) != (wrap64 ((wrap64 ((wrap64 (x1_1 + 1)) + 1)) + 1))) = true := bne_iff_ne.mpr c12
         obtain rfl := Option.some.inj H
         have p366 : 0 ≤ (x5_1 : Int) := of_decide_eq_true (by first | (with_reducible assumption) | assumption)
         have q366 : x5_1 < (l0.length : Int) := of_decide_eq_true (by first | (with_reducible assumption) | assumption)
         obtain ⟨ad366, e366, hx366_0, hx366_1, hx366_2, hx366_3, hx366_4, hx366_5, hx366_6⟩ := at_T44 HR0.out x5_1 p366 q366
         obtain rfl : ad364 = ad366 := (by injection e366)
         replace hx366_0 := bc HB.out hx366_0
         replace hx366_1 := bc HB.out hx366_1
         replace hx366_2 := bc HB.out hx366_2
         replace hx366_3 := bc HB.out hx366_3
         replace hx366_4 := bc HB.out hx366_4
         replace hx366_5 := bc HB.out hx366_5
         replace hx366_6 := bc HB.out hx366_6
         replace p366 := eq_true p366
         replace q366 := eq_true q366
         have p367 : 0 ≤ (x5_1 : Int) := of_decide_eq_true (by first | (with_reducible assumption) | assumption)
         have q367 : x5_1 < (l0.length : Int) := of_decide_eq_true (by first | (with_reducible assumption) | assumption)
         obtain ⟨ad367, e367, hx367_0, hx367_1, hx367_2, hx367_3, hx367_4, hx367_5, hx367_6⟩ := at_T44 HR0.out x5_1 p367 q367
         obtain rfl : ad364 = ad367 := (by injection e367)
         replace hx367_0 := bc HB.out hx367_0
         replace hx367_1 := bc HB.out hx367_1
         replace hx367_2 := bc HB.out hx367_2
         replace hx367_3 := bc HB.out hx367_3
         replace hx367_4 := bc HB.out hx367_4
         replace hx367_5 := bc HB.out hx367_5
         replace hx367_6 := bc HB.out hx367_6
         replace p367 := eq_true p367
         replace q367 := eq_true q367
         have p368 : 0 ≤ (x5_1 : Int) := of_decide_eq_true (by first | (with_reducible assumption) | assumption)
         have q368 : x5_1 < (l0.length : Int) := of_decide_eq_true (by first | (with_reducible assumption) | assumption)
         obtain ⟨ad368, e368, hx368_0, hx368_1, hx368_2, hx368_3, hx368_4, hx368_5, hx368_6⟩ := at_T44 HR0.out x5_1 p368 q368
         obtain rfl : ad364 = ad368 := (by injection e368)
         replace hx368_0 := bc HB.out hx368_0
         replace hx368_1 := bc HB.out hx368_1
         replace hx368_2 := bc HB.out hx368_2
         replace hx368_3 := bc HB.out hx368_3
         replace hx368_4 := bc HB.out hx368_4
         replace hx368_5 := bc HB.out hx368_5
         replace hx368_6 := bc HB.out hx368_6
         replace p368 := eq_true p368
         replace q368 := eq_true q368
         go_wp2
         go_ret
         exact ⟨by first | rfl | (simp [errW_none, errW_some] <;> rfl) | (simp [*, errW_none, errW_some] <;> rfl), bl HB.out⟩
       ·
        rw [if_neg c11] at H
        have c11b0 : (((rd_T44 l0 x5_1).f2) == (wrap64 ((wrap64 (x1_1 + 1)) + 1))) = false := beq_eq_false_iff_ne.mpr c11
        have c11b1 : (((rd_T44 l0 x5_1).f2) != (wrap64 ((wrap64 (x1_1 + 1)) + 1))) = true := bne_iff_ne.mpr c11
        obtain rfl := Option.some.inj H
        have p366 : 0 ≤ (x5_1 : Int) := of_decide_eq_true (by first | (with_reducible assumption) | assumption)
        have q366 : x5_1 < (l0.length : Int) := of_decide_eq_true (by first | (with_reducible assumption) | assumption)
        obtain ⟨ad366, e366, hx366_0, hx366_1, hx366_2, hx366_3, hx366_4, hx366_5, hx366_6⟩ := at_T44 HR0.out x5_1 p366 q366
        obtain rfl : ad364 = ad366 := (by injection e366)
        replace hx366_0 := bc HB.out hx366_0
        replace hx366_1 := bc HB.out hx366_1
        replace hx366_2 := bc HB.out hx366_2
        replace hx366_3 := bc HB.out hx366_3
        replace hx366_4 := bc HB.out hx366_4
        replace hx366_5 := bc HB.out hx366_5
        replace hx366_6 := bc HB.out hx366_6
        replace p366 := eq_true p366
        replace q366 := eq_true q366
        have p367 : 0 ≤ (x5_1 : Int) := of_decide_eq_true (by first | (with_reducible assumption) | assumption)
        have q367 : x5_1 < (l0.length : Int) := of_decide_eq_true (by first | (with_reducible assumption) | assumption)
        obtain ⟨ad367, e367, hx367_0, hx367_1, hx367_2, hx367_3, hx367_4, hx367_5, hx367_6⟩ := at_T44 HR0.out x5_1 p367 q367
        obtain rfl : ad364 = ad367 := (by injection e367)
        replace hx367_0 := bc HB.out hx367_0
        replace hx367_1 := bc HB.out hx367_1
        replace hx367_2 := bc HB.out hx367_2
        replace hx367_3 := bc HB.out hx367_3
        replace hx367_4 := bc HB.out hx367_4
        replace hx367_5 := bc HB.out hx367_5
        replace hx367_6 := bc HB.out hx367_6
        replace p367 := eq_true p367
        replace q367 := eq_true q367
        go_wp2
        go_ret
        exact ⟨by first | rfl | (simp [errW_none, errW_some] <;> rfl) | (simp [*, errW_none, errW_some] <;> rfl), bl HB.out⟩
      ·
       rw [if_neg c10] at H
       have c10b0 : (((rd_T44 l0 x5_1).f1) == (wrap64 (x1_1 + 1))) = false := beq_eq_false_iff_ne.mpr c10
       have c10b1 : (((rd_T44 l0 x5_1).f1) != (wrap64 (x1_1 + 1))) = true := bne_iff_ne.mpr c10
       obtain rfl := Option.some.inj H
       have p366 : 0 ≤ (x5_1 : Int) := of_decide_eq_true (by first | (with_reducible assumption) | assumption)
       have q366 : x5_1 < (l0.length : Int) := of_decide_eq_true (by first | (with_reducible assumption) | assumption)
       obtain ⟨ad366, e366, hx366_0, hx366_1, hx366_2, hx366_3, hx366_4, hx366_5, hx366_6⟩ := at_T44 HR0.out x5_1 p366 q366
       obtain rfl : ad364 = ad366 := (by injection e366)
       replace hx366_0 := bc HB.out hx366_0
       replace hx366_1 := bc HB.out hx366_1
       replace hx366_2 := bc HB.out hx366_2
       replace hx366_3 := bc HB.out hx366_3
       replace hx366_4 := bc HB.out hx366_4
       replace hx366_5 := bc HB.out hx366_5
       replace hx366_6 := bc HB.out hx366_6
       replace p366 := eq_true p366
       replace q366 := eq_true q366
       go_wp2
       go_ret
       exact ⟨by first | rfl | (simp [errW_none, errW_some] <;> rfl) | (simp [*, errW_none, errW_some] <;> rfl), bl HB.out⟩
     ·
      rw [if_neg c9] at H
      have c9b0 : (((rd_T44 l0 x5_1).f0).toList == t365.toList) = false := beq_eq_false_iff_ne.mpr c9
      have c9b1 : (((rd_T44 l0 x5_1).f0).toList != t365.toList) = true := bne_iff_ne.mpr c9
      (first | rw [c9b0] | (simp only [i64_w, i32_w]; rw [c9b0]) | skip)
      obtain rfl := Option.some.inj H
      go_wp2
      go_ret
      exact ⟨by first | rfl | (simp [errW_none, errW_some] <;> rfl) | (simp [*, errW_none, errW_some] <;> rfl), bl HB.out⟩
    ·
     rw [if_neg c4] at H
     exact absurd H (by simp)
   ·
    rw [if_neg c3] at H
    have c3b0 : decide (x5_1 < (l0.length : Int)) = false := decide_eq_false c3
    clear c3
    obtain rfl := Option.some.inj H
    go_wp2
    go_ret
    exact ⟨by first | rfl | (simp [errW_none, errW_some] <;> rfl) | (simp [*, errW_none, errW_some] <;> rfl), bl HB.out⟩

end Go.Proofs.Ytdimdlifjdbgnaa.PFnExactDoWork
