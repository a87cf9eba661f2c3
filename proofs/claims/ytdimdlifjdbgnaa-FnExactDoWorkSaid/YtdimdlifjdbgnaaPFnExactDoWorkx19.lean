import Derived.Test.YtdimdlifjdbgnaaPFnExactDoWorkx18
namespace Go.Proofs.Ytdimdlifjdbgnaa.PFnExactDoWork
open Go.RowKit Go.Proofs.YtdimdlifjdbgnaaW.PrintWords Go.Proofs.YtdimdlifjdbgnaaW.PrintLast Go.Proofs.YtdimdlifjdbgnaaW.PrintMore Go.Proofs.Ytdimdlifjdbgnaa.Sq
attribute [local go_sem] max2_int min2_int max_two min_two max_three min_three max_four min_four
set_option linter.unusedVariables false
set_option linter.unusedSimpArgs false

/-! ### laws_heldCarryS: function 61 -/
def laws_heldCarryS.l0 : Nat → List (S84) → Int → Int → Option (Int)
 | 0, _, _, _ => none
 | k + 1, x0, x1, x5 => if x5 < (x0.length : Int) then (if 0 ≤ x5 then ((laws_markText.f k x1).bind fun t373 => (if ((rd_T84 x0 x5).f0).toList = t373.toList then (if ((rd_T84 x0 x5).f1) = (wrap64 (x1 + 1)) then (if ((rd_T84 x0 x5).f2) = (wrap64 ((wrap64 (x1 + 1)) + 1)) then (laws_heldCarryS.l0 k x0 (wrap64 ((wrap64 ((wrap64 (x1 + 1)) + 1)) + 1)) (wrap64 (x5 + 1))) else (some (-1))) else (some (-1))) else (some (-1)))) else (none)) else (some x1)
def laws_heldCarryS.f (k : Nat) (l0 : List (S84)) (a1 : Int) : Option (Int) := laws_heldCarryS.l0 k l0 a1 0
def laws_heldCarryS.T4 : Bool × List (List Nat × List Nat) := (true, [([], []), ([], []), ([0, 1], [0, 1]), ([2], [2]), ([3], [3]), ([], []), ([5], [5]), ([4, 6], [4, 6])])
def laws_heldCarryS.B4 : List Nat := [0, 0, 3, 7, 15, 0, 32, 127]
theorem laws_heldCarryS.tab4 : rtab .any (opsOf Try.f61 4) = laws_heldCarryS.T4 := by kernel_rfl
theorem laws_heldCarryS.bits4 : waitsOk laws_heldCarryS.T4.2 laws_heldCarryS.B4 = true := by kernel_rfl
set_option maxHeartbeats 8000000 in
set_option maxRecDepth 100000 in
theorem laws_heldCarryS.calls (k : Nat) (A0 : Option Addr) (c0 : Nat) (l0 : List (S84)) (a1 : Int) (r : Int) (w : World) (hr0 : Kd.C k84 w A0 l0.length l0) (hc0 : l0.length ≤ c0) (h : laws_heldCarryS.f k l0 a1 = some r) :
  Calls Try.prog 61 #[.slice A0 l0.length c0, .int .i64 a1] w fun e w' => e = .returned (.int .i64 r) ∧ Below w.heap.size w w' := by
 have HR0 := Aside0.mk hr0
 have HC0 := Aside0.mk hc0
 clear hr0 hc0
 have HB := Aside0.mk (Below.refl w.heap.size w)
 have H : (laws_heldCarryS.l0 k l0 a1 0) = some r := h
 clear h
 have H' := Aside0.mk H
 clear H
 go_enter Try.func61, Try.ntmps61
 go_wp2
 go_loopg [1, 5] k (fun kq v1 v5 w' => ∃ (x1_1 : Int) (x5_1 : Int), v1 = .int .i64 x1_1 ∧ v5 = .int .i64 x5_1 ∧ Aside0 (laws_heldCarryS.l0 kq l0 x1_1 x5_1 = some r) ∧ Aside0 (kq ≤ k) ∧ Aside0 (Below w.heap.size w w'))
 case atStart => exact ⟨(a1), (0), (by first | rfl | (simp; done) | (simp [*]; done)), (by first | rfl | (simp; done) | (simp [*]; done)), H', ⟨Nat.le_refl _⟩, ⟨bl HB.out⟩⟩
 case round =>
  clear H'
  try clear p2
  obtain ⟨x1_1, x5_1, rfl, rfl, HA, HK1, HB⟩ := hrel
  cases gk with
  | zero => exact absurd HA.out (by simp [laws_heldCarryS.l0])
  | succ k1 =>
   have H := HA.out
   clear HA
   simp only [laws_heldCarryS.l0] at H
   by_cases c3 : x5_1 < (l0.length : Int)
   ·
    rw [if_pos c3] at H
    have c3b0 : decide (x5_1 < (l0.length : Int)) = true := decide_eq_true c3
    clear c3
    by_cases c4 : 0 ≤ x5_1
    ·
     rw [if_pos c4] at H
     have c4b0 : decide (0 ≤ x5_1) = true := decide_eq_true c4
     clear c4
     replace H := Option.bind_eq_some_iff.mp H
     obtain ⟨t373, A50, H⟩ := H
     replace H : (if ((rd_T84 l0 x5_1).f0).toList = t373.toList then (if ((rd_T84 l0 x5_1).f1) = (wrap64 (x1_1 + 1)) then (if ((rd_T84 l0 x5_1).f2) = (wrap64 ((wrap64 (x1_1 + 1)) + 1)) then (laws_heldCarryS.l0 k1 l0 (wrap64 ((wrap64 ((wrap64 (x1_1 + 1)) + 1)) + 1)) (wrap64 (x5_1 + 1))) else (some (-1))) else (some (-1))) else (some (-1))) = some r := H
     have A5 := Aside0.mk A50
     clear A50
     have HC6 := Aside0.mk H
     clear H
     try go_wp2
     have n0_ := Aside0.mk (below_drew1 HB.out)
     clear HB
     have HB := n0_
     clear n0_
     have p372 : 0 ≤ (x5_1 : Int) := of_decide_eq_true (by first | (with_reducible assumption) | assumption)
     have q372 : x5_1 < (l0.length : Int) := of_decide_eq_true (by first | (with_reducible assumption) | assumption)
     obtain ⟨ad372, e372, hx372_0, hx372_1, hx372_2⟩ := at_T84 HR0.out x5_1 p372 q372
     have hw372_2 := hx372_2
     have hw372_1 := hx372_1
     have hw372_0 := hx372_0
     cases e372
     replace hx372_0 := bc HB.out hx372_0
     replace hx372_1 := bc HB.out hx372_1
     replace hx372_2 := bc HB.out hx372_2
     replace p372 := eq_true p372
     replace q372 := eq_true q372
     refine start_ (n := 8) (S := fun w' => w'.cell? (ad372.add ((x5_1).toNat * 3)) = some (.string ((rd_T84 l0 x5_1).f0)) ∧ w'.cell? ⟨(ad372.add ((x5_1).toNat * 3)).block, (ad372.add ((x5_1).toNat * 3)).off + 1, none⟩ = some (.int .i64 ((rd_T84 l0 x5_1).f1)) ∧ w'.cell? ⟨(ad372.add ((x5_1).toNat * 3)).block, (ad372.add ((x5_1).toNat * 3)).off + 2, none⟩ = some (.int .i64 ((rd_T84 l0 x5_1).f2))) (ds := []) m0_8 (by kernel_rfl) rfl rfl ⟨((HB.out.cell (World.block_lt_of_cell? w _ hw372_0)).trans hw372_0), ((HB.out.cell (World.block_lt_of_cell? w _ hw372_1)).trans hw372_1), ((HB.out.cell (World.block_lt_of_cell? w _ hw372_2)).trans hw372_2)⟩ (fun hHeld => ?_); refine with_tabW laws_heldCarryS.tab4 laws_heldCarryS.bits4 (fun HT_ HW_ => ?_)
     generalize wr.drew = w7 at HB hx372_0 hx372_1 hx372_2 hHeld ⊢
     refine pq_ HT_.out 0 12 m1_8 ?_
     refine pq_ HT_.out 1 13 m2_8 ?_
     refine pq_ HT_.out 2 14 m3_8 ?_
     refine pq_ HT_.out 3 15 m4_8 ?_
     refine pq_ HT_.out 5 17 n82 ?_
     refine tk_ HT_.out HW_.out 4 16 m6_8 rfl rfl (by kernel_rfl) (by rfl) (by rintro w' ⟨s0, s1, s2⟩; go_simp; with_reducible rfl) hHeld (by simp only [sp_]; rfl) (fun _ _ _ h => h) ?_
     refine one_ (i := 6) (N := some 18) m7_8 rfl rfl (one_of HT_.out (by kernel_rfl)) (by decide) (fun K hK => ?_)
     refine goes_ Try.func103 (by kernel_rfl) rfl #[.int .i64 x1_1] (by rfl) rfl rfl (by (try simp only [am_]); first | done | rfl) ?_
     with_reducible refine (laws_markText.calls k1 x1_1 t373 _ A5.out).mono ?_
     rintro e w8 ⟨rfl, hb⟩
     refine ⟨_, rfl, ?_⟩
     have n0_ := Aside0.mk (below_step (bl HB.out) hb)
     clear HB
     have HB := n0_
     clear n0_
     (try clear hb)
     (try clear hb2)
     (try clear hk)
     (try clear hi)
     refine hK.out _ _ ⟨((HB.out.cell (World.block_lt_of_cell? w _ hw372_0)).trans hw372_0), ((HB.out.cell (World.block_lt_of_cell? w _ hw372_1)).trans hw372_1), ((HB.out.cell (World.block_lt_of_cell? w _ hw372_2)).trans hw372_2)⟩ (fun hHeld => ?_)
     clear hK K
     refine norm_ (a' := ?_) ?_ ?_
     rotate_left
     ·
      show Act.put _ (some 18) _ = _
      simp only [sp_]
      rfl
     refine pq_ HT_.out 7 19 m8_8 ?_
     refine done_ (done_of HT_.out (by kernel_rfl)) ?_
     go_upto_if 19 with (fail)
     have H := HC6.out
     clear HC6
     by_cases c9 : ((rd_T84 l0 x5_1).f0).toList = t373.toList
     ·
      rw [if_pos c9] at H
      have c9b0 : (((rd_T84 l0 x5_1).f0).toList == t373.toList) = true := beq_iff_eq.mpr c9
      have c9b1 : (((rd_T84 l0 x5_1).f0).toList != t373.toList) = false := bne_eq_false_iff_eq.mpr c9
      clear c9
      (first | rw [c9b0] | (simp only [i64_w, i32_w]; rw [c9b0]) | skip)
      by_cases c10 : ((rd_T84 l0 x5_1).f1) = (wrap64 (x1_1 + 1))
      ·
       rw [if_pos c10] at H
       have c10b0 : (((rd_T84 l0 x5_1).f1) == (wrap64 (x1_1 + 1))) = true := beq_iff_eq.mpr c10
       have c10b1 : (((rd_T84 l0 x5_1).f1) != (wrap64 (x1_1 + 1))) = false := bne_eq_false_iff_eq.mpr c10
       clear c10
       by_cases c11 : ((rd_T84 l0 x5_1).f2) = (wrap64 ((wrap64 (x1_1 + 1)) + 1))
       ·
        rw [if_pos c11] at H
        have c11b0 : (((rd_T84 l0 x5_1).f2) == (wrap64 ((wrap64 (x1_1 + 1)) + 1))) = true := beq_iff_eq.mpr c11
        have c11b1 : (((rd_T84 l0 x5_1).f2) != (wrap64 ((wrap64 (x1_1 + 1)) + 1))) = false := bne_eq_false_iff_eq.mpr c11
        clear c11
        have H' := Aside0.mk H
        clear H
        have p374 : 0 ≤ (x5_1 : Int) := of_decide_eq_true (by first | (with_reducible assumption) | assumption)
        have q374 : x5_1 < (l0.length : Int) := of_decide_eq_true (by first | (with_reducible assumption) | assumption)
        obtain ⟨ad374, e374, hx374_0, hx374_1, hx374_2⟩ := at_T84 HR0.out x5_1 p374 q374
        obtain rfl : ad372 = ad374 := (by injection e374)
        replace hx374_0 := bc HB.out hx374_0
        replace hx374_1 := bc HB.out hx374_1
        replace hx374_2 := bc HB.out hx374_2
        replace p374 := eq_true p374
        replace q374 := eq_true q374
        have p375 : 0 ≤ (x5_1 : Int) := of_decide_eq_true (by first | (with_reducible assumption) | assumption)
        have q375 : x5_1 < (l0.length : Int) := of_decide_eq_true (by first | (with_reducible assumption) | assumption)
        obtain ⟨ad375, e375, hx375_0, hx375_1, hx375_2⟩ := at_T84 HR0.out x5_1 p375 q375
        obtain rfl : ad372 = ad375 := (by injection e375)
        replace hx375_0 := bc HB.out hx375_0
        replace hx375_1 := bc HB.out hx375_1
        replace hx375_2 := bc HB.out hx375_2
        replace p375 := eq_true p375
        replace q375 := eq_true q375
        go_wp2
        go_roundg k1
        case measure => have := HK1.out; omega
        case rel => exact ⟨(wrap64 ((wrap64 ((wrap64 (x1_1 + 1)) + 1)) + 1)), (wrap64 (x5_1 + 1)), (by first | rfl | (simp; done) | (simp [*]; done)), (by first | rfl | (simp; done) | (simp [*]; done)), H', ⟨by have := HK1.out; omega⟩, ⟨bl HB.out⟩⟩
       ·
        rw [if_neg c11] at H
        have c11b0 : (((rd_T84 l0 x5_1).f2) == (wrap64 ((wrap64 (x1_1 + 1)) + 1))) = false := beq_eq_false_iff_ne.mpr c11
        have c11b1 : (((rd_T84 l0 x5_1).f2) != (wrap64 ((wrap64 (x1_1 + 1)) + 1))) = true := bne_iff_ne.mpr c11
        obtain rfl := Option.some.inj H
        have p374 : 0 ≤ (x5_1 : Int) := of_decide_eq_true (by first | (with_reducible assumption) | assumption)
        have q374 : x5_1 < (l0.length : Int) := of_decide_eq_true (by first | (with_reducible assumption) | assumption)
        obtain ⟨ad374, e374, hx374_0, hx374_1, hx374_2⟩ := at_T84 HR0.out x5_1 p374 q374
        obtain rfl : ad372 = ad374 := (by injection e374)
        replace hx374_0 := bc HB.out hx374_0
        replace hx374_1 := bc HB.out hx374_1
        replace hx374_2 := bc HB.out hx374_2
        replace p374 := eq_true p374
        replace q374 := eq_true q374
        have p375 : 0 ≤ (x5_1 : Int) := of_decide_eq_true (by first | (with_reducible assumption) | assumption)
        have q375 : x5_1 < (l0.length : Int) := of_decide_eq_true (by first | (with_reducible assumption) | assumption)
        obtain ⟨ad375, e375, hx375_0, hx375_1, hx375_2⟩ := at_T84 HR0.out x5_1 p375 q375
        obtain rfl : ad372 = ad375 := (by injection e375)
        replace hx375_0 := bc HB.out hx375_0
        replace hx375_1 := bc HB.out hx375_1
        replace hx375_2 := bc HB.out hx375_2
        replace p375 := eq_true p375
        replace q375 := eq_true q375
        go_wp2
        go_ret
        exact ⟨by first | rfl | (simp [errW_none, errW_some] <;> rfl) | (simp [*, errW_none, errW_some] <;> rfl), bl HB.out⟩
      ·
       rw [if_neg c10] at H
       have c10b0 : (((rd_T84 l0 x5_1).f1) == (wrap64 (x1_1 + 1))) = false := beq_eq_false_iff_ne.mpr c10
       have c10b1 : (((rd_T84 l0 x5_1).f1) != (wrap64 (x1_1 + 1))) = true := bne_iff_ne.mpr c10
       obtain rfl := Option.some.inj H
       have p374 : 0 ≤ (x5_1 : Int) := of_decide_eq_true (by first | (with_reducible assumption) | assumption)
       have q374 : x5_1 < (l0.length : Int) := of_decide_eq_true (by first | (with_reducible assumption) | assumption)
       obtain ⟨ad374, e374, hx374_0, hx374_1, hx374_2⟩ := at_T84 HR0.out x5_1 p374 q374
       obtain rfl : ad372 = ad374 := (by injection e374)
       replace hx374_0 := bc HB.out hx374_0
       replace hx374_1 := bc HB.out hx374_1
       replace hx374_2 := bc HB.out hx374_2
       replace p374 := eq_true p374
       replace q374 := eq_true q374
       go_wp2
       go_ret
       exact ⟨by first | rfl | (simp [errW_none, errW_some] <;> rfl) | (simp [*, errW_none, errW_some] <;> rfl), bl HB.out⟩
     ·
      rw [if_neg c9] at H
      have c9b0 : (((rd_T84 l0 x5_1).f0).toList == t373.toList) = false := beq_eq_false_iff_ne.mpr c9
      have c9b1 : (((rd_T84 l0 x5_1).f0).toList != t373.toList) = true := bne_iff_ne.mpr c9
      (first | rw [c9b0] | (simp only [i64_w, i32_w]; rw [c9b0]) | skip)
      obtain rfl := Option.some.inj H
      go_wp2
      go_ret
      exact ⟨by first | rfl | (simp [errW_none, errW_some] <;> rfl) | (simp [*, errW_none, errW_some] <;> rfl), bl HB.out⟩
    ·
     rw [if_neg c4] at H
     exact absurd H (by simp)
   ·
    rw [if_neg c3] at H
    have c3b0 : decide (x5_1 < (l0.length : Int)) = false := decide_eq_false c3
    clear c3
    obtain rfl := Option.some.inj H
    go_wp2
    go_ret
    exact ⟨by first | rfl | (simp [errW_none, errW_some] <;> rfl) | (simp [*, errW_none, errW_some] <;> rfl), bl HB.out⟩

/-! ### laws_heldDefectS: function 62 -/
def laws_heldDefectS.l0 : Nat → List (S57) → Int → Int → Option (Int)
 | 0, _, _, _ => none
 | k + 1, x0, x1, x5 => if x5 < (x0.length : Int) then (if 0 ≤ x5 then ((laws_markText.f k x1).bind fun t377 => (if ((rd_T57 x0 x5).f0).toList = t377.toList then (if ((rd_T57 x0 x5).f1) = (wrap64 (x1 + 1)) then (if ((rd_T57 x0 x5).f2) = (wrap64 ((wrap64 (x1 + 1)) + 1)) then (laws_heldDefectS.l0 k x0 (wrap64 ((wrap64 ((wrap64 (x1 + 1)) + 1)) + 1)) (wrap64 (x5 + 1))) else (some (-1))) else (some (-1))) else (some (-1)))) else (none)) else (some x1)
def laws_heldDefectS.f (k : Nat) (l0 : List (S57)) (a1 : Int) : Option (Int) := laws_heldDefectS.l0 k l0 a1 0
def laws_heldDefectS.T4 : Bool × List (List Nat × List Nat) := (true, [([], []), ([], []), ([0, 1], [0, 1]), ([2], [2]), ([3], [3]), ([], []), ([5], [5]), ([4, 6], [4, 6])])
def laws_heldDefectS.B4 : List Nat := [0, 0, 3, 7, 15, 0, 32, 127]
theorem laws_heldDefectS.tab4 : rtab .any (opsOf Try.f62 4) = laws_heldDefectS.T4 := by kernel_rfl
theorem laws_heldDefectS.bits4 : waitsOk laws_heldDefectS.T4.2 laws_heldDefectS.B4 = true := by kernel_rfl
set_option maxHeartbeats 8000000 in
set_option maxRecDepth 100000 in
theorem laws_heldDefectS.calls (k : Nat) (A0 : Option Addr) (c0 : Nat) (l0 : List (S57)) (a1 : Int) (r : Int) (w : World) (hr0 : Kd.C k57 w A0 l0.length l0) (hc0 : l0.length ≤ c0) (h : laws_heldDefectS.f k l0 a1 = some r) :
  Calls Try.prog 62 #[.slice A0 l0.length c0, .int .i64 a1] w fun e w' => e = .returned (.int .i64 r) ∧ Below w.heap.size w w' := by
 have HR0 := Aside0.mk hr0
 have HC0 := Aside0.mk hc0
 clear hr0 hc0
 have HB := Aside0.mk (Below.refl w.heap.size w)
 have H : (laws_heldDefectS.l0 k l0 a1 0) = some r := h
 clear h
 have H' := Aside0.mk H
 clear H
 go_enter Try.func62, Try.ntmps62
 go_wp2
 go_loopg [1, 5] k (fun kq v1 v5 w' => ∃ (x1_1 : Int) (x5_1 : Int), v1 = .int .i64 x1_1 ∧ v5 = .int .i64 x5_1 ∧ Aside0 (laws_heldDefectS.l0 kq l0 x1_1 x5_1 = some r) ∧ Aside0 (kq ≤ k) ∧ Aside0 (Below w.heap.size w w'))
 case atStart => exact ⟨(a1), (0), (by first | rfl | (simp; done) | (simp [*]; done)), (by first | rfl | (simp; done) | (simp [*]; done)), H', ⟨Nat.le_refl _⟩, ⟨bl HB.out⟩⟩
 case round =>
  clear H'
  try clear p2
  obtain ⟨x1_1, x5_1, rfl, rfl, HA, HK1, HB⟩ := hrel
  cases gk with
  | zero => exact absurd HA.out (by simp [laws_heldDefectS.l0])
  | succ k1 =>
   have H := HA.out
   clear HA
   simp only [laws_heldDefectS.l0] at H
   by_cases c3 : x5_1 < (l0.length : Int)
   ·
    rw [if_pos c3] at H
    have c3b0 : decide (x5_1 < (l0.length : Int)) = true := decide_eq_true c3
    clear c3
    by_cases c4 : 0 ≤ x5_1
    ·
     rw [if_pos c4] at H
     have c4b0 : decide (0 ≤ x5_1) = true := decide_eq_true c4
     clear c4
     replace H := Option.bind_eq_some_iff.mp H
     obtain ⟨t377, A50, H⟩ := H
     replace H : (if ((rd_T57 l0 x5_1).f0).toList = t377.toList then (if ((rd_T57 l0 x5_1).f1) = (wrap64 (x1_1 + 1)) then (if ((rd_T57 l0 x5_1).f2) = (wrap64 ((wrap64 (x1_1 + 1)) + 1)) then (laws_heldDefectS.l0 k1 l0 (wrap64 ((wrap64 ((wrap64 (x1_1 + 1)) + 1)) + 1)) (wrap64 (x5_1 + 1))) else (some (-1))) else (some (-1))) else (some (-1))) = some r := H
     have A5 := Aside0.mk A50
     clear A50
     have HC6 := Aside0.mk H
     clear H
     try go_wp2
     have n0_ := Aside0.mk (below_drew1 HB.out)
     clear HB
     have HB := n0_
     clear n0_
     have p376 : 0 ≤ (x5_1 : Int) := of_decide_eq_true (by first | (with_reducible assumption) | assumption)
     have q376 : x5_1 < (l0.length : Int) := of_decide_eq_true (by first | (with_reducible assumption) | assumption)
     obtain ⟨ad376, e376, hx376_0, hx376_1, hx376_2⟩ := at_T57 HR0.out x5_1 p376 q376
     have hw376_2 := hx376_2
     have hw376_1 := hx376_1
     have hw376_0 := hx376_0
     cases e376
     replace hx376_0 := bc HB.out hx376_0
     replace hx376_1 := bc HB.out hx376_1
     replace hx376_2 := bc HB.out hx376_2
     replace p376 := eq_true p376
     replace q376 := eq_true q376
     refine start_ (n := 8) (S := fun w' => w'.cell? (ad376.add ((x5_1).toNat * 3)) = some (.string ((rd_T57 l0 x5_1).f0)) ∧ w'.cell? ⟨(ad376.add ((x5_1).toNat * 3)).block, (ad376.add ((x5_1).toNat * 3)).off + 1, none⟩ = some (.int .i64 ((rd_T57 l0 x5_1).f1)) ∧ w'.cell? ⟨(ad376.add ((x5_1).toNat * 3)).block, (ad376.add ((x5_1).toNat * 3)).off + 2, none⟩ = some (.int .i64 ((rd_T57 l0 x5_1).f2))) (ds := []) m0_8 (by kernel_rfl) rfl rfl ⟨((HB.out.cell (World.block_lt_of_cell? w _ hw376_0)).trans hw376_0), ((HB.out.cell (World.block_lt_of_cell? w _ hw376_1)).trans hw376_1), ((HB.out.cell (World.block_lt_of_cell? w _ hw376_2)).trans hw376_2)⟩ (fun hHeld => ?_); refine with_tabW laws_heldDefectS.tab4 laws_heldDefectS.bits4 (fun HT_ HW_ => ?_)
     generalize wr.drew = w7 at HB hx376_0 hx376_1 hx376_2 hHeld ⊢
     refine pq_ HT_.out 0 12 m1_8 ?_
     refine pq_ HT_.out 1 13 m2_8 ?_
     refine pq_ HT_.out 2 14 m3_8 ?_
     refine pq_ HT_.out 3 15 m4_8 ?_
     refine pq_ HT_.out 5 17 n82 ?_
     refine tk_ HT_.out HW_.out 4 16 m6_8 rfl rfl (by kernel_rfl) (by rfl) (by rintro w' ⟨s0, s1, s2⟩; go_simp; with_reducible rfl) hHeld (by simp only [sp_]; rfl) (fun _ _ _ h => h) ?_
     refine one_ (i := 6) (N := some 18) m7_8 rfl rfl (one_of HT_.out (by kernel_rfl)) (by decide) (fun K hK => ?_)
     refine goes_ Try.func103 (by kernel_rfl) rfl #[.int .i64 x1_1] (by rfl) rfl rfl (by (try simp only [am_]); first | done | rfl) ?_
     with_reducible refine (laws_markText.calls k1 x1_1 t377 _ A5.out).mono ?_
     rintro e w8 ⟨rfl, hb⟩
     refine ⟨_, rfl, ?_⟩
     have n0_ := Aside0.mk (below_step (bl HB.out) hb)
     clear HB
     have HB := n0_
     clear n0_
     (try clear hb)
     (try clear hb2)
     (try clear hk)
     (try clear hi)
     refine hK.out _ _ ⟨((HB.out.cell (World.block_lt_of_cell? w _ hw376_0)).trans hw376_0), ((HB.out.cell (World.block_lt_of_cell? w _ hw376_1)).trans hw376_1), ((HB.out.cell (World.block_lt_of_cell? w _ hw376_2)).trans hw376_2)⟩ (fun hHeld => ?_)
     clear hK K
     refine norm_ (a' := ?_) ?_ ?_
     rotate_left
     ·
      show Act.put _ (some 18) _ = _
      simp only [sp_]
      rfl
     refine pq_ HT_.out 7 19 m8_8 ?_
     refine done_ (done_of HT_.out (by kernel_rfl)) ?_
     go_upto_if 19 with (fail)
     have H := HC6.out
     clear HC6
     by_cases c9 : ((rd_T57 l0 x5_1).f0).toList = t377.toList
     ·
      rw [if_pos c9] at H
      have c9b0 : (((rd_T57 l0 x5_1).f0).toList == t377.toList) = true := beq_iff_eq.mpr c9
      have c9b1 : (((rd_T57 l0 x5_1).f0).toList != t377.toList) = false := bne_eq_false_iff_eq.mpr c9
      clear c9
      (first | rw [c9b0] | (simp only [i64_w, i32_w]; rw [c9b0]) | skip)
      by_cases c10 : ((rd_T57 l0 x5_1).f1) = (wrap64 (x1_1 + 1))
      ·
       rw [if_pos c10] at H
       have c10b0 : (((rd_T57 l0 x5_1).f1) == (wrap64 (x1_1 + 1))) = true := beq_iff_eq.mpr c10
       have c10b1 : (((rd_T57 l0 x5_1).f1) != (wrap64 (x1_1 + 1))) = false := bne_eq_false_iff_eq.mpr c10
       clear c10
       by_cases c11 : ((rd_T57 l0 x5_1).f2) = (wrap64 ((wrap64 (x1_1 + 1)) + 1))
       ·
        rw [if_pos c11] at H
        have c11b0 : (((rd_T57 l0 x5_1).f2) == (wrap64 ((wrap64 (x1_1 + 1)) + 1))) = true := beq_iff_eq.mpr c11
        have c11b1 : (((rd_T57 l0 x5_1).f2) != (wrap64 ((wrap64 (x1_1 + 1)) + 1))) = false := bne_eq_false_iff_eq.mpr c11
        clear c11
        have H' := Aside0.mk H
        clear H
        have p378 : 0 ≤ (x5_1 : Int) := of_decide_eq_true (by first | (with_reducible assumption) | assumption)
        have q378 : x5_1 < (l0.length : Int) := of_decide_eq_true (by first | (with_reducible assumption) | assumption)
        obtain ⟨ad378, e378, hx378_0, hx378_1, hx378_2⟩ := at_T57 HR0.out x5_1 p378 q378
        obtain rfl : ad376 = ad378 := (by injection e378)
        replace hx378_0 := bc HB.out hx378_0
        replace hx378_1 := bc HB.out hx378_1
        replace hx378_2 := bc HB.out hx378_2
        replace p378 := eq_true p378
        replace q378 := eq_true q378
        have p379 : 0 ≤ (x5_1 : Int) := of_decide_eq_true (by first | (with_reducible assumption) | assumption)
        have q379 : x5_1 < (l0.length : Int) := of_decide_eq_true (by first | (with_reducible assumption) | assumption)
        obtain ⟨ad379, e379, hx379_0, hx379_1, hx379_2⟩ := at_T57 HR0.out x5_1 p379 q379
        obtain rfl : ad376 = ad379 := (by injection e379)
        replace hx379_0 := bc HB.out hx379_0
        replace hx379_1 := bc HB.out hx379_1
        replace hx379_2 := bc HB.out hx379_2
        replace p379 := eq_true p379
        replace q379 := eq_true q379
        go_wp2
        go_roundg k1
        case measure => have := HK1.out; omega
        case rel => exact ⟨(wrap64 ((wrap64 ((wrap64 (x1_1 + 1)) + 1)) + 1)), (wrap64 (x5_1 + 1)), (by first | rfl | (simp; done) | (simp [*]; done)), (by first | rfl | (simp; done) | (simp [*]; done)), H', ⟨by have := HK1.out; omega⟩, ⟨bl HB.out⟩⟩
       ·
        rw [if_neg c11] at H
        have c11b0 : (((rd_T57 l0 x5_1).f2) == (wrap64 ((wrap64 (x1_1 + 1)) + 1))) = false := beq_eq_false_iff_ne.mpr c11
        have c11b1 : (((rd_T57 l0 x5_1).f2) != (wrap64 ((wrap64 (x1_1 + 1)) + 1))) = true := bne_iff_ne.mpr c11
        obtain rfl := Option.some.inj H
        have p378 : 0 ≤ (x5_1 : Int) := of_decide_eq_true (by first | (with_reducible assumption) | assumption)
        have q378 : x5_1 < (l0.length : Int) := of_decide_eq_true (by first | (with_reducible assumption) | assumption)
        obtain ⟨ad378, e378, hx378_0, hx378_1, hx378_2⟩ := at_T57 HR0.out x5_1 p378 q378
        obtain rfl : ad376 = ad378 := (by injection e378)
        replace hx378_0 := bc HB.out hx378_0
        replace hx378_1 := bc HB.out hx378_1
        replace hx378_2 := bc HB.out hx378_2
        replace p378 := eq_true p378
        replace q378 := eq_true q378
        have p379 : 0 ≤ (x5_1 : Int) := of_decide_eq_true (by first | (with_reducible assumption) | assumption)
        have q379 : x5_1 < (l0.length : Int) := of_decide_eq_true (by first | (with_reducible assumption) | assumption)
        obtain ⟨ad379, e379, hx379_0, hx379_1, hx379_2⟩ := at_T57 HR0.out x5_1 p379 q379
        obtain rfl : ad376 = ad379 := (by injection e379)
        replace hx379_0 := bc HB.out hx379_0
        replace hx379_1 := bc HB.out hx379_1
        replace hx379_2 := bc HB.out hx379_2
        replace p379 := eq_true p379
        replace q379 := eq_true q379
        go_wp2
        go_ret
        exact ⟨by first | rfl | (simp [errW_none, errW_some] <;> rfl) | (simp [*, errW_none, errW_some] <;> rfl), bl HB.out⟩
      ·
       rw [if_neg c10] at H
       have c10b0 : (((rd_T57 l0 x5_1).f1) == (wrap64 (x1_1 + 1))) = false := beq_eq_false_iff_ne.mpr c10
       have c10b1 : (((rd_T57 l0 x5_1).f1) != (wrap64 (x1_1 + 1))) = true := bne_iff_ne.mpr c10
       obtain rfl := Option.some.inj H
       have p378 : 0 ≤ (x5_1 : Int) := of_decide_eq_true (by first | (with_reducible assumption) | assumption)
       have q378 : x5_1 < (l0.length : Int) := of_decide_eq_true (by first | (with_reducible assumption) | assumption)
       obtain ⟨ad378, e378, hx378_0, hx378_1, hx378_2⟩ := at_T57 HR0.out x5_1 p378 q378
       obtain rfl : ad376 = ad378 := (by injection e378)
       replace hx378_0 := bc HB.out hx378_0
       replace hx378_1 := bc HB.out hx378_1
       replace hx378_2 := bc HB.out hx378_2
       replace p378 := eq_true p378
       replace q378 := eq_true q378
       go_wp2
       go_ret
       exact ⟨by first | rfl | (simp [errW_none, errW_some] <;> rfl) | (simp [*, errW_none, errW_some] <;> rfl), bl HB.out⟩
     ·
      rw [if_neg c9] at H
      have c9b0 : (((rd_T57 l0 x5_1).f0).toList == t377.toList) = false := beq_eq_false_iff_ne.mpr c9
      have c9b1 : (((rd_T57 l0 x5_1).f0).toList != t377.toList) = true := bne_iff_ne.mpr c9
      (first | rw [c9b0] | (simp only [i64_w, i32_w]; rw [c9b0]) | skip)
      obtain rfl := Option.some.inj H
      go_wp2
      go_ret
      exact ⟨by first | rfl | (simp [errW_none, errW_some] <;> rfl) | (simp [*, errW_none, errW_some] <;> rfl), bl HB.out⟩
    ·
     rw [if_neg c4] at H
     exact absurd H (by simp)
   ·
    rw [if_neg c3] at H
    have c3b0 : decide (x5_1 < (l0.length : Int)) = false := decide_eq_false c3
    clear c3
    obtain rfl := Option.some.inj H
    go_wp2
    go_ret
    exact ⟨by first | rfl | (simp [errW_none, errW_some] <;> rfl) | (simp [*, errW_none, errW_some] <;> rfl), bl HB.out⟩

/-! ### laws_heldFleet: function 25 -/
def laws_heldFleet.f (k : Nat) (l0_0 : List (S44)) (l0_1 : List (S84)) (l0_2 : List (S57)) (a0_3 : Int) (a0_4 : Int) (a0_5 : Int) (a1 : Int) : Option (Int) := (laws_heldTaskS.f k l0_0 a1).bind fun t381 => (if t381 < 0 then (some (-1)) else ((laws_heldCarryS.f k l0_1 t381).bind fun t382 => (if t382 < 0 then (some (-1)) else ((laws_heldDefectS.f k l0_2 t382).bind fun t383 => (if t383 < 0 then (some (-1)) else (some t383))))))
set_option maxHeartbeats 8000000 in
set_option maxRecDepth 100000 in
theorem laws_heldFleet.calls (k : Nat) (A0_0 : Option Addr) (c0_0 : Nat) (l0_0 : List (S44)) (A0_1 : Option Addr) (c0_1 : Nat) (l0_1 : List (S84)) (A0_2 : Option Addr) (c0_2 : Nat) (l0_2 : List (S57)) (a0_3 : Int) (a0_4 : Int) (a0_5 : Int) (a1 : Int) (r : Int) (w : World) (hr0_0 : Kd.C k44 w A0_0 l0_0.length l0_0) (hc0_0 : l0_0.length ≤ c0_0) (hr0_1 : Kd.C k84 w A0_1 l0_1.length l0_1) (hc0_1 : l0_1.length ≤ c0_1) (hr0_2 : Kd.C k57 w A0_2 l0_2.length l0_2) (hc0_2 : l0_2.length ≤ c0_2) (h : laws_heldFleet.f k l0_0 l0_1 l0_2 a0_3 a0_4 a0_5 a1 = some r) :
  Calls Try.prog 25 #[.agg #[.slice A0_0 l0_0.length c0_0, .slice A0_1 l0_1.length c0_1, .slice A0_2 l0_2.length c0_2, .int .i64 a0_3, .int .i64 a0_4, .int .i64 a0_5], .int .i64 a1] w fun e w' => e = .returned (.int .i64 r) ∧ Below w.heap.size w w' := by
 have hu30 := Try.underlying30
 have HR0_0 := Aside0.mk hr0_0
 have HC0_0 := Aside0.mk hc0_0
 clear hr0_0 hc0_0
 have HR0_1 := Aside0.mk hr0_1
 have HC0_1 := Aside0.mk hc0_1
 clear hr0_1 hc0_1
 have HR0_2 := Aside0.mk hr0_2
 have HC0_2 := Aside0.mk hc0_2
 clear hr0_2 hc0_2
 have HB := Aside0.mk (Below.refl w.heap.size w)
 have H : ((laws_heldTaskS.f k l0_0 a1).bind fun t381 => (if t381 < 0 then (some (-1)) else ((laws_heldCarryS.f k l0_1 t381).bind fun t382 => (if t382 < 0 then (some (-1)) else ((laws_heldDefectS.f k l0_2 t382).bind fun t383 => (if t383 < 0 then (some (-1)) else (some t383))))))) = some r := h
 clear h
 replace H := Option.bind_eq_some_iff.mp H
 obtain ⟨t381, A30, H⟩ := H
 replace H : (if t381 < 0 then (some (-1)) else ((laws_heldCarryS.f k l0_1 t381).bind fun t382 => (if t382 < 0 then (some (-1)) else ((laws_heldDefectS.f k l0_2 t382).bind fun t383 => (if t383 < 0 then (some (-1)) else (some t383)))))) = some r := H
 have A3 := Aside0.mk A30
 clear A30
 have HC4 := Aside0.mk H
 clear H
 go_enter Try.func25, Try.ntmps25
 go_upto_if 10 with (first | ((with_reducible refine gate_dst (N := 2) rfl ?_); refine box_event ?hg (N := 2) ?hd (cs := #[.slice A0_0 l0_0.length c0_0, .slice A0_1 l0_1.length c0_1, .slice A0_2 l0_2.length c0_2, .int .i64 a0_3, .int .i64 a0_4, .int .i64 a0_5]) (t := 30) ?hr ?_; (case hd => rfl); (case hg => rfl); (case hr => first | (go_simp; done) | (go_simp; rfl)); intro gb380 hg w5 hbox hb; have BK380 := Aside0.mk (hbox); have GW380 := Aside0.mk ((by rw [hg]; exact (below_size (bl HB.out)) : w.heap.size ≤ gb380)); have GE380 := GW380; replace HB := Aside0.mk (below_step (bl HB.out) hb); clear hb hbox hg; obtain ⟨hcz6_0, hcz6_1, hcz6_2, hcz6_3, hcz6_4, hcz6_5⟩ := ck6 BK380.out; obtain ⟨hfz6_0, hfz6_1, hfz6_2, hfz6_3, hfz6_4, hfz6_5⟩ := fz6 BK380.out) | ((with_reducible refine gate_callee (f := 60) rfl ?_); refine goesL_ (some 8) rfl rfl Try.func60 (by kernel_rfl) rfl #[.slice A0_0 l0_0.length c0_0, .int .i64 a1] rfl (by (try simp only [am_]); first | done | rfl) ?_; (with_reducible refine (laws_heldTaskS.calls k _ _ l0_0 a1 t381 _ ?side1 ?side2 A3.out).mono ?_); (case side1 => exact rc (Kd.C_below HR0_0.out HB.out)); (case side2 => exact HC0_0.out); rintro e w7 ⟨rfl, hb⟩; refine ⟨_, rfl, ?_⟩; replace BK380 := Aside0.mk (blk_below (bk BK380.out) hb); replace HB := Aside0.mk (below_step (by repeat with_reducible first | exact bl HB.out | refine below_set ?_ GE380.out | refine bq ?_) hb); (try clear hb); (try clear hb2); (try clear hk); (try clear hi)))
 have H := HC4.out
 clear HC4
 by_cases c8 : t381 < 0
 ·
  rw [if_pos c8] at H
  have c8b0 : decide (t381 < 0) = true := decide_eq_true c8
  clear c8
  (first | rw [c8b0] | (simp only [i64_w, i32_w]; rw [c8b0]) | skip)
  obtain rfl := Option.some.inj H
  go_wp2
  go_ret
  exact ⟨by first | rfl | (simp [errW_none, errW_some] <;> rfl) | (simp [*, errW_none, errW_some] <;> rfl), by repeat with_reducible first | exact bl HB.out | refine below_set ?_ GE380.out | refine bq ?_⟩
 ·
  rw [if_neg c8] at H
  have c8b0 : decide (t381 < 0) = false := decide_eq_false c8
  clear c8
  (first | rw [c8b0] | (simp only [i64_w, i32_w]; rw [c8b0]) | skip)
  replace H := Option.bind_eq_some_iff.mp H
  obtain ⟨t382, A90, H⟩ := H
  replace H : (if t382 < 0 then (some (-1)) else ((laws_heldDefectS.f k l0_2 t382).bind fun t383 => (if t383 < 0 then (some (-1)) else (some t383)))) = some r := H
  have A9 := Aside0.mk A90
  clear A90
  have HC10 := Aside0.mk H
  clear H
  obtain ⟨hcz11_0, hcz11_1, hcz11_2, hcz11_3, hcz11_4, hcz11_5⟩ := ck6 BK380.out
  obtain ⟨hfz11_0, hfz11_1, hfz11_2, hfz11_3, hfz11_4, hfz11_5⟩ := fz6 BK380.out
  go_upto_if 16 with (first | ((with_reducible refine gate_callee (f := 61) rfl ?_); refine goesL_ (some 14) rfl rfl Try.func61 (by kernel_rfl) rfl #[.slice A0_1 l0_1.length c0_1, .int .i64 t381] rfl (by (try simp only [am_]); first | done | rfl) ?_; (with_reducible refine (laws_heldCarryS.calls k _ _ l0_1 t381 t382 _ ?side1 ?side2 A9.out).mono ?_); (case side1 => exact rc (Kd.C_below HR0_1.out HB.out)); (case side2 => exact HC0_1.out); rintro e w12 ⟨rfl, hb⟩; refine ⟨_, rfl, ?_⟩; replace BK380 := Aside0.mk (blk_below (bk BK380.out) hb); replace HB := Aside0.mk (below_step (by repeat with_reducible first | exact bl HB.out | refine below_set ?_ GE380.out | refine bq ?_) hb); (try clear hb); (try clear hb2); (try clear hk); (try clear hi)))
  have H := HC10.out
  clear HC10
  by_cases c13 : t382 < 0
  ·
   rw [if_pos c13] at H
   have c13b0 : decide (t382 < 0) = true := decide_eq_true c13
   clear c13
   (first | rw [c13b0] | (simp only [i64_w, i32_w]; rw [c13b0]) | skip)
   obtain rfl := Option.some.inj H
   go_wp2
   go_ret
   exact ⟨by first | rfl | (simp [errW_none, errW_some] <;> rfl) | (simp [*, errW_none, errW_some] <;> rfl), by repeat with_reducible first | exact bl HB.out | refine below_set ?_ GE380.out | refine bq ?_⟩
  ·
   rw [if_neg c13] at H
   have c13b0 : decide (t382 < 0) = false := decide_eq_false c13
   clear c13
   (first | rw [c13b0] | (simp only [i64_w, i32_w]; rw [c13b0]) | skip)
   replace H := Option.bind_eq_some_iff.mp H
   obtain ⟨t383, A140, H⟩ := H
   replace H : (if t383 < 0 then (some (-1)) else (some t383)) = some r := H
   have A14 := Aside0.mk A140
   clear A140
   have HC15 := Aside0.mk H
   clear H
   obtain ⟨hcz16_0, hcz16_1, hcz16_2, hcz16_3, hcz16_4, hcz16_5⟩ := ck6 BK380.out
   obtain ⟨hfz16_0, hfz16_1, hfz16_2, hfz16_3, hfz16_4, hfz16_5⟩ := fz6 BK380.out
   go_upto_if 22 with (first | ((with_reducible refine gate_callee (f := 62) rfl ?_); refine goesL_ (some 20) rfl rfl Try.func62 (by kernel_rfl) rfl #[.slice A0_2 l0_2.length c0_2, .int .i64 t382] rfl (by (try simp only [am_]); first | done | rfl) ?_; (with_reducible refine (laws_heldDefectS.calls k _ _ l0_2 t382 t383 _ ?side1 ?side2 A14.out).mono ?_); (case side1 => exact rc (Kd.C_below HR0_2.out HB.out)); (case side2 => exact HC0_2.out); rintro e w17 ⟨rfl, hb⟩; refine ⟨_, rfl, ?_⟩; replace BK380 := Aside0.mk (blk_below (bk BK380.out) hb); replace HB := Aside0.mk (below_step (by repeat with_reducible first | exact bl HB.out | refine below_set ?_ GE380.out | refine bq ?_) hb); (try clear hb); (try clear hb2); (try clear hk); (try clear hi)))
   have H := HC15.out
   clear HC15
   by_cases c18 : t383 < 0
   ·
    rw [if_pos c18] at H
    have c18b0 : decide (t383 < 0) = true := decide_eq_true c18
    clear c18
    (first | rw [c18b0] | (simp only [i64_w, i32_w]; rw [c18b0]) | skip)
    obtain rfl := Option.some.inj H
    go_wp2
    go_ret
    exact ⟨by first | rfl | (simp [errW_none, errW_some] <;> rfl) | (simp [*, errW_none, errW_some] <;> rfl), by repeat with_reducible first | exact bl HB.out | refine below_set ?_ GE380.out | refine bq ?_⟩
   ·
    rw [if_neg c18] at H
    have c18b0 : decide (t383 < 0) = false := decide_eq_false c18
    clear c18
    (first | rw [c18b0] | (simp only [i64_w, i32_w]; rw [c18b0]) | skip)
    obtain rfl := Option.some.inj H
    go_wp2
    go_ret
    exact ⟨by first | rfl | (simp [errW_none, errW_some] <;> rfl) | (simp [*, errW_none, errW_some] <;> rfl), by repeat with_reducible first | exact bl HB.out | refine below_set ?_ GE380.out | refine bq ?_⟩

end Go.Proofs.Ytdimdlifjdbgnaa.PFnExactDoWork
