-- Written by a program of this session (wip/xprint.py) out of the translation; Lean checks it.
import Derived.Test.YtaeoiofdbjfdlaaPFnExactNewDeskx0
import Derived.Test.YtaeoiofdbjfdlaaPFnExactNewDeskx4
namespace Go.Proofs.Ytaeoiofdbjfdlaa.PFnExactNewDesk
open Go.RowKit Go.Proofs.YtaeoiofdbjfdlaaW.PrintWords Go.Proofs.YtaeoiofdbjfdlaaW.PrintLast Go.Proofs.YtaeoiofdbjfdlaaW.PrintMore Go.Proofs.Ytaeoiofdbjfdlaa.Sq
attribute [local go_sem] max2_int min2_int max_two min_two max_three min_three max_four min_four   -- for this text's walks alone
set_option linter.unusedVariables false
set_option linter.unusedSimpArgs false

/-! ### laws_heldCarryS: function 62 -/
def laws_heldCarryS.l0 : Nat → List (S73) → Int → Int → Option (Int)
 | 0, _, _, _ => none
 | k + 1, x0, x1, x5 => if x5 < (x0.length : Int) then (if 0 ≤ x5 then ((laws_markText.f k x1).bind fun t205 => (if ((rd_T73 x0 x5).f0).toList = t205.toList then (if ((rd_T73 x0 x5).f1) = (wrap64 (x1 + 1)) then (if ((rd_T73 x0 x5).f2) = (wrap64 ((wrap64 (x1 + 1)) + 1)) then (laws_heldCarryS.l0 k x0 (wrap64 ((wrap64 ((wrap64 (x1 + 1)) + 1)) + 1)) (wrap64 (x5 + 1))) else (some (-1))) else (some (-1))) else (some (-1)))) else (none)) else (some x1)
def laws_heldCarryS.f (k : Nat) (l0 : List (S73)) (a1 : Int) : Option (Int) := laws_heldCarryS.l0 k l0 a1 0
theorem laws_heldCarryS.mono_l : ∀ k, (∀ y0 y1 y2, LeO (laws_heldCarryS.l0 k y0 y1 y2) (laws_heldCarryS.l0 (k + 1) y0 y1 y2))
 | 0 => fun _ _ _ r h => by simp [laws_heldCarryS.l0] at h
 | k + 1 => by
  have ih0 := laws_heldCarryS.mono_l k
  ·
   intro y0 y1 y2
   unfold laws_heldCarryS.l0
   repeat' first
   | (with_reducible exact ih0 _ _ _)
   | (with_reducible exact laws_markText.mono _ _)
   | (with_reducible exact LeO.refl _)
   | (with_reducible exact LeO.none _)
   | (with_reducible refine LeO.ite ?_ ?_)
   | (with_reducible refine LeO.bind ?_ (fun _ => ?_))
   | exact ih0 _ _ _
   | exact laws_markText.mono _ _
   | exact LeO.none _
   | refine LeO.ite ?_ ?_
   | refine LeO.bind ?_ (fun _ => ?_)
theorem laws_heldCarryS.mono : ∀ a0 a1 k, LeO (laws_heldCarryS.f k a0 a1) (laws_heldCarryS.f (k + 1) a0 a1) := by
 intro a0 a1 k
 have ih0 := laws_heldCarryS.mono_l k
 unfold laws_heldCarryS.f
 repeat' first
   | (with_reducible exact ih0 _ _ _)
   | (with_reducible exact laws_markText.mono _ _)
   | (with_reducible exact LeO.refl _)
   | (with_reducible exact LeO.none _)
   | (with_reducible refine LeO.ite ?_ ?_)
   | (with_reducible refine LeO.bind ?_ (fun _ => ?_))
   | exact ih0 _ _ _
   | exact laws_markText.mono _ _
   | exact LeO.none _
   | refine LeO.ite ?_ ?_
   | refine LeO.bind ?_ (fun _ => ?_)
def laws_heldCarryS.T4 : Bool × List (List Nat × List Nat) := (true, [([], []), ([], []), ([0, 1], [0, 1]), ([2], [2]), ([3], [3]), ([], []), ([5], [5]), ([4, 6], [4, 6])])
def laws_heldCarryS.B4 : List Nat := [0, 0, 3, 7, 15, 0, 32, 127]
theorem laws_heldCarryS.tab4 : rtab .any (opsOf Try.f62 4) = laws_heldCarryS.T4 := by kernel_rfl
theorem laws_heldCarryS.bits4 : waitsOk laws_heldCarryS.T4.2 laws_heldCarryS.B4 = true := by kernel_rfl
set_option maxHeartbeats 8000000 in
set_option maxRecDepth 100000 in
theorem laws_heldCarryS.calls (k : Nat) (A0 : Option Addr) (c0 : Nat) (l0 : List (S73)) (a1 : Int) (r : Int) (w : World) (hr0 : Kd.C k73 w A0 l0.length l0) (hc0 : l0.length ≤ c0) (h : laws_heldCarryS.f k l0 a1 = some r) :
  Calls Try.prog 62 #[.slice A0 l0.length c0, .int .i64 a1] w fun e w' => e = .returned (.int .i64 r) ∧ Below w.heap.size w w' := by
 have HR0 := Aside0.mk hr0
 have HC0 := Aside0.mk hc0
 clear hr0 hc0
 have HB := Aside0.mk (Below.refl w.heap.size w)
 have H : (laws_heldCarryS.l0 k l0 a1 0) = some r := h
 clear h
 have H' := Aside0.mk H
 clear H
 go_enter Try.func62, Try.ntmps62
 go_wp2
 go_loopg [1, 5] k (fun kq v1 v5 w' => ∃ (x1_1 : Int) (x5_1 : Int), v1 = .int .i64 x1_1 ∧ v5 = .int .i64 x5_1 ∧ Aside0 (laws_heldCarryS.l0 kq l0 x1_1 x5_1 = some r) ∧ Aside0 (kq ≤ k) ∧ Aside0 (Below w.heap.size w w'))
 case atStart => exact ⟨(a1), (0), (by first | rfl | (simp; done) | (simp [*]; done)), (by first | rfl | (simp; done) | (simp [*]; done)), H', ⟨Nat.le_refl _⟩, ⟨bl HB.out⟩⟩
 case round =>
  clear H'
  try clear p2
  obtain ⟨x1_1, x5_1, rfl, rfl, HA, HK1, HB⟩ := hrel
  cases gk with
  | zero => exact absurd HA.out (by simp [laws_heldCarryS.l0])
  | succ k1 =>
   have H := HA.out
   clear HA
   simp only [laws_heldCarryS.l0] at H
   by_cases c3 : x5_1 < (l0.length : Int)
   ·
    rw [if_pos c3] at H
    have c3b0 : decide (x5_1 < (l0.length : Int)) = true := decide_eq_true c3
    clear c3
    by_cases c4 : 0 ≤ x5_1
    ·
     rw [if_pos c4] at H
     have c4b0 : decide (0 ≤ x5_1) = true := decide_eq_true c4
     clear c4
     replace H := Option.bind_eq_some_iff.mp H
     obtain ⟨t205, A50, H⟩ := H
     replace H : (if ((rd_T73 l0 x5_1).f0).toList = t205.toList then (if ((rd_T73 l0 x5_1).f1) = (wrap64 (x1_1 + 1)) then (if ((rd_T73 l0 x5_1).f2) = (wrap64 ((wrap64 (x1_1 + 1)) + 1)) then (laws_heldCarryS.l0 k1 l0 (wrap64 ((wrap64 ((wrap64 (x1_1 + 1)) + 1)) + 1)) (wrap64 (x5_1 + 1))) else (some (-1))) else (some (-1))) else (some (-1))) = some r := H
     have A5 := Aside0.mk A50
     clear A50
     by_cases c6 : ((rd_T73 l0 x5_1).f0).toList = t205.toList
     ·
      rw [if_pos c6] at H
      have c6b0 : (((rd_T73 l0 x5_1).f0).toList == t205.toList) = true := beq_iff_eq.mpr c6
      have c6b1 : (((rd_T73 l0 x5_1).f0).toList != t205.toList) = false := bne_eq_false_iff_eq.mpr c6
      clear c6
      by_cases c7 : ((rd_T73 l0 x5_1).f1) = (wrap64 (x1_1 + 1))
      ·
       rw [if_pos c7] at H
       have c7b0 : (((rd_T73 l0 x5_1).f1) == (wrap64 (x1_1 + 1))) = true := beq_iff_eq.mpr c7
       have c7b1 : (((rd_T73 l0 x5_1).f1) != (wrap64 (x1_1 + 1))) = false := bne_eq_false_iff_eq.mpr c7
       clear c7
       by_cases c8 : ((rd_T73 l0 x5_1).f2) = (wrap64 ((wrap64 (x1_1 + 1)) + 1))
       ·
        rw [if_pos c8] at H
        have c8b0 : (((rd_T73 l0 x5_1).f2) == (wrap64 ((wrap64 (x1_1 + 1)) + 1))) = true := beq_iff_eq.mpr c8
        have c8b1 : (((rd_T73 l0 x5_1).f2) != (wrap64 ((wrap64 (x1_1 + 1)) + 1))) = false := bne_eq_false_iff_eq.mpr c8
        clear c8
        have H' := Aside0.mk H
        clear H
        try go_wp2
        have n0_ := Aside0.mk (below_drew1 HB.out)
        clear HB
        have HB := n0_
        clear n0_
        have p204 : 0 ≤ (x5_1 : Int) := of_decide_eq_true (by first | (with_reducible assumption) | assumption)
        have q204 : x5_1 < (l0.length : Int) := of_decide_eq_true (by first | (with_reducible assumption) | assumption)
        obtain ⟨ad204, e204, hx204_0, hx204_1, hx204_2⟩ := at_T73 HR0.out x5_1 p204 q204
        have hw204_2 := hx204_2
        have hw204_1 := hx204_1
        have hw204_0 := hx204_0
        cases e204
        replace hx204_0 := (HB.out.cell (World.block_lt_of_cell? w _ hx204_0)).trans hx204_0
        replace hx204_1 := (HB.out.cell (World.block_lt_of_cell? w _ hx204_1)).trans hx204_1
        replace hx204_2 := (HB.out.cell (World.block_lt_of_cell? w _ hx204_2)).trans hx204_2
        replace p204 := eq_true p204
        replace q204 := eq_true q204
        refine start_ (n := 8) (S := fun w' => w'.cell? (ad204.add ((x5_1).toNat * 3)) = some (.string ((rd_T73 l0 x5_1).f0)) ∧ w'.cell? ⟨(ad204.add ((x5_1).toNat * 3)).block, (ad204.add ((x5_1).toNat * 3)).off + 1, none⟩ = some (.int .i64 ((rd_T73 l0 x5_1).f1)) ∧ w'.cell? ⟨(ad204.add ((x5_1).toNat * 3)).block, (ad204.add ((x5_1).toNat * 3)).off + 2, none⟩ = some (.int .i64 ((rd_T73 l0 x5_1).f2))) (ds := []) m0_8 (by kernel_rfl) rfl rfl ⟨((HB.out.cell (World.block_lt_of_cell? w _ hw204_0)).trans hw204_0), ((HB.out.cell (World.block_lt_of_cell? w _ hw204_1)).trans hw204_1), ((HB.out.cell (World.block_lt_of_cell? w _ hw204_2)).trans hw204_2)⟩ (fun hHeld => ?_); refine with_tabW laws_heldCarryS.tab4 laws_heldCarryS.bits4 (fun HT_ HW_ => ?_)
        generalize wr.drew = w9 at HB hx204_0 hx204_1 hx204_2 hHeld ⊢
        refine pp_ HT_.out 0 12 m1_8 rfl rfl (by kernel_rfl) (by rfl) (by intro w'; go_simp; with_reducible rfl) (by simp only [sp_]; rfl) (fun _ _ _ h => h) ?_
        refine pp_ HT_.out 1 13 m2_8 rfl rfl (by kernel_rfl) (by rfl) (by intro w'; go_simp; with_reducible rfl) (by simp only [sp_]; rfl) (fun _ _ _ h => h) ?_
        refine pp_ HT_.out 2 14 m3_8 rfl rfl (by kernel_rfl) (by rfl) (by intro w'; go_simp; with_reducible rfl) (by simp only [sp_]; rfl) (fun _ _ _ h => h) ?_
        refine pp_ HT_.out 3 15 m4_8 rfl rfl (by kernel_rfl) (by rfl) (by intro w'; go_simp; with_reducible rfl) (by simp only [sp_]; rfl) (fun _ _ _ h => h) ?_
        refine pp_ HT_.out 5 17 n15 rfl rfl (by kernel_rfl) (by rfl) (by intro w'; go_simp; with_reducible rfl) (by simp only [sp_]; rfl) (fun _ _ _ h => h) ?_
        refine tk_ HT_.out HW_.out 4 16 m6_8 rfl rfl (by kernel_rfl) (by rfl) (by rintro w' ⟨s0, s1, s2⟩; go_simp; with_reducible rfl) hHeld (by simp only [sp_]; rfl) (fun _ _ _ h => h) ?_
        refine one_ (i := 6) (N := some 18) m7_8 rfl rfl (one_of HT_.out (by kernel_rfl)) (by decide) (fun K hK => ?_)
        refine goes_ Try.func102 (by kernel_rfl) rfl #[.int .i64 x1_1] (by rfl) rfl rfl (by (try simp only [am_]); first | done | rfl) ?_
        with_reducible refine (laws_markText.calls k1 x1_1 t205 _ A5.out).mono ?_
        rintro e w10 ⟨rfl, hb⟩
        refine ⟨_, rfl, ?_⟩
        have n0_ := Aside0.mk (below_step (bl HB.out) hb)
        clear HB
        have HB := n0_
        clear n0_
        (try clear hb)
        (try clear hb2)
        (try clear hk)
        (try clear hi)
        refine hK.out _ _ ⟨((HB.out.cell (World.block_lt_of_cell? w _ hw204_0)).trans hw204_0), ((HB.out.cell (World.block_lt_of_cell? w _ hw204_1)).trans hw204_1), ((HB.out.cell (World.block_lt_of_cell? w _ hw204_2)).trans hw204_2)⟩ (fun hHeld => ?_)
        clear hK K
        refine norm_ (a' := ?_) ?_ ?_
        rotate_left
        ·
         show Act.put _ (some 18) _ = _
         simp only [sp_]
         rfl
        refine pp_ HT_.out 7 19 m8_8 rfl rfl (by kernel_rfl) (by rfl) (by intro w'; go_simp; with_reducible rfl) (by simp only [sp_]; rfl) (fun _ _ _ h => h) ?_
        refine done_ (done_of HT_.out (by kernel_rfl)) ?_
        have p206 : 0 ≤ (x5_1 : Int) := of_decide_eq_true (by first | (with_reducible assumption) | assumption)
        have q206 : x5_1 < (l0.length : Int) := of_decide_eq_true (by first | (with_reducible assumption) | assumption)
        obtain ⟨ad206, e206, hx206_0, hx206_1, hx206_2⟩ := at_T73 HR0.out x5_1 p206 q206
        obtain rfl : ad204 = ad206 := (by injection e206)
        replace hx206_0 := (HB.out.cell (World.block_lt_of_cell? w _ hx206_0)).trans hx206_0
        replace hx206_1 := (HB.out.cell (World.block_lt_of_cell? w _ hx206_1)).trans hx206_1
        replace hx206_2 := (HB.out.cell (World.block_lt_of_cell? w _ hx206_2)).trans hx206_2
        replace p206 := eq_true p206
        replace q206 := eq_true q206
        have p207 : 0 ≤ (x5_1 : Int) := of_decide_eq_true (by first | (with_reducible assumption) | assumption)
        have q207 : x5_1 < (l0.length : Int) := of_decide_eq_true (by first | (with_reducible assumption) | assumption)
        obtain ⟨ad207, e207, hx207_0, hx207_1, hx207_2⟩ := at_T73 HR0.out x5_1 p207 q207
        obtain rfl : ad204 = ad207 := (by injection e207)
        replace hx207_0 := (HB.out.cell (World.block_lt_of_cell? w _ hx207_0)).trans hx207_0
        replace hx207_1 := (HB.out.cell (World.block_lt_of_cell? w _ hx207_1)).trans hx207_1
        replace hx207_2 := (HB.out.cell (World.block_lt_of_cell? w _ hx207_2)).trans hx207_2
        replace p207 := eq_true p207
        replace q207 := eq_true q207
        try go_wp2
        go_roundg k1
        case measure => have := HK1.out; omega
        case rel => exact ⟨(wrap64 ((wrap64 ((wrap64 (x1_1 + 1)) + 1)) + 1)), (wrap64 (x5_1 + 1)), (by first | rfl | (simp; done) | (simp [*]; done)), (by first | rfl | (simp; done) | (simp [*]; done)), H', ⟨by have := HK1.out; omega⟩, ⟨bl HB.out⟩⟩
       ·
        rw [if_neg c8] at H
        have c8b0 : (((rd_T73 l0 x5_1).f2) == (wrap64 ((wrap64 (x1_1 + 1)) + 1))) = false := beq_eq_false_iff_ne.mpr c8
        have c8b1 : (((rd_T73 l0 x5_1).f2) != (wrap64 ((wrap64 (x1_1 + 1)) + 1))) = true := bne_iff_ne.mpr c8
        obtain rfl := Option.some.inj H
        try go_wp2
        have n0_ := Aside0.mk (below_drew1 HB.out)
        clear HB
        have HB := n0_
        clear n0_
        have p204 : 0 ≤ (x5_1 : Int) := of_decide_eq_true (by first | (with_reducible assumption) | assumption)
        have q204 : x5_1 < (l0.length : Int) := of_decide_eq_true (by first | (with_reducible assumption) | assumption)
        obtain ⟨ad204, e204, hx204_0, hx204_1, hx204_2⟩ := at_T73 HR0.out x5_1 p204 q204
        have hw204_2 := hx204_2
        have hw204_1 := hx204_1
        have hw204_0 := hx204_0
        cases e204
        replace hx204_0 := (HB.out.cell (World.block_lt_of_cell? w _ hx204_0)).trans hx204_0
        replace hx204_1 := (HB.out.cell (World.block_lt_of_cell? w _ hx204_1)).trans hx204_1
        replace hx204_2 := (HB.out.cell (World.block_lt_of_cell? w _ hx204_2)).trans hx204_2
        replace p204 := eq_true p204
        replace q204 := eq_true q204
        refine start_ (n := 8) (S := fun w' => w'.cell? (ad204.add ((x5_1).toNat * 3)) = some (.string ((rd_T73 l0 x5_1).f0)) ∧ w'.cell? ⟨(ad204.add ((x5_1).toNat * 3)).block, (ad204.add ((x5_1).toNat * 3)).off + 1, none⟩ = some (.int .i64 ((rd_T73 l0 x5_1).f1)) ∧ w'.cell? ⟨(ad204.add ((x5_1).toNat * 3)).block, (ad204.add ((x5_1).toNat * 3)).off + 2, none⟩ = some (.int .i64 ((rd_T73 l0 x5_1).f2))) (ds := []) m0_8 (by kernel_rfl) rfl rfl ⟨((HB.out.cell (World.block_lt_of_cell? w _ hw204_0)).trans hw204_0), ((HB.out.cell (World.block_lt_of_cell? w _ hw204_1)).trans hw204_1), ((HB.out.cell (World.block_lt_of_cell? w _ hw204_2)).trans hw204_2)⟩ (fun hHeld => ?_); refine with_tabW laws_heldCarryS.tab4 laws_heldCarryS.bits4 (fun HT_ HW_ => ?_)
        generalize wr.drew = w11 at HB hx204_0 hx204_1 hx204_2 hHeld ⊢
        refine pp_ HT_.out 0 12 m1_8 rfl rfl (by kernel_rfl) (by rfl) (by intro w'; go_simp; with_reducible rfl) (by simp only [sp_]; rfl) (fun _ _ _ h => h) ?_
        refine pp_ HT_.out 1 13 m2_8 rfl rfl (by kernel_rfl) (by rfl) (by intro w'; go_simp; with_reducible rfl) (by simp only [sp_]; rfl) (fun _ _ _ h => h) ?_
        refine pp_ HT_.out 2 14 m3_8 rfl rfl (by kernel_rfl) (by rfl) (by intro w'; go_simp; with_reducible rfl) (by simp only [sp_]; rfl) (fun _ _ _ h => h) ?_
        refine pp_ HT_.out 3 15 m4_8 rfl rfl (by kernel_rfl) (by rfl) (by intro w'; go_simp; with_reducible rfl) (by simp only [sp_]; rfl) (fun _ _ _ h => h) ?_
        refine pp_ HT_.out 5 17 n15 rfl rfl (by kernel_rfl) (by rfl) (by intro w'; go_simp; with_reducible rfl) (by simp only [sp_]; rfl) (fun _ _ _ h => h) ?_
        refine tk_ HT_.out HW_.out 4 16 m6_8 rfl rfl (by kernel_rfl) (by rfl) (by rintro w' ⟨s0, s1, s2⟩; go_simp; with_reducible rfl) hHeld (by simp only [sp_]; rfl) (fun _ _ _ h => h) ?_
        refine one_ (i := 6) (N := some 18) m7_8 rfl rfl (one_of HT_.out (by kernel_rfl)) (by decide) (fun K hK => ?_)
        refine goes_ Try.func102 (by kernel_rfl) rfl #[.int .i64 x1_1] (by rfl) rfl rfl (by (try simp only [am_]); first | done | rfl) ?_
        with_reducible refine (laws_markText.calls k1 x1_1 t205 _ A5.out).mono ?_
        rintro e w12 ⟨rfl, hb⟩
        refine ⟨_, rfl, ?_⟩
        have n0_ := Aside0.mk (below_step (bl HB.out) hb)
        clear HB
        have HB := n0_
        clear n0_
        (try clear hb)
        (try clear hb2)
        (try clear hk)
        (try clear hi)
        refine hK.out _ _ ⟨((HB.out.cell (World.block_lt_of_cell? w _ hw204_0)).trans hw204_0), ((HB.out.cell (World.block_lt_of_cell? w _ hw204_1)).trans hw204_1), ((HB.out.cell (World.block_lt_of_cell? w _ hw204_2)).trans hw204_2)⟩ (fun hHeld => ?_)
        clear hK K
        refine norm_ (a' := ?_) ?_ ?_
        rotate_left
        ·
         show Act.put _ (some 18) _ = _
         simp only [sp_]
         rfl
        refine pp_ HT_.out 7 19 m8_8 rfl rfl (by kernel_rfl) (by rfl) (by intro w'; go_simp; with_reducible rfl) (by simp only [sp_]; rfl) (fun _ _ _ h => h) ?_
        refine done_ (done_of HT_.out (by kernel_rfl)) ?_
        have p206 : 0 ≤ (x5_1 : Int) := of_decide_eq_true (by first | (with_reducible assumption) | assumption)
        have q206 : x5_1 < (l0.length : Int) := of_decide_eq_true (by first | (with_reducible assumption) | assumption)
        obtain ⟨ad206, e206, hx206_0, hx206_1, hx206_2⟩ := at_T73 HR0.out x5_1 p206 q206
        obtain rfl : ad204 = ad206 := (by injection e206)
        replace hx206_0 := (HB.out.cell (World.block_lt_of_cell? w _ hx206_0)).trans hx206_0
        replace hx206_1 := (HB.out.cell (World.block_lt_of_cell? w _ hx206_1)).trans hx206_1
        replace hx206_2 := (HB.out.cell (World.block_lt_of_cell? w _ hx206_2)).trans hx206_2
        replace p206 := eq_true p206
        replace q206 := eq_true q206
        have p207 : 0 ≤ (x5_1 : Int) := of_decide_eq_true (by first | (with_reducible assumption) | assumption)
        have q207 : x5_1 < (l0.length : Int) := of_decide_eq_true (by first | (with_reducible assumption) | assumption)
        obtain ⟨ad207, e207, hx207_0, hx207_1, hx207_2⟩ := at_T73 HR0.out x5_1 p207 q207
        obtain rfl : ad204 = ad207 := (by injection e207)
        replace hx207_0 := (HB.out.cell (World.block_lt_of_cell? w _ hx207_0)).trans hx207_0
        replace hx207_1 := (HB.out.cell (World.block_lt_of_cell? w _ hx207_1)).trans hx207_1
        replace hx207_2 := (HB.out.cell (World.block_lt_of_cell? w _ hx207_2)).trans hx207_2
        replace p207 := eq_true p207
        replace q207 := eq_true q207
        try go_wp2
        go_ret
        exact ⟨by first | rfl | (simp [errW_none, errW_some] <;> rfl) | (simp [*, errW_none, errW_some] <;> rfl), bl HB.out⟩
      ·
       rw [if_neg c7] at H
       have c7b0 : (((rd_T73 l0 x5_1).f1) == (wrap64 (x1_1 + 1))) = false := beq_eq_false_iff_ne.mpr c7
       have c7b1 : (((rd_T73 l0 x5_1).f1) != (wrap64 (x1_1 + 1))) = true := bne_iff_ne.mpr c7
       obtain rfl := Option.some.inj H
       try go_wp2
       have n0_ := Aside0.mk (below_drew1 HB.out)
       clear HB
       have HB := n0_
       clear n0_
       have p204 : 0 ≤ (x5_1 : Int) := of_decide_eq_true (by first | (with_reducible assumption) | assumption)
       have q204 : x5_1 < (l0.length : Int) := of_decide_eq_true (by first | (with_reducible assumption) | assumption)
       obtain ⟨ad204, e204, hx204_0, hx204_1, hx204_2⟩ := at_T73 HR0.out x5_1 p204 q204
       have hw204_2 := hx204_2
       have hw204_1 := hx204_1
       have hw204_0 := hx204_0
       cases e204
       replace hx204_0 := (HB.out.cell (World.block_lt_of_cell? w _ hx204_0)).trans hx204_0
       replace hx204_1 := (HB.out.cell (World.block_lt_of_cell? w _ hx204_1)).trans hx204_1
       replace hx204_2 := (HB.out.cell (World.block_lt_of_cell? w _ hx204_2)).trans hx204_2
       replace p204 := eq_true p204
       replace q204 := eq_true q204
       refine start_ (n := 8) (S := fun w' => w'.cell? (ad204.add ((x5_1).toNat * 3)) = some (.string ((rd_T73 l0 x5_1).f0)) ∧ w'.cell? ⟨(ad204.add ((x5_1).toNat * 3)).block, (ad204.add ((x5_1).toNat * 3)).off + 1, none⟩ = some (.int .i64 ((rd_T73 l0 x5_1).f1)) ∧ w'.cell? ⟨(ad204.add ((x5_1).toNat * 3)).block, (ad204.add ((x5_1).toNat * 3)).off + 2, none⟩ = some (.int .i64 ((rd_T73 l0 x5_1).f2))) (ds := []) m0_8 (by kernel_rfl) rfl rfl ⟨((HB.out.cell (World.block_lt_of_cell? w _ hw204_0)).trans hw204_0), ((HB.out.cell (World.block_lt_of_cell? w _ hw204_1)).trans hw204_1), ((HB.out.cell (World.block_lt_of_cell? w _ hw204_2)).trans hw204_2)⟩ (fun hHeld => ?_); refine with_tabW laws_heldCarryS.tab4 laws_heldCarryS.bits4 (fun HT_ HW_ => ?_)
       generalize wr.drew = w13 at HB hx204_0 hx204_1 hx204_2 hHeld ⊢
       refine pp_ HT_.out 0 12 m1_8 rfl rfl (by kernel_rfl) (by rfl) (by intro w'; go_simp; with_reducible rfl) (by simp only [sp_]; rfl) (fun _ _ _ h => h) ?_
       refine pp_ HT_.out 1 13 m2_8 rfl rfl (by kernel_rfl) (by rfl) (by intro w'; go_simp; with_reducible rfl) (by simp only [sp_]; rfl) (fun _ _ _ h => h) ?_
       refine pp_ HT_.out 2 14 m3_8 rfl rfl (by kernel_rfl) (by rfl) (by intro w'; go_simp; with_reducible rfl) (by simp only [sp_]; rfl) (fun _ _ _ h => h) ?_
       refine pp_ HT_.out 3 15 m4_8 rfl rfl (by kernel_rfl) (by rfl) (by intro w'; go_simp; with_reducible rfl) (by simp only [sp_]; rfl) (fun _ _ _ h => h) ?_
       refine pp_ HT_.out 5 17 n15 rfl rfl (by kernel_rfl) (by rfl) (by intro w'; go_simp; with_reducible rfl) (by simp only [sp_]; rfl) (fun _ _ _ h => h) ?_
       refine tk_ HT_.out HW_.out 4 16 m6_8 rfl rfl (by kernel_rfl) (by rfl) (by rintro w' ⟨s0, s1, s2⟩; go_simp; with_reducible rfl) hHeld (by simp only [sp_]; rfl) (fun _ _ _ h => h) ?_
       refine one_ (i := 6) (N := some 18) m7_8 rfl rfl (one_of HT_.out (by kernel_rfl)) (by decide) (fun K hK => ?_)
       refine goes_ Try.func102 (by kernel_rfl) rfl #[.int .i64 x1_1] (by rfl) rfl rfl (by (try simp only [am_]); first | done | rfl) ?_
       with_reducible refine (laws_markText.calls k1 x1_1 t205 _ A5.out).mono ?_
       rintro e w14 ⟨rfl, hb⟩
       refine ⟨_, rfl, ?_⟩
       have n0_ := Aside0.mk (below_step (bl HB.out) hb)
       clear HB
       have HB := n0_
       clear n0_
       (try clear hb)
       (try clear hb2)
       (try clear hk)
       (try clear hi)
       refine hK.out _ _ ⟨((HB.out.cell (World.block_lt_of_cell? w _ hw204_0)).trans hw204_0), ((HB.out.cell (World.block_lt_of_cell? w _ hw204_1)).trans hw204_1), ((HB.out.cell (World.block_lt_of_cell? w _ hw204_2)).trans hw204_2)⟩ (fun hHeld => ?_)
       clear hK K
       refine norm_ (a' := ?_) ?_ ?_
       rotate_left
       ·
        show Act.put _ (some 18) _ = _
        simp only [sp_]
        rfl
       refine pp_ HT_.out 7 19 m8_8 rfl rfl (by kernel_rfl) (by rfl) (by intro w'; go_simp; with_reducible rfl) (by simp only [sp_]; rfl) (fun _ _ _ h => h) ?_
       refine done_ (done_of HT_.out (by kernel_rfl)) ?_
       have p206 : 0 ≤ (x5_1 : Int) := of_decide_eq_true (by first | (with_reducible assumption) | assumption)
       have q206 : x5_1 < (l0.length : Int) := of_decide_eq_true (by first | (with_reducible assumption) | assumption)
       obtain ⟨ad206, e206, hx206_0, hx206_1, hx206_2⟩ := at_T73 HR0.out x5_1 p206 q206
       obtain rfl : ad204 = ad206 := (by injection e206)
       replace hx206_0 := (HB.out.cell (World.block_lt_of_cell? w _ hx206_0)).trans hx206_0
       replace hx206_1 := (HB.out.cell (World.block_lt_of_cell? w _ hx206_1)).trans hx206_1
       replace hx206_2 := (HB.out.cell (World.block_lt_of_cell? w _ hx206_2)).trans hx206_2
       replace p206 := eq_true p206
       replace q206 := eq_true q206
       try go_wp2
       go_ret
       exact ⟨by first | rfl | (simp [errW_none, errW_some] <;> rfl) | (simp [*, errW_none, errW_some] <;> rfl), bl HB.out⟩
     ·
      rw [if_neg c6] at H
      have c6b0 : (((rd_T73 l0 x5_1).f0).toList == t205.toList) = false := beq_eq_false_iff_ne.mpr c6
      have c6b1 : (((rd_T73 l0 x5_1).f0).toList != t205.toList) = true := bne_iff_ne.mpr c6
      obtain rfl := Option.some.inj H
      try go_wp2
      have n0_ := Aside0.mk (below_drew1 HB.out)
      clear HB
      have HB := n0_
      clear n0_
      have p204 : 0 ≤ (x5_1 : Int) := of_decide_eq_true (by first | (with_reducible assumption) | assumption)
      have q204 : x5_1 < (l0.length : Int) := of_decide_eq_true (by first | (with_reducible assumption) | assumption)
      obtain ⟨ad204, e204, hx204_0, hx204_1, hx204_2⟩ := at_T73 HR0.out x5_1 p204 q204
      have hw204_2 := hx204_2
      have hw204_1 := hx204_1
      have hw204_0 := hx204_0
      cases e204
      replace hx204_0 := (HB.out.cell (World.block_lt_of_cell? w _ hx204_0)).trans hx204_0
      replace hx204_1 := (HB.out.cell (World.block_lt_of_cell? w _ hx204_1)).trans hx204_1
      replace hx204_2 := (HB.out.cell (World.block_lt_of_cell? w _ hx204_2)).trans hx204_2
      replace p204 := eq_true p204
      replace q204 := eq_true q204
      refine start_ (n := 8) (S := fun w' => w'.cell? (ad204.add ((x5_1).toNat * 3)) = some (.string ((rd_T73 l0 x5_1).f0)) ∧ w'.cell? ⟨(ad204.add ((x5_1).toNat * 3)).block, (ad204.add ((x5_1).toNat * 3)).off + 1, none⟩ = some (.int .i64 ((rd_T73 l0 x5_1).f1)) ∧ w'.cell? ⟨(ad204.add ((x5_1).toNat * 3)).block, (ad204.add ((x5_1).toNat * 3)).off + 2, none⟩ = some (.int .i64 ((rd_T73 l0 x5_1).f2))) (ds := []) m0_8 (by kernel_rfl) rfl rfl ⟨((HB.out.cell (World.block_lt_of_cell? w _ hw204_0)).trans hw204_0), ((HB.out.cell (World.block_lt_of_cell? w _ hw204_1)).trans hw204_1), ((HB.out.cell (World.block_lt_of_cell? w _ hw204_2)).trans hw204_2)⟩ (fun hHeld => ?_); refine with_tabW laws_heldCarryS.tab4 laws_heldCarryS.bits4 (fun HT_ HW_ => ?_)
      generalize wr.drew = w15 at HB hx204_0 hx204_1 hx204_2 hHeld ⊢
      refine pp_ HT_.out 0 12 m1_8 rfl rfl (by kernel_rfl) (by rfl) (by intro w'; go_simp; with_reducible rfl) (by simp only [sp_]; rfl) (fun _ _ _ h => h) ?_
      refine pp_ HT_.out 1 13 m2_8 rfl rfl (by kernel_rfl) (by rfl) (by intro w'; go_simp; with_reducible rfl) (by simp only [sp_]; rfl) (fun _ _ _ h => h) ?_
      refine pp_ HT_.out 2 14 m3_8 rfl rfl (by kernel_rfl) (by rfl) (by intro w'; go_simp; with_reducible rfl) (by simp only [sp_]; rfl) (fun _ _ _ h => h) ?_
      refine pp_ HT_.out 3 15 m4_8 rfl rfl (by kernel_rfl) (by rfl) (by intro w'; go_simp; with_reducible rfl) (by simp only [sp_]; rfl) (fun _ _ _ h => h) ?_
      refine pp_ HT_.out 5 17 n15 rfl rfl (by kernel_rfl) (by rfl) (by intro w'; go_simp; with_reducible rfl) (by simp only [sp_]; rfl) (fun _ _ _ h => h) ?_
      refine tk_ HT_.out HW_.out 4 16 m6_8 rfl rfl (by kernel_rfl) (by rfl) (by rintro w' ⟨s0, s1, s2⟩; go_simp; with_reducible rfl) hHeld (by simp only [sp_]; rfl) (fun _ _ _ h => h) ?_
      refine one_ (i := 6) (N := some 18) m7_8 rfl rfl (one_of HT_.out (by kernel_rfl)) (by decide) (fun K hK => ?_)
      refine goes_ Try.func102 (by kernel_rfl) rfl #[.int .i64 x1_1] (by rfl) rfl rfl (by (try simp only [am_]); first | done | rfl) ?_
      with_reducible refine (laws_markText.calls k1 x1_1 t205 _ A5.out).mono ?_
      rintro e w16 ⟨rfl, hb⟩
      refine ⟨_, rfl, ?_⟩
      have n0_ := Aside0.mk (below_step (bl HB.out) hb)
      clear HB
      have HB := n0_
      clear n0_
      (try clear hb)
      (try clear hb2)
      (try clear hk)
      (try clear hi)
      refine hK.out _ _ ⟨((HB.out.cell (World.block_lt_of_cell? w _ hw204_0)).trans hw204_0), ((HB.out.cell (World.block_lt_of_cell? w _ hw204_1)).trans hw204_1), ((HB.out.cell (World.block_lt_of_cell? w _ hw204_2)).trans hw204_2)⟩ (fun hHeld => ?_)
      clear hK K
      refine norm_ (a' := ?_) ?_ ?_
      rotate_left
      ·
       show Act.put _ (some 18) _ = _
       simp only [sp_]
       rfl
      refine pp_ HT_.out 7 19 m8_8 rfl rfl (by kernel_rfl) (by rfl) (by intro w'; go_simp; with_reducible rfl) (by simp only [sp_]; rfl) (fun _ _ _ h => h) ?_
      refine done_ (done_of HT_.out (by kernel_rfl)) ?_
      try go_wp2
      go_ret
      exact ⟨by first | rfl | (simp [errW_none, errW_some] <;> rfl) | (simp [*, errW_none, errW_some] <;> rfl), bl HB.out⟩
    ·
     rw [if_neg c4] at H
     exact absurd H (by simp)
   ·
    rw [if_neg c3] at H
    have c3b0 : decide (x5_1 < (l0.length : Int)) = false := decide_eq_false c3
    clear c3
    obtain rfl := Option.some.inj H
    go_wp2
    go_ret
    exact ⟨by first | rfl | (simp [errW_none, errW_some] <;> rfl) | (simp [*, errW_none, errW_some] <;> rfl), bl HB.out⟩

end Go.Proofs.Ytaeoiofdbjfdlaa.PFnExactNewDesk
