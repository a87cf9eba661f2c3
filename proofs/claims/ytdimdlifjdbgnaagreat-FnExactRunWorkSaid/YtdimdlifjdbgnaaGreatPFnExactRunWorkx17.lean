import Derived.Test.YtdimdlifjdbgnaaGreatPFnExactRunWorkx16
namespace Go.Proofs.YtdimdlifjdbgnaaGreat.PFnExactRunWork
open Go.RowKit Go.Proofs.YtdimdlifjdbgnaaGreatW.PrintWords Go.Proofs.YtdimdlifjdbgnaaGreatW.PrintLast Go.Proofs.YtdimdlifjdbgnaaGreatW.PrintMore Go.Proofs.YtdimdlifjdbgnaaGreat.Sq
attribute [local go_sem] max2_int min2_int max_two min_two max_three min_three max_four min_four
set_option linter.unusedVariables false
set_option linter.unusedSimpArgs false

/-! ### laws_eqBoolS: function 11 -/
def laws_eqBoolS.l0 : Nat → List Bool → List Bool → Int → Option (Bool)
 | 0, _, _, _ => none
 | k + 1, x0, x1, x5 => if x5 < (x0.length : Int) then (if 0 ≤ x5 then (if x5 < (x1.length : Int) then (if ((rdOf false x0 x5) != (rdOf false x1 x5)) = true then (some false) else (laws_eqBoolS.l0 k x0 x1 (wrap64 (x5 + 1)))) else (none)) else (none)) else (some true)
def laws_eqBoolS.f (k : Nat) (l0 : List Bool) (l1 : List Bool) : Option (Bool) := if (l0.length : Int) = (l1.length : Int) then (laws_eqBoolS.l0 k l0 l1 0) else (some false)
set_option maxHeartbeats 8000000 in
set_option maxRecDepth 100000 in
theorem laws_eqBoolS.calls (k : Nat) (A0 : Option Addr) (c0 : Nat) (l0 : List Bool) (A1 : Option Addr) (c1 : Nat) (l1 : List Bool) (r : Bool) (w : World) (hr0 : Kd.C Kd.bool w A0 l0.length l0) (hc0 : l0.length ≤ c0) (hr1 : Kd.C Kd.bool w A1 l1.length l1) (hc1 : l1.length ≤ c1) (h : laws_eqBoolS.f k l0 l1 = some r) :
  Calls Tryz.prog 11 #[.slice A0 l0.length c0, .slice A1 l1.length c1] w fun e w' => e = .returned (.bool r) ∧ Drawn0 w w' := by
 have HR0 := Aside0.mk hr0
 have HC0 := Aside0.mk hc0
 clear hr0 hc0
 have HR1 := Aside0.mk hr1
 have HC1 := Aside0.mk hc1
 clear hr1 hc1
 have H : (if (l0.length : Int) = (l1.length : Int) then (laws_eqBoolS.l0 k l0 l1 0) else (some false)) = some r := h
 clear h
 by_cases c3 : (l0.length : Int) = (l1.length : Int)
 ·
  rw [if_pos c3] at H
  have c3b0 : ((l0.length : Int) == (l1.length : Int)) = true := beq_iff_eq.mpr c3
  have c3b1 : ((l0.length : Int) != (l1.length : Int)) = false := bne_eq_false_iff_eq.mpr c3
  have c3b2 : (l0.length == l1.length) = true := by first | simpa using c3 | (simp at c3 ⊢; omega)
  clear c3
  have H' := Aside0.mk H
  clear H
  go_enter Tryz.func11, Tryz.ntmps11
  go_wp2
  repeat (go_quiet (fail); try go_wp2)
  go_loopg [5] k (fun kq v5 w' => ∃ (x5_1 : Int), v5 = .int .i64 x5_1 ∧ Aside0 (laws_eqBoolS.l0 kq l0 l1 x5_1 = some r) ∧ Aside0 (kq ≤ k) ∧ Drawn0 w w')
  case atStart => exact ⟨(0), (by first | rfl | (simp; done) | (simp [*]; done)), H', ⟨Nat.le_refl _⟩, by repeat (first | exact Drawn0.refl _ | apply Drawn0.step)⟩
  case round =>
   clear H'
   try clear c1
   try clear p2
   try clear c3
   try clear c3b0
   try clear c3b1
   try clear c3b2
   obtain ⟨x5_1, rfl, HA, HK1, ⟨m1, rfl⟩⟩ := hrel
   cases gk with
   | zero => exact absurd HA.out (by simp [laws_eqBoolS.l0])
   | succ k1 =>
    have H := HA.out
    clear HA
    simp only [laws_eqBoolS.l0] at H
    by_cases c4 : x5_1 < (l0.length : Int)
    ·
     rw [if_pos c4] at H
     have c4b0 : decide (x5_1 < (l0.length : Int)) = true := decide_eq_true c4
     clear c4
     by_cases c5 : 0 ≤ x5_1
     ·
      rw [if_pos c5] at H
      have c5b0 : decide (0 ≤ x5_1) = true := decide_eq_true c5
      clear c5
      by_cases c6 : x5_1 < (l1.length : Int)
      ·
       rw [if_pos c6] at H
       have c6b0 : decide (x5_1 < (l1.length : Int)) = true := decide_eq_true c6
       clear c6
       by_cases c7 : ((rdOf false l0 x5_1) != (rdOf false l1 x5_1)) = true
       ·
        rw [if_pos c7] at H
        have c7b0 : ((rdOf false l0 x5_1) != (rdOf false l1 x5_1)) = true := c7
        (try (have c7b1 : decide ((rdOf false l0 x5_1) = (rdOf false l1 x5_1)) = false := by simpa using c7))
        (try (have c7b2 : ((rdOf false l0 x5_1) == (rdOf false l1 x5_1)) = false := by simpa using c7))
        (try (have c7b3 : ¬ ((rdOf false l0 x5_1) = (rdOf false l1 x5_1)) := by simpa using c7))
        clear c7
        obtain rfl := Option.some.inj H
        have p349 : 0 ≤ (x5_1 : Int) := of_decide_eq_true (by first | (with_reducible assumption) | assumption)
        have q349 : x5_1 < (l0.length : Int) := of_decide_eq_true (by first | (with_reducible assumption) | assumption)
        obtain ⟨ad349, e349, hx349_0⟩ := Kd.at_bool HR0.out x5_1 p349 q349
        cases e349
        replace p349 := eq_true p349
        replace q349 := eq_true q349
        have p350 : 0 ≤ (x5_1 : Int) := of_decide_eq_true (by first | (with_reducible assumption) | assumption)
        have q350 : x5_1 < (l1.length : Int) := of_decide_eq_true (by first | (with_reducible assumption) | assumption)
        obtain ⟨ad350, e350, hx350_0⟩ := Kd.at_bool HR1.out x5_1 p350 q350
        cases e350
        replace p350 := eq_true p350
        replace q350 := eq_true q350
        go_wp2
        repeat (go_quiet (fail); try go_wp2)
        go_ret
        exact ⟨by first | rfl | (simp; done) | (simp [*]; done), by repeat (first | exact Drawn0.refl _ | apply Drawn0.step)⟩
       ·
        rw [if_neg c7] at H
        have c7b0 : ((rdOf false l0 x5_1) != (rdOf false l1 x5_1)) = false := by simpa using c7
        (try (have c7b1 : decide ((rdOf false l0 x5_1) = (rdOf false l1 x5_1)) = true := by simpa using c7))
        (try (have c7b2 : ((rdOf false l0 x5_1) == (rdOf false l1 x5_1)) = true := by simpa using c7))
        clear c7
        have H' := Aside0.mk H
        clear H
        have p349 : 0 ≤ (x5_1 : Int) := of_decide_eq_true (by first | (with_reducible assumption) | assumption)
        have q349 : x5_1 < (l0.length : Int) := of_decide_eq_true (by first | (with_reducible assumption) | assumption)
        obtain ⟨ad349, e349, hx349_0⟩ := Kd.at_bool HR0.out x5_1 p349 q349
        cases e349
        replace p349 := eq_true p349
        replace q349 := eq_true q349
        have p350 : 0 ≤ (x5_1 : Int) := of_decide_eq_true (by first | (with_reducible assumption) | assumption)
        have q350 : x5_1 < (l1.length : Int) := of_decide_eq_true (by first | (with_reducible assumption) | assumption)
        obtain ⟨ad350, e350, hx350_0⟩ := Kd.at_bool HR1.out x5_1 p350 q350
        cases e350
        replace p350 := eq_true p350
        replace q350 := eq_true q350
        go_wp2
        repeat (go_quiet (fail); try go_wp2)
        go_roundg k1
        case measure => have := HK1.out; omega
        case rel => exact ⟨(wrap64 (x5_1 + 1)), (by first | rfl | (simp; done) | (simp [*]; done)), H', ⟨by have := HK1.out; omega⟩, by repeat (first | exact Drawn0.refl _ | apply Drawn0.step)⟩
      ·
       rw [if_neg c6] at H
       exact absurd H (by simp)
     ·
      rw [if_neg c5] at H
      exact absurd H (by simp)
    ·
     rw [if_neg c4] at H
     have c4b0 : decide (x5_1 < (l0.length : Int)) = false := decide_eq_false c4
     clear c4
     obtain rfl := Option.some.inj H
     go_wp2
     repeat (go_quiet (fail); try go_wp2)
     go_ret
     exact ⟨by first | rfl | (simp; done) | (simp [*]; done), by repeat (first | exact Drawn0.refl _ | apply Drawn0.step)⟩
 ·
  rw [if_neg c3] at H
  have c3b0 : ((l0.length : Int) == (l1.length : Int)) = false := beq_eq_false_iff_ne.mpr c3
  have c3b1 : ((l0.length : Int) != (l1.length : Int)) = true := bne_iff_ne.mpr c3
  have c3b2 : (l0.length == l1.length) = false := by first | simpa using c3 | (simp at c3 ⊢; omega)
  obtain rfl := Option.some.inj H
  go_enter Tryz.func11, Tryz.ntmps11
  go_wp2
  repeat (go_quiet (fail); try go_wp2)
  go_ret
  exact ⟨by first | rfl | (simp; done) | (simp [*]; done), by repeat (first | exact Drawn0.refl _ | apply Drawn0.step)⟩

/-! ### laws_eqDeed19: function 35 -/
def laws_eqDeed19.f (a0_0 : Int) (a0_1 : ByteArray) (a0_2 : Int) (a0_3 : Int) (a1_0 : Int) (a1_1 : ByteArray) (a1_2 : Int) (a1_3 : Int) : Option (Bool) := if a0_0 = a1_0 then (if a0_1.toList = a1_1.toList then (if a0_2 = a1_2 then (if a0_3 = a1_3 then (some true) else (some false)) else (some false)) else (some false)) else (some false)
set_option maxHeartbeats 8000000 in
set_option maxRecDepth 100000 in
theorem laws_eqDeed19.calls (a0_0 : Int) (a0_1 : ByteArray) (a0_2 : Int) (a0_3 : Int) (a1_0 : Int) (a1_1 : ByteArray) (a1_2 : Int) (a1_3 : Int) (r : Bool) (w : World) (h : laws_eqDeed19.f a0_0 a0_1 a0_2 a0_3 a1_0 a1_1 a1_2 a1_3 = some r) :
  Calls Tryz.prog 35 #[.agg #[.int .i64 a0_0, .string a0_1, .int .i64 a0_2, .int .i64 a0_3], .agg #[.int .i64 a1_0, .string a1_1, .int .i64 a1_2, .int .i64 a1_3]] w fun e w' => e = .returned (.bool r) ∧ Below w.heap.size w w' := by
 have hu60 := Tryz.underlying60
 have HB := Aside0.mk (Below.refl w.heap.size w)
 have H : (if a0_0 = a1_0 then (if a0_1.toList = a1_1.toList then (if a0_2 = a1_2 then (if a0_3 = a1_3 then (some true) else (some false)) else (some false)) else (some false)) else (some false)) = some r := h
 clear h
 have HC3 := Aside0.mk H
 clear H
 go_enter Tryz.func35, Tryz.ntmps35
 go_upto_if 9 with (first | ((with_reducible refine gate_dst (N := 2) rfl ?_); refine box_event ?hg (N := 2) ?hd (cs := #[.int .i64 a0_0, .string a0_1, .int .i64 a0_2, .int .i64 a0_3]) (t := 60) ?hr ?_; (case hd => rfl); (case hg => rfl); (case hr => first | (go_simp; done) | (go_simp; rfl)); intro gb351 hg w4 hbox hb; have BK351 := Aside0.mk (hbox); have GW351 := Aside0.mk ((by rw [hg]; exact (below_size (bl HB.out)) : w.heap.size ≤ gb351)); have GE351 := GW351; replace HB := Aside0.mk (below_step (bl HB.out) hb); clear hb hbox hg) | ((with_reducible refine gate_dst (N := 3) rfl ?_); refine box_event ?hg (N := 3) ?hd (cs := #[.int .i64 a1_0, .string a1_1, .int .i64 a1_2, .int .i64 a1_3]) (t := 60) ?hr ?_; (case hd => rfl); (case hg => rfl); (case hr => first | (go_simp; done) | (go_simp; rfl)); intro gb352 hg w5 hbox hb; have BK352 := Aside0.mk (hbox); have GW352 := Aside0.mk ((by rw [hg]; exact (below_size (by repeat with_reducible first | exact bl HB.out | refine below_set ?_ GE351.out | refine bq ?_)) : w.heap.size ≤ gb352)); have GE352 := GW352; replace HB := Aside0.mk (below_step (by repeat with_reducible first | exact bl HB.out | refine below_set ?_ GE351.out | refine bq ?_) hb); have NB351_352 := nb_ hg BK351.out; have NB352_351 := Aside0.mk NB351_352.out.symm; replace BK351 := Aside0.mk (blk_below (bk BK351.out) hb); clear hb hbox hg; have hnb6 := NB351_352.out; have hnc6 := NB352_351.out; obtain ⟨hcz7_0, hcz7_1, hcz7_2, hcz7_3⟩ := ck4 BK351.out; obtain ⟨hfz7_0, hfz7_1, hfz7_2, hfz7_3⟩ := fz4 BK351.out; obtain ⟨hcz8_0, hcz8_1, hcz8_2, hcz8_3⟩ := ck4 BK352.out; obtain ⟨hfz8_0, hfz8_1, hfz8_2, hfz8_3⟩ := fz4 BK352.out))
 have H := HC3.out
 clear HC3
 by_cases c9 : a0_0 = a1_0
 ·
  rw [if_pos c9] at H
  have c9b0 : (a0_0 == a1_0) = true := beq_iff_eq.mpr c9
  have c9b1 : (a0_0 != a1_0) = false := bne_eq_false_iff_eq.mpr c9
  clear c9
  (first | rw [c9b0] | (simp only [i64_w, i32_w]; rw [c9b0]) | skip)
  by_cases c10 : a0_1.toList = a1_1.toList
  ·
   rw [if_pos c10] at H
   have c10b0 : (a0_1.toList == a1_1.toList) = true := beq_iff_eq.mpr c10
   have c10b1 : (a0_1.toList != a1_1.toList) = false := bne_eq_false_iff_eq.mpr c10
   clear c10
   by_cases c11 : a0_2 = a1_2
   ·
    rw [if_pos c11] at H
    have c11b0 : (a0_2 == a1_2) = true := beq_iff_eq.mpr c11
    have c11b1 : (a0_2 != a1_2) = false := bne_eq_false_iff_eq.mpr c11
    clear c11
    by_cases c12 : a0_3 = a1_3
    ·
     rw [if_pos c12] at H
     have c12b0 : (a0_3 == a1_3) = true := beq_iff_eq.mpr c12
     have c12b1 : (a0_3 != a1_3) = false := bne_eq_false_iff_eq.mpr c12
     clear c12
     obtain rfl := Option.some.inj H
     have hnb13 := NB351_352.out
     have hnc13 := NB352_351.out
     obtain ⟨hcz14_0, hcz14_1, hcz14_2, hcz14_3⟩ := ck4 BK351.out
     obtain ⟨hfz14_0, hfz14_1, hfz14_2, hfz14_3⟩ := fz4 BK351.out
     obtain ⟨hcz15_0, hcz15_1, hcz15_2, hcz15_3⟩ := ck4 BK352.out
     obtain ⟨hfz15_0, hfz15_1, hfz15_2, hfz15_3⟩ := fz4 BK352.out
     go_wp2
     go_ret
     exact ⟨by first | rfl | (simp [errW_none, errW_some] <;> rfl) | (simp [*, errW_none, errW_some] <;> rfl), by repeat with_reducible first | exact bl HB.out | refine below_set ?_ GE351.out | refine below_set ?_ GE352.out | refine bq ?_⟩
    ·
     rw [if_neg c12] at H
     have c12b0 : (a0_3 == a1_3) = false := beq_eq_false_iff_ne.mpr c12
     have c12b1 : (a0_3 != a1_3) = true := bne_iff_ne.mpr c12
     obtain rfl := Option.some.inj H
     have hnb16 := NB351_352.out
     have hnc16 := NB352_351.out
     obtain ⟨hcz17_0, hcz17_1, hcz17_2, hcz17_3⟩ := ck4 BK351.out
     obtain ⟨hfz17_0, hfz17_1, hfz17_2, hfz17_3⟩ := fz4 BK351.out
     obtain ⟨hcz18_0, hcz18_1, hcz18_2, hcz18_3⟩ := ck4 BK352.out
     obtain ⟨hfz18_0, hfz18_1, hfz18_2, hfz18_3⟩ := fz4 BK352.out
     go_wp2
     go_ret
     exact ⟨by first | rfl | (simp [errW_none, errW_some] <;> rfl) | (simp [*, errW_none, errW_some] <;> rfl), by repeat with_reducible first | exact bl HB.out | refine below_set ?_ GE351.out | refine below_set ?_ GE352.out | refine bq ?_⟩
   ·
    rw [if_neg c11] at H
    have c11b0 : (a0_2 == a1_2) = false := beq_eq_false_iff_ne.mpr c11
    have c11b1 : (a0_2 != a1_2) = true := bne_iff_ne.mpr c11
    obtain rfl := Option.some.inj H
    have hnb19 := NB351_352.out
    have hnc19 := NB352_351.out
    obtain ⟨hcz20_0, hcz20_1, hcz20_2, hcz20_3⟩ := ck4 BK351.out
    obtain ⟨hfz20_0, hfz20_1, hfz20_2, hfz20_3⟩ := fz4 BK351.out
    obtain ⟨hcz21_0, hcz21_1, hcz21_2, hcz21_3⟩ := ck4 BK352.out
    obtain ⟨hfz21_0, hfz21_1, hfz21_2, hfz21_3⟩ := fz4 BK352.out
    go_wp2
    go_ret
    exact ⟨by first | rfl | (simp [errW_none, errW_some] <;> rfl) | (simp [*, errW_none, errW_some] <;> rfl), by repeat with_reducible first | exact bl HB.out | refine below_set ?_ GE351.out | refine below_set ?_ GE352.out | refine bq ?_⟩
  ·
   rw [if_neg c10] at H
   have c10b0 : (a0_1.toList == a1_1.toList) = false := beq_eq_false_iff_ne.mpr c10
   have c10b1 : (a0_1.toList != a1_1.toList) = true := bne_iff_ne.mpr c10
   obtain rfl := Option.some.inj H
   have hnb22 := NB351_352.out
   have hnc22 := NB352_351.out
   obtain ⟨hcz23_0, hcz23_1, hcz23_2, hcz23_3⟩ := ck4 BK351.out
   obtain ⟨hfz23_0, hfz23_1, hfz23_2, hfz23_3⟩ := fz4 BK351.out
   obtain ⟨hcz24_0, hcz24_1, hcz24_2, hcz24_3⟩ := ck4 BK352.out
   obtain ⟨hfz24_0, hfz24_1, hfz24_2, hfz24_3⟩ := fz4 BK352.out
   go_wp2
   go_ret
   exact ⟨by first | rfl | (simp [errW_none, errW_some] <;> rfl) | (simp [*, errW_none, errW_some] <;> rfl), by repeat with_reducible first | exact bl HB.out | refine below_set ?_ GE351.out | refine below_set ?_ GE352.out | refine bq ?_⟩
 ·
  rw [if_neg c9] at H
  have c9b0 : (a0_0 == a1_0) = false := beq_eq_false_iff_ne.mpr c9
  have c9b1 : (a0_0 != a1_0) = true := bne_iff_ne.mpr c9
  (first | rw [c9b0] | (simp only [i64_w, i32_w]; rw [c9b0]) | skip)
  obtain rfl := Option.some.inj H
  go_wp2
  go_ret
  exact ⟨by first | rfl | (simp [errW_none, errW_some] <;> rfl) | (simp [*, errW_none, errW_some] <;> rfl), by repeat with_reducible first | exact bl HB.out | refine below_set ?_ GE351.out | refine below_set ?_ GE352.out | refine bq ?_⟩

/-! ### laws_eqDeed19S: function 12 -/
def laws_eqDeed19S.l0 : Nat → List (S60) → List (S60) → Int → Option (Bool)
 | 0, _, _, _ => none
 | k + 1, x0, x1, x5 => if x5 < (x0.length : Int) then (if 0 ≤ x5 then (if x5 < (x1.length : Int) then ((laws_eqDeed19.f ((rd_T60 x0 x5).f0) ((rd_T60 x0 x5).f1) ((rd_T60 x0 x5).f2) ((rd_T60 x0 x5).f3) ((rd_T60 x1 x5).f0) ((rd_T60 x1 x5).f1) ((rd_T60 x1 x5).f2) ((rd_T60 x1 x5).f3)).bind fun t355 => (if t355 = true then (laws_eqDeed19S.l0 k x0 x1 (wrap64 (x5 + 1))) else (some false))) else (none)) else (none)) else (some true)
def laws_eqDeed19S.f (k : Nat) (l0 : List (S60)) (l1 : List (S60)) : Option (Bool) := if (l0.length : Int) = (l1.length : Int) then (laws_eqDeed19S.l0 k l0 l1 0) else (some false)
def laws_eqDeed19S.T6 : Bool × List (List Nat × List Nat) := (true, [([], []), ([], []), ([0, 1], [0, 1]), ([2], [2]), ([], []), ([], []), ([4, 5], [4, 5]), ([6], [6]), ([3, 7], [3, 7]), ([8], [8])])
def laws_eqDeed19S.B6 : List Nat := [0, 0, 3, 7, 0, 0, 48, 112, 255, 511]
theorem laws_eqDeed19S.tab6 : rtab .any (opsOf Tryz.f12 6) = laws_eqDeed19S.T6 := by kernel_rfl
theorem laws_eqDeed19S.bits6 : waitsOk laws_eqDeed19S.T6.2 laws_eqDeed19S.B6 = true := by kernel_rfl
set_option maxHeartbeats 8000000 in
set_option maxRecDepth 100000 in
theorem laws_eqDeed19S.calls (k : Nat) (A0 : Option Addr) (c0 : Nat) (l0 : List (S60)) (A1 : Option Addr) (c1 : Nat) (l1 : List (S60)) (r : Bool) (w : World) (hr0 : Kd.C k60 w A0 l0.length l0) (hc0 : l0.length ≤ c0) (hr1 : Kd.C k60 w A1 l1.length l1) (hc1 : l1.length ≤ c1) (h : laws_eqDeed19S.f k l0 l1 = some r) :
  Calls Tryz.prog 12 #[.slice A0 l0.length c0, .slice A1 l1.length c1] w fun e w' => e = .returned (.bool r) ∧ Below w.heap.size w w' := by
 have hu60 := Tryz.underlying60
 have HR0 := Aside0.mk hr0
 have HC0 := Aside0.mk hc0
 clear hr0 hc0
 have HR1 := Aside0.mk hr1
 have HC1 := Aside0.mk hc1
 clear hr1 hc1
 have HB := Aside0.mk (Below.refl w.heap.size w)
 have H : (if (l0.length : Int) = (l1.length : Int) then (laws_eqDeed19S.l0 k l0 l1 0) else (some false)) = some r := h
 clear h
 by_cases c3 : (l0.length : Int) = (l1.length : Int)
 ·
  rw [if_pos c3] at H
  have c3b0 : ((l0.length : Int) == (l1.length : Int)) = true := beq_iff_eq.mpr c3
  have c3b1 : ((l0.length : Int) != (l1.length : Int)) = false := bne_eq_false_iff_eq.mpr c3
  have c3b2 : (l0.length == l1.length) = true := by first | simpa using c3 | (simp at c3 ⊢; omega)
  clear c3
  have H' := Aside0.mk H
  clear H
  go_enter Tryz.func12, Tryz.ntmps12
  go_wp2
  go_loopg [5] k (fun kq v5 w' => ∃ (x5_1 : Int), v5 = .int .i64 x5_1 ∧ Aside0 (laws_eqDeed19S.l0 kq l0 l1 x5_1 = some r) ∧ Aside0 (kq ≤ k) ∧ Aside0 (Below w.heap.size w w'))
  case atStart => exact ⟨(0), (by first | rfl | (simp; done) | (simp [*]; done)), H', ⟨Nat.le_refl _⟩, ⟨bl HB.out⟩⟩
  case round =>
   clear H'
   try clear c1
   try clear p2
   try clear c3
   try clear c3b0
   try clear c3b1
   try clear c3b2
   obtain ⟨x5_1, rfl, HA, HK1, HB⟩ := hrel
   cases gk with
   | zero => exact absurd HA.out (by simp [laws_eqDeed19S.l0])
   | succ k1 =>
    have H := HA.out
    clear HA
    simp only [laws_eqDeed19S.l0] at H
    by_cases c4 : x5_1 < (l0.length : Int)
    ·
     rw [if_pos c4] at H
     have c4b0 : decide (x5_1 < (l0.length : Int)) = true := decide_eq_true c4
     clear c4
     by_cases c5 : 0 ≤ x5_1
     ·
      rw [if_pos c5] at H
      have c5b0 : decide (0 ≤ x5_1) = true := decide_eq_true c5
      clear c5
      by_cases c6 : x5_1 < (l1.length : Int)
      ·
       rw [if_pos c6] at H
       have c6b0 : decide (x5_1 < (l1.length : Int)) = true := decide_eq_true c6
       clear c6
       replace H := Option.bind_eq_some_iff.mp H
       obtain ⟨t355, A70, H⟩ := H
       replace H : (if t355 = true then (laws_eqDeed19S.l0 k1 l0 l1 (wrap64 (x5_1 + 1))) else (some false)) = some r := H
       have A7 := Aside0.mk A70
       clear A70
       have HC8 := Aside0.mk H
       clear H
       try go_wp2
       have n0_ := Aside0.mk (below_drew1 HB.out)
       clear HB
       have HB := n0_
       clear n0_
       have p353 : 0 ≤ (x5_1 : Int) := of_decide_eq_true (by first | (with_reducible assumption) | assumption)
       have q353 : x5_1 < (l0.length : Int) := of_decide_eq_true (by first | (with_reducible assumption) | assumption)
       obtain ⟨ad353, e353, hx353_0, hx353_1, hx353_2, hx353_3⟩ := at_T60 HR0.out x5_1 p353 q353
       have hw353_3 := hx353_3
       have hw353_2 := hx353_2
       have hw353_1 := hx353_1
       have hw353_0 := hx353_0
       cases e353
       replace hx353_0 := bc HB.out hx353_0
       replace hx353_1 := bc HB.out hx353_1
       replace hx353_2 := bc HB.out hx353_2
       replace hx353_3 := bc HB.out hx353_3
       replace p353 := eq_true p353
       replace q353 := eq_true q353
       have p354 : 0 ≤ (x5_1 : Int) := of_decide_eq_true (by first | (with_reducible assumption) | assumption)
       have q354 : x5_1 < (l1.length : Int) := of_decide_eq_true (by first | (with_reducible assumption) | assumption)
       obtain ⟨ad354, e354, hx354_0, hx354_1, hx354_2, hx354_3⟩ := at_T60 HR1.out x5_1 p354 q354
       have hw354_3 := hx354_3
       have hw354_2 := hx354_2
       have hw354_1 := hx354_1
       have hw354_0 := hx354_0
       cases e354
       replace hx354_0 := bc HB.out hx354_0
       replace hx354_1 := bc HB.out hx354_1
       replace hx354_2 := bc HB.out hx354_2
       replace hx354_3 := bc HB.out hx354_3
       replace p354 := eq_true p354
       replace q354 := eq_true q354
       refine start_ (n := 10) (S := fun w' => w'.cell? (ad353.add ((x5_1).toNat * 4)) = some (.int .i64 ((rd_T60 l0 x5_1).f0)) ∧ w'.cell? ⟨(ad353.add ((x5_1).toNat * 4)).block, (ad353.add ((x5_1).toNat * 4)).off + 1, none⟩ = some (.string ((rd_T60 l0 x5_1).f1)) ∧ w'.cell? ⟨(ad353.add ((x5_1).toNat * 4)).block, (ad353.add ((x5_1).toNat * 4)).off + 2, none⟩ = some (.int .i64 ((rd_T60 l0 x5_1).f2)) ∧ w'.cell? ⟨(ad353.add ((x5_1).toNat * 4)).block, (ad353.add ((x5_1).toNat * 4)).off + 3, none⟩ = some (.int .i64 ((rd_T60 l0 x5_1).f3)) ∧ w'.cell? (ad354.add ((x5_1).toNat * 4)) = some (.int .i64 ((rd_T60 l1 x5_1).f0)) ∧ w'.cell? ⟨(ad354.add ((x5_1).toNat * 4)).block, (ad354.add ((x5_1).toNat * 4)).off + 1, none⟩ = some (.string ((rd_T60 l1 x5_1).f1)) ∧ w'.cell? ⟨(ad354.add ((x5_1).toNat * 4)).block, (ad354.add ((x5_1).toNat * 4)).off + 2, none⟩ = some (.int .i64 ((rd_T60 l1 x5_1).f2)) ∧ w'.cell? ⟨(ad354.add ((x5_1).toNat * 4)).block, (ad354.add ((x5_1).toNat * 4)).off + 3, none⟩ = some (.int .i64 ((rd_T60 l1 x5_1).f3))) (ds := []) m0_10 (by kernel_rfl) rfl rfl ⟨((HB.out.cell (World.block_lt_of_cell? w _ hw353_0)).trans hw353_0), ((HB.out.cell (World.block_lt_of_cell? w _ hw353_1)).trans hw353_1), ((HB.out.cell (World.block_lt_of_cell? w _ hw353_2)).trans hw353_2), ((HB.out.cell (World.block_lt_of_cell? w _ hw353_3)).trans hw353_3), ((HB.out.cell (World.block_lt_of_cell? w _ hw354_0)).trans hw354_0), ((HB.out.cell (World.block_lt_of_cell? w _ hw354_1)).trans hw354_1), ((HB.out.cell (World.block_lt_of_cell? w _ hw354_2)).trans hw354_2), ((HB.out.cell (World.block_lt_of_cell? w _ hw354_3)).trans hw354_3)⟩ (fun hHeld => ?_); refine with_tabW laws_eqDeed19S.tab6 laws_eqDeed19S.bits6 (fun HT_ HW_ => ?_)
       generalize wr.drew = w9 at HB hx353_0 hx353_1 hx353_2 hx353_3 hx354_0 hx354_1 hx354_2 hx354_3 hHeld ⊢
       refine pq_ HT_.out 0 17 m1_10 ?_
       refine pq_ HT_.out 1 18 m2_10 ?_
       refine pq_ HT_.out 2 19 m3_10 ?_
       refine pq_ HT_.out 4 21 n70 ?_
       refine pq_ HT_.out 5 22 n71 ?_
       refine pq_ HT_.out 6 23 n72 ?_
       refine tk_ HT_.out HW_.out 3 20 m7_10 rfl rfl (by kernel_rfl) (by rfl) (by rintro w' ⟨s0, s1, s2, s3, s4, s5, s6, s7⟩; go_simp; with_reducible rfl) hHeld (by simp only [sp_]; rfl) (fun _ _ _ h => h) ?_
       refine tk_ HT_.out HW_.out 7 24 m8_10 rfl rfl (by kernel_rfl) (by rfl) (by rintro w' ⟨s0, s1, s2, s3, s4, s5, s6, s7⟩; go_simp; with_reducible rfl) hHeld (by simp only [sp_]; rfl) (fun _ _ _ h => h) ?_
       refine one_ (i := 8) (N := some 25) m9_10 rfl rfl (one_of HT_.out (by kernel_rfl)) (by decide) (fun K hK => ?_)
       refine goes_ Tryz.func35 (by kernel_rfl) rfl #[.agg #[.int .i64 ((rd_T60 l0 x5_1).f0), .string ((rd_T60 l0 x5_1).f1), .int .i64 ((rd_T60 l0 x5_1).f2), .int .i64 ((rd_T60 l0 x5_1).f3)], .agg #[.int .i64 ((rd_T60 l1 x5_1).f0), .string ((rd_T60 l1 x5_1).f1), .int .i64 ((rd_T60 l1 x5_1).f2), .int .i64 ((rd_T60 l1 x5_1).f3)]] (by rfl) rfl rfl (by (try simp only [am_]); first | done | rfl) ?_
       with_reducible refine (laws_eqDeed19.calls ((rd_T60 l0 x5_1).f0) ((rd_T60 l0 x5_1).f1) ((rd_T60 l0 x5_1).f2) ((rd_T60 l0 x5_1).f3) ((rd_T60 l1 x5_1).f0) ((rd_T60 l1 x5_1).f1) ((rd_T60 l1 x5_1).f2) ((rd_T60 l1 x5_1).f3) t355 _ A7.out).mono ?_
       rintro e w10 ⟨rfl, hb⟩
       refine ⟨_, rfl, ?_⟩
       have n0_ := Aside0.mk (below_step (bl HB.out) hb)
       clear HB
       have HB := n0_
       clear n0_
       (try clear hb)
       (try clear hb2)
       (try clear hk)
       (try clear hi)
       refine hK.out _ _ ⟨((HB.out.cell (World.block_lt_of_cell? w _ hw353_0)).trans hw353_0), ((HB.out.cell (World.block_lt_of_cell? w _ hw353_1)).trans hw353_1), ((HB.out.cell (World.block_lt_of_cell? w _ hw353_2)).trans hw353_2), ((HB.out.cell (World.block_lt_of_cell? w _ hw353_3)).trans hw353_3), ((HB.out.cell (World.block_lt_of_cell? w _ hw354_0)).trans hw354_0), ((HB.out.cell (World.block_lt_of_cell? w _ hw354_1)).trans hw354_1), ((HB.out.cell (World.block_lt_of_cell? w _ hw354_2)).trans hw354_2), ((HB.out.cell (World.block_lt_of_cell? w _ hw354_3)).trans hw354_3)⟩ (fun hHeld => ?_)
       clear hK K
       refine norm_ (a' := ?_) ?_ ?_
       rotate_left
       ·
        show Act.put _ (some 25) _ = _
        simp only [sp_]
        rfl
       refine pq_ HT_.out 9 26 m10_10 ?_
       refine done_ (done_of HT_.out (by kernel_rfl)) ?_
       go_upto_if 26 with (fail)
       have H := HC8.out
       clear HC8
       by_cases c11 : t355 = true
       ·
        subst c11
        have H1 : (laws_eqDeed19S.l0 k1 l0 l1 (wrap64 (x5_1 + 1))) = some r := by rw [if_pos rfl] at H; exact H
        clear H
        have H := H1
        clear H1
        have H' := Aside0.mk H
        clear H
        go_wp2
        go_roundg k1
        case measure => have := HK1.out; omega
        case rel => exact ⟨(wrap64 (x5_1 + 1)), (by first | rfl | (simp; done) | (simp [*]; done)), H', ⟨by have := HK1.out; omega⟩, ⟨bl HB.out⟩⟩
       ·
        replace c11 := Bool.eq_false_iff.mpr c11
        subst c11
        have H1 : (some false) = some r := by rw [if_neg (show ¬ (false = true) by decide)] at H; exact H
        clear H
        have H := H1
        clear H1
        obtain rfl := Option.some.inj H
        go_wp2
        go_ret
        exact ⟨by first | rfl | (simp [errW_none, errW_some] <;> rfl) | (simp [*, errW_none, errW_some] <;> rfl), bl HB.out⟩
      ·
       rw [if_neg c6] at H
       exact absurd H (by simp)
     ·
      rw [if_neg c5] at H
      exact absurd H (by simp)
    ·
     rw [if_neg c4] at H
     have c4b0 : decide (x5_1 < (l0.length : Int)) = false := decide_eq_false c4
     clear c4
     obtain rfl := Option.some.inj H
     go_wp2
     go_ret
     exact ⟨by first | rfl | (simp [errW_none, errW_some] <;> rfl) | (simp [*, errW_none, errW_some] <;> rfl), bl HB.out⟩
 ·
  rw [if_neg c3] at H
  have c3b0 : ((l0.length : Int) == (l1.length : Int)) = false := beq_eq_false_iff_ne.mpr c3
  have c3b1 : ((l0.length : Int) != (l1.length : Int)) = true := bne_iff_ne.mpr c3
  have c3b2 : (l0.length == l1.length) = false := by first | simpa using c3 | (simp at c3 ⊢; omega)
  obtain rfl := Option.some.inj H
  go_enter Tryz.func12, Tryz.ntmps12
  go_wp2
  go_ret
  exact ⟨by first | rfl | (simp [errW_none, errW_some] <;> rfl) | (simp [*, errW_none, errW_some] <;> rfl), bl HB.out⟩

/-! ### laws_markText: function 39 -/
def laws_markText.l0 : Nat → Int → ByteArray → Option (ByteArray)
 | 0, _, _ => none
 | k + 1, x0, x3 => if x0 > 0 then ((some (([(wrap64 (48 + (Int.tmod x0 10))) % 256] : List Int) : List Int)).bind fun y356 => (if (strOfNums y356).size + x3.size ≤ 9223372036854775807 then (laws_markText.l0 k (wrap64 (Int.tdiv x0 10)) ((strOfNums y356) ++ x3)) else (none))) else (if 1 + x3.size ≤ 9223372036854775807 then (some ((⟨#[109]⟩ : ByteArray) ++ x3)) else (none))
def laws_markText.f (k : Nat) (a0 : Int) : Option (ByteArray) := if a0 ≤ 0 then (some (⟨#[109, 48]⟩ : ByteArray)) else (laws_markText.l0 k a0 (⟨#[]⟩ : ByteArray))
set_option maxHeartbeats 8000000 in
set_option maxRecDepth 100000 in
theorem laws_markText.calls (k : Nat) (a0 : Int) (r : ByteArray) (w : World) (h : laws_markText.f k a0 = some r) :
  Calls Tryz.prog 39 #[.int .i64 a0] w fun e w' => e = .returned (.string r) ∧ Below w.heap.size w w' := by
 have HB := Aside0.mk (Below.refl w.heap.size w)
 have H : (if a0 ≤ 0 then (some (⟨#[109, 48]⟩ : ByteArray)) else (laws_markText.l0 k a0 (⟨#[]⟩ : ByteArray))) = some r := h
 clear h
 by_cases c2 : a0 ≤ 0
 ·
  rw [if_pos c2] at H
  have c2b0 : decide (a0 ≤ 0) = true := decide_eq_true c2
  clear c2
  obtain rfl := Option.some.inj H
  go_enter Tryz.func39, Tryz.ntmps39
  go_wp2
  go_ret
  exact ⟨by first | rfl | (simp [errW_none, errW_some] <;> rfl) | (simp [*, errW_none, errW_some] <;> rfl), bl HB.out⟩
 ·
  rw [if_neg c2] at H
  have c2b0 : decide (a0 ≤ 0) = false := decide_eq_false c2
  clear c2
  have H' := Aside0.mk H
  clear H
  go_enter Tryz.func39, Tryz.ntmps39
  go_wp2
  go_loopg [0, 3] k (fun kq v0 v3 w' => ∃ (x0_1 : Int) (x3_1 : ByteArray), v0 = .int .i64 x0_1 ∧ v3 = .string x3_1 ∧ Aside0 (laws_markText.l0 kq x0_1 x3_1 = some r) ∧ Aside0 (kq ≤ k) ∧ Aside0 (Below w.heap.size w w'))
  case atStart => exact ⟨(a0), ((⟨#[]⟩ : ByteArray)), (by first | rfl | (simp; done) | (simp [*]; done)), (by first | rfl | (simp; done) | (simp [*]; done)), H', ⟨Nat.le_refl _⟩, ⟨bl HB.out⟩⟩
  case round =>
   clear H'
   try clear c2
   try clear c2b0
   try clear p2
   obtain ⟨x0_1, x3_1, rfl, rfl, HA, HK1, HB⟩ := hrel
   cases gk with
   | zero => exact absurd HA.out (by simp [laws_markText.l0])
   | succ k1 =>
    have H := HA.out
    clear HA
    simp only [laws_markText.l0] at H
    by_cases c3 : x0_1 > 0
    ·
     rw [if_pos c3] at H
     have c3b0 : decide (0 < x0_1) = true := decide_eq_true c3
     clear c3
     obtain ⟨y356, hy356⟩ : ∃ y_ : List Int, y_ = (([(wrap64 (48 + (Int.tmod x0_1 10))) % 256] : List Int)) := ⟨_, rfl⟩
     replace H : (if (strOfNums y356).size + x3_1.size ≤ 9223372036854775807 then (laws_markText.l0 k1 (wrap64 (Int.tdiv x0_1 10)) ((strOfNums y356) ++ x3_1)) else (none)) = some r := by first | (rw [hy356]; with_reducible exact H) | (have H2_ := (Option.bind_some _ _).symm.trans H; rw [hy356]; with_reducible exact H2_) | (have H2_ := (Option.bind_some _ _).symm.trans H; with_reducible exact H2_) | with_reducible exact H | (rw [hy356]; exact H) | exact H
     have Ny356 := Aside0.mk hy356
     clear hy356
     by_cases c4 : (strOfNums y356).size + x3_1.size ≤ 9223372036854775807
     ·
      rw [if_pos c4] at H
      have c4b0 := eq_true c4
      have c4b1 : decide ((strOfNums y356).size + x3_1.size ≤ 9223372036854775807) = true := decide_eq_true c4
      try have c4b2 : (9223372036854775807 < (strOfNums y356).size + x3_1.size) = False := eq_false (Nat.not_lt.2 c4)
      have H' := Aside0.mk H
      clear H
      go_wp2_with (first | ((with_reducible refine gate_dst (N := 12) rfl ?_); refine Kd.R_lit (Kd.int .u8) _ 5 ?hg (N := 12) ?hd (xs := ([(wrap64 (48 + (Int.tmod x0_1 10))) % 256] : List Int)) (inner := [.int .u8 ((wrap64 (48 + (Int.tmod x0_1 10))) % 256)]) (ok := fun _ => True) (okp := fun _ => True) ?hr ?hp (fun _ hk => hk) trivial (Below.refl _ _) (Nat.le_refl _) (by simp) ?_; (case hd => rfl); (case hg => rfl); (case hr => first | (go_simp; done) | (go_simp; rfl)); (case hp => exact (Reps.one (show Kd.M (Kd.int .u8) _ _ _ ((wrap64 (48 + (Int.tmod x0_1 10))) % 256) [.int .u8 ((wrap64 (48 + (Int.tmod x0_1 10))) % 256)] from rfl) (Reps.none _ _))); intro v357 w5 ho6 hb hg_ hnew_; clear hg_ hnew_; (first | rw [← Ny356.out] at ho6 | (simp only [Int.reduceToNat] at ho6; rw [← Ny356.out] at ho6)); have HO358 := Aside0.mk (Kd.R_lower ho6 (below_size (bl HB.out))); replace HB := Aside0.mk (below_step (bl HB.out) hb); clear hb ho6; have hcv7 := own_string (P := Tryz.prog) Tryz.underlying100 Tryz.underlying5 Tryz.underlying9 (Kd.own_of_R HO358.out)))
      go_roundg k1
      case measure => have := HK1.out; omega
      case rel => exact ⟨(wrap64 (Int.tdiv x0_1 10)), ((strOfNums y356) ++ x3_1), (by first | rfl | (simp; done) | (simp [*]; done)), (by first | rfl | (simp; done) | (simp [*]; done)), H', ⟨by have := HK1.out; omega⟩, ⟨bl HB.out⟩⟩
     ·
      rw [if_neg c4] at H
      exact absurd H (by simp)
    ·
     rw [if_neg c3] at H
     have c3b0 : decide (0 < x0_1) = false := decide_eq_false c3
     clear c3
     by_cases c8 : 1 + x3_1.size ≤ 9223372036854775807
     ·
      rw [if_pos c8] at H
      have c8b0 := eq_true c8
      have c8b1 : decide (1 + x3_1.size ≤ 9223372036854775807) = true := decide_eq_true c8
      try have c8b2 : (9223372036854775807 < 1 + x3_1.size) = False := eq_false (Nat.not_lt.2 c8)
      obtain rfl := Option.some.inj H
      go_wp2
      go_ret
      exact ⟨by first | rfl | (simp [errW_none, errW_some] <;> rfl) | (simp [*, errW_none, errW_some] <;> rfl), bl HB.out⟩
     ·
      rw [if_neg c8] at H
      exact absurd H (by simp)

-- HAND FROM
open Go.Proofs.YtdimdlifjdbgnaaGreat.Base Go.Proofs.YtdimdlifjdbgnaaGreat.Sq
/-! ### Marks (by hand) -/
def mtL : Nat → Int → ByteArray → ByteArray
  | 0, _, x => (⟨#[109]⟩ : ByteArray) ++ x
  | n + 1, v, x => if v > 0 then mtL n (v / 10) (strOfNums [(wrap64 (48 + (Int.tmod v 10))) % 256] ++ x) else (⟨#[109]⟩ : ByteArray) ++ x
def mtx (v : Int) : ByteArray := mtL 19 v ⟨#[]⟩
theorem mtL_ev : ∀ (n : Nat) (v : Int) (x : ByteArray), 0 ≤ v → v ≤ 9223372036854775807 → v < 10 ^ n → x.size + n ≤ 1000 → Ev (fun k => laws_markText.l0 k v x) (mtL n v x)
  | 0, v, x, h0, _, h1, hx => by
    refine ev_succ ?_
    simp only [laws_markText.l0, if_neg (show ¬ v > 0 by simp at h1; omega), if_pos (show 1 + x.size ≤ 9223372036854775807 by omega)]
    exact ev_now _
  | n + 1, v, x, h0, h2, h1, hx => by
    refine ev_succ ?_
    unfold mtL
    by_cases c : v > 0
    · have hd : Int.tdiv v 10 = v / 10 := Int.tdiv_eq_ediv_of_nonneg h0
      have hs : (strOfNums [(wrap64 (48 + (Int.tmod v 10))) % 256]).size = 1 := rfl
      have hp : v / 10 < 10 ^ n := by rw [Int.pow_succ] at h1; omega
      simp only [laws_markText.l0, if_pos c, Option.bind_some, hs, if_pos (show 1 + x.size ≤ 9223372036854775807 by omega), hd, w64 (n := v / 10) (by omega) (by omega)]
      exact mtL_ev n (v / 10) _ (by omega) (by omega) hp (by rw [ByteArray.size_append, hs]; omega)
    · simp only [laws_markText.l0, if_neg c, if_pos (show 1 + x.size ≤ 9223372036854775807 by omega)]
      exact ev_now _
theorem markText_ev (v : Int) (h0 : 0 < v) (h1 : v ≤ 1152921504606846976) : Ev (fun k => laws_markText.f k v) (mtx v) := by
  simp only [laws_markText.f, if_neg (show ¬ v ≤ 0 by omega)]
  exact mtL_ev 19 v ⟨#[]⟩ (by omega) (by omega) (by omega) (by decide)
/-- k, and n more (as the program adds). -/
def wk : Nat → Int → Int
  | 0, k => k
  | n + 1, k => wrap64 (wk n k + 1)
theorem wk_eq {k : Int} (h0 : 0 < k) (h1 : k ≤ 1152921504606846976) : ∀ n : Nat, n ≤ 1000 → wk n k = k + (n : Int)
  | 0, _ => by simp [wk]
  | n + 1, h => by rw [wk, wk_eq h0 h1 n (by omega), w64 (by omega) (by omega)]; omega
theorem mark_get (v : Int) (h0 : 0 < v) (h1 : v ≤ 1152921504606846976) : ∃ k, laws_markText.f k v = some (mtx v) := (markText_ev v h0 h1).rounds
theorem eMark : Ent Tryz.prog 39 := fun a w => enters_ Tryz.func39 rfl rfl a w
/-- A row that is marked: where it lies, what else is kept. -/
structure Mk {α : Type} (d : Kd α) (e : Nat) (w0 w W : World) (P : Nat → Prop) (u : Value) (xs : List α) : Prop where
  r : d.R e W w0.heap.size (fun k => P k ∨ w.heap.size ≤ k) u xs
  k : Kept w W P
  b : Below w0.heap.size w0 W
section
variable {α : Type} {d : Kd α} {w0 w W W' : World} {P : Nat → Prop} {e go n cap : Nat} {xs : List α} {x : α} {u : Value}
theorem Mk.up (h : Mk d e w0 w W P u xs) (hb : Below W.heap.size W W') : Mk d e w0 w W' P u xs := ⟨Kd.R_below h.r hb, h.k.below hb, below_step h.b hb⟩
/-- A store into the cell j of the element i. -/
theorem mst_ (en : α → List Value) (z : α) (hop : ∀ {W b P x ws}, d.M W b P x ws → ws = en x) (hmk : ∀ W b P x, d.M W b P x (en x)) {Pr : Program} {ops : Array Oper} {Q : Exit → Act → World → Prop} {rest : List Oper} {o : Oper} {a : Act}
    (i j : Nat) (v : Value) (x' : α) (H : Mk d e w0 w W P (.slice (some ⟨go, 0, none⟩) n cap) (xs.set i x)) (hi : i < xs.length) (hj : j < d.sz) (hx : en x' = (en x).set j v) (hgd : o.guard = none) (hN : o.dst = none)
    (h : ∀ w', Mk d e w0 w w' P (.slice (some ⟨go, 0, none⟩) n cap) (xs.set i x') → wpList Pr ops Q rest a w')
    (hr : (∃ old, W.cell? ⟨go, i * d.sz + j, none⟩ = some old) → W.frozen? ⟨go, i * d.sz + j, none⟩ = false → (execOp a.eval o).run Pr W = .ok .skip (W.setCell ⟨go, i * d.sz + j, none⟩ v)) : wpList Pr ops Q (o :: rest) a W := by
  have hn : n = (xs.set i x).length := (Kd.R_reads' H.r).1
  rw [List.length_set] at hn
  have hg : (xs.set i x).getD ((i : Int)).toNat z = x := by simp [List.getD_eq_getElem?_getD, hi]
  obtain ⟨c, hcl, hM, hcc, hfr⟩ := Kd.R_elem H.r z (i : Int) (by omega) (by omega)
  rw [hg] at hM
  obtain rfl := hop hM
  have hM2 : d.M W w0.heap.size (fun k => (P k ∨ w.heap.size ≤ k) ∧ k ≠ go) x' (List.take j (en x) ++ [v] ++ List.drop (j + [v].length) (en x)) := by
    have q := hmk W w0.heap.size (fun k => (P k ∨ w.heap.size ≤ k) ∧ k ≠ go) x'
    rw [hx, List.set_eq_take_append_cons_drop, if_pos (by omega)] at q
    simpa using q
  obtain ⟨h1, h2⟩ := Kd.R_seg H.r (i : Int) (by omega) (by omega) (seg := [v]) (j := j) hcl hcc (by show j + 1 ≤ d.sz; omega) hM2 (fun _ hk => hk)
  have hj2 : j < (en x).length := by omega
  refine wpList_plain hgd fun K hK => ?_
  unfold Oper.wp
  rw [hr ⟨_, hcc j _ (List.getElem?_eq_getElem hj2)⟩ (hfr j)]
  show K (a.put o.dst undef) _
  rw [hN]
  refine hK _ _ (h _ ⟨?_, H.k.of_grown h2 (fun k e_ => H.r.1 k e_), ?_⟩)
  · rw [Int.toNat_natCast, List.set_set] at h1; exact h1
  · obtain ⟨inner, ho⟩ := Kd.R_own H.r
    exact below_set H.b (own_base ho go (by simp [Value.ownBlock]))
end
/-! #### Tasks -/
def tmarks (k0 : Int) (n : Nat) : List S86 := (List.range n).map fun i : Nat => ⟨mtx (k0 + 7 * (i : Int)), wk 1 (k0 + 7 * (i : Int)), wk 2 (k0 + 7 * (i : Int)), wk 3 (k0 + 7 * (i : Int)), ⟨wk 4 (k0 + 7 * (i : Int)), wk 5 (k0 + 7 * (i : Int)), wk 6 (k0 + 7 * (i : Int))⟩⟩
theorem tmarks_length (k0 : Int) (n : Nat) : (tmarks k0 n).length = n := by simp [tmarks]
theorem tmarks_get {k0 : Int} {n i : Nat} (h : i < n) : rd_T86 (tmarks k0 n) (i : Int) = ⟨mtx (k0 + 7 * (i : Int)), wk 1 (k0 + 7 * (i : Int)), wk 2 (k0 + 7 * (i : Int)), wk 3 (k0 + 7 * (i : Int)), ⟨wk 4 (k0 + 7 * (i : Int)), wk 5 (k0 + 7 * (i : Int)), wk 6 (k0 + 7 * (i : Int))⟩⟩ := by simp [rd_T86, tmarks, List.getD_eq_getElem?_getD, h]
theorem tmarks_set {k0 : Int} {xs : List S86} {i : Nat} (h : i < xs.length) : (tmarks k0 i ++ xs.drop i).set i ⟨mtx (k0 + 7 * (i : Int)), wk 1 (k0 + 7 * (i : Int)), wk 2 (k0 + 7 * (i : Int)), wk 3 (k0 + 7 * (i : Int)), ⟨wk 4 (k0 + 7 * (i : Int)), wk 5 (k0 + 7 * (i : Int)), wk 6 (k0 + 7 * (i : Int))⟩⟩ = tmarks k0 (i + 1) ++ xs.drop (i + 1) := by
  rw [List.set_append, if_neg (by rw [tmarks_length]; omega), tmarks_length, Nat.sub_self, List.drop_eq_getElem_cons h, List.set_cons_zero]
  simp [tmarks, List.range_succ]
set_option maxHeartbeats 4000000 in
theorem tmark_t (P0 : Nat → Prop) (u : Value) (l : List S86) (k0 : Int) (w0 w : World) (hB : Below w0.heap.size w0 w) (ho : Kd.R k86 86 w w0.heap.size P0 u l) (h0 : 0 < k0) (h1 : k0 ≤ 1125899906842624) (hn : l.length ≤ 140737488355328) :
    Calls Tryz.prog 36 #[u, .int .i64 k0] w fun e w' => e = .returned (.int .i64 (k0 + 7 * (l.length : Int))) ∧ Mk k86 86 w0 w w' P0 u (tmarks k0 l.length) := by
  obtain ⟨A, c, rfl⟩ := Kd.R_slice ho
  have H := Aside0.mk (show Mk k86 86 w0 w w P0 (.slice A l.length c) l from ⟨Kd.R_mono ho fun k hk => .inl hk, Kept.refl w P0, hB⟩)
  clear hB ho
  go_enter Tryz.func36, Tryz.ntmps36
  go_wp2
  go_loopw [1, 5] (fun v1 v5 wr => ∃ i : Nat, i ≤ l.length ∧ v1 = .int .i64 (k0 + 7 * (i : Int)) ∧ v5 = .int .i64 i ∧ Aside0 (Mk k86 86 w0 w wr P0 (.slice A l.length c) (tmarks k0 i ++ l.drop i))) (fun _ v5 _ => l.length - (intOf v5).toNat)
  case atStart => exact ⟨0, Nat.zero_le _, by simp, rfl, H⟩
  case round =>
    clear H
    obtain ⟨i, hi, rfl, rfl, H⟩ := hrel
    by_cases hlt : i < l.length
    · have hl : (tmarks k0 i ++ l.drop i).length = l.length := by rw [List.length_append, tmarks_length, List.length_drop]; omega
      obtain ⟨go, cap, e0, -⟩ := Kd.R_form H.out.r (by omega)
      injection e0 with e1 e2 e3
      subst e1
      clear e2 e3
      obtain ⟨ys, hys⟩ : ∃ ys, ys = tmarks k0 i ++ l.drop i := ⟨_, rfl⟩
      rw [← hys] at H hl
      have hiy : i < ys.length := by omega
      obtain ⟨X, hX⟩ : ∃ X, X = ys[i] := ⟨_, rfl⟩
      have H := Aside0.mk (show Mk k86 86 w0 w wr P0 (.slice (some ⟨go, 0, none⟩) l.length c) (ys.set i X) from by rw [hX, List.set_getElem_self]; exact H.out)
      have HYS := Aside0.mk hys
      clear hys hX
      obtain ⟨K0, e0⟩ : ∃ K0, k0 + 7 * (i : Int) = K0 := ⟨_, rfl⟩
      obtain ⟨k, hk⟩ := mark_get (K0) (by omega) (by omega)
      have KT := Aside0.mk (fun w' => laws_markText.calls k (K0) (mtx (K0)) w' hk)
      have EK := Aside0.mk e0
      rw [e0]
      clear hk e0
      go_wp2_with (first | (go_at_call 39; (with_reducible refine (KT.out _).mono ?_); rintro e w10 ⟨rfl, hb⟩; replace H := Aside0.mk (H.out.up hb); clear hb) | ((with_reducible refine gate_store (t := 9) (p := 17) rfl ?_); refine mst_ (fun x : S86 => [.string x.f0, .int .i64 x.f1, .int .i64 x.f2, .int .i64 x.f3, .int .i64 x.f4.f0, .int .i64 x.f4.f1, .int .i64 x.f4.f2]) z86 k86_openM (fun _ _ _ x => k86_mkM _ _ _ x) i 0 (.string (mtx (K0))) ⟨mtx (K0), X.f1, X.f2, X.f3, ⟨X.f4.f0, X.f4.f1, X.f4.f2⟩⟩ H.out hiy (by decide) rfl rfl rfl ?_ ?h2; (case h2 => rintro ⟨old, hc⟩ hf; simp only [show k86.sz = 7 from rfl, Nat.add_zero, wk] at hc hf ⊢; (first | (go_simp; done) | (go_simp; rfl))); clear H; intro w10 h; have H := Aside0.mk h; clear h) | ((with_reducible refine gate_store (t := 3) (p := 24) rfl ?_); refine mst_ (fun x : S86 => [.string x.f0, .int .i64 x.f1, .int .i64 x.f2, .int .i64 x.f3, .int .i64 x.f4.f0, .int .i64 x.f4.f1, .int .i64 x.f4.f2]) z86 k86_openM (fun _ _ _ x => k86_mkM _ _ _ x) i 1 (.int .i64 (wk 1 K0)) ⟨mtx (K0), wk 1 K0, X.f2, X.f3, ⟨X.f4.f0, X.f4.f1, X.f4.f2⟩⟩ H.out hiy (by decide) rfl rfl rfl ?_ ?h2; (case h2 => rintro ⟨old, hc⟩ hf; simp only [show k86.sz = 7 from rfl, Nat.add_zero, wk] at hc hf ⊢; (first | (go_simp; done) | (go_simp; rfl))); clear H; intro w10 h; have H := Aside0.mk h; clear h) | ((with_reducible refine gate_store (t := 3) (p := 31) rfl ?_); refine mst_ (fun x : S86 => [.string x.f0, .int .i64 x.f1, .int .i64 x.f2, .int .i64 x.f3, .int .i64 x.f4.f0, .int .i64 x.f4.f1, .int .i64 x.f4.f2]) z86 k86_openM (fun _ _ _ x => k86_mkM _ _ _ x) i 2 (.int .i64 (wk 2 K0)) ⟨mtx (K0), wk 1 K0, wk 2 K0, X.f3, ⟨X.f4.f0, X.f4.f1, X.f4.f2⟩⟩ H.out hiy (by decide) rfl rfl rfl ?_ ?h2; (case h2 => rintro ⟨old, hc⟩ hf; simp only [show k86.sz = 7 from rfl, Nat.add_zero, wk] at hc hf ⊢; (first | (go_simp; done) | (go_simp; rfl))); clear H; intro w10 h; have H := Aside0.mk h; clear h) | ((with_reducible refine gate_store (t := 3) (p := 38) rfl ?_); refine mst_ (fun x : S86 => [.string x.f0, .int .i64 x.f1, .int .i64 x.f2, .int .i64 x.f3, .int .i64 x.f4.f0, .int .i64 x.f4.f1, .int .i64 x.f4.f2]) z86 k86_openM (fun _ _ _ x => k86_mkM _ _ _ x) i 3 (.int .i64 (wk 3 K0)) ⟨mtx (K0), wk 1 K0, wk 2 K0, wk 3 K0, ⟨X.f4.f0, X.f4.f1, X.f4.f2⟩⟩ H.out hiy (by decide) rfl rfl rfl ?_ ?h2; (case h2 => rintro ⟨old, hc⟩ hf; simp only [show k86.sz = 7 from rfl, Nat.add_zero, wk] at hc hf ⊢; (first | (go_simp; done) | (go_simp; rfl))); clear H; intro w10 h; have H := Aside0.mk h; clear h) | ((with_reducible refine gate_store (t := 3) (p := 46) rfl ?_); refine mst_ (fun x : S86 => [.string x.f0, .int .i64 x.f1, .int .i64 x.f2, .int .i64 x.f3, .int .i64 x.f4.f0, .int .i64 x.f4.f1, .int .i64 x.f4.f2]) z86 k86_openM (fun _ _ _ x => k86_mkM _ _ _ x) i 4 (.int .i64 (wk 4 K0)) ⟨mtx (K0), wk 1 K0, wk 2 K0, wk 3 K0, ⟨wk 4 K0, X.f4.f1, X.f4.f2⟩⟩ H.out hiy (by decide) rfl rfl rfl ?_ ?h2; (case h2 => rintro ⟨old, hc⟩ hf; simp only [show k86.sz = 7 from rfl, Nat.add_zero, wk] at hc hf ⊢; (first | (go_simp; done) | (go_simp; rfl))); clear H; intro w10 h; have H := Aside0.mk h; clear h) | ((with_reducible refine gate_store (t := 3) (p := 54) rfl ?_); refine mst_ (fun x : S86 => [.string x.f0, .int .i64 x.f1, .int .i64 x.f2, .int .i64 x.f3, .int .i64 x.f4.f0, .int .i64 x.f4.f1, .int .i64 x.f4.f2]) z86 k86_openM (fun _ _ _ x => k86_mkM _ _ _ x) i 5 (.int .i64 (wk 5 K0)) ⟨mtx (K0), wk 1 K0, wk 2 K0, wk 3 K0, ⟨wk 4 K0, wk 5 K0, X.f4.f2⟩⟩ H.out hiy (by decide) rfl rfl rfl ?_ ?h2; (case h2 => rintro ⟨old, hc⟩ hf; simp only [show k86.sz = 7 from rfl, Nat.add_zero, wk] at hc hf ⊢; (first | (go_simp; done) | (go_simp; rfl))); clear H; intro w10 h; have H := Aside0.mk h; clear h) | ((with_reducible refine gate_store (t := 3) (p := 62) rfl ?_); refine mst_ (fun x : S86 => [.string x.f0, .int .i64 x.f1, .int .i64 x.f2, .int .i64 x.f3, .int .i64 x.f4.f0, .int .i64 x.f4.f1, .int .i64 x.f4.f2]) z86 k86_openM (fun _ _ _ x => k86_mkM _ _ _ x) i 6 (.int .i64 (wk 6 K0)) ⟨mtx (K0), wk 1 K0, wk 2 K0, wk 3 K0, ⟨wk 4 K0, wk 5 K0, wk 6 K0⟩⟩ H.out hiy (by decide) rfl rfl rfl ?_ ?h2; (case h2 => rintro ⟨old, hc⟩ hf; simp only [show k86.sz = 7 from rfl, Nat.add_zero, wk] at hc hf ⊢; (first | (go_simp; done) | (go_simp; rfl))); clear H; intro w10 h; have H := Aside0.mk h; clear h))
      go_roundw
      case measure => simp [intOf]; omega
      case rel =>
        have e0 := EK.out
        have hys := HYS.out
        have he := wk_eq (k := K0) (by omega) (by omega) 7 (by decide)
        refine ⟨i + 1, by omega, (show Value.int .i64 (wk 7 K0) = Value.int .i64 _ by rw [he]; congr 1; omega), by go_num, ⟨?_⟩⟩
        have h := H.out
        subst e0
        rw [hys, tmarks_set hlt] at h
        exact h
    · obtain rfl : i = l.length := by omega
      go_wp2
      go_ret
      exact ⟨rfl, by have h := H.out; simpa using h⟩
def laws_markTaskS.f (_ : Nat) (l0 : List S86) (a1 : Int) : Option (Int × List S86) := if 0 < a1 ∧ a1 ≤ 1125899906842624 ∧ l0.length ≤ 140737488355328 then some (a1 + 7 * (l0.length : Int), tmarks a1 l0.length) else none
theorem laws_markTaskS.calls (k : Nat) (P0_ : Nat → Prop) (u9000_ : Value) (l0 : List (S86)) (a1 : Int) (r1 : Int) (r2 : List (S86)) (w0 w : World) (hB : Below w0.heap.size w0 w) (ho0 : Kd.R k86 86 w w0.heap.size P0_ u9000_ l0) (h : laws_markTaskS.f k l0 a1 = some (r1, r2)) :
    Calls Tryz.prog 36 #[u9000_, .int .i64 a1] w fun e w' => e = .returned (.int .i64 r1) ∧ Kd.R k86 86 w' w0.heap.size (fun k_ => (P0_ k_ ∨ w.heap.size ≤ k_)) u9000_ r2 ∧ Below w0.heap.size w0 w' ∧ Kept w w' (fun k_ => P0_ k_) := by
  unfold laws_markTaskS.f at h
  split at h
  · rename_i c
    cases h
    exact (tmark_t P0_ u9000_ l0 a1 w0 w hB ho0 c.1 c.2.1 c.2.2).mono fun e w' h => ⟨h.1, h.2.r, h.2.b, h.2.k⟩
  · cases h
theorem markTask_ev (xs : List S86) (k0 : Int) (h0 : 0 < k0) (h1 : k0 ≤ 1125899906842624) (hn : xs.length ≤ 140737488355328) : Ev (fun k => laws_markTaskS.f k xs k0) (k0 + 7 * (xs.length : Int), tmarks k0 xs.length) := by
  simp only [laws_markTaskS.f, if_pos (And.intro h0 (And.intro h1 hn))]
  exact ev_now _
def tkey (x : S86) : List UInt8 × List Int := (x.f0.data.toList, [x.f1, x.f2, x.f3, x.f4.f0, x.f4.f1, x.f4.f2])
theorem tkey_inj {a b : List S86} (h : a.map tkey = b.map tkey) : a = b := by
  refine List.map_inj_right (fun x y e => ?_) |>.1 h
  obtain ⟨⟨x0⟩, x1, x2, x3, ⟨x4, x5, x6⟩⟩ := x
  obtain ⟨⟨y0⟩, y1, y2, y3, ⟨y4, y5, y6⟩⟩ := y
  simp only [tkey, Prod.mk.injEq, List.cons.injEq, and_true] at e
  obtain ⟨e, e2⟩ := e
  have e3 := congrArg Array.mk e
  simp_all
set_option maxHeartbeats 4000000 in
theorem theld_t (A : Option Addr) (c : Nat) (l : List S86) (k0 : Int) (w : World) (hr : Kd.C k86 w A l.length l) (hc : l.length ≤ c) (hl : l = tmarks k0 l.length) (h0 : 0 < k0) (h1 : k0 ≤ 1125899906842624) (hn : l.length ≤ 140737488355328) :
    Calls Tryz.prog 40 #[.slice A l.length c, .int .i64 k0] w fun e w' => e = .returned (.int .i64 (k0 + 7 * (l.length : Int))) ∧ Below w.heap.size w w' := by
  have HR := Aside0.mk hr
  have HL := Aside0.mk hl
  clear hr hl
  go_enter Tryz.func40, Tryz.ntmps40
  go_wp2
  go_loopw [1, 5] (fun v1 v5 wr => ∃ i : Nat, i ≤ l.length ∧ v1 = .int .i64 (k0 + 7 * (i : Int)) ∧ v5 = .int .i64 i ∧ Aside0 (Below w.heap.size w wr)) (fun _ v5 _ => l.length - (intOf v5).toNat)
  case atStart => exact ⟨0, Nat.zero_le _, by simp, rfl, ⟨Below.refl _ _⟩⟩
  case round =>
    obtain ⟨i, hi, rfl, rfl, HB⟩ := hrel
    by_cases hlt : i < l.length
    · obtain ⟨ad, e0, hx0, hx1, hx2, hx3, hx4, hx5, hx6⟩ := at_T86 (Kd.C_below HR.out HB.out) (i : Int) (by omega) (by omega)
      cases e0
      simp only [Int.toNat_natCast] at hx0 hx1 hx2 hx3 hx4 hx5 hx6
      have hX : rd_T86 l (i : Int) = ⟨mtx (k0 + 7 * (i : Int)), wk 1 (k0 + 7 * (i : Int)), wk 2 (k0 + 7 * (i : Int)), wk 3 (k0 + 7 * (i : Int)), ⟨wk 4 (k0 + 7 * (i : Int)), wk 5 (k0 + 7 * (i : Int)), wk 6 (k0 + 7 * (i : Int))⟩⟩ := by rw [HL.out]; exact tmarks_get hlt
      simp only [hX] at hx0 hx1 hx2 hx3 hx4 hx5 hx6
      clear hX
      obtain ⟨K0, e0⟩ : ∃ K0, k0 + 7 * (i : Int) = K0 := ⟨_, rfl⟩
      simp only [e0] at hx0 hx1 hx2 hx3 hx4 hx5 hx6 ⊢
      simp only [wk] at hx0 hx1 hx2 hx3 hx4 hx5 hx6
      obtain ⟨k, hk⟩ := mark_get (K0) (by omega) (by omega)
      have KT := Aside0.mk (fun w' => laws_markText.calls k (K0) (mtx (K0)) w' hk)
      have EK := Aside0.mk e0
      have HX := Aside0.mk (fun w' (h : Up wr w') => And.intro (bc h hx0) (And.intro (bc h hx1) (And.intro (bc h hx2) (And.intro (bc h hx3) (And.intro (bc h hx4) (And.intro (bc h hx5) (bc h hx6)))))))
      clear hk e0 hx0 hx1 hx2 hx3 hx4 hx5 hx6
      go_upto_region 4 with (fail)
      refine rg_ (by kernel_rfl) (by kernel_rfl) ?_
      repeat (first | refine qn_ ?_ | refine qc_ eMark (fun w' _ => KT.out w') ?_ | refine ql_ HX.out ?_)
      refine qd_ ?_
      intro w5 hb
      obtain ⟨hx0, hx1, hx2, hx3, hx4, hx5, hx6⟩ := HX.out w5 hb
      go_wp2
      go_roundw
      case measure => simp [intOf]; omega
      case rel =>
        have e0 := EK.out
        have he := wk_eq (k := K0) (by omega) (by omega) 7 (by decide)
        exact ⟨i + 1, by omega, (show Value.int .i64 (wk 7 K0) = Value.int .i64 _ by rw [he]; congr 1; omega), by go_num, ⟨below_step HB.out hb⟩⟩
    · obtain rfl : i = l.length := by omega
      go_wp2
      go_ret
      exact ⟨rfl, HB.out⟩
def laws_heldTaskS.f (_ : Nat) (l0 : List (S86)) (a1 : Int) : Option Int := if 0 < a1 ∧ a1 ≤ 1125899906842624 ∧ l0.length ≤ 140737488355328 ∧ l0.map tkey = (tmarks a1 l0.length).map tkey then some (a1 + 7 * (l0.length : Int)) else none
theorem laws_heldTaskS.calls (k : Nat) (A0 : Option Addr) (c0 : Nat) (l0 : List (S86)) (a1 : Int) (r : Int) (w : World) (hr0 : Kd.C k86 w A0 l0.length l0) (hc0 : l0.length ≤ c0) (h : laws_heldTaskS.f k l0 a1 = some r) :
    Calls Tryz.prog 40 #[.slice A0 l0.length c0, .int .i64 a1] w fun e w' => e = .returned (.int .i64 r) ∧ Below w.heap.size w w' := by
  unfold laws_heldTaskS.f at h
  split at h
  · rename_i c
    cases h
    exact theld_t A0 c0 l0 a1 w hr0 hc0 (tkey_inj c.2.2.2) c.1 c.2.1 c.2.2.1
  · cases h
theorem heldTask_ev (n : Nat) (k0 : Int) (h0 : 0 < k0) (h1 : k0 ≤ 1125899906842624) (hn : n ≤ 140737488355328) : Ev (fun k => laws_heldTaskS.f k (tmarks k0 n) k0) (k0 + 7 * (n : Int)) := by
  simp only [laws_heldTaskS.f, tmarks_length, and_true, if_pos (And.intro h0 (And.intro h1 hn))]
  exact ev_now _
-- HAND TO

end Go.Proofs.YtdimdlifjdbgnaaGreat.PFnExactRunWork
