import Derived.Test.YtdimdlifjdbgnaaPFnExactDoWorkx1
namespace Go.Proofs.Ytdimdlifjdbgnaa.PFnExactDoWork
open Go.RowKit Go.Proofs.YtdimdlifjdbgnaaW.PrintWords Go.Proofs.YtdimdlifjdbgnaaW.PrintLast Go.Proofs.YtdimdlifjdbgnaaW.PrintMore Go.Proofs.Ytdimdlifjdbgnaa.Sq
attribute [local go_sem] max2_int min2_int max_two min_two max_three min_three max_four min_four
set_option linter.unusedVariables false
set_option linter.unusedSimpArgs false

/-! ### slices_Max_int_int: function 40 -/
def slices_Max_int_int.l0 : Nat → List Int → Int → Int → Option (Int)
 | 0, _, _, _ => none
 | k + 1, x0, x3, x4 => if x4 < (x0.length : Int) then (if 0 ≤ x4 then (slices_Max_int_int.l0 k x0 (mx x3 (rd x0 x4)) (wrap64 (x4 + 1))) else (none)) else (some x3)
def slices_Max_int_int.f (k : Nat) (l0 : List Int) : Option (Int) := if (l0.length : Int) < 1 then (none) else (if 0 < (l0.length : Int) then (slices_Max_int_int.l0 k l0 (rd l0 0) 1) else (none))
set_option maxHeartbeats 8000000 in
set_option maxRecDepth 100000 in
theorem slices_Max_int_int.calls (k : Nat) (A0 : Option Addr) (c0 : Nat) (l0 : List Int) (r : Int) (w : World) (hr0 : Kd.C (Kd.int .i64) w A0 l0.length l0) (hc0 : l0.length ≤ c0) (h : slices_Max_int_int.f k l0 = some r) :
  Calls Try.prog 40 #[.slice A0 l0.length c0] w fun e w' => e = .returned (.int .i64 r) ∧ Below w.heap.size w w' := by
 have HR0 := Aside0.mk hr0
 have HC0 := Aside0.mk hc0
 clear hr0 hc0
 have HB := Aside0.mk (Below.refl w.heap.size w)
 have H : (if (l0.length : Int) < 1 then (none) else (if 0 < (l0.length : Int) then (slices_Max_int_int.l0 k l0 (rd l0 0) 1) else (none))) = some r := h
 clear h
 by_cases c2 : (l0.length : Int) < 1
 ·
  rw [if_pos c2] at H
  exact absurd H (by simp)
 ·
  rw [if_neg c2] at H
  have c2b0 : decide ((l0.length : Int) < 1) = false := decide_eq_false c2
  have c2b1 : decide (l0.length < 1) = false := decide_eq_false (by omega)
  clear c2
  by_cases c3 : 0 < (l0.length : Int)
  ·
   rw [if_pos c3] at H
   have c3b0 : decide (0 < (l0.length : Int)) = true := decide_eq_true c3
   have c3b1 : decide (0 < l0.length) = true := decide_eq_true (by omega)
   clear c3
   have H' := Aside0.mk H
   clear H
   have p117 : 0 ≤ (0 : Int) := (by omega)
   have q117 : 0 < (l0.length : Int) := of_decide_eq_true (by first | (with_reducible assumption) | assumption)
   obtain ⟨ad117, e117, hx117_0⟩ := Kd.at_int HR0.out 0 p117 q117
   cases e117
   have qi117 : (0 < l0.length) = True := eq_true (by omega)
   (try rw [show ((0 : Int)).toNat = 0 from rfl] at hx117_0)
   (try rw [Addr.add_zero'] at hx117_0)
   replace p117 := eq_true p117
   replace q117 := eq_true q117
   go_enter Try.func40, Try.ntmps40
   go_wp2
   go_loopg [3, 4] k (fun kq v3 v4 w' => ∃ (x3_1 : Int) (x4_1 : Int), v3 = .int .i64 x3_1 ∧ v4 = .int .i64 x4_1 ∧ Aside0 (slices_Max_int_int.l0 kq l0 x3_1 x4_1 = some r) ∧ Aside0 (kq ≤ k) ∧ Aside0 (Below w.heap.size w w'))
   case atStart => exact ⟨(rd l0 0), (1), (by first | rfl | (simp; done) | (simp [*]; done)), (by first | rfl | (simp; done) | (simp [*]; done)), H', ⟨Nat.le_refl _⟩, ⟨bl HB.out⟩⟩
   case round =>
    clear H'
    try clear p1
    try clear q1
    try clear hx1
    try clear qi1
    try clear c2
    try clear c2b0
    try clear c2b1
    try clear p2
    try clear c3
    try clear c3b0
    try clear c3b1
    try clear hx117_0
    try clear p117
    try clear q117
    obtain ⟨x3_1, x4_1, rfl, rfl, HA, HK1, HB⟩ := hrel
    cases gk with
    | zero => exact absurd HA.out (by simp [slices_Max_int_int.l0])
    | succ k1 =>
     have H := HA.out
     clear HA
     simp only [slices_Max_int_int.l0] at H
     by_cases c4 : x4_1 < (l0.length : Int)
     ·
      rw [if_pos c4] at H
      have c4b0 : decide (x4_1 < (l0.length : Int)) = true := decide_eq_true c4
      clear c4
      by_cases c5 : 0 ≤ x4_1
      ·
       rw [if_pos c5] at H
       have c5b0 : decide (0 ≤ x4_1) = true := decide_eq_true c5
       clear c5
       obtain ⟨ji6, hji6⟩ : ∃ j_ : Int, (mx x3_1 (rd l0 x4_1)) = j_ := ⟨_, rfl⟩
       replace H : (slices_Max_int_int.l0 k1 l0 ji6 (wrap64 (x4_1 + 1))) = some r := by first | (rw [hji6] at H; exact H) | (simp only [hji6] at H ⊢; exact H)
       have hji6_ : (if x3_1 < (rd l0 x4_1) then (rd l0 x4_1) else x3_1) = ji6 := hji6
       have H' := Aside0.mk H
       clear H
       have p118 : 0 ≤ (x4_1 : Int) := of_decide_eq_true (by first | (with_reducible assumption) | assumption)
       have q118 : x4_1 < (l0.length : Int) := of_decide_eq_true (by first | (with_reducible assumption) | assumption)
       obtain ⟨ad118, e118, hx118_0⟩ := Kd.at_int HR0.out x4_1 p118 q118
       obtain rfl : ad117 = ad118 := (by injection e118)
       replace hx118_0 := bc HB.out hx118_0
       replace p118 := eq_true p118
       replace q118 := eq_true q118
       go_wp2
       go_roundg k1
       case measure => have := HK1.out; omega
       case rel => exact ⟨(ji6), (wrap64 (x4_1 + 1)), (by first | rfl | (simp; done) | (simp only [← hji6] <;> (first | rfl | simp)) | (simp [*]; done)), (by first | rfl | (simp; done) | (simp [*]; done)), H', ⟨by have := HK1.out; omega⟩, ⟨bl HB.out⟩⟩
      ·
       rw [if_neg c5] at H
       exact absurd H (by simp)
     ·
      rw [if_neg c4] at H
      have c4b0 : decide (x4_1 < (l0.length : Int)) = false := decide_eq_false c4
      clear c4
      obtain rfl := Option.some.inj H
      go_wp2
      go_ret
      exact ⟨by first | rfl | (simp [errW_none, errW_some] <;> rfl) | (simp [*, errW_none, errW_some] <;> rfl), bl HB.out⟩
  ·
   rw [if_neg c3] at H
   exact absurd H (by simp)

/-! ### impl_TaskOk: function 14 -/
def impl_TaskOk.f (k : Nat) (a0_0 : ByteArray) (a0_1 : Int) (a0_2 : Int) (a0_3 : Int) (a0_4 : Int) (a0_5 : Int) (a0_6 : Int) : Option (Bool) := (impl_Task_numbers.f a0_0 a0_1 a0_2 a0_3 a0_4 a0_5 a0_6).bind fun t120 => ((impl_isName.f k a0_0).bind fun t123 => (if t123 = true then ((impl_allIn.f k t120 0 100000).bind fun t124 => (if t124 = true then ((slices_Max_int_int.f k t120).bind fun t125 => (if t125 > 0 then ((impl_ClockOk.f k a0_4 a0_5 a0_6).bind fun t126 => (some t126)) else (some false))) else (some false))) else (some false)))
set_option maxHeartbeats 8000000 in
set_option maxRecDepth 100000 in
theorem impl_TaskOk.calls (k : Nat) (a0_0 : ByteArray) (a0_1 : Int) (a0_2 : Int) (a0_3 : Int) (a0_4 : Int) (a0_5 : Int) (a0_6 : Int) (r : Bool) (w : World) (h : impl_TaskOk.f k a0_0 a0_1 a0_2 a0_3 a0_4 a0_5 a0_6 = some r) :
  Calls Try.prog 14 #[.agg #[.string a0_0, .int .i64 a0_1, .int .i64 a0_2, .int .i64 a0_3, .int .i64 a0_4, .int .i64 a0_5, .int .i64 a0_6]] w fun e w' => e = .returned (.bool r) ∧ Below w.heap.size w w' := by
 have hu44 := Try.underlying44
 have hu28 := Try.underlying28
 have HB := Aside0.mk (Below.refl w.heap.size w)
 have H : ((impl_Task_numbers.f a0_0 a0_1 a0_2 a0_3 a0_4 a0_5 a0_6).bind fun t120 => ((impl_isName.f k a0_0).bind fun t123 => (if t123 = true then ((impl_allIn.f k t120 0 100000).bind fun t124 => (if t124 = true then ((slices_Max_int_int.f k t120).bind fun t125 => (if t125 > 0 then ((impl_ClockOk.f k a0_4 a0_5 a0_6).bind fun t126 => (some t126)) else (some false))) else (some false))) else (some false)))) = some r := h
 clear h
 replace H := Option.bind_eq_some_iff.mp H
 obtain ⟨t120, A20, H⟩ := H
 replace H : ((impl_isName.f k a0_0).bind fun t123 => (if t123 = true then ((impl_allIn.f k t120 0 100000).bind fun t124 => (if t124 = true then ((slices_Max_int_int.f k t120).bind fun t125 => (if t125 > 0 then ((impl_ClockOk.f k a0_4 a0_5 a0_6).bind fun t126 => (some t126)) else (some false))) else (some false))) else (some false))) = some r := H
 have A2 := Aside0.mk A20
 clear A20
 replace H := Option.bind_eq_some_iff.mp H
 obtain ⟨t123, A30, H⟩ := H
 replace H : (if t123 = true then ((impl_allIn.f k t120 0 100000).bind fun t124 => (if t124 = true then ((slices_Max_int_int.f k t120).bind fun t125 => (if t125 > 0 then ((impl_ClockOk.f k a0_4 a0_5 a0_6).bind fun t126 => (some t126)) else (some false))) else (some false))) else (some false)) = some r := H
 have A3 := Aside0.mk A30
 clear A30
 by_cases c4 : t123 = true
 ·
  subst c4
  have H1 : ((impl_allIn.f k t120 0 100000).bind fun t124 => (if t124 = true then ((slices_Max_int_int.f k t120).bind fun t125 => (if t125 > 0 then ((impl_ClockOk.f k a0_4 a0_5 a0_6).bind fun t126 => (some t126)) else (some false))) else (some false))) = some r := by rw [if_pos rfl] at H; exact H
  clear H
  have H := H1
  clear H1
  replace H := Option.bind_eq_some_iff.mp H
  obtain ⟨t124, A50, H⟩ := H
  replace H : (if t124 = true then ((slices_Max_int_int.f k t120).bind fun t125 => (if t125 > 0 then ((impl_ClockOk.f k a0_4 a0_5 a0_6).bind fun t126 => (some t126)) else (some false))) else (some false)) = some r := H
  have A5 := Aside0.mk A50
  clear A50
  by_cases c6 : t124 = true
  ·
   subst c6
   have H1 : ((slices_Max_int_int.f k t120).bind fun t125 => (if t125 > 0 then ((impl_ClockOk.f k a0_4 a0_5 a0_6).bind fun t126 => (some t126)) else (some false))) = some r := by rw [if_pos rfl] at H; exact H
   clear H
   have H := H1
   clear H1
   replace H := Option.bind_eq_some_iff.mp H
   obtain ⟨t125, A70, H⟩ := H
   replace H : (if t125 > 0 then ((impl_ClockOk.f k a0_4 a0_5 a0_6).bind fun t126 => (some t126)) else (some false)) = some r := H
   have A7 := Aside0.mk A70
   clear A70
   by_cases c8 : t125 > 0
   ·
    rw [if_pos c8] at H
    have c8b0 : decide (0 < t125) = true := decide_eq_true c8
    clear c8
    replace H := Option.bind_eq_some_iff.mp H
    obtain ⟨t126, A90, H⟩ := H
    replace H : (some t126) = some r := H
    have A9 := Aside0.mk A90
    clear A90
    obtain rfl := Option.some.inj H
    go_enter Try.func14, Try.ntmps14
    go_wp2_with (first | ((with_reducible refine gate_dst (N := 1) rfl ?_); refine box_event ?hg (N := 1) ?hd (cs := #[.string a0_0, .int .i64 a0_1, .int .i64 a0_2, .int .i64 a0_3, .int .i64 a0_4, .int .i64 a0_5, .int .i64 a0_6]) (t := 44) ?hr ?_; (case hd => rfl); (case hg => rfl); (case hr => first | (go_simp; done) | (go_simp; rfl)); intro gb119 hg w10 hbox hb; have BK119 := Aside0.mk (hbox); have GW119 := Aside0.mk ((by rw [hg]; exact (below_size (bl HB.out)) : w.heap.size ≤ gb119)); have GE119 := GW119; replace HB := Aside0.mk (below_step (bl HB.out) hb); clear hb hbox hg; obtain ⟨hcz11_0, hcz11_1, hcz11_2, hcz11_3, hcz11_4, hcz11_5, hcz11_6⟩ := ck7 BK119.out; obtain ⟨hfz11_0, hfz11_1, hfz11_2, hfz11_3, hfz11_4, hfz11_5, hfz11_6⟩ := fz7 BK119.out) | ((with_reducible refine gate_callee (f := 38) rfl ?_); refine goesL_ (some 5) rfl rfl Try.func38 (by kernel_rfl) rfl #[.agg #[.string a0_0, .int .i64 a0_1, .int .i64 a0_2, .int .i64 a0_3, .int .i64 a0_4, .int .i64 a0_5, .int .i64 a0_6]] rfl (by (try simp only [am_]); first | done | rfl) ?_; (with_reducible refine (impl_Task_numbers.calls a0_0 a0_1 a0_2 a0_3 a0_4 a0_5 a0_6 t120 _ A2.out).mono ?_); rintro e w12 ⟨v121, rfl, ho0, hb⟩; refine ⟨_, rfl, ?_⟩; have HO122 := Aside0.mk (Kd.R_lower ho0 (below_size (by repeat with_reducible first | exact bl HB.out | refine below_set ?_ GE119.out | refine bq ?_))); replace BK119 := Aside0.mk (blk_below (bk BK119.out) hb); replace HB := Aside0.mk (below_step (by repeat with_reducible first | exact bl HB.out | refine below_set ?_ GE119.out | refine bq ?_) hb); (try clear hb); (try clear hb2); (try clear hk); (try clear hi); (try clear ho0); obtain ⟨hcz13_0, hcz13_1, hcz13_2, hcz13_3, hcz13_4, hcz13_5, hcz13_6⟩ := ck7 BK119.out; obtain ⟨hfz13_0, hfz13_1, hfz13_2, hfz13_3, hfz13_4, hfz13_5, hfz13_6⟩ := fz7 BK119.out) | ((with_reducible refine gate_callee (f := 31) rfl ?_); refine goesL_ (some 8) rfl rfl Try.func31 (by kernel_rfl) rfl #[.string a0_0] rfl (by (try simp only [am_]); first | done | rfl) ?_; (with_reducible refine (impl_isName.calls k a0_0 true _ A3.out).mono ?_); rintro e w' ⟨rfl, ⟨nd, rfl⟩⟩; refine ⟨_, rfl, ?_⟩; obtain ⟨Ao14, co14, eo14⟩ := Kd.R_slice HO122.out; subst eo14) | (go_at_call 33; (with_reducible refine (impl_allIn.calls k _ _ t120 0 100000 true _ ?side1 ?side2 A5.out).mono ?_); (case side1 => exact rc (Kd.R_reads' HO122.out).2.2); (case side2 => exact (Kd.R_reads' HO122.out).2.1); rintro e w' ⟨rfl, ⟨nd, rfl⟩⟩) | (go_at_call 40; (with_reducible refine (slices_Max_int_int.calls k _ _ t120 t125 _ ?side1 ?side2 A7.out).mono ?_); (case side1 => exact rc (Kd.R_reads' HO122.out).2.2); (case side2 => exact (Kd.R_reads' HO122.out).2.1); rintro e w15 ⟨rfl, hb⟩; replace HO122 := Aside0.mk (Kd.R_below (rl HO122.out) hb); replace BK119 := Aside0.mk (blk_below (bk BK119.out) hb); replace HB := Aside0.mk (below_step (by repeat with_reducible first | exact bl HB.out | refine below_set ?_ GE119.out | refine bq ?_) hb); (try clear hb); (try clear hb2); (try clear hk); (try clear hi); obtain ⟨hcz16_0, hcz16_1, hcz16_2, hcz16_3, hcz16_4, hcz16_5, hcz16_6⟩ := ck7 BK119.out; obtain ⟨hfz16_0, hfz16_1, hfz16_2, hfz16_3, hfz16_4, hfz16_5, hfz16_6⟩ := fz7 BK119.out) | (go_at_call 9; (with_reducible refine (impl_ClockOk.calls k a0_4 a0_5 a0_6 t126 _ A9.out).mono ?_); rintro e w17 ⟨rfl, hb⟩; replace HO122 := Aside0.mk (Kd.R_below (rl HO122.out) hb); replace BK119 := Aside0.mk (blk_below (bk BK119.out) hb); replace HB := Aside0.mk (below_step (by repeat with_reducible first | exact bl HB.out | refine below_set ?_ GE119.out | refine bq ?_) hb); (try clear hb); (try clear hb2); (try clear hk); (try clear hi)))
    go_ret
    exact ⟨by first | rfl | (simp [errW_none, errW_some] <;> rfl) | (simp [*, errW_none, errW_some] <;> rfl), by repeat with_reducible first | exact bl HB.out | refine below_set ?_ GE119.out | refine bq ?_⟩
   ·
    rw [if_neg c8] at H
    have c8b0 : decide (0 < t125) = false := decide_eq_false c8
    clear c8
    obtain rfl := Option.some.inj H
    go_enter Try.func14, Try.ntmps14
    go_wp2_with (first | ((with_reducible refine gate_dst (N := 1) rfl ?_); refine box_event ?hg (N := 1) ?hd (cs := #[.string a0_0, .int .i64 a0_1, .int .i64 a0_2, .int .i64 a0_3, .int .i64 a0_4, .int .i64 a0_5, .int .i64 a0_6]) (t := 44) ?hr ?_; (case hd => rfl); (case hg => rfl); (case hr => first | (go_simp; done) | (go_simp; rfl)); intro gb119 hg w18 hbox hb; have BK119 := Aside0.mk (hbox); have GW119 := Aside0.mk ((by rw [hg]; exact (below_size (bl HB.out)) : w.heap.size ≤ gb119)); have GE119 := GW119; replace HB := Aside0.mk (below_step (bl HB.out) hb); clear hb hbox hg; obtain ⟨hcz19_0, hcz19_1, hcz19_2, hcz19_3, hcz19_4, hcz19_5, hcz19_6⟩ := ck7 BK119.out; obtain ⟨hfz19_0, hfz19_1, hfz19_2, hfz19_3, hfz19_4, hfz19_5, hfz19_6⟩ := fz7 BK119.out) | ((with_reducible refine gate_callee (f := 38) rfl ?_); refine goesL_ (some 5) rfl rfl Try.func38 (by kernel_rfl) rfl #[.agg #[.string a0_0, .int .i64 a0_1, .int .i64 a0_2, .int .i64 a0_3, .int .i64 a0_4, .int .i64 a0_5, .int .i64 a0_6]] rfl (by (try simp only [am_]); first | done | rfl) ?_; (with_reducible refine (impl_Task_numbers.calls a0_0 a0_1 a0_2 a0_3 a0_4 a0_5 a0_6 t120 _ A2.out).mono ?_); rintro e w20 ⟨v121, rfl, ho0, hb⟩; refine ⟨_, rfl, ?_⟩; have HO122 := Aside0.mk (Kd.R_lower ho0 (below_size (by repeat with_reducible first | exact bl HB.out | refine below_set ?_ GE119.out | refine bq ?_))); replace BK119 := Aside0.mk (blk_below (bk BK119.out) hb); replace HB := Aside0.mk (below_step (by repeat with_reducible first | exact bl HB.out | refine below_set ?_ GE119.out | refine bq ?_) hb); (try clear hb); (try clear hb2); (try clear hk); (try clear hi); (try clear ho0); obtain ⟨hcz21_0, hcz21_1, hcz21_2, hcz21_3, hcz21_4, hcz21_5, hcz21_6⟩ := ck7 BK119.out; obtain ⟨hfz21_0, hfz21_1, hfz21_2, hfz21_3, hfz21_4, hfz21_5, hfz21_6⟩ := fz7 BK119.out) | ((with_reducible refine gate_callee (f := 31) rfl ?_); refine goesL_ (some 8) rfl rfl Try.func31 (by kernel_rfl) rfl #[.string a0_0] rfl (by (try simp only [am_]); first | done | rfl) ?_; (with_reducible refine (impl_isName.calls k a0_0 true _ A3.out).mono ?_); rintro e w' ⟨rfl, ⟨nd, rfl⟩⟩; refine ⟨_, rfl, ?_⟩; obtain ⟨Ao22, co22, eo22⟩ := Kd.R_slice HO122.out; subst eo22) | (go_at_call 33; (with_reducible refine (impl_allIn.calls k _ _ t120 0 100000 true _ ?side1 ?side2 A5.out).mono ?_); (case side1 => exact rc (Kd.R_reads' HO122.out).2.2); (case side2 => exact (Kd.R_reads' HO122.out).2.1); rintro e w' ⟨rfl, ⟨nd, rfl⟩⟩) | (go_at_call 40; (with_reducible refine (slices_Max_int_int.calls k _ _ t120 t125 _ ?side1 ?side2 A7.out).mono ?_); (case side1 => exact rc (Kd.R_reads' HO122.out).2.2); (case side2 => exact (Kd.R_reads' HO122.out).2.1); rintro e w23 ⟨rfl, hb⟩; replace HO122 := Aside0.mk (Kd.R_below (rl HO122.out) hb); replace BK119 := Aside0.mk (blk_below (bk BK119.out) hb); replace HB := Aside0.mk (below_step (by repeat with_reducible first | exact bl HB.out | refine below_set ?_ GE119.out | refine bq ?_) hb); (try clear hb); (try clear hb2); (try clear hk); (try clear hi)))
    go_ret
    exact ⟨by first | rfl | (simp [errW_none, errW_some] <;> rfl) | (simp [*, errW_none, errW_some] <;> rfl), by repeat with_reducible first | exact bl HB.out | refine below_set ?_ GE119.out | refine bq ?_⟩
  ·
   replace c6 := Bool.eq_false_iff.mpr c6
   subst c6
   have H1 : (some false) = some r := by rw [if_neg (show ¬ (false = true) by decide)] at H; exact H
   clear H
   have H := H1
   clear H1
   obtain rfl := Option.some.inj H
   go_enter Try.func14, Try.ntmps14
   go_wp2_with (first | ((with_reducible refine gate_dst (N := 1) rfl ?_); refine box_event ?hg (N := 1) ?hd (cs := #[.string a0_0, .int .i64 a0_1, .int .i64 a0_2, .int .i64 a0_3, .int .i64 a0_4, .int .i64 a0_5, .int .i64 a0_6]) (t := 44) ?hr ?_; (case hd => rfl); (case hg => rfl); (case hr => first | (go_simp; done) | (go_simp; rfl)); intro gb119 hg w24 hbox hb; have BK119 := Aside0.mk (hbox); have GW119 := Aside0.mk ((by rw [hg]; exact (below_size (bl HB.out)) : w.heap.size ≤ gb119)); have GE119 := GW119; replace HB := Aside0.mk (below_step (bl HB.out) hb); clear hb hbox hg; obtain ⟨hcz25_0, hcz25_1, hcz25_2, hcz25_3, hcz25_4, hcz25_5, hcz25_6⟩ := ck7 BK119.out; obtain ⟨hfz25_0, hfz25_1, hfz25_2, hfz25_3, hfz25_4, hfz25_5, hfz25_6⟩ := fz7 BK119.out) | ((with_reducible refine gate_callee (f := 38) rfl ?_); refine goesL_ (some 5) rfl rfl Try.func38 (by kernel_rfl) rfl #[.agg #[.string a0_0, .int .i64 a0_1, .int .i64 a0_2, .int .i64 a0_3, .int .i64 a0_4, .int .i64 a0_5, .int .i64 a0_6]] rfl (by (try simp only [am_]); first | done | rfl) ?_; (with_reducible refine (impl_Task_numbers.calls a0_0 a0_1 a0_2 a0_3 a0_4 a0_5 a0_6 t120 _ A2.out).mono ?_); rintro e w26 ⟨v121, rfl, ho0, hb⟩; refine ⟨_, rfl, ?_⟩; have HO122 := Aside0.mk (Kd.R_lower ho0 (below_size (by repeat with_reducible first | exact bl HB.out | refine below_set ?_ GE119.out | refine bq ?_))); replace BK119 := Aside0.mk (blk_below (bk BK119.out) hb); replace HB := Aside0.mk (below_step (by repeat with_reducible first | exact bl HB.out | refine below_set ?_ GE119.out | refine bq ?_) hb); (try clear hb); (try clear hb2); (try clear hk); (try clear hi); (try clear ho0); obtain ⟨hcz27_0, hcz27_1, hcz27_2, hcz27_3, hcz27_4, hcz27_5, hcz27_6⟩ := ck7 BK119.out; obtain ⟨hfz27_0, hfz27_1, hfz27_2, hfz27_3, hfz27_4, hfz27_5, hfz27_6⟩ := fz7 BK119.out) | ((with_reducible refine gate_callee (f := 31) rfl ?_); refine goesL_ (some 8) rfl rfl Try.func31 (by kernel_rfl) rfl #[.string a0_0] rfl (by (try simp only [am_]); first | done | rfl) ?_; (with_reducible refine (impl_isName.calls k a0_0 true _ A3.out).mono ?_); rintro e w' ⟨rfl, ⟨nd, rfl⟩⟩; refine ⟨_, rfl, ?_⟩; obtain ⟨Ao28, co28, eo28⟩ := Kd.R_slice HO122.out; subst eo28) | (go_at_call 33; (with_reducible refine (impl_allIn.calls k _ _ t120 0 100000 false _ ?side1 ?side2 A5.out).mono ?_); (case side1 => exact rc (Kd.R_reads' HO122.out).2.2); (case side2 => exact (Kd.R_reads' HO122.out).2.1); rintro e w' ⟨rfl, ⟨nd, rfl⟩⟩))
   go_ret
   exact ⟨by first | rfl | (simp [errW_none, errW_some] <;> rfl) | (simp [*, errW_none, errW_some] <;> rfl), by repeat with_reducible first | exact bl HB.out | refine below_set ?_ GE119.out | refine bq ?_⟩
 ·
  replace c4 := Bool.eq_false_iff.mpr c4
  subst c4
  have H1 : (some false) = some r := by rw [if_neg (show ¬ (false = true) by decide)] at H; exact H
  clear H
  have H := H1
  clear H1
  obtain rfl := Option.some.inj H
  go_enter Try.func14, Try.ntmps14
  go_wp2_with (first | ((with_reducible refine gate_dst (N := 1) rfl ?_); refine box_event ?hg (N := 1) ?hd (cs := #[.string a0_0, .int .i64 a0_1, .int .i64 a0_2, .int .i64 a0_3, .int .i64 a0_4, .int .i64 a0_5, .int .i64 a0_6]) (t := 44) ?hr ?_; (case hd => rfl); (case hg => rfl); (case hr => first | (go_simp; done) | (go_simp; rfl)); intro gb119 hg w29 hbox hb; have BK119 := Aside0.mk (hbox); have GW119 := Aside0.mk ((by rw [hg]; exact (below_size (bl HB.out)) : w.heap.size ≤ gb119)); have GE119 := GW119; replace HB := Aside0.mk (below_step (bl HB.out) hb); clear hb hbox hg; obtain ⟨hcz30_0, hcz30_1, hcz30_2, hcz30_3, hcz30_4, hcz30_5, hcz30_6⟩ := ck7 BK119.out; obtain ⟨hfz30_0, hfz30_1, hfz30_2, hfz30_3, hfz30_4, hfz30_5, hfz30_6⟩ := fz7 BK119.out) | ((with_reducible refine gate_callee (f := 38) rfl ?_); refine goesL_ (some 5) rfl rfl Try.func38 (by kernel_rfl) rfl #[.agg #[.string a0_0, .int .i64 a0_1, .int .i64 a0_2, .int .i64 a0_3, .int .i64 a0_4, .int .i64 a0_5, .int .i64 a0_6]] rfl (by (try simp only [am_]); first | done | rfl) ?_; (with_reducible refine (impl_Task_numbers.calls a0_0 a0_1 a0_2 a0_3 a0_4 a0_5 a0_6 t120 _ A2.out).mono ?_); rintro e w31 ⟨v121, rfl, ho0, hb⟩; refine ⟨_, rfl, ?_⟩; have HO122 := Aside0.mk (Kd.R_lower ho0 (below_size (by repeat with_reducible first | exact bl HB.out | refine below_set ?_ GE119.out | refine bq ?_))); replace BK119 := Aside0.mk (blk_below (bk BK119.out) hb); replace HB := Aside0.mk (below_step (by repeat with_reducible first | exact bl HB.out | refine below_set ?_ GE119.out | refine bq ?_) hb); (try clear hb); (try clear hb2); (try clear hk); (try clear hi); (try clear ho0); obtain ⟨hcz32_0, hcz32_1, hcz32_2, hcz32_3, hcz32_4, hcz32_5, hcz32_6⟩ := ck7 BK119.out; obtain ⟨hfz32_0, hfz32_1, hfz32_2, hfz32_3, hfz32_4, hfz32_5, hfz32_6⟩ := fz7 BK119.out) | ((with_reducible refine gate_callee (f := 31) rfl ?_); refine goesL_ (some 8) rfl rfl Try.func31 (by kernel_rfl) rfl #[.string a0_0] rfl (by (try simp only [am_]); first | done | rfl) ?_; (with_reducible refine (impl_isName.calls k a0_0 false _ A3.out).mono ?_); rintro e w' ⟨rfl, ⟨nd, rfl⟩⟩; refine ⟨_, rfl, ?_⟩))
  go_ret
  exact ⟨by first | rfl | (simp [errW_none, errW_some] <;> rfl) | (simp [*, errW_none, errW_some] <;> rfl), by repeat with_reducible first | exact bl HB.out | refine below_set ?_ GE119.out | refine bq ?_⟩

/-! ### slices_Min_int_int: function 69 -/
def slices_Min_int_int.l0 : Nat → List Int → Int → Int → Option (Int)
 | 0, _, _, _ => none
 | k + 1, x0, x3, x4 => if x4 < (x0.length : Int) then (if 0 ≤ x4 then (slices_Min_int_int.l0 k x0 (mn x3 (rd x0 x4)) (wrap64 (x4 + 1))) else (none)) else (some x3)
def slices_Min_int_int.f (k : Nat) (l0 : List Int) : Option (Int) := if (l0.length : Int) < 1 then (none) else (if 0 < (l0.length : Int) then (slices_Min_int_int.l0 k l0 (rd l0 0) 1) else (none))
set_option maxHeartbeats 8000000 in
set_option maxRecDepth 100000 in
theorem slices_Min_int_int.calls (k : Nat) (A0 : Option Addr) (c0 : Nat) (l0 : List Int) (r : Int) (w : World) (hr0 : Kd.C (Kd.int .i64) w A0 l0.length l0) (hc0 : l0.length ≤ c0) (h : slices_Min_int_int.f k l0 = some r) :
  Calls Try.prog 69 #[.slice A0 l0.length c0] w fun e w' => e = .returned (.int .i64 r) ∧ Below w.heap.size w w' := by
 have HR0 := Aside0.mk hr0
 have HC0 := Aside0.mk hc0
 clear hr0 hc0
 have HB := Aside0.mk (Below.refl w.heap.size w)
 have H : (if (l0.length : Int) < 1 then (none) else (if 0 < (l0.length : Int) then (slices_Min_int_int.l0 k l0 (rd l0 0) 1) else (none))) = some r := h
 clear h
 by_cases c2 : (l0.length : Int) < 1
 ·
  rw [if_pos c2] at H
  exact absurd H (by simp)
 ·
  rw [if_neg c2] at H
  have c2b0 : decide ((l0.length : Int) < 1) = false := decide_eq_false c2
  have c2b1 : decide (l0.length < 1) = false := decide_eq_false (by omega)
  clear c2
  by_cases c3 : 0 < (l0.length : Int)
  ·
   rw [if_pos c3] at H
   have c3b0 : decide (0 < (l0.length : Int)) = true := decide_eq_true c3
   have c3b1 : decide (0 < l0.length) = true := decide_eq_true (by omega)
   clear c3
   have H' := Aside0.mk H
   clear H
   have p127 : 0 ≤ (0 : Int) := (by omega)
   have q127 : 0 < (l0.length : Int) := of_decide_eq_true (by first | (with_reducible assumption) | assumption)
   obtain ⟨ad127, e127, hx127_0⟩ := Kd.at_int HR0.out 0 p127 q127
   cases e127
   have qi127 : (0 < l0.length) = True := eq_true (by omega)
   (try rw [show ((0 : Int)).toNat = 0 from rfl] at hx127_0)
   (try rw [Addr.add_zero'] at hx127_0)
   replace p127 := eq_true p127
   replace q127 := eq_true q127
   go_enter Try.func69, Try.ntmps69
   go_wp2
   go_loopg [3, 4] k (fun kq v3 v4 w' => ∃ (x3_1 : Int) (x4_1 : Int), v3 = .int .i64 x3_1 ∧ v4 = .int .i64 x4_1 ∧ Aside0 (slices_Min_int_int.l0 kq l0 x3_1 x4_1 = some r) ∧ Aside0 (kq ≤ k) ∧ Aside0 (Below w.heap.size w w'))
   case atStart => exact ⟨(rd l0 0), (1), (by first | rfl | (simp; done) | (simp [*]; done)), (by first | rfl | (simp; done) | (simp [*]; done)), H', ⟨Nat.le_refl _⟩, ⟨bl HB.out⟩⟩
   case round =>
    clear H'
    try clear p1
    try clear q1
    try clear hx1
    try clear qi1
    try clear c2
    try clear c2b0
    try clear c2b1
    try clear p2
    try clear c3
    try clear c3b0
    try clear c3b1
    try clear hx127_0
    try clear p127
    try clear q127
    obtain ⟨x3_1, x4_1, rfl, rfl, HA, HK1, HB⟩ := hrel
    cases gk with
    | zero => exact absurd HA.out (by simp [slices_Min_int_int.l0])
    | succ k1 =>
     have H := HA.out
     clear HA
     simp only [slices_Min_int_int.l0] at H
     by_cases c4 : x4_1 < (l0.length : Int)
     ·
      rw [if_pos c4] at H
      have c4b0 : decide (x4_1 < (l0.length : Int)) = true := decide_eq_true c4
      clear c4
      by_cases c5 : 0 ≤ x4_1
      ·
       rw [if_pos c5] at H
       have c5b0 : decide (0 ≤ x4_1) = true := decide_eq_true c5
       clear c5
       obtain ⟨ji6, hji6⟩ : ∃ j_ : Int, (mn x3_1 (rd l0 x4_1)) = j_ := ⟨_, rfl⟩
       replace H : (slices_Min_int_int.l0 k1 l0 ji6 (wrap64 (x4_1 + 1))) = some r := by first | (rw [hji6] at H; exact H) | (simp only [hji6] at H ⊢; exact H)
       have hji6_ : (if (rd l0 x4_1) < x3_1 then (rd l0 x4_1) else x3_1) = ji6 := hji6
       have H' := Aside0.mk H
       clear H
       have p128 : 0 ≤ (x4_1 : Int) := of_decide_eq_true (by first | (with_reducible assumption) | assumption)
       have q128 : x4_1 < (l0.length : Int) := of_decide_eq_true (by first | (with_reducible assumption) | assumption)
       obtain ⟨ad128, e128, hx128_0⟩ := Kd.at_int HR0.out x4_1 p128 q128
       obtain rfl : ad127 = ad128 := (by injection e128)
       replace hx128_0 := bc HB.out hx128_0
       replace p128 := eq_true p128
       replace q128 := eq_true q128
       go_wp2
       go_roundg k1
       case measure => have := HK1.out; omega
       case rel => exact ⟨(ji6), (wrap64 (x4_1 + 1)), (by first | rfl | (simp; done) | (simp only [← hji6] <;> (first | rfl | simp)) | (simp [*]; done)), (by first | rfl | (simp; done) | (simp [*]; done)), H', ⟨by have := HK1.out; omega⟩, ⟨bl HB.out⟩⟩
      ·
       rw [if_neg c5] at H
       exact absurd H (by simp)
     ·
      rw [if_neg c4] at H
      have c4b0 : decide (x4_1 < (l0.length : Int)) = false := decide_eq_false c4
      clear c4
      obtain rfl := Option.some.inj H
      go_wp2
      go_ret
      exact ⟨by first | rfl | (simp [errW_none, errW_some] <;> rfl) | (simp [*, errW_none, errW_some] <;> rfl), bl HB.out⟩
  ·
   rw [if_neg c3] at H
   exact absurd H (by simp)

/-! ### impl_passed: function 30 -/
def impl_passed.f (k : Nat) (a0_0 : Int) (a0_1 : Int) (a0_2 : Int) (a1_0 : Int) (a1_1 : Int) (a1_2 : Int) : Option (List Int × Bool) := (some (([wrap64 (a1_0 - a0_0), wrap64 (a1_1 - a0_1), wrap64 (a1_2 - a0_2)] : List Int) : List Int)).bind fun y131 => ((slices_Min_int_int.f k y131).bind fun t134 => (some (y131, decide (t134 ≥ 0))))
set_option maxHeartbeats 8000000 in
set_option maxRecDepth 100000 in
theorem impl_passed.calls (k : Nat) (a0_0 : Int) (a0_1 : Int) (a0_2 : Int) (a1_0 : Int) (a1_1 : Int) (a1_2 : Int) (r1 : List Int) (r2 : Bool) (w : World) (h : impl_passed.f k a0_0 a0_1 a0_2 a1_0 a1_1 a1_2 = some (r1, r2)) :
  Calls Try.prog 30 #[.agg #[.int .i64 a0_0, .int .i64 a0_1, .int .i64 a0_2], .agg #[.int .i64 a1_0, .int .i64 a1_1, .int .i64 a1_2]] w fun e w' => ∃ v0_ : Value, e = .returned (.tuple #[v0_, .bool r2]) ∧ Kd.R (Kd.int .i64) 3 w' w.heap.size (fun _ => True) v0_ r1 ∧ Below w.heap.size w w' := by
 have hu28 := Try.underlying28
 have HB := Aside0.mk (Below.refl w.heap.size w)
 have H : ((some (([wrap64 (a1_0 - a0_0), wrap64 (a1_1 - a0_1), wrap64 (a1_2 - a0_2)] : List Int) : List Int)).bind fun y131 => ((slices_Min_int_int.f k y131).bind fun t134 => (some (y131, decide (t134 ≥ 0))))) = some (r1, r2) := h
 clear h
 obtain ⟨y131, hy131⟩ : ∃ y_ : List Int, y_ = (([wrap64 (a1_0 - a0_0), wrap64 (a1_1 - a0_1), wrap64 (a1_2 - a0_2)] : List Int)) := ⟨_, rfl⟩
 replace H : ((slices_Min_int_int.f k y131).bind fun t134 => (some (y131, decide (t134 ≥ 0)))) = some (r1, r2) := by first | (rw [hy131]; with_reducible exact H) | (have H2_ := (Option.bind_some _ _).symm.trans H; rw [hy131]; with_reducible exact H2_) | (have H2_ := (Option.bind_some _ _).symm.trans H; with_reducible exact H2_) | with_reducible exact H | (rw [hy131]; exact H) | exact H
 have Ny131 := Aside0.mk hy131
 clear hy131
 replace H := Option.bind_eq_some_iff.mp H
 obtain ⟨t134, A30, H⟩ := H
 replace H : (some (y131, decide (t134 ≥ 0))) = some (r1, r2) := H
 have A3 := Aside0.mk A30
 clear A30
 simp only [Option.some.injEq, Prod.mk.injEq] at H
 obtain ⟨rfl, rfl⟩ := H
 go_enter Try.func30, Try.ntmps30
 go_wp2_with (first | ((with_reducible refine gate_dst (N := 2) rfl ?_); refine box_event ?hg (N := 2) ?hd (cs := #[.int .i64 a0_0, .int .i64 a0_1, .int .i64 a0_2]) (t := 28) ?hr ?_; (case hd => rfl); (case hg => rfl); (case hr => first | (go_simp; done) | (go_simp; rfl)); intro gb129 hg w4 hbox hb; have BK129 := Aside0.mk (hbox); have GW129 := Aside0.mk ((by rw [hg]; exact (below_size (bl HB.out)) : w.heap.size ≤ gb129)); have GE129 := GW129; replace HB := Aside0.mk (below_step (bl HB.out) hb); clear hb hbox hg) | ((with_reducible refine gate_dst (N := 3) rfl ?_); refine box_event ?hg (N := 3) ?hd (cs := #[.int .i64 a1_0, .int .i64 a1_1, .int .i64 a1_2]) (t := 28) ?hr ?_; (case hd => rfl); (case hg => rfl); (case hr => first | (go_simp; done) | (go_simp; rfl)); intro gb130 hg w5 hbox hb; have BK130 := Aside0.mk (hbox); have GW130 := Aside0.mk ((by rw [hg]; exact (below_size (by repeat with_reducible first | exact bl HB.out | refine below_set ?_ GE129.out | refine bq ?_)) : w.heap.size ≤ gb130)); have GE130 := GW130; replace HB := Aside0.mk (below_step (by repeat with_reducible first | exact bl HB.out | refine below_set ?_ GE129.out | refine bq ?_) hb); have NB129_130 := nb_ hg BK129.out; have NB130_129 := Aside0.mk NB129_130.out.symm; replace BK129 := Aside0.mk (blk_below (bk BK129.out) hb); clear hb hbox hg; have hnb6 := NB130_129.out; have hnc6 := NB129_130.out; obtain ⟨hcz7_0, hcz7_1, hcz7_2⟩ := ck3 BK130.out; obtain ⟨hfz7_0, hfz7_1, hfz7_2⟩ := fz3 BK130.out; obtain ⟨hcz8_0, hcz8_1, hcz8_2⟩ := ck3 BK129.out; obtain ⟨hfz8_0, hfz8_1, hfz8_2⟩ := fz3 BK129.out) | ((with_reducible refine gate_dst (N := 22) rfl ?_); refine Kd.R_lit (Kd.int .i64) _ 3 ?hg (N := 22) ?hd (xs := ([wrap64 (a1_0 - a0_0), wrap64 (a1_1 - a0_1), wrap64 (a1_2 - a0_2)] : List Int)) (inner := [.int .i64 (wrap64 (a1_0 - a0_0)), .int .i64 (wrap64 (a1_1 - a0_1)), .int .i64 (wrap64 (a1_2 - a0_2))]) (ok := fun _ => True) (okp := fun _ => True) ?hr ?hp (fun _ hk => hk) trivial (Below.refl _ _) (Nat.le_refl _) (by simp) ?_; (case hd => rfl); (case hg => rfl); (case hr => first | (go_simp; done) | (go_simp; rfl)); (case hp => exact (Reps.one (show Kd.M (Kd.int .i64) _ _ _ (wrap64 (a1_0 - a0_0)) [.int .i64 (wrap64 (a1_0 - a0_0))] from rfl) (Reps.one (show Kd.M (Kd.int .i64) _ _ _ (wrap64 (a1_1 - a0_1)) [.int .i64 (wrap64 (a1_1 - a0_1))] from rfl) (Reps.one (show Kd.M (Kd.int .i64) _ _ _ (wrap64 (a1_2 - a0_2)) [.int .i64 (wrap64 (a1_2 - a0_2))] from rfl) (Reps.none _ _))))); intro v132 w9 ho10 hb hg_ hnew_; clear hg_ hnew_; (first | rw [← Ny131.out] at ho10 | (simp only [Int.reduceToNat] at ho10; rw [← Ny131.out] at ho10)); have HO133 := Aside0.mk (Kd.R_lower ho10 (below_size (by repeat with_reducible first | exact bl HB.out | refine below_set ?_ GE129.out | refine below_set ?_ GE130.out | refine bq ?_))); replace BK129 := Aside0.mk (blk_below (bk BK129.out) hb); replace BK130 := Aside0.mk (blk_below (bk BK130.out) hb); replace HB := Aside0.mk (below_step (by repeat with_reducible first | exact bl HB.out | refine below_set ?_ GE129.out | refine below_set ?_ GE130.out | refine bq ?_) hb); clear hb ho10; obtain ⟨Ao11, co11, eo11⟩ := Kd.R_slice HO133.out; subst eo11) | ((with_reducible refine gate_callee (f := 69) rfl ?_); refine goesL_ (some 25) rfl rfl Try.func69 (by kernel_rfl) rfl #[.slice Ao11 y131.length co11] rfl (by (try simp only [am_]); first | done | rfl) ?_; (with_reducible refine (slices_Min_int_int.calls k _ _ y131 t134 _ ?side1 ?side2 A3.out).mono ?_); (case side1 => exact rc (Kd.R_reads' HO133.out).2.2); (case side2 => exact (Kd.R_reads' HO133.out).2.1); rintro e w12 ⟨rfl, hb⟩; refine ⟨_, rfl, ?_⟩; replace HO133 := Aside0.mk (Kd.R_below (rl HO133.out) hb); replace BK129 := Aside0.mk (blk_below (bk BK129.out) hb); replace BK130 := Aside0.mk (blk_below (bk BK130.out) hb); replace HB := Aside0.mk (below_step (by repeat with_reducible first | exact bl HB.out | refine below_set ?_ GE129.out | refine below_set ?_ GE130.out | refine bq ?_) hb); (try clear hb); (try clear hb2); (try clear hk); (try clear hi)))
 go_ret2
 exact ⟨_, by first | rfl | (simp [errW_none, errW_some] <;> rfl) | (simp [*, errW_none, errW_some] <;> rfl), by (repeat apply rl1); exact HO133.out, by repeat with_reducible first | exact bl HB.out | refine below_set ?_ GE129.out | refine below_set ?_ GE130.out | refine bq ?_⟩

-- HAND FROM
open Go.Proofs.Ytdimdlifjdbgnaa.Base Go.Proofs.Ytdimdlifjdbgnaa.Sq
def clockB (a b c : Int) : Bool := inB a 0 1000000 && (inB b 0 1000000 && inB c 0 1000000)
theorem clockB_in {a b c : Int} (h : clockB a b c = true) : (0 ≤ a ∧ a ≤ 1000000) ∧ (0 ≤ b ∧ b ≤ 1000000) ∧ 0 ≤ c ∧ c ≤ 1000000 := by
  simp [clockB, inB] at h
  omega
def taskB (n : ByteArray) (h c d p q r : Int) : Bool := nameB n && (inB h 0 100000 && (inB c 0 100000 && (inB d 0 100000 && (decide (h + c + d > 0) && clockB p q r))))
theorem taskB_in {n : ByteArray} {h c d p q r : Int} (k : taskB n h c d p q r = true) : nameB n = true ∧ ((0 ≤ h ∧ h ≤ 100000) ∧ (0 ≤ c ∧ c ≤ 100000) ∧ 0 ≤ d ∧ d ≤ 100000) ∧ (h + c + d > 0) ∧ clockB p q r = true := by
  simp only [taskB, Bool.and_eq_true, inB_iff, decide_eq_true_eq] at k
  exact ⟨k.1, ⟨k.2.1, k.2.2.1, k.2.2.2.1⟩, k.2.2.2.2.1, k.2.2.2.2.2⟩
def behindB (p q r p' q' r' : Int) : Bool := decide (p ≤ p') && (decide (q ≤ q') && decide (r ≤ r'))
abbrev Tk := S44
abbrev Df := S57
def passB (p q r p' q' r' : Int) : Bool := decide (mn (mn (wrap64 (p' - p)) (wrap64 (q' - q))) (wrap64 (r' - r)) ≥ 0)
theorem passB_is {p q r p' q' r' : Int} (h : clockB p q r = true) (h' : clockB p' q' r' = true) : passB p q r p' q' r' = behindB p q r p' q' r' := by
  have a := clockB_in h
  have b := clockB_in h'
  unfold passB behindB
  rw [w64 (n := p' - p) (by omega) (by omega), w64 (n := q' - q) (by omega) (by omega), w64 (n := r' - r) (by omega) (by omega), Bool.eq_iff_iff]
  simp only [Bool.and_eq_true, decide_eq_true_eq]
  unfold mn
  repeat' split
  all_goals omega
def taskAt (β : Int → Int → Int → Bool) (xs : List Tk) (i : Int) : Bool := taskB (rd_T44 xs i).f0 (rd_T44 xs i).f1 (rd_T44 xs i).f2 (rd_T44 xs i).f3 (rd_T44 xs i).f4.f0 (rd_T44 xs i).f4.f1 (rd_T44 xs i).f4.f2 && (β (rd_T44 xs i).f4.f0 (rd_T44 xs i).f4.f1 (rd_T44 xs i).f4.f2 && (decide (¬ i > 0) || Op.bytesLess (rd_T44 xs (i - 1)).f0.toList (rd_T44 xs i).f0.toList))
def tasksFrom (β : Int → Int → Int → Bool) (xs : List Tk) : Nat → Nat → Bool
  | 0, _ => true
  | d + 1, i => taskAt β xs (i : Int) && tasksFrom β xs d (i + 1)
def defectAt (r : Int) (xs : List Df) (i : Int) : Bool := nameB (rd_T57 xs i).f0 && (inB (rd_T57 xs i).f1 1 1000000 && ((decide (¬ i > 0) || decide ((rd_T57 xs (i - 1)).f1 < (rd_T57 xs i).f1)) && inB (rd_T57 xs i).f2 0 r))
def defectsFrom (r : Int) (xs : List Df) : Nat → Nat → Bool
  | 0, _ => true
  | d + 1, i => defectAt r xs (i : Int) && defectsFrom r xs d (i + 1)
def fleetB (ts : List Tk) (cs : List Cr) (ds : List Df) (p q r : Int) : Bool := clockB p q r && (carryB cs && (decide ((ts.length : Int) ≤ 40) && (decide ((ds.length : Int) ≤ 20) && (tasksFrom (fun a b c => behindB a b c p q r) ts ts.length 0 && defectsFrom r ds ds.length 0))))
theorem tasks_same {p q r : Int} (h : clockB p q r = true) (xs : List Tk) (d : Nat) : ∀ i, tasksFrom (fun a b c => passB a b c p q r) xs d i = tasksFrom (fun a b c => behindB a b c p q r) xs d i := by
  induction d with
  | zero => intro i; rfl
  | succ d ih =>
    intro i
    simp only [tasksFrom, ih]
    congr 1
    unfold taskAt
    dsimp only
    cases ht : taskB (rd_T44 xs (i : Int)).f0 (rd_T44 xs (i : Int)).f1 (rd_T44 xs (i : Int)).f2 (rd_T44 xs (i : Int)).f3 (rd_T44 xs (i : Int)).f4.f0 (rd_T44 xs (i : Int)).f4.f1 (rd_T44 xs (i : Int)).f4.f2 with
    | false => rfl
    | true => rw [passB_is (taskB_in ht).2.2.2 h]
structure FleetSz (ts : List S44) (cs : List S84) (ds : List S57) : Prop where
  t : ∀ x ∈ ts, x.f0.size ≤ 140737488355328
  c : ∀ x ∈ cs, x.f0.size ≤ 140737488355328
  d : ∀ x ∈ ds, x.f0.size ≤ 140737488355328
  tn : ts.length ≤ 140737488355328
  cn : cs.length ≤ 140737488355328
  dn : ds.length ≤ 140737488355328
def fleetSzB (ts : List S44) (cs : List S84) (ds : List S57) : Bool := (ts.all (fun x => decide (x.f0.size ≤ 140737488355328)) && (cs.all (fun x => decide (x.f0.size ≤ 140737488355328)) && ds.all (fun x => decide (x.f0.size ≤ 140737488355328)))) && (decide (ts.length ≤ 140737488355328) && (decide (cs.length ≤ 140737488355328) && decide (ds.length ≤ 140737488355328)))
theorem fleetSz_of {ts : List S44} {cs : List S84} {ds : List S57} : fleetSzB ts cs ds = true ↔ FleetSz ts cs ds := by
  unfold fleetSzB
  simp only [Bool.and_eq_true, List.all_eq_true, decide_eq_true_eq]
  exact ⟨fun h => ⟨h.1.1, h.1.2.1, h.1.2.2, h.2.1, h.2.2.1, h.2.2.2⟩, fun h => ⟨⟨h.t, h.c, h.d⟩, h.tn, h.cn, h.dn⟩⟩
theorem tasks_step {β : Int → Int → Int → Bool} {l : List S44} {i : Nat} (h : i < l.length) {b R : Bool} (e : b = (tasksFrom β l (l.length - i) i && R)) : b = (taskAt β l (i : Int) && (tasksFrom β l (l.length - (i + 1)) (i + 1) && R)) := by
  rw [e, show l.length - i = (l.length - (i + 1)) + 1 by omega, ← Bool.and_assoc]; rfl
theorem tasks_end {β : Int → Int → Int → Bool} {l : List S44} {b R : Bool} (e : b = (tasksFrom β l (l.length - l.length) l.length && R)) : b = R := by
  rw [e, Nat.sub_self]; rfl
theorem defects_step {z : Int} {l : List S57} {i : Nat} (h : i < l.length) {b R : Bool} (e : b = (defectsFrom z l (l.length - i) i && R)) : b = (defectAt z l (i : Int) && (defectsFrom z l (l.length - (i + 1)) (i + 1) && R)) := by
  rw [e, show l.length - i = (l.length - (i + 1)) + 1 by omega, ← Bool.and_assoc]; rfl
theorem defects_end {z : Int} {l : List S57} {b R : Bool} (e : b = (defectsFrom z l (l.length - l.length) l.length && R)) : b = R := by
  rw [e, Nat.sub_self]; rfl
def taskAtPv (xs : List S44) (i : Int) : Bool := decide (¬ i > 0) || Op.bytesLess (rd_T44 xs (i - 1)).f0.toList (rd_T44 xs i).f0.toList
def defectAtPv (xs : List S57) (i : Int) : Bool := decide (¬ i > 0) || decide ((rd_T57 xs (i - 1)).f1 < (rd_T57 xs i).f1)
theorem impl_allIn_l (b c : Int) (xs : List Int) (hn : xs.length < 4611686018427387904) (d : Nat) : ∀ i : Nat, i + d = xs.length →
    Ev (fun k => impl_allIn.l0 k b c xs (xs.length : Int) (i : Int)) (allB (xs.drop i) b c) := by
  induction d with
  | zero =>
    intro i h
    refine ev_succ ?_
    simp only [impl_allIn.l0, if_neg (show ¬ ((i : Int) < (xs.length : Int)) by omega)]
    rw [List.drop_of_length_le (by omega)]
    exact ev_now _
  | succ d ih =>
    intro i h
    refine ev_succ ?_
    simp only [impl_allIn.l0, if_pos (show ((i : Int) < (xs.length : Int)) by omega), if_pos (show (0 : Int) ≤ (i : Int) by omega), impl_in_eq, Option.bind_some, w64s i (by omega)]
    rw [drop_rd (show i < xs.length by omega)]
    cases hb : inB (rd xs (i : Int)) b c with
    | true => simpa [allB, hb] using ih (i + 1) (by omega)
    | false => simpa [allB, hb] using ev_now false
theorem impl_allIn_ev (b c : Int) (xs : List Int) (hn : xs.length < 4611686018427387904) : Ev (fun k => impl_allIn.f k xs b c) (allB xs b c) := by
  simpa [impl_allIn.f] using impl_allIn_l b c xs hn xs.length 0 (by omega)
theorem impl_ClockOk_ev (a b c : Int) : Ev (fun k => impl_ClockOk.f k a b c) (clockB a b c) := by
  simp only [impl_ClockOk.f, impl_Clock_numbers.f, Option.bind_some]
  refine (impl_allIn_ev 0 1000000 [a, b, c] (by simp)).bind (f := fun _ t => some t) (ev_some ?_)
  simp [allB, clockB]
theorem slices_Max_ev (a b c : Int) : Ev (fun k => slices_Max_int_int.f k [a, b, c]) (mx (mx a b) c) := by
  have e : (([a, b, c] : List Int).length : Int) = 3 := rfl
  simp only [slices_Max_int_int.f, e, if_neg (show ¬ ((3 : Int) < 1) by omega), if_pos (show (0 : Int) < 3 by omega)]
  refine ev_succ ?_
  simp only [slices_Max_int_int.l0, e, if_pos (show (1 : Int) < 3 by omega), if_pos (show (0 : Int) ≤ 1 by omega), w64 (n := (1 : Int) + 1) (by omega) (by omega)]
  refine ev_succ ?_
  simp only [slices_Max_int_int.l0, e, if_pos (show (1 : Int) + 1 < 3 by omega), if_pos (show (0 : Int) ≤ 1 + 1 by omega), w64 (n := (1 : Int) + 1 + 1) (by omega) (by omega)]
  refine ev_succ ?_
  simp only [slices_Max_int_int.l0, e, if_neg (show ¬ ((1 : Int) + 1 + 1 < 3) by omega)]
  exact ev_now _
theorem impl_TaskOk_ev (n : ByteArray) (hn : n.size ≤ 140737488355328) (h c d p q r : Int) : Ev (fun k => impl_TaskOk.f k n h c d p q r) (taskB n h c d p q r) := by
  simp only [impl_TaskOk.f, impl_Task_numbers.f, Option.bind_some]
  refine (impl_isName_ev n hn).bind ?_
  unfold taskB
  cases nameB n with
  | false => simpa using ev_now false
  | true =>
    simp only [if_true, Bool.true_and]
    refine (impl_allIn_ev 0 100000 [h, c, d] (by simp)).bind ?_
    have e : allB [h, c, d] 0 100000 = (inB h 0 100000 && (inB c 0 100000 && inB d 0 100000)) := by simp [allB]
    rw [e]
    cases h1 : inB h 0 100000 with
    | false => simpa using ev_now false
    | true =>
      cases h2 : inB c 0 100000 with
      | false => simpa using ev_now false
      | true =>
        cases h3 : inB d 0 100000 with
        | false => simpa using ev_now false
        | true =>
          rw [inB_iff] at h1 h2 h3
          simp only [if_true, Bool.and_self, Bool.true_and]
          refine (slices_Max_ev h c d).bind ?_
          by_cases h4 : h + c + d > 0
          · simp only [if_pos (show mx (mx h c) d > 0 by unfold mx; repeat' split <;> omega), h4, decide_true, Bool.true_and]
            exact (impl_ClockOk_ev p q r).bind (f := fun _ t => some t) (ev_now _)
          · simp only [if_neg (show ¬ mx (mx h c) d > 0 by unfold mx; repeat' split <;> omega), h4, decide_false, Bool.false_and]
            exact ev_now _
theorem impl_passed_ev (p q r p' q' r' : Int) : Ev (fun k => impl_passed.f k p q r p' q' r') ([wrap64 (p' - p), wrap64 (q' - q), wrap64 (r' - r)], decide (mn (mn (wrap64 (p' - p)) (wrap64 (q' - q))) (wrap64 (r' - r)) ≥ 0)) := by
  simp only [impl_passed.f, Option.bind_some]
  generalize wrap64 (p' - p) = a
  generalize wrap64 (q' - q) = b
  generalize wrap64 (r' - r) = c
  have hm : Ev (fun k => slices_Min_int_int.f k [a, b, c]) (mn (mn a b) c) := by
    have e : (([a, b, c] : List Int).length : Int) = 3 := rfl
    simp only [slices_Min_int_int.f, e, if_neg (show ¬ ((3 : Int) < 1) by omega), if_pos (show (0 : Int) < 3 by omega)]
    refine ev_succ ?_
    simp only [slices_Min_int_int.l0, e, if_pos (show (1 : Int) < 3 by omega), if_pos (show (0 : Int) ≤ 1 by omega), w64 (n := (1 : Int) + 1) (by omega) (by omega)]
    refine ev_succ ?_
    simp only [slices_Min_int_int.l0, e, if_pos (show (1 : Int) + 1 < 3 by omega), if_pos (show (0 : Int) ≤ 1 + 1 by omega), w64 (n := (1 : Int) + 1 + 1) (by omega) (by omega)]
    refine ev_succ ?_
    simp only [slices_Min_int_int.l0, e, if_neg (show ¬ ((1 : Int) + 1 + 1 < 3) by omega)]
    exact ev_now _
  exact hm.bind (f := fun _ t => some (([a, b, c] : List Int), decide (t ≥ 0))) (ev_now _)
theorem eTaskOk : Ent Try.prog 14 := fun a w => enters_ Try.func14 rfl rfl a w
def fleetI (ts : List S44) (cs : List S84) (ds : List S57) (p q r : Int) : Bool := tasksFrom (fun a b c => passB a b c p q r) ts ts.length 0 && (defectsFrom r ds ds.length 0 && (decide ((ts.length : Int) ≤ 40) && (decide ((ds.length : Int) ≤ 20) && (carryB cs && clockB p q r))))
theorem fleet_same (ts : List S44) (cs : List S84) (ds : List S57) (p q r : Int) : fleetI ts cs ds p q r = fleetB ts cs ds p q r := by
  unfold fleetI fleetB
  cases h : clockB p q r with
  | false => simp
  | true =>
    rw [tasks_same h]
    cases tasksFrom (fun a b c => behindB a b c p q r) ts ts.length 0 <;> cases defectsFrom r ds ds.length 0 <;> cases carryB cs <;> simp
theorem task_t (n : ByteArray) (h c d p q r : Int) (hn : n.size ≤ 140737488355328) (w : World) : Calls Try.prog 14 #[.agg #[.string n, .int .i64 h, .int .i64 c, .int .i64 d, .int .i64 p, .int .i64 q, .int .i64 r]] w fun e w' => e = .returned (.bool (taskB n h c d p q r)) ∧ Below w.heap.size w w' := by
  obtain ⟨k, hk⟩ := (impl_TaskOk_ev n hn h c d p q r).rounds
  exact impl_TaskOk.calls k n h c d p q r _ w hk
theorem clock_t (a b c : Int) (w : World) : Calls Try.prog 9 #[.agg #[.int .i64 a, .int .i64 b, .int .i64 c]] w fun e w' => e = .returned (.bool (clockB a b c)) ∧ Below w.heap.size w w' := by
  obtain ⟨k, hk⟩ := (impl_ClockOk_ev a b c).rounds
  exact impl_ClockOk.calls k a b c _ w hk
theorem passed_t (p q r p' q' r' : Int) (w : World) : Calls Try.prog 30 #[.agg #[.int .i64 p, .int .i64 q, .int .i64 r], .agg #[.int .i64 p', .int .i64 q', .int .i64 r']] w fun e w' => ∃ v : Value, e = .returned (.tuple #[v, .bool (passB p q r p' q' r')]) ∧ Below w.heap.size w w' := by
  obtain ⟨k, hk⟩ := (impl_passed_ev p q r p' q' r').rounds
  exact (impl_passed.calls k p q r p' q' r' _ _ w hk).mono fun e w' ⟨v, h1, _, h2⟩ => ⟨v, h1, h2⟩
theorem kp_ {P : Program} {f : FuncId} {args : Array Value} {w : World} {b b' : Bool} (h : Calls P f args w fun e w' => ∃ v : Value, e = .returned (.tuple #[v, .bool b]) ∧ Below w.heap.size w w') (e : b = b') : Calls P f args w fun e w' => ∃ v : Value, e = .returned (.tuple #[v, .bool b']) ∧ Below w.heap.size w w' := e ▸ h
set_option maxHeartbeats 8000000 in
set_option maxRecDepth 100000 in
theorem impl_FleetOk.go (A0 : Option Addr) (c0 : Nat) (l0 : List S44) (A1 : Option Addr) (c1 : Nat) (l1 : List S84) (A2 : Option Addr) (c2 : Nat) (l2 : List S57) (p q r : Int) (w : World) (hr0 : Kd.C k44 w A0 l0.length l0) (hc0 : l0.length ≤ c0) (hr1 : Kd.C k84 w A1 l1.length l1) (hc1 : l1.length ≤ c1) (hr2 : Kd.C k57 w A2 l2.length l2) (hc2 : l2.length ≤ c2) (hz : FleetSz l0 l1 l2) :
    Calls Try.prog 8 #[.agg #[.slice A0 l0.length c0, .slice A1 l1.length c1, .slice A2 l2.length c2, .int .i64 p, .int .i64 q, .int .i64 r]] w fun e w' => e = .returned (.bool (fleetB l0 l1 l2 p q r)) ∧ Below w.heap.size w w' := by
  have hu44 := Try.underlying44
  have hu84 := Try.underlying84
  have hu57 := Try.underlying57
  have hu30 := Try.underlying30
  have hu28 := Try.underlying28
  have HR0 := Aside0.mk hr0
  have HR1 := Aside0.mk hr1
  have HR2 := Aside0.mk hr2
  have HX0 := Aside0.mk hz.t
  have HX1 := Aside0.mk hz.c
  have HX2 := Aside0.mk hz.d
  have hn0 := hz.tn
  have hn1 := hz.cn
  have hn2 := hz.dn
  clear hr0 hr1 hr2 hz
  rw [← fleet_same]
  have BK0 := Aside0.mk (blk_new w (.cells #[.slice A0 l0.length c0, .slice A1 l1.length c1, .slice A2 l2.length c2, .int .i64 p, .int .i64 q, .int .i64 r] 30 (0, 0)))
  have HB0 := Aside0.mk (below_alloc (Below.refl w.heap.size w) (.cells #[.slice A0 l0.length c0, .slice A1 l1.length c1, .slice A2 l2.length c2, .int .i64 p, .int .i64 q, .int .i64 r] 30 (0, 0)))
  go_enter Try.func8, Try.ntmps8
  go_wp2
  go_loopw [12] (fun v wr => ∃ i : Nat, i ≤ l0.length ∧ v = .int .i64 i ∧ Aside0 (fleetI l0 l1 l2 p q r = (tasksFrom (fun a b c => passB a b c p q r) l0 (l0.length - i) i && (defectsFrom r l2 l2.length 0 && (decide ((l0.length : Int) ≤ 40) && (decide ((l2.length : Int) ≤ 20) && (carryB l1 && clockB p q r)))))) ∧ Aside0 (wr.heap[w.heap.size]? = some (.cells #[.slice A0 l0.length c0, .slice A1 l1.length c1, .slice A2 l2.length c2, .int .i64 p, .int .i64 q, .int .i64 r] 30 (0, 0))) ∧ Aside0 (Below w.heap.size w wr)) (fun v _ => l0.length - (intOf v).toNat)
  case atStart => exact ⟨0, Nat.zero_le _, rfl, ⟨rfl⟩, BK0, HB0⟩
  case round =>
    clear BK0 HB0
    obtain ⟨i, hi, rfl, HE, BK, HB⟩ := hrel
    by_cases hlt : i < l0.length
    · have hfs := ck6 BK.out
      obtain ⟨ad, e0, hx0, hx1, hx2, hx3, hx4, hx5, hx6⟩ := at_T44 (Kd.C_below HR0.out HB.out) (i : Int) (by omega) (by omega)
      cases e0
      simp only [Int.toNat_natCast] at hx0 hx1 hx2 hx3 hx4 hx5 hx6
      obtain ⟨hf0, hf1, hf2, hf3, hf4, hf5⟩ := hfs
      have HS := Aside0.mk (tasks_step hlt HE.out)
      have HZ := Aside0.mk (HX0.out _ (List.getElem_mem hlt))
      rw [← rd_at44 hlt] at HZ
      have HK := Aside0.mk (blk_new wr (.cells #[.string (rd_T44 l0 (i : Int)).f0, .int .i64 (rd_T44 l0 (i : Int)).f1, .int .i64 (rd_T44 l0 (i : Int)).f2, .int .i64 (rd_T44 l0 (i : Int)).f3, .int .i64 (rd_T44 l0 (i : Int)).f4.f0, .int .i64 (rd_T44 l0 (i : Int)).f4.f1, .int .i64 (rd_T44 l0 (i : Int)).f4.f2] 44 (0, 0)))
      have HB2 := Aside0.mk (below_alloc HB.out (.cells #[.string (rd_T44 l0 (i : Int)).f0, .int .i64 (rd_T44 l0 (i : Int)).f1, .int .i64 (rd_T44 l0 (i : Int)).f2, .int .i64 (rd_T44 l0 (i : Int)).f3, .int .i64 (rd_T44 l0 (i : Int)).f4.f0, .int .i64 (rd_T44 l0 (i : Int)).f4.f1, .int .i64 (rd_T44 l0 (i : Int)).f4.f2] 44 (0, 0)))
      have BK2 := Aside0.mk (blk_alloc BK.out (.cells #[.string (rd_T44 l0 (i : Int)).f0, .int .i64 (rd_T44 l0 (i : Int)).f1, .int .i64 (rd_T44 l0 (i : Int)).f2, .int .i64 (rd_T44 l0 (i : Int)).f3, .int .i64 (rd_T44 l0 (i : Int)).f4.f0, .int .i64 (rd_T44 l0 (i : Int)).f4.f1, .int .i64 (rd_T44 l0 (i : Int)).f4.f2] 44 (0, 0)))
      go_upto_region 4 with (fail)
      generalize wr.heap.size = gx at HK ⊢
      refine world_ (fun W => W.heap[gx]? = some (.cells #[.string (rd_T44 l0 (i : Int)).f0, .int .i64 (rd_T44 l0 (i : Int)).f1, .int .i64 (rd_T44 l0 (i : Int)).f2, .int .i64 (rd_T44 l0 (i : Int)).f3, .int .i64 (rd_T44 l0 (i : Int)).f4.f0, .int .i64 (rd_T44 l0 (i : Int)).f4.f1, .int .i64 (rd_T44 l0 (i : Int)).f4.f2] 44 (0, 0)) ∧ W.heap[w.heap.size]? = some (.cells #[.slice (some ad) l0.length c0, .slice A1 l1.length c1, .slice A2 l2.length c2, .int .i64 p, .int .i64 q, .int .i64 r] 30 (0, 0)) ∧ Below w.heap.size w W) ⟨HK.out, BK2.out, HB2.out⟩ ?_
      clear HK HB2 HE HB hx0 hx1 hx2 hx3 hx4 hx5 hx6 BK2 BK hf0 hf1 hf2 hf3 hf4 hf5
      rintro W ⟨HK, BK, HB⟩
      replace HK := Aside0.mk HK
      replace HB := Aside0.mk HB
      replace BK := Aside0.mk BK
      obtain ⟨b1, Eb1⟩ : ∃ b, taskB (rd_T44 l0 (i : Int)).f0 (rd_T44 l0 (i : Int)).f1 (rd_T44 l0 (i : Int)).f2 (rd_T44 l0 (i : Int)).f3 (rd_T44 l0 (i : Int)).f4.f0 (rd_T44 l0 (i : Int)).f4.f1 (rd_T44 l0 (i : Int)).f4.f2 = b := ⟨_, rfl⟩
      have Kb1 := Aside0.mk (fun w' => kb_ (task_t (rd_T44 l0 (i : Int)).f0 (rd_T44 l0 (i : Int)).f1 (rd_T44 l0 (i : Int)).f2 (rd_T44 l0 (i : Int)).f3 (rd_T44 l0 (i : Int)).f4.f0 (rd_T44 l0 (i : Int)).f4.f1 (rd_T44 l0 (i : Int)).f4.f2 HZ.out w') Eb1)
      obtain ⟨b2, Eb2⟩ : ∃ b, passB (rd_T44 l0 (i : Int)).f4.f0 (rd_T44 l0 (i : Int)).f4.f1 (rd_T44 l0 (i : Int)).f4.f2 p q r = b := ⟨_, rfl⟩
      have Kb2 := Aside0.mk (fun w' => kp_ (passed_t (rd_T44 l0 (i : Int)).f4.f0 (rd_T44 l0 (i : Int)).f4.f1 (rd_T44 l0 (i : Int)).f4.f2 p q r w') Eb2)
      have HE := Aside0.mk (And.intro Eb1 Eb2)
      clear Eb1 Eb2
      have hfs := ck6 BK.out
      have hks := ck7 HK.out
      obtain ⟨hf0, hf1, hf2, hf3, hf4, hf5⟩ := hfs
      obtain ⟨hk0, hk1, hk2, hk3, hk4, hk5, hk6⟩ := hks
      go_upto_region 5 with ((go_at_call 30; (with_reducible refine (Kb2.out W).mono ?_); rintro e w5 ⟨v5, rfl, hb⟩))
      replace HK := Aside0.mk (blk_below HK.out hb)
      replace BK := Aside0.mk (blk_below BK.out hb)
      replace HB := Aside0.mk (below_step HB.out hb)
      clear hf0 hf1 hf2 hf3 hf4 hf5 hk0 hk1 hk2 hk3 hk4 hk5 hk6 hb
      go_cut [47] (fun v wc => v = .bool (!taskAt (fun a b c => passB a b c p q r) l0 (i : Int)) ∧ Aside0 (wc.heap[w.heap.size]? = some (.cells #[.slice (some ad) l0.length c0, .slice A1 l1.length c1, .slice A2 l2.length c2, .int .i64 p, .int .i64 q, .int .i64 r] 30 (0, 0))) ∧ Aside0 (Below w.heap.size w wc))
      case first =>
        clear HS
        rcases Nat.eq_zero_or_pos i with h0 | h0
        · subst h0
          have L := Aside0.mk (fun w' (h : Up w5 w') => (⟨ck (blk_below HK.out h) 0 rfl, ck (blk_below HK.out h) 1 rfl, ck (blk_below HK.out h) 2 rfl, ck (blk_below HK.out h) 3 rfl, ck (blk_below HK.out h) 4 rfl, ck (blk_below HK.out h) 5 rfl, ck (blk_below HK.out h) 6 rfl, ck (blk_below BK.out h) 0 rfl⟩ : w'.cell? ⟨gx, 0, none⟩ = some (.string (rd_T44 l0 ((0 : Nat) : Int)).f0) ∧ w'.cell? ⟨gx, 1, none⟩ = some (.int .i64 (rd_T44 l0 ((0 : Nat) : Int)).f1) ∧ w'.cell? ⟨gx, 2, none⟩ = some (.int .i64 (rd_T44 l0 ((0 : Nat) : Int)).f2) ∧ w'.cell? ⟨gx, 3, none⟩ = some (.int .i64 (rd_T44 l0 ((0 : Nat) : Int)).f3) ∧ w'.cell? ⟨gx, 4, none⟩ = some (.int .i64 (rd_T44 l0 ((0 : Nat) : Int)).f4.f0) ∧ w'.cell? ⟨gx, 5, none⟩ = some (.int .i64 (rd_T44 l0 ((0 : Nat) : Int)).f4.f1) ∧ w'.cell? ⟨gx, 6, none⟩ = some (.int .i64 (rd_T44 l0 ((0 : Nat) : Int)).f4.f2) ∧ w'.cell? ⟨w.heap.size, 0, none⟩ = some (.slice (some ad) l0.length c0)))
          have HP : Aside0 (taskAtPv l0 ((0 : Nat) : Int) = true) := ⟨rfl⟩
          rcases or2_ b1 b2 with rfl | ⟨rfl, rfl⟩ | ⟨rfl, rfl⟩
          all_goals
            (refine rg_ (by kernel_rfl) (by kernel_rfl) ?_; (repeat (first | refine qn_ ?_ | refine qc_ eTaskOk (fun w' _ => Kb1.out w') ?_ | refine ql_ L.out ?_)); refine qd_ ?_; intro w5 hb; (try go_wp2); go_meet; case rel => exact ⟨by have hp := HP.out; unfold taskAtPv at hp; unfold taskAt; (try dsimp only); rw [HE.out.1, HE.out.2, hp]; first | rfl | simp, ⟨blk_below BK.out hb⟩, ⟨below_step HB.out hb⟩⟩)
        · obtain ⟨j, rfl⟩ : ∃ j, i = j + 1 := ⟨i - 1, by omega⟩
          obtain ⟨ad', e0, y0, y1, y2, y3, y4, y5, y6⟩ := at_T44 HR0.out (j : Int) (by omega) (by omega)
          obtain rfl : ad = ad' := by injection e0
          simp only [Int.toNat_natCast] at y0 y1 y2 y3 y4 y5 y6
          have hj : wrap64 (j : Int) = (j : Int) := w64 (by omega) (by omega)
          have hjl : j < l0.length := by omega
          have L := Aside0.mk (fun w' (h : Up w5 w') => (⟨ck (blk_below HK.out h) 0 rfl, ck (blk_below HK.out h) 1 rfl, ck (blk_below HK.out h) 2 rfl, ck (blk_below HK.out h) 3 rfl, ck (blk_below HK.out h) 4 rfl, ck (blk_below HK.out h) 5 rfl, ck (blk_below HK.out h) 6 rfl, ck (blk_below BK.out h) 0 rfl, bc (below_step HB.out h) y0⟩ : w'.cell? ⟨gx, 0, none⟩ = some (.string (rd_T44 l0 ((j + 1 : Nat) : Int)).f0) ∧ w'.cell? ⟨gx, 1, none⟩ = some (.int .i64 (rd_T44 l0 ((j + 1 : Nat) : Int)).f1) ∧ w'.cell? ⟨gx, 2, none⟩ = some (.int .i64 (rd_T44 l0 ((j + 1 : Nat) : Int)).f2) ∧ w'.cell? ⟨gx, 3, none⟩ = some (.int .i64 (rd_T44 l0 ((j + 1 : Nat) : Int)).f3) ∧ w'.cell? ⟨gx, 4, none⟩ = some (.int .i64 (rd_T44 l0 ((j + 1 : Nat) : Int)).f4.f0) ∧ w'.cell? ⟨gx, 5, none⟩ = some (.int .i64 (rd_T44 l0 ((j + 1 : Nat) : Int)).f4.f1) ∧ w'.cell? ⟨gx, 6, none⟩ = some (.int .i64 (rd_T44 l0 ((j + 1 : Nat) : Int)).f4.f2) ∧ w'.cell? ⟨w.heap.size, 0, none⟩ = some (.slice (some ad) l0.length c0) ∧ w'.cell? (ad.add (j * 7)) = some (.string (rd_T44 l0 (j : Int)).f0)))
          obtain ⟨bP, EP⟩ : ∃ b, Op.bytesLess (rd_T44 l0 (j : Int)).f0.toList (rd_T44 l0 ((j : Int) + 1)).f0.toList = b := ⟨_, rfl⟩
          have HP : Aside0 (taskAtPv l0 ((j + 1 : Nat) : Int) = bP) := ⟨by unfold taskAtPv; rw [decide_eq_false (show ¬ ¬ ((j + 1 : Nat) : Int) > 0 by omega), show ((j + 1 : Nat) : Int) - 1 = (j : Int) by omega, show ((j + 1 : Nat) : Int) = (j : Int) + 1 by omega, EP]; rfl⟩
          clear y0 y1 y2 y3 y4 y5 y6 e0 h0
          rcases or3_ b1 b2 bP with rfl | ⟨rfl, rfl⟩ | ⟨rfl, rfl, rfl⟩ | ⟨rfl, rfl, rfl⟩
          all_goals
            (refine rg_ (by kernel_rfl) (by kernel_rfl) ?_; (repeat (first | refine qn_ ?_ | refine qc_ eTaskOk (fun w' _ => Kb1.out w') ?_ | refine ql_ L.out ?_)); refine qd_ ?_; intro w5 hb; (try go_wp2); go_meet; case rel => exact ⟨by have hp := HP.out; unfold taskAtPv at hp; unfold taskAt; (try dsimp only); rw [HE.out.1, HE.out.2, hp]; first | rfl | simp, ⟨blk_below BK.out hb⟩, ⟨below_step HB.out hb⟩⟩)
      case rest =>
        clear HB HZ HE HK BK
        obtain ⟨rfl, BK, HB⟩ := hcut
        cases hc : taskAt (fun a b c => passB a b c p q r) l0 (i : Int) with
        | false =>
          rw [hc] at HS
          go_wp2
          go_ret
          exact ⟨by rw [HS.out]; rfl, HB.out⟩
        | true =>
          rw [hc] at HS
          go_wp2
          go_roundw
          case rel => exact ⟨i + 1, by omega, by go_num, ⟨HS.out⟩, BK, HB⟩
          case measure => simp [intOf]; omega
    · obtain rfl : i = l0.length := by omega
      have HS := Aside0.mk (tasks_end HE.out)
      have HS0 := HS
      obtain ⟨hf0, hf1, hf2, hf3, hf4, hf5⟩ := ck6 BK.out
      clear HS HE
      go_wp2
      clear hf0 hf1 hf2 hf3 hf4 hf5
      have BK0 := BK
      have HB0 := HB
      clear BK HB
      obtain ⟨wo, rfl⟩ : ∃ wo : World, wo = wr := ⟨_, rfl⟩
      go_loopw [52] (fun v wr => ∃ i : Nat, i ≤ l2.length ∧ v = .int .i64 i ∧ Aside0 (fleetI l0 l1 l2 p q r = (defectsFrom r l2 (l2.length - i) i && (decide ((l0.length : Int) ≤ 40) && (decide ((l2.length : Int) ≤ 20) && (carryB l1 && clockB p q r))))) ∧ Aside0 (wr.heap[w.heap.size]? = some (.cells #[.slice A0 l0.length c0, .slice A1 l1.length c1, .slice A2 l2.length c2, .int .i64 p, .int .i64 q, .int .i64 r] 30 (0, 0))) ∧ Aside0 (Below w.heap.size w wr)) (fun v _ => l2.length - (intOf v).toNat)
      case atStart => exact ⟨0, Nat.zero_le _, rfl, ⟨HS0.out⟩, BK0, HB0⟩
      case round =>
        clear BK0 HB0 HS0
        obtain ⟨i, hi, rfl, HE, BK, HB⟩ := hrel
        by_cases hlt : i < l2.length
        · have hfs := ck6 BK.out
          obtain ⟨ad, e0, hx0, hx1, hx2⟩ := at_T57 (Kd.C_below HR2.out HB.out) (i : Int) (by omega) (by omega)
          cases e0
          simp only [Int.toNat_natCast] at hx0 hx1 hx2
          obtain ⟨hf0, hf1, hf2, hf3, hf4, hf5⟩ := hfs
          have HS := Aside0.mk (defects_step hlt HE.out)
          have HZ := Aside0.mk (HX2.out _ (List.getElem_mem hlt))
          rw [← rd_at57 hlt] at HZ
          have HK := Aside0.mk (blk_new wr (.cells #[.string (rd_T57 l2 (i : Int)).f0, .int .i64 (rd_T57 l2 (i : Int)).f1, .int .i64 (rd_T57 l2 (i : Int)).f2] 57 (0, 0)))
          have HB2 := Aside0.mk (below_alloc HB.out (.cells #[.string (rd_T57 l2 (i : Int)).f0, .int .i64 (rd_T57 l2 (i : Int)).f1, .int .i64 (rd_T57 l2 (i : Int)).f2] 57 (0, 0)))
          have BK2 := Aside0.mk (blk_alloc BK.out (.cells #[.string (rd_T57 l2 (i : Int)).f0, .int .i64 (rd_T57 l2 (i : Int)).f1, .int .i64 (rd_T57 l2 (i : Int)).f2] 57 (0, 0)))
          go_upto_region 11 with (fail)
          generalize wr.heap.size = gx at HK ⊢
          refine world_ (fun W => W.heap[gx]? = some (.cells #[.string (rd_T57 l2 (i : Int)).f0, .int .i64 (rd_T57 l2 (i : Int)).f1, .int .i64 (rd_T57 l2 (i : Int)).f2] 57 (0, 0)) ∧ W.heap[w.heap.size]? = some (.cells #[.slice A0 l0.length c0, .slice A1 l1.length c1, .slice (some ad) l2.length c2, .int .i64 p, .int .i64 q, .int .i64 r] 30 (0, 0)) ∧ Below w.heap.size w W) ⟨HK.out, BK2.out, HB2.out⟩ ?_
          clear HK HB2 HE HB hx0 hx1 hx2 BK2 BK hf0 hf1 hf2 hf3 hf4 hf5
          rintro W ⟨HK, BK, HB⟩
          replace HK := Aside0.mk HK
          replace HB := Aside0.mk HB
          replace BK := Aside0.mk BK
          obtain ⟨b1, Eb1⟩ : ∃ b, nameB (rd_T57 l2 (i : Int)).f0 = b := ⟨_, rfl⟩
          have Kb1 := Aside0.mk (fun w' => kb_ (name_t (rd_T57 l2 (i : Int)).f0 HZ.out w') Eb1)
          obtain ⟨b2, Eb2⟩ : ∃ b, inB (rd_T57 l2 (i : Int)).f1 1 1000000 = b := ⟨_, rfl⟩
          have Kb2 := Aside0.mk (fun w' => kb_ (in_t (rd_T57 l2 (i : Int)).f1 1 1000000 w') Eb2)
          obtain ⟨b3, Eb3⟩ : ∃ b, inB (rd_T57 l2 (i : Int)).f2 0 r = b := ⟨_, rfl⟩
          have Kb3 := Aside0.mk (fun w' => kb_ (in_t (rd_T57 l2 (i : Int)).f2 0 r w') Eb3)
          have HE := Aside0.mk (And.intro Eb1 (And.intro Eb2 Eb3))
          clear Eb1 Eb2 Eb3
          go_cut [91] (fun v wc => v = .bool (!defectAt r l2 (i : Int)) ∧ Aside0 (wc.heap[w.heap.size]? = some (.cells #[.slice A0 l0.length c0, .slice A1 l1.length c1, .slice (some ad) l2.length c2, .int .i64 p, .int .i64 q, .int .i64 r] 30 (0, 0))) ∧ Aside0 (Below w.heap.size w wc))
          case first =>
            clear HS
            rcases Nat.eq_zero_or_pos i with h0 | h0
            · subst h0
              have L := Aside0.mk (fun w' (h : Up W w') => (⟨ck (blk_below HK.out h) 0 rfl, ck (blk_below HK.out h) 1 rfl, ck (blk_below HK.out h) 2 rfl, ck (blk_below BK.out h) 2 rfl, ck (blk_below BK.out h) 5 rfl⟩ : w'.cell? ⟨gx, 0, none⟩ = some (.string (rd_T57 l2 ((0 : Nat) : Int)).f0) ∧ w'.cell? ⟨gx, 1, none⟩ = some (.int .i64 (rd_T57 l2 ((0 : Nat) : Int)).f1) ∧ w'.cell? ⟨gx, 2, none⟩ = some (.int .i64 (rd_T57 l2 ((0 : Nat) : Int)).f2) ∧ w'.cell? ⟨w.heap.size, 2, none⟩ = some (.slice (some ad) l2.length c2) ∧ w'.cell? ⟨w.heap.size, 5, none⟩ = some (.int .i64 r)))
              have HP : Aside0 (defectAtPv l2 ((0 : Nat) : Int) = true) := ⟨rfl⟩
              rcases or3_ b1 b2 b3 with rfl | ⟨rfl, rfl⟩ | ⟨rfl, rfl, rfl⟩ | ⟨rfl, rfl, rfl⟩
              all_goals
                (refine rg_ (by kernel_rfl) (by kernel_rfl) ?_; (repeat (first | refine qn_ ?_ | refine qc_ eName (fun w' _ => Kb1.out w') ?_ | refine qc_ eIn (fun w' _ => Kb2.out w') ?_ | refine qc_ eIn (fun w' _ => Kb3.out w') ?_ | refine ql_ L.out ?_)); refine qd_ ?_; intro w5 hb; (try go_wp2); go_meet; case rel => exact ⟨by have hp := HP.out; unfold defectAtPv at hp; unfold defectAt; (try dsimp only); rw [HE.out.1, HE.out.2.1, HE.out.2.2, hp]; first | rfl | simp, ⟨blk_below BK.out hb⟩, ⟨below_step HB.out hb⟩⟩)
            · obtain ⟨j, rfl⟩ : ∃ j, i = j + 1 := ⟨i - 1, by omega⟩
              obtain ⟨ad', e0, y0, y1, y2⟩ := at_T57 HR2.out (j : Int) (by omega) (by omega)
              obtain rfl : ad = ad' := by injection e0
              simp only [Int.toNat_natCast] at y0 y1 y2
              have hj : wrap64 (j : Int) = (j : Int) := w64 (by omega) (by omega)
              have hjl : j < l2.length := by omega
              have L := Aside0.mk (fun w' (h : Up W w') => (⟨ck (blk_below HK.out h) 0 rfl, ck (blk_below HK.out h) 1 rfl, ck (blk_below HK.out h) 2 rfl, ck (blk_below BK.out h) 2 rfl, ck (blk_below BK.out h) 5 rfl, bc (below_step HB.out h) y1⟩ : w'.cell? ⟨gx, 0, none⟩ = some (.string (rd_T57 l2 ((j + 1 : Nat) : Int)).f0) ∧ w'.cell? ⟨gx, 1, none⟩ = some (.int .i64 (rd_T57 l2 ((j + 1 : Nat) : Int)).f1) ∧ w'.cell? ⟨gx, 2, none⟩ = some (.int .i64 (rd_T57 l2 ((j + 1 : Nat) : Int)).f2) ∧ w'.cell? ⟨w.heap.size, 2, none⟩ = some (.slice (some ad) l2.length c2) ∧ w'.cell? ⟨w.heap.size, 5, none⟩ = some (.int .i64 r) ∧ w'.cell? ⟨(ad.add (j * 3)).block, (ad.add (j * 3)).off + 1, none⟩ = some (.int .i64 (rd_T57 l2 (j : Int)).f1)))
              obtain ⟨bP, EP⟩ : ∃ b, decide ((rd_T57 l2 (j : Int)).f1 < (rd_T57 l2 ((j : Int) + 1)).f1) = b := ⟨_, rfl⟩
              have HP : Aside0 (defectAtPv l2 ((j + 1 : Nat) : Int) = bP) := ⟨by unfold defectAtPv; rw [decide_eq_false (show ¬ ¬ ((j + 1 : Nat) : Int) > 0 by omega), show ((j + 1 : Nat) : Int) - 1 = (j : Int) by omega, show ((j + 1 : Nat) : Int) = (j : Int) + 1 by omega, EP]; rfl⟩
              have EQ : decide ((rd_T57 l2 ((j : Int) + 1)).f1 ≤ (rd_T57 l2 (j : Int)).f1) = !bP := by rw [← EP]; exact le_lt_ _ _
              clear EP
              clear y0 y1 y2 e0 h0
              rcases or4_ b1 b2 b3 bP with rfl | ⟨rfl, rfl⟩ | ⟨rfl, rfl, rfl⟩ | ⟨rfl, rfl, rfl, rfl⟩ | ⟨rfl, rfl, rfl, rfl⟩
              all_goals
                (refine rg_ (by kernel_rfl) (by kernel_rfl) ?_; (repeat (first | refine qn_ ?_ | refine qc_ eName (fun w' _ => Kb1.out w') ?_ | refine qc_ eIn (fun w' _ => Kb2.out w') ?_ | refine qc_ eIn (fun w' _ => Kb3.out w') ?_ | refine ql_ L.out ?_)); refine qd_ ?_; intro w5 hb; (try go_wp2); go_meet; case rel => exact ⟨by have hp := HP.out; unfold defectAtPv at hp; unfold defectAt; (try dsimp only); rw [HE.out.1, HE.out.2.1, HE.out.2.2, hp]; first | rfl | simp, ⟨blk_below BK.out hb⟩, ⟨below_step HB.out hb⟩⟩)
          case rest =>
            clear HB HZ HE HK BK
            obtain ⟨rfl, BK, HB⟩ := hcut
            cases hc : defectAt r l2 (i : Int) with
            | false =>
              rw [hc] at HS
              go_wp2
              go_ret
              exact ⟨by rw [HS.out]; rfl, HB.out⟩
            | true =>
              rw [hc] at HS
              go_wp2
              go_roundw
              case rel => exact ⟨i + 1, by omega, by go_num, ⟨HS.out⟩, BK, HB⟩
              case measure => simp [intOf]; omega
        · obtain rfl : i = l2.length := by omega
          have HS := Aside0.mk (defects_end HE.out)
          clear HE
          obtain ⟨hf0, hf1, hf2, hf3, hf4, hf5⟩ := ck6 BK.out
          obtain ⟨b1, E1⟩ : ∃ b, decide ((l0.length : Int) ≤ 40) = b := ⟨_, rfl⟩
          obtain ⟨b2, E2⟩ : ∃ b, decide ((l2.length : Int) ≤ 20) = b := ⟨_, rfl⟩
          obtain ⟨b3, E3⟩ : ∃ b, carryB l1 = b := ⟨_, rfl⟩
          obtain ⟨b4, E4⟩ : ∃ b, clockB p q r = b := ⟨_, rfl⟩
          have K3 := Aside0.mk (kb_ (impl_CarryOk.go A1 c1 l1 wr (Kd.C_below HR1.out HB.out) hc1 hn1 HX1.out) E3)
          have K4 := Aside0.mk (fun w' => kb_ (clock_t p q r w') E4)
          have HE := Aside0.mk (And.intro E1 (And.intro E2 (And.intro E3 E4)))
          clear E3 E4
          rcases or4_ b1 b2 b3 b4 with rfl | ⟨rfl, rfl⟩ | ⟨rfl, rfl, rfl⟩ | ⟨rfl, rfl, rfl, rfl⟩ | ⟨rfl, rfl, rfl, rfl⟩
          all_goals
            (go_wp2_with (first | (go_at_call 10; (with_reducible refine K3.out.mono ?_); rintro e w5 ⟨rfl, hb⟩; obtain ⟨hg0, hg1, hg2, hg3, hg4, hg5⟩ := ck6 (blk_below BK.out hb); have HB5 := Aside0.mk (below_step HB.out hb); clear hb) | (go_at_call 9; (with_reducible refine (K4.out _).mono ?_); rintro e w6 ⟨rfl, hb6⟩)); go_ret; exact ⟨by rw [HS.out, HE.out.1, HE.out.2.1, HE.out.2.2.1, HE.out.2.2.2]; rfl, by first | exact HB.out | exact HB5.out | exact below_step HB5.out hb6⟩)
-- HAND TO

/-! ### impl_Task: function 75 -/
def impl_Task.f (l0 : List (S44)) : Option ((List (S44))) := (some (([] : List (S44)) : List (S44))).bind fun y135 => (if y135.length + l0.length < 2199023255552 then (some (y135 ++ l0)) else (none))
set_option maxHeartbeats 8000000 in
set_option maxRecDepth 100000 in
theorem impl_Task.calls (A0 : Option Addr) (c0 : Nat) (l0 : List (S44)) (r : List (S44)) (w : World) (hr0 : Kd.C k44 w A0 l0.length l0) (hc0 : l0.length ≤ c0) (h : impl_Task.f l0 = some r) :
  Calls Try.prog 75 #[.slice A0 l0.length c0] w fun e w' => ∃ v0_ : Value, e = .returned (v0_) ∧ Kd.R k44 44 w' w.heap.size (fun _ => True) v0_ r ∧ Below w.heap.size w w' := by
 cases A0 with
 | none =>
  have hl : l0 = [] := by
   rcases Nat.eq_zero_or_pos l0.length with z | z
   ·
    exact List.length_eq_zero_iff.1 z
   ·
    obtain ⟨ad, e, _⟩ := hr0.2.2 z
    cases e
  subst hl
  obtain rfl : [] = r := by simpa [impl_Task.f] using h
  clear h hr0
  have he := fun W => Lib.run_eql_slice_nil (P := Try.prog) W 24 44 none 0 c0 0 0 Try.underlying24
  go_enter Try.func75, Try.ntmps75
  go_wp2
  go_ret
  exact ⟨_, rfl, Kd.R_nil _ _ _ _ _, Below.refl _ _⟩
 | some ad0 =>
  have HR0 := Aside0.mk hr0
  have HC0 := Aside0.mk hc0
  clear hr0 hc0
  have HB := Aside0.mk (Below.refl w.heap.size w)
  have H : ((some (([] : List (S44)) : List (S44))).bind fun y135 => (if y135.length + l0.length < 2199023255552 then (some (y135 ++ l0)) else (none))) = some r := h
  clear h
  obtain ⟨y135, hy135⟩ : ∃ y_ : List (S44), y_ = (([] : List (S44))) := ⟨_, rfl⟩
  replace H : (if y135.length + l0.length < 2199023255552 then (some (y135 ++ l0)) else (none)) = some r := by first | (rw [hy135]; with_reducible exact H) | (have H2_ := (Option.bind_some _ _).symm.trans H; rw [hy135]; with_reducible exact H2_) | (have H2_ := (Option.bind_some _ _).symm.trans H; with_reducible exact H2_) | with_reducible exact H | (rw [hy135]; exact H) | exact H
  have Ny135 := Aside0.mk hy135
  clear hy135
  by_cases c2 : y135.length + l0.length < 2199023255552
  ·
   rw [if_pos c2] at H
   have LMc2 := Aside0.mk c2
   clear c2
   obtain ⟨y138, hy138⟩ : ∃ y_ : List (S44), y_ = (y135 ++ l0) := ⟨_, rfl⟩
   replace H : (some y138) = some r := by first | (rw [hy138]; with_reducible exact H) | (have H2_ := (Option.bind_some _ _).symm.trans H; rw [hy138]; with_reducible exact H2_) | (have H2_ := (Option.bind_some _ _).symm.trans H; with_reducible exact H2_) | with_reducible exact H | (rw [hy138]; exact H) | exact H
   have Ny138 := Aside0.mk hy138
   clear hy138
   obtain rfl := Option.some.inj H
   have he := fun W => Lib.run_eql_slice_nil (P := Try.prog) W 24 44 (some ad0) l0.length c0 0 0 Try.underlying24
   go_enter Try.func75, Try.ntmps75
   go_wp2_with (first | ((with_reducible refine gate_dst (N := 5) rfl ?_); refine Kd.R_lit k44 _ 44 ?hg (N := 5) ?hd (xs := ([] : List (S44))) (inner := []) (ok := fun _ => True) (okp := fun _ => True) ?hr ?hp (fun _ hk => hk) trivial (Below.refl _ _) (Nat.le_refl _) (by simp) ?_; (case hd => rfl); (case hg => rfl); (case hr => first | (go_simp; done) | (go_simp; rfl)); (case hp => exact (Reps.none _ _)); intro v136 w3 ho4 hb hg_ hnew_; clear hg_ hnew_; (first | rw [← Ny135.out] at ho4 | (simp only [Int.reduceToNat] at ho4; rw [← Ny135.out] at ho4)); have HO137 := Aside0.mk (Kd.R_lower ho4 (below_size (bl HB.out))); replace HB := Aside0.mk (below_step (bl HB.out) hb); clear hb ho4) | ((with_reducible refine gate_builtin (b := .append) (xs := #[.tmp 5, .tmp 6]) rfl ?_); at_builtin; refine Kd.R_append_rows k44 (w0 := w) w.heap.size rfl (.tmp 5) (.tmp 6) 24 44 (.agg #[(.string ⟨#[]⟩), (.int .i64 0), (.int .i64 0), (.int .i64 0), (.int .i64 0), (.int .i64 0), (.int .i64 0)]) 64 rfl Try.underlying24 info44 rfl (by decide) (by omega) v136 y135 l0 _ _ _ (fun _ => True) (fun _ => False) rfl rfl ?aO ?aR (fun _ _ h => h) (fun _ h => h.elim) ?aF ?aB ?aS ?aL ?_; (case aR => exact rc (Kd.C_below HR0.out HB.out)); (case aB => exact (bl HB.out)); (case aF => exact (fun _ _ => trivial)); (case aO => exact (rl HO137.out)); (case aS => exact (below_size (bl HB.out))); (case aL => have := LMc2.out; omega); intro v139 w5 ho hb hg hat; rw [← Ny138.out] at ho; replace HB := Aside0.mk (hb); have HO140 := Aside0.mk (ho); clear HO137; clear ho hb hg hat))
   go_ret
   exact ⟨_, by first | rfl | (simp [errW_none, errW_some] <;> rfl) | (simp [*, errW_none, errW_some] <;> rfl), by (repeat apply rl1); exact HO140.out, bl HB.out⟩
  ·
   rw [if_neg c2] at H
   exact absurd H (by simp)

/-! ### impl_Carry: function 76 -/
def impl_Carry.f (l0 : List (S84)) : Option ((List (S84))) := (some (([] : List (S84)) : List (S84))).bind fun y141 => (if y141.length + l0.length < 4398046511104 then (some (y141 ++ l0)) else (none))
set_option maxHeartbeats 8000000 in
set_option maxRecDepth 100000 in
theorem impl_Carry.calls (A0 : Option Addr) (c0 : Nat) (l0 : List (S84)) (r : List (S84)) (w : World) (hr0 : Kd.C k84 w A0 l0.length l0) (hc0 : l0.length ≤ c0) (h : impl_Carry.f l0 = some r) :
  Calls Try.prog 76 #[.slice A0 l0.length c0] w fun e w' => ∃ v0_ : Value, e = .returned (v0_) ∧ Kd.R k84 84 w' w.heap.size (fun _ => True) v0_ r ∧ Below w.heap.size w w' := by
 cases A0 with
 | none =>
  have hl : l0 = [] := by
   rcases Nat.eq_zero_or_pos l0.length with z | z
   ·
    exact List.length_eq_zero_iff.1 z
   ·
    obtain ⟨ad, e, _⟩ := hr0.2.2 z
    cases e
  subst hl
  obtain rfl : [] = r := by simpa [impl_Carry.f] using h
  clear h hr0
  have he := fun W => Lib.run_eql_slice_nil (P := Try.prog) W 25 84 none 0 c0 0 0 Try.underlying25
  go_enter Try.func76, Try.ntmps76
  go_wp2
  go_ret
  exact ⟨_, rfl, Kd.R_nil _ _ _ _ _, Below.refl _ _⟩
 | some ad0 =>
  have HR0 := Aside0.mk hr0
  have HC0 := Aside0.mk hc0
  clear hr0 hc0
  have HB := Aside0.mk (Below.refl w.heap.size w)
  have H : ((some (([] : List (S84)) : List (S84))).bind fun y141 => (if y141.length + l0.length < 4398046511104 then (some (y141 ++ l0)) else (none))) = some r := h
  clear h
  obtain ⟨y141, hy141⟩ : ∃ y_ : List (S84), y_ = (([] : List (S84))) := ⟨_, rfl⟩
  replace H : (if y141.length + l0.length < 4398046511104 then (some (y141 ++ l0)) else (none)) = some r := by first | (rw [hy141]; with_reducible exact H) | (have H2_ := (Option.bind_some _ _).symm.trans H; rw [hy141]; with_reducible exact H2_) | (have H2_ := (Option.bind_some _ _).symm.trans H; with_reducible exact H2_) | with_reducible exact H | (rw [hy141]; exact H) | exact H
  have Ny141 := Aside0.mk hy141
  clear hy141
  by_cases c2 : y141.length + l0.length < 4398046511104
  ·
   rw [if_pos c2] at H
   have LMc2 := Aside0.mk c2
   clear c2
   obtain ⟨y144, hy144⟩ : ∃ y_ : List (S84), y_ = (y141 ++ l0) := ⟨_, rfl⟩
   replace H : (some y144) = some r := by first | (rw [hy144]; with_reducible exact H) | (have H2_ := (Option.bind_some _ _).symm.trans H; rw [hy144]; with_reducible exact H2_) | (have H2_ := (Option.bind_some _ _).symm.trans H; with_reducible exact H2_) | with_reducible exact H | (rw [hy144]; exact H) | exact H
   have Ny144 := Aside0.mk hy144
   clear hy144
   obtain rfl := Option.some.inj H
   have he := fun W => Lib.run_eql_slice_nil (P := Try.prog) W 25 84 (some ad0) l0.length c0 0 0 Try.underlying25
   go_enter Try.func76, Try.ntmps76
   go_wp2_with (first | ((with_reducible refine gate_dst (N := 5) rfl ?_); refine Kd.R_lit k84 _ 84 ?hg (N := 5) ?hd (xs := ([] : List (S84))) (inner := []) (ok := fun _ => True) (okp := fun _ => True) ?hr ?hp (fun _ hk => hk) trivial (Below.refl _ _) (Nat.le_refl _) (by simp) ?_; (case hd => rfl); (case hg => rfl); (case hr => first | (go_simp; done) | (go_simp; rfl)); (case hp => exact (Reps.none _ _)); intro v142 w3 ho4 hb hg_ hnew_; clear hg_ hnew_; (first | rw [← Ny141.out] at ho4 | (simp only [Int.reduceToNat] at ho4; rw [← Ny141.out] at ho4)); have HO143 := Aside0.mk (Kd.R_lower ho4 (below_size (bl HB.out))); replace HB := Aside0.mk (below_step (bl HB.out) hb); clear hb ho4) | ((with_reducible refine gate_builtin (b := .append) (xs := #[.tmp 5, .tmp 6]) rfl ?_); at_builtin; refine Kd.R_append_rows k84 (w0 := w) w.heap.size rfl (.tmp 5) (.tmp 6) 25 84 (.agg #[(.string ⟨#[]⟩), (.int .i64 0), (.int .i64 0)]) 32 rfl Try.underlying25 info84 rfl (by decide) (by omega) v142 y141 l0 _ _ _ (fun _ => True) (fun _ => False) rfl rfl ?aO ?aR (fun _ _ h => h) (fun _ h => h.elim) ?aF ?aB ?aS ?aL ?_; (case aR => exact rc (Kd.C_below HR0.out HB.out)); (case aB => exact (bl HB.out)); (case aF => exact (fun _ _ => trivial)); (case aO => exact (rl HO143.out)); (case aS => exact (below_size (bl HB.out))); (case aL => have := LMc2.out; omega); intro v145 w5 ho hb hg hat; rw [← Ny144.out] at ho; replace HB := Aside0.mk (hb); have HO146 := Aside0.mk (ho); clear HO143; clear ho hb hg hat))
   go_ret
   exact ⟨_, by first | rfl | (simp [errW_none, errW_some] <;> rfl) | (simp [*, errW_none, errW_some] <;> rfl), by (repeat apply rl1); exact HO146.out, bl HB.out⟩
  ·
   rw [if_neg c2] at H
   exact absurd H (by simp)

end Go.Proofs.Ytdimdlifjdbgnaa.PFnExactDoWork
