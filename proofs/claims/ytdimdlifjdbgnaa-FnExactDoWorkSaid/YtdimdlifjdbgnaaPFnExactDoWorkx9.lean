import Derived.Test.YtdimdlifjdbgnaaPFnExactDoWorkx8
namespace Go.Proofs.Ytdimdlifjdbgnaa.PFnExactDoWork
open Go.RowKit Go.Proofs.YtdimdlifjdbgnaaW.PrintWords Go.Proofs.YtdimdlifjdbgnaaW.PrintLast Go.Proofs.YtdimdlifjdbgnaaW.PrintMore Go.Proofs.Ytdimdlifjdbgnaa.Sq
attribute [local go_sem] max2_int min2_int max_two min_two max_three min_three max_four min_four
set_option linter.unusedVariables false
set_option linter.unusedSimpArgs false

/-! ### spec_ClockOk: function 90 -/
def spec_ClockOk.f (a0_0 : Int) (a0_1 : Int) (a0_2 : Int) : Option (Bool) := (spec_l1In.f a0_0 0 1000000).bind fun t208 => (if t208 = true then ((spec_l1In.f a0_1 0 1000000).bind fun t209 => (if t209 = true then ((spec_l1In.f a0_2 0 1000000).bind fun t210 => (some t210)) else (some false))) else (some false))
set_option maxHeartbeats 8000000 in
set_option maxRecDepth 100000 in
theorem spec_ClockOk.calls (a0_0 : Int) (a0_1 : Int) (a0_2 : Int) (r : Bool) (w : World) (h : spec_ClockOk.f a0_0 a0_1 a0_2 = some r) :
  Calls Try.prog 90 #[.agg #[.int .i64 a0_0, .int .i64 a0_1, .int .i64 a0_2]] w fun e w' => e = .returned (.bool r) ∧ Below w.heap.size w w' := by
 have hu28 := Try.underlying28
 have HB := Aside0.mk (Below.refl w.heap.size w)
 have H : ((spec_l1In.f a0_0 0 1000000).bind fun t208 => (if t208 = true then ((spec_l1In.f a0_1 0 1000000).bind fun t209 => (if t209 = true then ((spec_l1In.f a0_2 0 1000000).bind fun t210 => (some t210)) else (some false))) else (some false))) = some r := h
 clear h
 replace H := Option.bind_eq_some_iff.mp H
 obtain ⟨t208, A20, H⟩ := H
 replace H : (if t208 = true then ((spec_l1In.f a0_1 0 1000000).bind fun t209 => (if t209 = true then ((spec_l1In.f a0_2 0 1000000).bind fun t210 => (some t210)) else (some false))) else (some false)) = some r := H
 have A2 := Aside0.mk A20
 clear A20
 by_cases c3 : t208 = true
 ·
  subst c3
  have H1 : ((spec_l1In.f a0_1 0 1000000).bind fun t209 => (if t209 = true then ((spec_l1In.f a0_2 0 1000000).bind fun t210 => (some t210)) else (some false))) = some r := by rw [if_pos rfl] at H; exact H
  clear H
  have H := H1
  clear H1
  replace H := Option.bind_eq_some_iff.mp H
  obtain ⟨t209, A40, H⟩ := H
  replace H : (if t209 = true then ((spec_l1In.f a0_2 0 1000000).bind fun t210 => (some t210)) else (some false)) = some r := H
  have A4 := Aside0.mk A40
  clear A40
  by_cases c5 : t209 = true
  ·
   subst c5
   have H1 : ((spec_l1In.f a0_2 0 1000000).bind fun t210 => (some t210)) = some r := by rw [if_pos rfl] at H; exact H
   clear H
   have H := H1
   clear H1
   replace H := Option.bind_eq_some_iff.mp H
   obtain ⟨t210, A60, H⟩ := H
   replace H : (some t210) = some r := H
   have A6 := Aside0.mk A60
   clear A60
   obtain rfl := Option.some.inj H
   go_enter Try.func90, Try.ntmps90
   go_wp2_with (first | ((with_reducible refine gate_dst (N := 1) rfl ?_); refine box_event ?hg (N := 1) ?hd (cs := #[.int .i64 a0_0, .int .i64 a0_1, .int .i64 a0_2]) (t := 28) ?hr ?_; (case hd => rfl); (case hg => rfl); (case hr => first | (go_simp; done) | (go_simp; rfl)); intro gb207 hg w7 hbox hb; have BK207 := Aside0.mk (hbox); have GW207 := Aside0.mk ((by rw [hg]; exact (below_size (bl HB.out)) : w.heap.size ≤ gb207)); have GE207 := GW207; replace HB := Aside0.mk (below_step (bl HB.out) hb); clear hb hbox hg; obtain ⟨hcz8_0, hcz8_1, hcz8_2⟩ := ck3 BK207.out; obtain ⟨hfz8_0, hfz8_1, hfz8_2⟩ := fz3 BK207.out) | ((with_reducible refine gate_callee (f := 95) rfl ?_); refine goesL_ (some 5) rfl rfl Try.func95 (by kernel_rfl) rfl #[.int .i64 a0_0, .int .i64 0, .int .i64 1000000] rfl (by (try simp only [am_]); first | done | rfl) ?_; (with_reducible refine (spec_l1In.calls a0_0 0 1000000 true _ A2.out).mono ?_); rintro e w' ⟨rfl, ⟨nd, rfl⟩⟩; refine ⟨_, rfl, ?_⟩) | (go_at_call 95; (with_reducible refine (spec_l1In.calls a0_1 0 1000000 true _ A4.out).mono ?_); rintro e w' ⟨rfl, ⟨nd, rfl⟩⟩) | (go_at_call 95; (with_reducible refine (spec_l1In.calls a0_2 0 1000000 t210 _ A6.out).mono ?_); rintro e w' ⟨rfl, ⟨nd, rfl⟩⟩))
   go_ret
   exact ⟨by first | rfl | (simp [errW_none, errW_some] <;> rfl) | (simp [*, errW_none, errW_some] <;> rfl), by repeat with_reducible first | exact bl HB.out | refine below_set ?_ GE207.out | refine bq ?_⟩
  ·
   replace c5 := Bool.eq_false_iff.mpr c5
   subst c5
   have H1 : (some false) = some r := by rw [if_neg (show ¬ (false = true) by decide)] at H; exact H
   clear H
   have H := H1
   clear H1
   obtain rfl := Option.some.inj H
   go_enter Try.func90, Try.ntmps90
   go_wp2_with (first | ((with_reducible refine gate_dst (N := 1) rfl ?_); refine box_event ?hg (N := 1) ?hd (cs := #[.int .i64 a0_0, .int .i64 a0_1, .int .i64 a0_2]) (t := 28) ?hr ?_; (case hd => rfl); (case hg => rfl); (case hr => first | (go_simp; done) | (go_simp; rfl)); intro gb207 hg w9 hbox hb; have BK207 := Aside0.mk (hbox); have GW207 := Aside0.mk ((by rw [hg]; exact (below_size (bl HB.out)) : w.heap.size ≤ gb207)); have GE207 := GW207; replace HB := Aside0.mk (below_step (bl HB.out) hb); clear hb hbox hg; obtain ⟨hcz10_0, hcz10_1, hcz10_2⟩ := ck3 BK207.out; obtain ⟨hfz10_0, hfz10_1, hfz10_2⟩ := fz3 BK207.out) | ((with_reducible refine gate_callee (f := 95) rfl ?_); refine goesL_ (some 5) rfl rfl Try.func95 (by kernel_rfl) rfl #[.int .i64 a0_0, .int .i64 0, .int .i64 1000000] rfl (by (try simp only [am_]); first | done | rfl) ?_; (with_reducible refine (spec_l1In.calls a0_0 0 1000000 true _ A2.out).mono ?_); rintro e w' ⟨rfl, ⟨nd, rfl⟩⟩; refine ⟨_, rfl, ?_⟩) | (go_at_call 95; (with_reducible refine (spec_l1In.calls a0_1 0 1000000 false _ A4.out).mono ?_); rintro e w' ⟨rfl, ⟨nd, rfl⟩⟩))
   go_ret
   exact ⟨by first | rfl | (simp [errW_none, errW_some] <;> rfl) | (simp [*, errW_none, errW_some] <;> rfl), by repeat with_reducible first | exact bl HB.out | refine below_set ?_ GE207.out | refine bq ?_⟩
 ·
  replace c3 := Bool.eq_false_iff.mpr c3
  subst c3
  have H1 : (some false) = some r := by rw [if_neg (show ¬ (false = true) by decide)] at H; exact H
  clear H
  have H := H1
  clear H1
  obtain rfl := Option.some.inj H
  go_enter Try.func90, Try.ntmps90
  go_wp2_with (first | ((with_reducible refine gate_dst (N := 1) rfl ?_); refine box_event ?hg (N := 1) ?hd (cs := #[.int .i64 a0_0, .int .i64 a0_1, .int .i64 a0_2]) (t := 28) ?hr ?_; (case hd => rfl); (case hg => rfl); (case hr => first | (go_simp; done) | (go_simp; rfl)); intro gb207 hg w11 hbox hb; have BK207 := Aside0.mk (hbox); have GW207 := Aside0.mk ((by rw [hg]; exact (below_size (bl HB.out)) : w.heap.size ≤ gb207)); have GE207 := GW207; replace HB := Aside0.mk (below_step (bl HB.out) hb); clear hb hbox hg; obtain ⟨hcz12_0, hcz12_1, hcz12_2⟩ := ck3 BK207.out; obtain ⟨hfz12_0, hfz12_1, hfz12_2⟩ := fz3 BK207.out) | ((with_reducible refine gate_callee (f := 95) rfl ?_); refine goesL_ (some 5) rfl rfl Try.func95 (by kernel_rfl) rfl #[.int .i64 a0_0, .int .i64 0, .int .i64 1000000] rfl (by (try simp only [am_]); first | done | rfl) ?_; (with_reducible refine (spec_l1In.calls a0_0 0 1000000 false _ A2.out).mono ?_); rintro e w' ⟨rfl, ⟨nd, rfl⟩⟩; refine ⟨_, rfl, ?_⟩))
  go_ret
  exact ⟨by first | rfl | (simp [errW_none, errW_some] <;> rfl) | (simp [*, errW_none, errW_some] <;> rfl), by repeat with_reducible first | exact bl HB.out | refine below_set ?_ GE207.out | refine bq ?_⟩

/-! ### spec_l1Name: function 94 -/
mutual
def spec_l1Name.l0 : Nat → ByteArray → Int → Option (Bool)
 | 0, _, _ => none
 | k + 1, x0, x3 => if x3 < (x0.size : Int) then (if 0 ≤ x3 then ((spec_l1In.f (wrap64 (bt x0 x3)) 97 122).bind fun t212 => (if t212 = true then (spec_l1Name.j1 k x0 x3 false) else ((spec_l1In.f (wrap64 (bt x0 x3)) 65 90).bind fun t213 => (if t213 = true then (spec_l1Name.j1 k x0 x3 false) else ((spec_l1In.f (wrap64 (bt x0 x3)) 48 57).bind fun t214 => (if t214 = true then (spec_l1Name.j1 k x0 x3 false) else (spec_l1Name.j1 k x0 x3 ((wrap64 (bt x0 x3)) != 45)))))))) else (none)) else ((spec_l1In.f (x0.size : Int) 1 20).bind fun t211 => (some t211))
def spec_l1Name.j1 : Nat → ByteArray → Int → Bool → Option (Bool)
 | 0, _, _, _ => none
 | k + 1, x0, x3, x31 => if x31 = true then (some false) else (spec_l1Name.l0 k x0 (wrap64 (x3 + 1)))
end
def spec_l1Name.f (k : Nat) (a0 : ByteArray) : Option (Bool) := spec_l1Name.l0 k a0 0
set_option maxHeartbeats 8000000 in
set_option maxRecDepth 100000 in
theorem spec_l1Name.calls (k : Nat) (a0 : ByteArray) (r : Bool) (w : World) (h : spec_l1Name.f k a0 = some r) :
  Calls Try.prog 94 #[.string a0] w fun e w' => e = .returned (.bool r) ∧ Drawn0 w w' := by
 have H : (spec_l1Name.l0 k a0 0) = some r := h
 clear h
 have H' := Aside0.mk H
 clear H
 go_enter Try.func94, Try.ntmps94
 go_wp2
 go_loopg [3] k (fun kq v3 w' => ∃ (x3_1 : Int), v3 = .int .i64 x3_1 ∧ Aside0 (spec_l1Name.l0 kq a0 x3_1 = some r) ∧ Aside0 (kq ≤ k) ∧ Drawn0 w w')
 case atStart => exact ⟨(0), (by first | rfl | (simp; done) | (simp [*]; done)), H', ⟨Nat.le_refl _⟩, by repeat (first | exact Drawn0.refl _ | apply Drawn0.step)⟩
 case round =>
  clear H'
  obtain ⟨x3_1, rfl, HA, HK1, ⟨m1, rfl⟩⟩ := hrel
  cases gk with
  | zero => exact absurd HA.out (by simp [spec_l1Name.l0])
  | succ k1 =>
   have H := HA.out
   clear HA
   simp only [spec_l1Name.l0] at H
   by_cases c2 : x3_1 < (a0.size : Int)
   ·
    rw [if_pos c2] at H
    have c2b0 : decide (x3_1 < (a0.size : Int)) = true := decide_eq_true c2
    clear c2
    by_cases c3 : 0 ≤ x3_1
    ·
     rw [if_pos c3] at H
     have c3b0 : decide (0 ≤ x3_1) = true := decide_eq_true c3
     clear c3
     have HC5 := Aside0.mk H
     clear H
     have p4 : 0 ≤ (x3_1 : Int) := of_decide_eq_true (by first | (with_reducible assumption) | assumption)
     have q4 : x3_1 < (a0.size : Int) := of_decide_eq_true (by first | (with_reducible assumption) | assumption)
     have hx4 := bt_at a0 x3_1
     replace p4 := eq_true p4
     replace q4 := eq_true q4
     go_upto_region 5 with (fail)
     go_cut [31] (fun v31 wc => ∃ (kq : Nat) (x31_4 : Bool), v31 = .bool x31_4 ∧ Aside0 (spec_l1Name.j1 kq a0 x3_1 x31_4 = some r) ∧ Aside0 (kq ≤ k1) ∧ Drawn0 w wc)
     case first =>
      have H := HC5.out
      clear HC5
      replace H := Option.bind_eq_some_iff.mp H
      obtain ⟨t212, A60, H⟩ := H
      replace H : (if t212 = true then (spec_l1Name.j1 k1 a0 x3_1 false) else ((spec_l1In.f (wrap64 (bt a0 x3_1)) 65 90).bind fun t213 => (if t213 = true then (spec_l1Name.j1 k1 a0 x3_1 false) else ((spec_l1In.f (wrap64 (bt a0 x3_1)) 48 57).bind fun t214 => (if t214 = true then (spec_l1Name.j1 k1 a0 x3_1 false) else (spec_l1Name.j1 k1 a0 x3_1 ((wrap64 (bt a0 x3_1)) != 45))))))) = some r := H
      have A6 := Aside0.mk A60
      clear A60
      by_cases c7 : t212 = true
      ·
       subst c7
       have H1 : (spec_l1Name.j1 k1 a0 x3_1 false) = some r := by rw [if_pos rfl] at H; exact H
       clear H
       have H := H1
       clear H1
       have H' := Aside0.mk H
       clear H
       go_wp2_with (first | ((with_reducible refine gate_callee (f := 95) rfl ?_); refine goesL_ (some 16) rfl rfl Try.func95 (by kernel_rfl) rfl #[.int .i64 (wrap64 (bt a0 x3_1)), .int .i64 97, .int .i64 122] rfl (by (try simp only [am_]); first | done | rfl) ?_; (with_reducible refine (spec_l1In.calls (wrap64 (bt a0 x3_1)) 97 122 true _ A6.out).mono ?_); rintro e w' ⟨rfl, ⟨nd, rfl⟩⟩; refine ⟨_, rfl, ?_⟩))
       go_meet
       case rel => exact ⟨_, (false), (by first | rfl | (simp; done) | (simp [*]; done)), H', ⟨by have := HK1.out; first | omega | exact Nat.le_refl _⟩, by repeat (first | exact Drawn0.refl _ | apply Drawn0.step)⟩
      ·
       replace c7 := Bool.eq_false_iff.mpr c7
       subst c7
       have H1 : ((spec_l1In.f (wrap64 (bt a0 x3_1)) 65 90).bind fun t213 => (if t213 = true then (spec_l1Name.j1 k1 a0 x3_1 false) else ((spec_l1In.f (wrap64 (bt a0 x3_1)) 48 57).bind fun t214 => (if t214 = true then (spec_l1Name.j1 k1 a0 x3_1 false) else (spec_l1Name.j1 k1 a0 x3_1 ((wrap64 (bt a0 x3_1)) != 45)))))) = some r := by rw [if_neg (show ¬ (false = true) by decide)] at H; exact H
       clear H
       have H := H1
       clear H1
       replace H := Option.bind_eq_some_iff.mp H
       obtain ⟨t213, A80, H⟩ := H
       replace H : (if t213 = true then (spec_l1Name.j1 k1 a0 x3_1 false) else ((spec_l1In.f (wrap64 (bt a0 x3_1)) 48 57).bind fun t214 => (if t214 = true then (spec_l1Name.j1 k1 a0 x3_1 false) else (spec_l1Name.j1 k1 a0 x3_1 ((wrap64 (bt a0 x3_1)) != 45))))) = some r := H
       have A8 := Aside0.mk A80
       clear A80
       by_cases c9 : t213 = true
       ·
        subst c9
        have H1 : (spec_l1Name.j1 k1 a0 x3_1 false) = some r := by rw [if_pos rfl] at H; exact H
        clear H
        have H := H1
        clear H1
        have H' := Aside0.mk H
        clear H
        go_wp2_with (first | ((with_reducible refine gate_callee (f := 95) rfl ?_); refine goesL_ (some 16) rfl rfl Try.func95 (by kernel_rfl) rfl #[.int .i64 (wrap64 (bt a0 x3_1)), .int .i64 97, .int .i64 122] rfl (by (try simp only [am_]); first | done | rfl) ?_; (with_reducible refine (spec_l1In.calls (wrap64 (bt a0 x3_1)) 97 122 false _ A6.out).mono ?_); rintro e w' ⟨rfl, ⟨nd, rfl⟩⟩; refine ⟨_, rfl, ?_⟩) | (go_at_call 95; (with_reducible refine (spec_l1In.calls (wrap64 (bt a0 x3_1)) 65 90 true _ A8.out).mono ?_); rintro e w' ⟨rfl, ⟨nd, rfl⟩⟩))
        go_meet
        case rel => exact ⟨_, (false), (by first | rfl | (simp; done) | (simp [*]; done)), H', ⟨by have := HK1.out; first | omega | exact Nat.le_refl _⟩, by repeat (first | exact Drawn0.refl _ | apply Drawn0.step)⟩
       ·
        replace c9 := Bool.eq_false_iff.mpr c9
        subst c9
        have H1 : ((spec_l1In.f (wrap64 (bt a0 x3_1)) 48 57).bind fun t214 => (if t214 = true then (spec_l1Name.j1 k1 a0 x3_1 false) else (spec_l1Name.j1 k1 a0 x3_1 ((wrap64 (bt a0 x3_1)) != 45)))) = some r := by rw [if_neg (show ¬ (false = true) by decide)] at H; exact H
        clear H
        have H := H1
        clear H1
        replace H := Option.bind_eq_some_iff.mp H
        obtain ⟨t214, A100, H⟩ := H
        replace H : (if t214 = true then (spec_l1Name.j1 k1 a0 x3_1 false) else (spec_l1Name.j1 k1 a0 x3_1 ((wrap64 (bt a0 x3_1)) != 45))) = some r := H
        have A10 := Aside0.mk A100
        clear A100
        by_cases c11 : t214 = true
        ·
         subst c11
         have H1 : (spec_l1Name.j1 k1 a0 x3_1 false) = some r := by rw [if_pos rfl] at H; exact H
         clear H
         have H := H1
         clear H1
         have H' := Aside0.mk H
         clear H
         go_wp2_with (first | ((with_reducible refine gate_callee (f := 95) rfl ?_); refine goesL_ (some 16) rfl rfl Try.func95 (by kernel_rfl) rfl #[.int .i64 (wrap64 (bt a0 x3_1)), .int .i64 97, .int .i64 122] rfl (by (try simp only [am_]); first | done | rfl) ?_; (with_reducible refine (spec_l1In.calls (wrap64 (bt a0 x3_1)) 97 122 false _ A6.out).mono ?_); rintro e w' ⟨rfl, ⟨nd, rfl⟩⟩; refine ⟨_, rfl, ?_⟩) | (go_at_call 95; (with_reducible refine (spec_l1In.calls (wrap64 (bt a0 x3_1)) 65 90 false _ A8.out).mono ?_); rintro e w' ⟨rfl, ⟨nd, rfl⟩⟩) | (go_at_call 95; (with_reducible refine (spec_l1In.calls (wrap64 (bt a0 x3_1)) 48 57 true _ A10.out).mono ?_); rintro e w' ⟨rfl, ⟨nd, rfl⟩⟩))
         go_meet
         case rel => exact ⟨_, (false), (by first | rfl | (simp; done) | (simp [*]; done)), H', ⟨by have := HK1.out; first | omega | exact Nat.le_refl _⟩, by repeat (first | exact Drawn0.refl _ | apply Drawn0.step)⟩
        ·
         replace c11 := Bool.eq_false_iff.mpr c11
         subst c11
         have H1 : (spec_l1Name.j1 k1 a0 x3_1 ((wrap64 (bt a0 x3_1)) != 45)) = some r := by rw [if_neg (show ¬ (false = true) by decide)] at H; exact H
         clear H
         have H := H1
         clear H1
         have H' := Aside0.mk H
         clear H
         go_wp2_with (first | ((with_reducible refine gate_callee (f := 95) rfl ?_); refine goesL_ (some 16) rfl rfl Try.func95 (by kernel_rfl) rfl #[.int .i64 (wrap64 (bt a0 x3_1)), .int .i64 97, .int .i64 122] rfl (by (try simp only [am_]); first | done | rfl) ?_; (with_reducible refine (spec_l1In.calls (wrap64 (bt a0 x3_1)) 97 122 false _ A6.out).mono ?_); rintro e w' ⟨rfl, ⟨nd, rfl⟩⟩; refine ⟨_, rfl, ?_⟩) | (go_at_call 95; (with_reducible refine (spec_l1In.calls (wrap64 (bt a0 x3_1)) 65 90 false _ A8.out).mono ?_); rintro e w' ⟨rfl, ⟨nd, rfl⟩⟩) | (go_at_call 95; (with_reducible refine (spec_l1In.calls (wrap64 (bt a0 x3_1)) 48 57 false _ A10.out).mono ?_); rintro e w' ⟨rfl, ⟨nd, rfl⟩⟩))
         go_meet
         case rel => exact ⟨_, (((wrap64 (bt a0 x3_1)) != 45)), (by first | rfl | (simp; done) | (simp [*]; done)), H', ⟨by have := HK1.out; first | omega | exact Nat.le_refl _⟩, by repeat (first | exact Drawn0.refl _ | apply Drawn0.step)⟩
     case rest =>
      clear HC5
      try clear c1
      try clear c2
      try clear c2b0
      try clear p2
      try clear c3
      try clear c3b0
      try clear p4
      try clear q4
      try clear hx4
      try clear p6
      try clear c7
      try clear c9
      try clear c11
      try clear p4
      try clear q4
      obtain ⟨kq, x31_4, rfl, HA, HJ4, ⟨mc4, rfl⟩⟩ := hcut
      cases kq with
      | zero => exact absurd HA.out (by simp [spec_l1Name.j1])
      | succ kj4 =>
       have H := HA.out
       clear HA
       simp only [spec_l1Name.j1] at H
       by_cases c12 : x31_4 = true
       ·
        subst c12
        have H1 : (some false) = some r := by rw [if_pos rfl] at H; exact H
        clear H
        have H := H1
        clear H1
        obtain rfl := Option.some.inj H
        go_wp2
        go_ret
        exact ⟨by first | rfl | (simp; done) | (simp [*]; done), by repeat (first | exact Drawn0.refl _ | apply Drawn0.step)⟩
       ·
        replace c12 := Bool.eq_false_iff.mpr c12
        subst c12
        have H1 : (spec_l1Name.l0 kj4 a0 (wrap64 (x3_1 + 1))) = some r := by rw [if_neg (show ¬ (false = true) by decide)] at H; exact H
        clear H
        have H := H1
        clear H1
        have H' := Aside0.mk H
        clear H
        go_wp2
        go_roundg kj4
        case measure => have := HK1.out; have := HJ4.out; omega
        case rel => exact ⟨(wrap64 (x3_1 + 1)), (by first | rfl | (simp; done) | (simp [*]; done)), H', ⟨by have := HK1.out; have := HJ4.out; omega⟩, by repeat (first | exact Drawn0.refl _ | apply Drawn0.step)⟩
    ·
     rw [if_neg c3] at H
     exact absurd H (by simp)
   ·
    rw [if_neg c2] at H
    have c2b0 : decide (x3_1 < (a0.size : Int)) = false := decide_eq_false c2
    clear c2
    replace H := Option.bind_eq_some_iff.mp H
    obtain ⟨t211, A130, H⟩ := H
    replace H : (some t211) = some r := H
    have A13 := Aside0.mk A130
    clear A130
    obtain rfl := Option.some.inj H
    go_wp2_with (first | ((with_reducible refine gate_callee (f := 95) rfl ?_); refine goesL_ (some 34) rfl rfl Try.func95 (by kernel_rfl) rfl #[.int .i64 (a0.size : Int), .int .i64 1, .int .i64 20] rfl (by (try simp only [am_]); first | done | rfl) ?_; (with_reducible refine (spec_l1In.calls (a0.size : Int) 1 20 t211 _ A13.out).mono ?_); rintro e w' ⟨rfl, ⟨nd, rfl⟩⟩; refine ⟨_, rfl, ?_⟩))
    go_ret
    exact ⟨by first | rfl | (simp; done) | (simp [*]; done), by repeat (first | exact Drawn0.refl _ | apply Drawn0.step)⟩

-- HAND FROM
open Go.Proofs.Ytdimdlifjdbgnaa.Base Go.Proofs.Ytdimdlifjdbgnaa.Sq
theorem spec_in_eq (a b c : Int) : spec_l1In.f a b c = some (inB a b c) := in_form a b c
theorem spec_l1Name_l (s : ByteArray) (hn : s.size ≤ 140737488355328) (d : Nat) : ∀ i : Nat, i + d = s.size → Ev (fun k => spec_l1Name.l0 k s (i : Int)) (charsB s d i && inB (s.size : Int) 1 20) := by
  induction d with
  | zero =>
    intro i h
    refine ev_succ ?_
    simp only [spec_l1Name.l0, if_neg (show ¬ ((i : Int) < (s.size : Int)) by omega), spec_in_eq, Option.bind_some, charsB, Bool.true_and]
    exact ev_now _
  | succ d ih =>
    intro i h
    have hi := ih (i + 1) (by omega)
    refine ev_succ ?_
    have hb := bt_range s (i : Int)
    simp only [spec_l1Name.l0, if_pos (show ((i : Int) < (s.size : Int)) by omega), if_pos (show (0 : Int) ≤ (i : Int) by omega), spec_in_eq, Option.bind_some, w64 (show -9223372036854775808 ≤ bt s (i : Int) by omega) (show bt s (i : Int) ≤ 9223372036854775807 by omega)]
    unfold charsB
    generalize bt s (i : Int) = c
    refine Ev.congr (f := fun k => spec_l1Name.j1 k s (i : Int) (!charB c)) (fun k => ?_) ?_
    · by_cases hc : Alnum c
      · rw [show charB c = true by simp [charB, hc]]
        unfold Alnum at hc
        repeat' split
        all_goals first | rfl | (rename_i a1 a2 a3; rw [inB_iff] at a1 a2 a3; exfalso; omega)
      · rw [show charB c = (c == 45) by simp [charB, hc]]
        unfold Alnum at hc
        have n1 : inB c 97 122 = false := by rw [Bool.eq_false_iff, ne_eq, inB_iff]; omega
        have n2 : inB c 65 90 = false := by rw [Bool.eq_false_iff, ne_eq, inB_iff]; omega
        have n3 : inB c 48 57 = false := by rw [Bool.eq_false_iff, ne_eq, inB_iff]; omega
        simp only [n1, n2, n3, Bool.false_eq_true, if_false]
        rfl
    · refine ev_succ ?_
      cases charB c with
      | true => simpa only [spec_l1Name.j1, Bool.not_true, Bool.false_eq_true, if_false, w64s i (show i < 9223372036854775807 by omega), Bool.true_and] using hi
      | false => simpa only [spec_l1Name.j1, Bool.not_false, if_true, Bool.false_and] using ev_now false
theorem spec_l1Name_ev (s : ByteArray) (hn : s.size ≤ 140737488355328) : Ev (fun k => spec_l1Name.f k s) (nameB s) := by
  simpa [spec_l1Name.f, nameB] using spec_l1Name_l s hn s.size 0 (by omega)
theorem uName : Ent Try.prog 94 := fun a w => enters_ Try.func94 rfl rfl a w
theorem uIn : Ent Try.prog 95 := fun a w => enters_ Try.func95 rfl rfl a w
theorem name_u (s : ByteArray) (hs : s.size ≤ 140737488355328) (w : World) : Calls Try.prog 94 #[.string s] w fun e w' => e = .returned (.bool (nameB s)) ∧ Below w.heap.size w w' := by
  obtain ⟨k, hk⟩ := (spec_l1Name_ev s hs).rounds
  exact drawn_ (spec_l1Name.calls k s _ w hk)
theorem in_u (a b c : Int) (w : World) : Calls Try.prog 95 #[.int .i64 a, .int .i64 b, .int .i64 c] w fun e w' => e = .returned (.bool (inB a b c)) ∧ Below w.heap.size w w' := drawn_ (spec_l1In.calls a b c _ w (spec_in_eq a b c))
set_option maxHeartbeats 4000000 in
set_option maxRecDepth 100000 in
theorem spec_CarryOk.go (A0 : Option Addr) (c0 : Nat) (l0 : List S84) (w : World) (hr0 : Kd.C k84 w A0 l0.length l0) (hc0 : l0.length ≤ c0) (hn : l0.length ≤ 140737488355328) (hx : ∀ x ∈ l0, x.f0.size ≤ 140737488355328) :
    Calls Try.prog 91 #[.slice A0 l0.length c0] w fun e w' => e = .returned (.bool (carryB l0)) ∧ Below w.heap.size w w' := by
  have hu84 := Try.underlying84
  have HR := Aside0.mk hr0
  have HX := Aside0.mk hx
  clear hr0 hx
  go_enter Try.func91, Try.ntmps91
  go_wp2
  go_loopw [3] (fun v wr => ∃ i : Nat, i ≤ l0.length ∧ v = .int .i64 i ∧ Aside0 (carryB l0 = carryFrom l0 (l0.length - i) i) ∧ Aside0 (Below w.heap.size w wr)) (fun v _ => l0.length - (intOf v).toNat)
  case atStart => exact ⟨0, Nat.zero_le _, rfl, ⟨rfl⟩, ⟨Below.refl _ _⟩⟩
  case round =>
    obtain ⟨i, hi, rfl, HE, HB⟩ := hrel
    by_cases hlt : i < l0.length
    · obtain ⟨ad, e0, hx0, hx1, hx2⟩ := at_T84 (Kd.C_below HR.out HB.out) (i : Int) (by omega) (by omega)
      cases e0
      simp only [Int.toNat_natCast] at hx0 hx1 hx2
      have HS := Aside0.mk (carry_step hlt HE.out)
      have HZ := Aside0.mk (HX.out _ (List.getElem_mem hlt))
      rw [← rd_at84 hlt] at HZ
      have HK := Aside0.mk (blk_new wr (.cells #[.string (rd_T84 l0 (i : Int)).f0, .int .i64 (rd_T84 l0 (i : Int)).f1, .int .i64 (rd_T84 l0 (i : Int)).f2] 84 (0, 0)))
      have HB2 := Aside0.mk (below_alloc HB.out (.cells #[.string (rd_T84 l0 (i : Int)).f0, .int .i64 (rd_T84 l0 (i : Int)).f1, .int .i64 (rd_T84 l0 (i : Int)).f2] 84 (0, 0)))
      go_upto_region 5 with (fail)
      generalize wr.heap.size = gx at HK ⊢
      refine world_ (fun W => W.heap[gx]? = some (.cells #[.string (rd_T84 l0 (i : Int)).f0, .int .i64 (rd_T84 l0 (i : Int)).f1, .int .i64 (rd_T84 l0 (i : Int)).f2] 84 (0, 0)) ∧ Below w.heap.size w W) ⟨HK.out, HB2.out⟩ ?_
      clear HK HB2 HE HB hx0 hx1 hx2
      rintro W ⟨HK, HB⟩
      replace HK := Aside0.mk HK
      replace HB := Aside0.mk HB
      obtain ⟨b1, Eb1⟩ : ∃ b, nameB (rd_T84 l0 (i : Int)).f0 = b := ⟨_, rfl⟩
      have Kb1 := Aside0.mk (fun w' => kb_ (name_u (rd_T84 l0 (i : Int)).f0 HZ.out w') Eb1)
      obtain ⟨b2, Eb2⟩ : ∃ b, inB (rd_T84 l0 (i : Int)).f1 0 10 = b := ⟨_, rfl⟩
      have Kb2 := Aside0.mk (fun w' => kb_ (in_u (rd_T84 l0 (i : Int)).f1 0 10 w') Eb2)
      obtain ⟨b3, Eb3⟩ : ∃ b, inB (rd_T84 l0 (i : Int)).f2 0 120 = b := ⟨_, rfl⟩
      have Kb3 := Aside0.mk (fun w' => kb_ (in_u (rd_T84 l0 (i : Int)).f2 0 120 w') Eb3)
      have HE := Aside0.mk (And.intro Eb1 (And.intro Eb2 Eb3))
      clear Eb1 Eb2 Eb3
      go_cut [45] (fun v wc => v = .bool (!carryAt l0 (i : Int)) ∧ Aside0 (Below w.heap.size w wc))
      case first =>
        clear HS
        rcases Nat.eq_zero_or_pos i with h0 | h0
        · subst h0
          have L := Aside0.mk (fun w' (h : Up W w') => (⟨ck (blk_below HK.out h) 0 rfl, ck (blk_below HK.out h) 1 rfl, ck (blk_below HK.out h) 2 rfl⟩ : w'.cell? ⟨gx, 0, none⟩ = some (.string (rd_T84 l0 ((0 : Nat) : Int)).f0) ∧ w'.cell? ⟨gx, 1, none⟩ = some (.int .i64 (rd_T84 l0 ((0 : Nat) : Int)).f1) ∧ w'.cell? ⟨gx, 2, none⟩ = some (.int .i64 (rd_T84 l0 ((0 : Nat) : Int)).f2)))
          have HP : Aside0 (carryAtPv l0 ((0 : Nat) : Int) = true) := ⟨rfl⟩
          rcases or3_ b1 b2 b3 with rfl | ⟨rfl, rfl⟩ | ⟨rfl, rfl, rfl⟩ | ⟨rfl, rfl, rfl⟩
          all_goals
            (refine rg_ (by kernel_rfl) (by kernel_rfl) ?_; (repeat (first | refine qn_ ?_ | refine qc_ uName (fun w' _ => Kb1.out w') ?_ | refine qc_ uIn (fun w' _ => Kb2.out w') ?_ | refine qc_ uIn (fun w' _ => Kb3.out w') ?_ | refine ql_ L.out ?_)); refine qd_ ?_; intro w5 hb; (try go_wp2); go_meet; case rel => exact ⟨by have hp := HP.out; unfold carryAtPv at hp; unfold carryAt; (try dsimp only); rw [HE.out.1, HE.out.2.1, HE.out.2.2, hp]; first | rfl | simp, ⟨below_step HB.out hb⟩⟩)
        · obtain ⟨j, rfl⟩ : ∃ j, i = j + 1 := ⟨i - 1, by omega⟩
          obtain ⟨ad', e0, y0, y1, y2⟩ := at_T84 HR.out (j : Int) (by omega) (by omega)
          obtain rfl : ad = ad' := by injection e0
          simp only [Int.toNat_natCast] at y0 y1 y2
          have hj : wrap64 (j : Int) = (j : Int) := w64 (by omega) (by omega)
          have hjl : j < l0.length := by omega
          have L := Aside0.mk (fun w' (h : Up W w') => (⟨ck (blk_below HK.out h) 0 rfl, ck (blk_below HK.out h) 1 rfl, ck (blk_below HK.out h) 2 rfl, bc (below_step HB.out h) y0⟩ : w'.cell? ⟨gx, 0, none⟩ = some (.string (rd_T84 l0 ((j + 1 : Nat) : Int)).f0) ∧ w'.cell? ⟨gx, 1, none⟩ = some (.int .i64 (rd_T84 l0 ((j + 1 : Nat) : Int)).f1) ∧ w'.cell? ⟨gx, 2, none⟩ = some (.int .i64 (rd_T84 l0 ((j + 1 : Nat) : Int)).f2) ∧ w'.cell? (ad.add (j * 3)) = some (.string (rd_T84 l0 (j : Int)).f0)))
          obtain ⟨bP, EP⟩ : ∃ b, Op.bytesLess (rd_T84 l0 (j : Int)).f0.toList (rd_T84 l0 ((j : Int) + 1)).f0.toList = b := ⟨_, rfl⟩
          have HP : Aside0 (carryAtPv l0 ((j + 1 : Nat) : Int) = bP) := ⟨by unfold carryAtPv; rw [decide_eq_false (show ¬ ¬ ((j + 1 : Nat) : Int) > 0 by omega), show ((j + 1 : Nat) : Int) - 1 = (j : Int) by omega, show ((j + 1 : Nat) : Int) = (j : Int) + 1 by omega, EP]; rfl⟩
          clear y0 y1 y2 e0 h0
          rcases or4_ b1 bP b2 b3 with rfl | ⟨rfl, rfl⟩ | ⟨rfl, rfl, rfl⟩ | ⟨rfl, rfl, rfl, rfl⟩ | ⟨rfl, rfl, rfl, rfl⟩
          all_goals
            (refine rg_ (by kernel_rfl) (by kernel_rfl) ?_; (repeat (first | refine qn_ ?_ | refine qc_ uName (fun w' _ => Kb1.out w') ?_ | refine qc_ uIn (fun w' _ => Kb2.out w') ?_ | refine qc_ uIn (fun w' _ => Kb3.out w') ?_ | refine ql_ L.out ?_)); refine qd_ ?_; intro w5 hb; (try go_wp2); go_meet; case rel => exact ⟨by have hp := HP.out; unfold carryAtPv at hp; unfold carryAt; (try dsimp only); rw [HE.out.1, HE.out.2.1, HE.out.2.2, hp]; first | rfl | simp, ⟨below_step HB.out hb⟩⟩)
      case rest =>
        clear HB HZ HE HK
        obtain ⟨rfl, HB⟩ := hcut
        cases hc : carryAt l0 (i : Int) with
        | false =>
          rw [hc] at HS
          go_wp2
          go_ret
          exact ⟨by rw [HS.out]; rfl, HB.out⟩
        | true =>
          rw [hc] at HS
          go_wp2
          go_roundw
          case rel => exact ⟨i + 1, by omega, by go_num, ⟨HS.out⟩, HB⟩
          case measure => simp [intOf]; omega
    · obtain rfl : i = l0.length := by omega
      have HS := Aside0.mk (carry_end HE.out)
      go_wp2
      go_ret
      exact ⟨by rw [HS.out]; rfl, HB.out⟩
-- HAND TO

/-! ### spec_TaskOk: function 92 -/
def spec_TaskOk.f (k : Nat) (a0_0 : ByteArray) (a0_1 : Int) (a0_2 : Int) (a0_3 : Int) (a0_4 : Int) (a0_5 : Int) (a0_6 : Int) : Option (Bool) := (spec_l1Name.f k a0_0).bind fun t216 => (if t216 = true then ((spec_l1In.f a0_1 0 100000).bind fun t217 => (if t217 = true then ((spec_l1In.f a0_2 0 100000).bind fun t218 => (if t218 = true then ((spec_l1In.f a0_3 0 100000).bind fun t219 => (if t219 = true then (if (wrap64 ((wrap64 (a0_1 + a0_2)) + a0_3)) > 0 then ((spec_ClockOk.f a0_4 a0_5 a0_6).bind fun t220 => (some t220)) else (some false)) else (some false))) else (some false))) else (some false))) else (some false))
set_option maxHeartbeats 8000000 in
set_option maxRecDepth 100000 in
theorem spec_TaskOk.calls (k : Nat) (a0_0 : ByteArray) (a0_1 : Int) (a0_2 : Int) (a0_3 : Int) (a0_4 : Int) (a0_5 : Int) (a0_6 : Int) (r : Bool) (w : World) (h : spec_TaskOk.f k a0_0 a0_1 a0_2 a0_3 a0_4 a0_5 a0_6 = some r) :
  Calls Try.prog 92 #[.agg #[.string a0_0, .int .i64 a0_1, .int .i64 a0_2, .int .i64 a0_3, .int .i64 a0_4, .int .i64 a0_5, .int .i64 a0_6]] w fun e w' => e = .returned (.bool r) ∧ Below w.heap.size w w' := by
 have hu44 := Try.underlying44
 have hu28 := Try.underlying28
 have HB := Aside0.mk (Below.refl w.heap.size w)
 have H : ((spec_l1Name.f k a0_0).bind fun t216 => (if t216 = true then ((spec_l1In.f a0_1 0 100000).bind fun t217 => (if t217 = true then ((spec_l1In.f a0_2 0 100000).bind fun t218 => (if t218 = true then ((spec_l1In.f a0_3 0 100000).bind fun t219 => (if t219 = true then (if (wrap64 ((wrap64 (a0_1 + a0_2)) + a0_3)) > 0 then ((spec_ClockOk.f a0_4 a0_5 a0_6).bind fun t220 => (some t220)) else (some false)) else (some false))) else (some false))) else (some false))) else (some false))) = some r := h
 clear h
 replace H := Option.bind_eq_some_iff.mp H
 obtain ⟨t216, A20, H⟩ := H
 replace H : (if t216 = true then ((spec_l1In.f a0_1 0 100000).bind fun t217 => (if t217 = true then ((spec_l1In.f a0_2 0 100000).bind fun t218 => (if t218 = true then ((spec_l1In.f a0_3 0 100000).bind fun t219 => (if t219 = true then (if (wrap64 ((wrap64 (a0_1 + a0_2)) + a0_3)) > 0 then ((spec_ClockOk.f a0_4 a0_5 a0_6).bind fun t220 => (some t220)) else (some false)) else (some false))) else (some false))) else (some false))) else (some false)) = some r := H
 have A2 := Aside0.mk A20
 clear A20
 by_cases c3 : t216 = true
 ·
  subst c3
  have H1 : ((spec_l1In.f a0_1 0 100000).bind fun t217 => (if t217 = true then ((spec_l1In.f a0_2 0 100000).bind fun t218 => (if t218 = true then ((spec_l1In.f a0_3 0 100000).bind fun t219 => (if t219 = true then (if (wrap64 ((wrap64 (a0_1 + a0_2)) + a0_3)) > 0 then ((spec_ClockOk.f a0_4 a0_5 a0_6).bind fun t220 => (some t220)) else (some false)) else (some false))) else (some false))) else (some false))) = some r := by rw [if_pos rfl] at H; exact H
  clear H
  have H := H1
  clear H1
  replace H := Option.bind_eq_some_iff.mp H
  obtain ⟨t217, A40, H⟩ := H
  replace H : (if t217 = true then ((spec_l1In.f a0_2 0 100000).bind fun t218 => (if t218 = true then ((spec_l1In.f a0_3 0 100000).bind fun t219 => (if t219 = true then (if (wrap64 ((wrap64 (a0_1 + a0_2)) + a0_3)) > 0 then ((spec_ClockOk.f a0_4 a0_5 a0_6).bind fun t220 => (some t220)) else (some false)) else (some false))) else (some false))) else (some false)) = some r := H
  have A4 := Aside0.mk A40
  clear A40
  by_cases c5 : t217 = true
  ·
   subst c5
   have H1 : ((spec_l1In.f a0_2 0 100000).bind fun t218 => (if t218 = true then ((spec_l1In.f a0_3 0 100000).bind fun t219 => (if t219 = true then (if (wrap64 ((wrap64 (a0_1 + a0_2)) + a0_3)) > 0 then ((spec_ClockOk.f a0_4 a0_5 a0_6).bind fun t220 => (some t220)) else (some false)) else (some false))) else (some false))) = some r := by rw [if_pos rfl] at H; exact H
   clear H
   have H := H1
   clear H1
   replace H := Option.bind_eq_some_iff.mp H
   obtain ⟨t218, A60, H⟩ := H
   replace H : (if t218 = true then ((spec_l1In.f a0_3 0 100000).bind fun t219 => (if t219 = true then (if (wrap64 ((wrap64 (a0_1 + a0_2)) + a0_3)) > 0 then ((spec_ClockOk.f a0_4 a0_5 a0_6).bind fun t220 => (some t220)) else (some false)) else (some false))) else (some false)) = some r := H
   have A6 := Aside0.mk A60
   clear A60
   by_cases c7 : t218 = true
   ·
    subst c7
    have H1 : ((spec_l1In.f a0_3 0 100000).bind fun t219 => (if t219 = true then (if (wrap64 ((wrap64 (a0_1 + a0_2)) + a0_3)) > 0 then ((spec_ClockOk.f a0_4 a0_5 a0_6).bind fun t220 => (some t220)) else (some false)) else (some false))) = some r := by rw [if_pos rfl] at H; exact H
    clear H
    have H := H1
    clear H1
    replace H := Option.bind_eq_some_iff.mp H
    obtain ⟨t219, A80, H⟩ := H
    replace H : (if t219 = true then (if (wrap64 ((wrap64 (a0_1 + a0_2)) + a0_3)) > 0 then ((spec_ClockOk.f a0_4 a0_5 a0_6).bind fun t220 => (some t220)) else (some false)) else (some false)) = some r := H
    have A8 := Aside0.mk A80
    clear A80
    by_cases c9 : t219 = true
    ·
     subst c9
     have H1 : (if (wrap64 ((wrap64 (a0_1 + a0_2)) + a0_3)) > 0 then ((spec_ClockOk.f a0_4 a0_5 a0_6).bind fun t220 => (some t220)) else (some false)) = some r := by rw [if_pos rfl] at H; exact H
     clear H
     have H := H1
     clear H1
     by_cases c10 : (wrap64 ((wrap64 (a0_1 + a0_2)) + a0_3)) > 0
     ·
      rw [if_pos c10] at H
      have c10b0 : decide (0 < (wrap64 ((wrap64 (a0_1 + a0_2)) + a0_3))) = true := decide_eq_true c10
      clear c10
      replace H := Option.bind_eq_some_iff.mp H
      obtain ⟨t220, A110, H⟩ := H
      replace H : (some t220) = some r := H
      have A11 := Aside0.mk A110
      clear A110
      obtain rfl := Option.some.inj H
      go_enter Try.func92, Try.ntmps92
      go_wp2_with (first | ((with_reducible refine gate_dst (N := 1) rfl ?_); refine box_event ?hg (N := 1) ?hd (cs := #[.string a0_0, .int .i64 a0_1, .int .i64 a0_2, .int .i64 a0_3, .int .i64 a0_4, .int .i64 a0_5, .int .i64 a0_6]) (t := 44) ?hr ?_; (case hd => rfl); (case hg => rfl); (case hr => first | (go_simp; done) | (go_simp; rfl)); intro gb215 hg w12 hbox hb; have BK215 := Aside0.mk (hbox); have GW215 := Aside0.mk ((by rw [hg]; exact (below_size (bl HB.out)) : w.heap.size ≤ gb215)); have GE215 := GW215; replace HB := Aside0.mk (below_step (bl HB.out) hb); clear hb hbox hg; obtain ⟨hcz13_0, hcz13_1, hcz13_2, hcz13_3, hcz13_4, hcz13_5, hcz13_6⟩ := ck7 BK215.out; obtain ⟨hfz13_0, hfz13_1, hfz13_2, hfz13_3, hfz13_4, hfz13_5, hfz13_6⟩ := fz7 BK215.out) | ((with_reducible refine gate_callee (f := 94) rfl ?_); refine goesL_ (some 5) rfl rfl Try.func94 (by kernel_rfl) rfl #[.string a0_0] rfl (by (try simp only [am_]); first | done | rfl) ?_; (with_reducible refine (spec_l1Name.calls k a0_0 true _ A2.out).mono ?_); rintro e w' ⟨rfl, ⟨nd, rfl⟩⟩; refine ⟨_, rfl, ?_⟩) | (go_at_call 95; (with_reducible refine (spec_l1In.calls a0_1 0 100000 true _ A4.out).mono ?_); rintro e w' ⟨rfl, ⟨nd, rfl⟩⟩) | (go_at_call 95; (with_reducible refine (spec_l1In.calls a0_2 0 100000 true _ A6.out).mono ?_); rintro e w' ⟨rfl, ⟨nd, rfl⟩⟩) | (go_at_call 95; (with_reducible refine (spec_l1In.calls a0_3 0 100000 true _ A8.out).mono ?_); rintro e w' ⟨rfl, ⟨nd, rfl⟩⟩) | (go_at_call 90; (with_reducible refine (spec_ClockOk.calls a0_4 a0_5 a0_6 t220 _ A11.out).mono ?_); rintro e w14 ⟨rfl, hb⟩; replace BK215 := Aside0.mk (blk_below (bk BK215.out) hb); replace HB := Aside0.mk (below_step (by repeat with_reducible first | exact bl HB.out | refine below_set ?_ GE215.out | refine bq ?_) hb); (try clear hb); (try clear hb2); (try clear hk); (try clear hi)))
      go_ret
      exact ⟨by first | rfl | (simp [errW_none, errW_some] <;> rfl) | (simp [*, errW_none, errW_some] <;> rfl), by repeat with_reducible first | exact bl HB.out | refine below_set ?_ GE215.out | refine bq ?_⟩
     ·
      rw [if_neg c10] at H
      have c10b0 : decide (0 < (wrap64 ((wrap64 (a0_1 + a0_2)) + a0_3))) = false := decide_eq_false c10
      clear c10
      obtain rfl := Option.some.inj H
      go_enter Try.func92, Try.ntmps92
      go_wp2_with (first | ((with_reducible refine gate_dst (N := 1) rfl ?_); refine box_event ?hg (N := 1) ?hd (cs := #[.string a0_0, .int .i64 a0_1, .int .i64 a0_2, .int .i64 a0_3, .int .i64 a0_4, .int .i64 a0_5, .int .i64 a0_6]) (t := 44) ?hr ?_; (case hd => rfl); (case hg => rfl); (case hr => first | (go_simp; done) | (go_simp; rfl)); intro gb215 hg w15 hbox hb; have BK215 := Aside0.mk (hbox); have GW215 := Aside0.mk ((by rw [hg]; exact (below_size (bl HB.out)) : w.heap.size ≤ gb215)); have GE215 := GW215; replace HB := Aside0.mk (below_step (bl HB.out) hb); clear hb hbox hg; obtain ⟨hcz16_0, hcz16_1, hcz16_2, hcz16_3, hcz16_4, hcz16_5, hcz16_6⟩ := ck7 BK215.out; obtain ⟨hfz16_0, hfz16_1, hfz16_2, hfz16_3, hfz16_4, hfz16_5, hfz16_6⟩ := fz7 BK215.out) | ((with_reducible refine gate_callee (f := 94) rfl ?_); refine goesL_ (some 5) rfl rfl Try.func94 (by kernel_rfl) rfl #[.string a0_0] rfl (by (try simp only [am_]); first | done | rfl) ?_; (with_reducible refine (spec_l1Name.calls k a0_0 true _ A2.out).mono ?_); rintro e w' ⟨rfl, ⟨nd, rfl⟩⟩; refine ⟨_, rfl, ?_⟩) | (go_at_call 95; (with_reducible refine (spec_l1In.calls a0_1 0 100000 true _ A4.out).mono ?_); rintro e w' ⟨rfl, ⟨nd, rfl⟩⟩) | (go_at_call 95; (with_reducible refine (spec_l1In.calls a0_2 0 100000 true _ A6.out).mono ?_); rintro e w' ⟨rfl, ⟨nd, rfl⟩⟩) | (go_at_call 95; (with_reducible refine (spec_l1In.calls a0_3 0 100000 true _ A8.out).mono ?_); rintro e w' ⟨rfl, ⟨nd, rfl⟩⟩))
      go_ret
      exact ⟨by first | rfl | (simp [errW_none, errW_some] <;> rfl) | (simp [*, errW_none, errW_some] <;> rfl), by repeat with_reducible first | exact bl HB.out | refine below_set ?_ GE215.out | refine bq ?_⟩
    ·
     replace c9 := Bool.eq_false_iff.mpr c9
     subst c9
     have H1 : (some false) = some r := by rw [if_neg (show ¬ (false = true) by decide)] at H; exact H
     clear H
     have H := H1
     clear H1
     obtain rfl := Option.some.inj H
     go_enter Try.func92, Try.ntmps92
     go_wp2_with (first | ((with_reducible refine gate_dst (N := 1) rfl ?_); refine box_event ?hg (N := 1) ?hd (cs := #[.string a0_0, .int .i64 a0_1, .int .i64 a0_2, .int .i64 a0_3, .int .i64 a0_4, .int .i64 a0_5, .int .i64 a0_6]) (t := 44) ?hr ?_; (case hd => rfl); (case hg => rfl); (case hr => first | (go_simp; done) | (go_simp; rfl)); intro gb215 hg w17 hbox hb; have BK215 := Aside0.mk (hbox); have GW215 := Aside0.mk ((by rw [hg]; exact (below_size (bl HB.out)) : w.heap.size ≤ gb215)); have GE215 := GW215; replace HB := Aside0.mk (below_step (bl HB.out) hb); clear hb hbox hg; obtain ⟨hcz18_0, hcz18_1, hcz18_2, hcz18_3, hcz18_4, hcz18_5, hcz18_6⟩ := ck7 BK215.out; obtain ⟨hfz18_0, hfz18_1, hfz18_2, hfz18_3, hfz18_4, hfz18_5, hfz18_6⟩ := fz7 BK215.out) | ((with_reducible refine gate_callee (f := 94) rfl ?_); refine goesL_ (some 5) rfl rfl Try.func94 (by kernel_rfl) rfl #[.string a0_0] rfl (by (try simp only [am_]); first | done | rfl) ?_; (with_reducible refine (spec_l1Name.calls k a0_0 true _ A2.out).mono ?_); rintro e w' ⟨rfl, ⟨nd, rfl⟩⟩; refine ⟨_, rfl, ?_⟩) | (go_at_call 95; (with_reducible refine (spec_l1In.calls a0_1 0 100000 true _ A4.out).mono ?_); rintro e w' ⟨rfl, ⟨nd, rfl⟩⟩) | (go_at_call 95; (with_reducible refine (spec_l1In.calls a0_2 0 100000 true _ A6.out).mono ?_); rintro e w' ⟨rfl, ⟨nd, rfl⟩⟩) | (go_at_call 95; (with_reducible refine (spec_l1In.calls a0_3 0 100000 false _ A8.out).mono ?_); rintro e w' ⟨rfl, ⟨nd, rfl⟩⟩))
     go_ret
     exact ⟨by first | rfl | (simp [errW_none, errW_some] <;> rfl) | (simp [*, errW_none, errW_some] <;> rfl), by repeat with_reducible first | exact bl HB.out | refine below_set ?_ GE215.out | refine bq ?_⟩
   ·
    replace c7 := Bool.eq_false_iff.mpr c7
    subst c7
    have H1 : (some false) = some r := by rw [if_neg (show ¬ (false = true) by decide)] at H; exact H
    clear H
    have H := H1
    clear H1
    obtain rfl := Option.some.inj H
    go_enter Try.func92, Try.ntmps92
    go_wp2_with (first | ((with_reducible refine gate_dst (N := 1) rfl ?_); refine box_event ?hg (N := 1) ?hd (cs := #[.string a0_0, .int .i64 a0_1, .int .i64 a0_2, .int .i64 a0_3, .int .i64 a0_4, .int .i64 a0_5, .int .i64 a0_6]) (t := 44) ?hr ?_; (case hd => rfl); (case hg => rfl); (case hr => first | (go_simp; done) | (go_simp; rfl)); intro gb215 hg w19 hbox hb; have BK215 := Aside0.mk (hbox); have GW215 := Aside0.mk ((by rw [hg]; exact (below_size (bl HB.out)) : w.heap.size ≤ gb215)); have GE215 := GW215; replace HB := Aside0.mk (below_step (bl HB.out) hb); clear hb hbox hg; obtain ⟨hcz20_0, hcz20_1, hcz20_2, hcz20_3, hcz20_4, hcz20_5, hcz20_6⟩ := ck7 BK215.out; obtain ⟨hfz20_0, hfz20_1, hfz20_2, hfz20_3, hfz20_4, hfz20_5, hfz20_6⟩ := fz7 BK215.out) | ((with_reducible refine gate_callee (f := 94) rfl ?_); refine goesL_ (some 5) rfl rfl Try.func94 (by kernel_rfl) rfl #[.string a0_0] rfl (by (try simp only [am_]); first | done | rfl) ?_; (with_reducible refine (spec_l1Name.calls k a0_0 true _ A2.out).mono ?_); rintro e w' ⟨rfl, ⟨nd, rfl⟩⟩; refine ⟨_, rfl, ?_⟩) | (go_at_call 95; (with_reducible refine (spec_l1In.calls a0_1 0 100000 true _ A4.out).mono ?_); rintro e w' ⟨rfl, ⟨nd, rfl⟩⟩) | (go_at_call 95; (with_reducible refine (spec_l1In.calls a0_2 0 100000 false _ A6.out).mono ?_); rintro e w' ⟨rfl, ⟨nd, rfl⟩⟩))
    go_ret
    exact ⟨by first | rfl | (simp [errW_none, errW_some] <;> rfl) | (simp [*, errW_none, errW_some] <;> rfl), by repeat with_reducible first | exact bl HB.out | refine below_set ?_ GE215.out | refine bq ?_⟩
  ·
   replace c5 := Bool.eq_false_iff.mpr c5
   subst c5
   have H1 : (some false) = some r := by rw [if_neg (show ¬ (false = true) by decide)] at H; exact H
   clear H
   have H := H1
   clear H1
   obtain rfl := Option.some.inj H
   go_enter Try.func92, Try.ntmps92
   go_wp2_with (first | ((with_reducible refine gate_dst (N := 1) rfl ?_); refine box_event ?hg (N := 1) ?hd (cs := #[.string a0_0, .int .i64 a0_1, .int .i64 a0_2, .int .i64 a0_3, .int .i64 a0_4, .int .i64 a0_5, .int .i64 a0_6]) (t := 44) ?hr ?_; (case hd => rfl); (case hg => rfl); (case hr => first | (go_simp; done) | (go_simp; rfl)); intro gb215 hg w21 hbox hb; have BK215 := Aside0.mk (hbox); have GW215 := Aside0.mk ((by rw [hg]; exact (below_size (bl HB.out)) : w.heap.size ≤ gb215)); have GE215 := GW215; replace HB := Aside0.mk (below_step (bl HB.out) hb); clear hb hbox hg; obtain ⟨hcz22_0, hcz22_1, hcz22_2, hcz22_3, hcz22_4, hcz22_5, hcz22_6⟩ := ck7 BK215.out; obtain ⟨hfz22_0, hfz22_1, hfz22_2, hfz22_3, hfz22_4, hfz22_5, hfz22_6⟩ := fz7 BK215.out) | ((with_reducible refine gate_callee (f := 94) rfl ?_); refine goesL_ (some 5) rfl rfl Try.func94 (by kernel_rfl) rfl #[.string a0_0] rfl (by (try simp only [am_]); first | done | rfl) ?_; (with_reducible refine (spec_l1Name.calls k a0_0 true _ A2.out).mono ?_); rintro e w' ⟨rfl, ⟨nd, rfl⟩⟩; refine ⟨_, rfl, ?_⟩) | (go_at_call 95; (with_reducible refine (spec_l1In.calls a0_1 0 100000 false _ A4.out).mono ?_); rintro e w' ⟨rfl, ⟨nd, rfl⟩⟩))
   go_ret
   exact ⟨by first | rfl | (simp [errW_none, errW_some] <;> rfl) | (simp [*, errW_none, errW_some] <;> rfl), by repeat with_reducible first | exact bl HB.out | refine below_set ?_ GE215.out | refine bq ?_⟩
 ·
  replace c3 := Bool.eq_false_iff.mpr c3
  subst c3
  have H1 : (some false) = some r := by rw [if_neg (show ¬ (false = true) by decide)] at H; exact H
  clear H
  have H := H1
  clear H1
  obtain rfl := Option.some.inj H
  go_enter Try.func92, Try.ntmps92
  go_wp2_with (first | ((with_reducible refine gate_dst (N := 1) rfl ?_); refine box_event ?hg (N := 1) ?hd (cs := #[.string a0_0, .int .i64 a0_1, .int .i64 a0_2, .int .i64 a0_3, .int .i64 a0_4, .int .i64 a0_5, .int .i64 a0_6]) (t := 44) ?hr ?_; (case hd => rfl); (case hg => rfl); (case hr => first | (go_simp; done) | (go_simp; rfl)); intro gb215 hg w23 hbox hb; have BK215 := Aside0.mk (hbox); have GW215 := Aside0.mk ((by rw [hg]; exact (below_size (bl HB.out)) : w.heap.size ≤ gb215)); have GE215 := GW215; replace HB := Aside0.mk (below_step (bl HB.out) hb); clear hb hbox hg; obtain ⟨hcz24_0, hcz24_1, hcz24_2, hcz24_3, hcz24_4, hcz24_5, hcz24_6⟩ := ck7 BK215.out; obtain ⟨hfz24_0, hfz24_1, hfz24_2, hfz24_3, hfz24_4, hfz24_5, hfz24_6⟩ := fz7 BK215.out) | ((with_reducible refine gate_callee (f := 94) rfl ?_); refine goesL_ (some 5) rfl rfl Try.func94 (by kernel_rfl) rfl #[.string a0_0] rfl (by (try simp only [am_]); first | done | rfl) ?_; (with_reducible refine (spec_l1Name.calls k a0_0 false _ A2.out).mono ?_); rintro e w' ⟨rfl, ⟨nd, rfl⟩⟩; refine ⟨_, rfl, ?_⟩))
  go_ret
  exact ⟨by first | rfl | (simp [errW_none, errW_some] <;> rfl) | (simp [*, errW_none, errW_some] <;> rfl), by repeat with_reducible first | exact bl HB.out | refine below_set ?_ GE215.out | refine bq ?_⟩

/-! ### spec_l19Behind: function 93 -/
def spec_l19Behind.f (a0_0 : Int) (a0_1 : Int) (a0_2 : Int) (a1_0 : Int) (a1_1 : Int) (a1_2 : Int) : Option (Bool) := if a0_0 ≤ a1_0 then (if a0_1 ≤ a1_1 then (some (decide (a0_2 ≤ a1_2))) else (some false)) else (some false)
set_option maxHeartbeats 8000000 in
set_option maxRecDepth 100000 in
theorem spec_l19Behind.calls (a0_0 : Int) (a0_1 : Int) (a0_2 : Int) (a1_0 : Int) (a1_1 : Int) (a1_2 : Int) (r : Bool) (w : World) (h : spec_l19Behind.f a0_0 a0_1 a0_2 a1_0 a1_1 a1_2 = some r) :
  Calls Try.prog 93 #[.agg #[.int .i64 a0_0, .int .i64 a0_1, .int .i64 a0_2], .agg #[.int .i64 a1_0, .int .i64 a1_1, .int .i64 a1_2]] w fun e w' => e = .returned (.bool r) ∧ Below w.heap.size w w' := by
 have hu28 := Try.underlying28
 have HB := Aside0.mk (Below.refl w.heap.size w)
 have H : (if a0_0 ≤ a1_0 then (if a0_1 ≤ a1_1 then (some (decide (a0_2 ≤ a1_2))) else (some false)) else (some false)) = some r := h
 clear h
 by_cases c3 : a0_0 ≤ a1_0
 ·
  rw [if_pos c3] at H
  have c3b0 : decide (a0_0 ≤ a1_0) = true := decide_eq_true c3
  clear c3
  by_cases c4 : a0_1 ≤ a1_1
  ·
   rw [if_pos c4] at H
   have c4b0 : decide (a0_1 ≤ a1_1) = true := decide_eq_true c4
   clear c4
   obtain rfl := Option.some.inj H
   go_enter Try.func93, Try.ntmps93
   go_wp2_with (first | ((with_reducible refine gate_dst (N := 2) rfl ?_); refine box_event ?hg (N := 2) ?hd (cs := #[.int .i64 a0_0, .int .i64 a0_1, .int .i64 a0_2]) (t := 28) ?hr ?_; (case hd => rfl); (case hg => rfl); (case hr => first | (go_simp; done) | (go_simp; rfl)); intro gb221 hg w5 hbox hb; have BK221 := Aside0.mk (hbox); have GW221 := Aside0.mk ((by rw [hg]; exact (below_size (bl HB.out)) : w.heap.size ≤ gb221)); have GE221 := GW221; replace HB := Aside0.mk (below_step (bl HB.out) hb); clear hb hbox hg) | ((with_reducible refine gate_dst (N := 3) rfl ?_); refine box_event ?hg (N := 3) ?hd (cs := #[.int .i64 a1_0, .int .i64 a1_1, .int .i64 a1_2]) (t := 28) ?hr ?_; (case hd => rfl); (case hg => rfl); (case hr => first | (go_simp; done) | (go_simp; rfl)); intro gb222 hg w6 hbox hb; have BK222 := Aside0.mk (hbox); have GW222 := Aside0.mk ((by rw [hg]; exact (below_size (by repeat with_reducible first | exact bl HB.out | refine below_set ?_ GE221.out | refine bq ?_)) : w.heap.size ≤ gb222)); have GE222 := GW222; replace HB := Aside0.mk (below_step (by repeat with_reducible first | exact bl HB.out | refine below_set ?_ GE221.out | refine bq ?_) hb); have NB221_222 := nb_ hg BK221.out; have NB222_221 := Aside0.mk NB221_222.out.symm; replace BK221 := Aside0.mk (blk_below (bk BK221.out) hb); clear hb hbox hg; have hnb7 := NB221_222.out; have hnc7 := NB222_221.out; obtain ⟨hcz8_0, hcz8_1, hcz8_2⟩ := ck3 BK221.out; obtain ⟨hfz8_0, hfz8_1, hfz8_2⟩ := fz3 BK221.out; obtain ⟨hcz9_0, hcz9_1, hcz9_2⟩ := ck3 BK222.out; obtain ⟨hfz9_0, hfz9_1, hfz9_2⟩ := fz3 BK222.out))
   go_ret
   exact ⟨by first | rfl | (simp [errW_none, errW_some] <;> rfl) | (simp [*, errW_none, errW_some] <;> rfl), by repeat with_reducible first | exact bl HB.out | refine below_set ?_ GE221.out | refine below_set ?_ GE222.out | refine bq ?_⟩
  ·
   rw [if_neg c4] at H
   have c4b0 : decide (a0_1 ≤ a1_1) = false := decide_eq_false c4
   clear c4
   obtain rfl := Option.some.inj H
   go_enter Try.func93, Try.ntmps93
   go_wp2_with (first | ((with_reducible refine gate_dst (N := 2) rfl ?_); refine box_event ?hg (N := 2) ?hd (cs := #[.int .i64 a0_0, .int .i64 a0_1, .int .i64 a0_2]) (t := 28) ?hr ?_; (case hd => rfl); (case hg => rfl); (case hr => first | (go_simp; done) | (go_simp; rfl)); intro gb221 hg w10 hbox hb; have BK221 := Aside0.mk (hbox); have GW221 := Aside0.mk ((by rw [hg]; exact (below_size (bl HB.out)) : w.heap.size ≤ gb221)); have GE221 := GW221; replace HB := Aside0.mk (below_step (bl HB.out) hb); clear hb hbox hg) | ((with_reducible refine gate_dst (N := 3) rfl ?_); refine box_event ?hg (N := 3) ?hd (cs := #[.int .i64 a1_0, .int .i64 a1_1, .int .i64 a1_2]) (t := 28) ?hr ?_; (case hd => rfl); (case hg => rfl); (case hr => first | (go_simp; done) | (go_simp; rfl)); intro gb222 hg w11 hbox hb; have BK222 := Aside0.mk (hbox); have GW222 := Aside0.mk ((by rw [hg]; exact (below_size (by repeat with_reducible first | exact bl HB.out | refine below_set ?_ GE221.out | refine bq ?_)) : w.heap.size ≤ gb222)); have GE222 := GW222; replace HB := Aside0.mk (below_step (by repeat with_reducible first | exact bl HB.out | refine below_set ?_ GE221.out | refine bq ?_) hb); have NB221_222 := nb_ hg BK221.out; have NB222_221 := Aside0.mk NB221_222.out.symm; replace BK221 := Aside0.mk (blk_below (bk BK221.out) hb); clear hb hbox hg; have hnb12 := NB221_222.out; have hnc12 := NB222_221.out; obtain ⟨hcz13_0, hcz13_1, hcz13_2⟩ := ck3 BK221.out; obtain ⟨hfz13_0, hfz13_1, hfz13_2⟩ := fz3 BK221.out; obtain ⟨hcz14_0, hcz14_1, hcz14_2⟩ := ck3 BK222.out; obtain ⟨hfz14_0, hfz14_1, hfz14_2⟩ := fz3 BK222.out))
   go_ret
   exact ⟨by first | rfl | (simp [errW_none, errW_some] <;> rfl) | (simp [*, errW_none, errW_some] <;> rfl), by repeat with_reducible first | exact bl HB.out | refine below_set ?_ GE221.out | refine below_set ?_ GE222.out | refine bq ?_⟩
 ·
  rw [if_neg c3] at H
  have c3b0 : decide (a0_0 ≤ a1_0) = false := decide_eq_false c3
  clear c3
  obtain rfl := Option.some.inj H
  go_enter Try.func93, Try.ntmps93
  go_wp2_with (first | ((with_reducible refine gate_dst (N := 2) rfl ?_); refine box_event ?hg (N := 2) ?hd (cs := #[.int .i64 a0_0, .int .i64 a0_1, .int .i64 a0_2]) (t := 28) ?hr ?_; (case hd => rfl); (case hg => rfl); (case hr => first | (go_simp; done) | (go_simp; rfl)); intro gb221 hg w15 hbox hb; have BK221 := Aside0.mk (hbox); have GW221 := Aside0.mk ((by rw [hg]; exact (below_size (bl HB.out)) : w.heap.size ≤ gb221)); have GE221 := GW221; replace HB := Aside0.mk (below_step (bl HB.out) hb); clear hb hbox hg) | ((with_reducible refine gate_dst (N := 3) rfl ?_); refine box_event ?hg (N := 3) ?hd (cs := #[.int .i64 a1_0, .int .i64 a1_1, .int .i64 a1_2]) (t := 28) ?hr ?_; (case hd => rfl); (case hg => rfl); (case hr => first | (go_simp; done) | (go_simp; rfl)); intro gb222 hg w16 hbox hb; have BK222 := Aside0.mk (hbox); have GW222 := Aside0.mk ((by rw [hg]; exact (below_size (by repeat with_reducible first | exact bl HB.out | refine below_set ?_ GE221.out | refine bq ?_)) : w.heap.size ≤ gb222)); have GE222 := GW222; replace HB := Aside0.mk (below_step (by repeat with_reducible first | exact bl HB.out | refine below_set ?_ GE221.out | refine bq ?_) hb); have NB221_222 := nb_ hg BK221.out; have NB222_221 := Aside0.mk NB221_222.out.symm; replace BK221 := Aside0.mk (blk_below (bk BK221.out) hb); clear hb hbox hg; have hnb17 := NB221_222.out; have hnc17 := NB222_221.out; obtain ⟨hcz18_0, hcz18_1, hcz18_2⟩ := ck3 BK221.out; obtain ⟨hfz18_0, hfz18_1, hfz18_2⟩ := fz3 BK221.out; obtain ⟨hcz19_0, hcz19_1, hcz19_2⟩ := ck3 BK222.out; obtain ⟨hfz19_0, hfz19_1, hfz19_2⟩ := fz3 BK222.out))
  go_ret
  exact ⟨by first | rfl | (simp [errW_none, errW_some] <;> rfl) | (simp [*, errW_none, errW_some] <;> rfl), by repeat with_reducible first | exact bl HB.out | refine below_set ?_ GE221.out | refine below_set ?_ GE222.out | refine bq ?_⟩

-- HAND FROM
open Go.Proofs.Ytdimdlifjdbgnaa.Base Go.Proofs.Ytdimdlifjdbgnaa.Sq
theorem spec_ClockOk_eq (a b c : Int) : spec_ClockOk.f a b c = some (clockB a b c) := by
  simp only [spec_ClockOk.f, spec_in_eq, Option.bind_some, clockB]
  cases inB a 0 1000000 <;> cases inB b 0 1000000 <;> simp
theorem spec_TaskOk_ev (n : ByteArray) (hn : n.size ≤ 140737488355328) (h c d p q r : Int) : Ev (fun k => spec_TaskOk.f k n h c d p q r) (taskB n h c d p q r) := by
  simp only [spec_TaskOk.f, spec_in_eq, spec_ClockOk_eq, Option.bind_some]
  refine (spec_l1Name_ev n hn).bind ?_
  unfold taskB
  cases nameB n with
  | false => simpa using ev_now false
  | true =>
    cases h1 : inB h 0 100000 with
    | false => simpa using ev_now false
    | true =>
      cases h2 : inB c 0 100000 with
      | false => simpa using ev_now false
      | true =>
        cases h3 : inB d 0 100000 with
        | false => simpa using ev_now false
        | true =>
          rw [inB_iff] at h1 h2 h3
          simp only [if_true, Bool.true_and, w64 (show -9223372036854775808 ≤ h + c by omega) (by omega), w64 (show -9223372036854775808 ≤ h + c + d by omega) (by omega)]
          by_cases h4 : h + c + d > 0
          · simp only [if_pos h4, h4, decide_true, Bool.true_and]; exact ev_now _
          · simp only [if_neg h4, h4, decide_false, Bool.false_and]; exact ev_now _
theorem uTaskOk : Ent Try.prog 92 := fun a w => enters_ Try.func92 rfl rfl a w
theorem uBehind : Ent Try.prog 93 := fun a w => enters_ Try.func93 rfl rfl a w
theorem task_u (n : ByteArray) (h c d p q r : Int) (hn : n.size ≤ 140737488355328) (w : World) : Calls Try.prog 92 #[.agg #[.string n, .int .i64 h, .int .i64 c, .int .i64 d, .int .i64 p, .int .i64 q, .int .i64 r]] w fun e w' => e = .returned (.bool (taskB n h c d p q r)) ∧ Below w.heap.size w w' := by
  obtain ⟨k, hk⟩ := (spec_TaskOk_ev n hn h c d p q r).rounds
  exact spec_TaskOk.calls k n h c d p q r _ w hk
theorem clock_u (a b c : Int) (w : World) : Calls Try.prog 90 #[.agg #[.int .i64 a, .int .i64 b, .int .i64 c]] w fun e w' => e = .returned (.bool (clockB a b c)) ∧ Below w.heap.size w w' := spec_ClockOk.calls a b c _ w (spec_ClockOk_eq a b c)
theorem behind_u (p q r p' q' r' : Int) (w : World) : Calls Try.prog 93 #[.agg #[.int .i64 p, .int .i64 q, .int .i64 r], .agg #[.int .i64 p', .int .i64 q', .int .i64 r']] w fun e w' => e = .returned (.bool (behindB p q r p' q' r')) ∧ Below w.heap.size w w' :=
  spec_l19Behind.calls p q r p' q' r' _ w (by unfold spec_l19Behind.f behindB; by_cases x1 : p ≤ p' <;> by_cases x2 : q ≤ q' <;> simp [x1, x2])
set_option maxHeartbeats 8000000 in
set_option maxRecDepth 100000 in
theorem spec_FleetOk.go (A0 : Option Addr) (c0 : Nat) (l0 : List S44) (A1 : Option Addr) (c1 : Nat) (l1 : List S84) (A2 : Option Addr) (c2 : Nat) (l2 : List S57) (p q r : Int) (w : World) (hr0 : Kd.C k44 w A0 l0.length l0) (hc0 : l0.length ≤ c0) (hr1 : Kd.C k84 w A1 l1.length l1) (hc1 : l1.length ≤ c1) (hr2 : Kd.C k57 w A2 l2.length l2) (hc2 : l2.length ≤ c2) (hz : FleetSz l0 l1 l2) :
    Calls Try.prog 46 #[.agg #[.slice A0 l0.length c0, .slice A1 l1.length c1, .slice A2 l2.length c2, .int .i64 p, .int .i64 q, .int .i64 r]] w fun e w' => e = .returned (.bool (fleetB l0 l1 l2 p q r)) ∧ Below w.heap.size w w' := by
  have hu44 := Try.underlying44
  have hu84 := Try.underlying84
  have hu57 := Try.underlying57
  have hu30 := Try.underlying30
  have hu28 := Try.underlying28
  have HR0 := Aside0.mk hr0
  have HR1 := Aside0.mk hr1
  have HR2 := Aside0.mk hr2
  have HX0 := Aside0.mk hz.t
  have HX1 := Aside0.mk hz.c
  have HX2 := Aside0.mk hz.d
  have hn0 := hz.tn
  have hn1 := hz.cn
  have hn2 := hz.dn
  clear hr0 hr1 hr2 hz
  have BK0 := Aside0.mk (blk_new w (.cells #[.slice A0 l0.length c0, .slice A1 l1.length c1, .slice A2 l2.length c2, .int .i64 p, .int .i64 q, .int .i64 r] 30 (0, 0)))
  have HB0 := Aside0.mk (below_alloc (Below.refl w.heap.size w) (.cells #[.slice A0 l0.length c0, .slice A1 l1.length c1, .slice A2 l2.length c2, .int .i64 p, .int .i64 q, .int .i64 r] 30 (0, 0)))
  obtain ⟨b1, E1⟩ : ∃ b, clockB p q r = b := ⟨_, rfl⟩
  obtain ⟨b2, E2⟩ : ∃ b, carryB l1 = b := ⟨_, rfl⟩
  obtain ⟨b3, E3⟩ : ∃ b, decide ((l0.length : Int) ≤ 40) = b := ⟨_, rfl⟩
  obtain ⟨b4, E4⟩ : ∃ b, decide ((l2.length : Int) ≤ 20) = b := ⟨_, rfl⟩
  have F3 : decide (40 < (l0.length : Int)) = !b3 := by rw [← E3]; exact (lt_le_ _ _)
  have F4 : decide (20 < (l2.length : Int)) = !b4 := by rw [← E4]; exact (lt_le_ _ _)
  have K1 := Aside0.mk (fun w' => kb_ (clock_u p q r w') E1)
  have HE := Aside0.mk (And.intro E1 (And.intro E2 (And.intro E3 E4)))
  clear E1 E2 E3 E4
  go_enter Try.func46, Try.ntmps46
  rcases or4_ b1 b2 b3 b4 with rfl | ⟨rfl, rfl⟩ | ⟨rfl, rfl, rfl⟩ | ⟨rfl, rfl, rfl, rfl⟩ | ⟨rfl, rfl, rfl, rfl⟩
  all_goals (go_wp2_with (first | (go_at_call 90; (with_reducible refine (K1.out _).mono ?_); rintro e w5 ⟨rfl, hb⟩; have BK5 := Aside0.mk (blk_below BK0.out hb); have HB5 := Aside0.mk (below_step HB0.out hb); obtain ⟨hf0, hf1, hf2, hf3, hf4, hf5⟩ := ck6 BK5.out; clear hb) | (go_at_call 91; (with_reducible refine (kb_ (spec_CarryOk.go A1 c1 l1 _ (Kd.C_below HR1.out HB5.out) hc1 hn1 HX1.out) HE.out.2.1).mono ?_); rintro e w6 ⟨rfl, hb⟩; have BK6 := Aside0.mk (blk_below BK5.out hb); have HB6 := Aside0.mk (below_step HB5.out hb); clear hf0 hf1 hf2 hf3 hf4 hf5; obtain ⟨hf0, hf1, hf2, hf3, hf4, hf5⟩ := ck6 BK6.out; clear hb)))
  iterate 4 · go_ret; exact ⟨by unfold fleetB; rw [HE.out.1, HE.out.2.1, HE.out.2.2.1, HE.out.2.2.2]; rfl, by first | exact HB6.out | exact HB5.out⟩
  have HS := Aside0.mk (show fleetB l0 l1 l2 p q r = (tasksFrom (fun a b c => behindB a b c p q r) l0 l0.length 0 && defectsFrom r l2 l2.length 0) by unfold fleetB; rw [HE.out.1, HE.out.2.1, HE.out.2.2.1, HE.out.2.2.2]; rfl)
  clear hf0 hf1 hf2 hf3 hf4 hf5 F3 F4 K1 HE BK0 HB0 BK5 HB5
  go_loopw [3] (fun v wr => ∃ i : Nat, i ≤ l0.length ∧ v = .int .i64 i ∧ Aside0 (fleetB l0 l1 l2 p q r = (tasksFrom (fun a b c => behindB a b c p q r) l0 (l0.length - i) i && defectsFrom r l2 l2.length 0)) ∧ Aside0 (wr.heap[w.heap.size]? = some (.cells #[.slice A0 l0.length c0, .slice A1 l1.length c1, .slice A2 l2.length c2, .int .i64 p, .int .i64 q, .int .i64 r] 30 (0, 0))) ∧ Aside0 (Below w.heap.size w wr)) (fun v _ => l0.length - (intOf v).toNat)
  case atStart => exact ⟨0, Nat.zero_le _, rfl, HS, BK6, HB6⟩
  case round =>
    clear BK6 HB6 HS
    obtain ⟨i, hi, rfl, HE, BK, HB⟩ := hrel
    by_cases hlt : i < l0.length
    · have hfs := ck6 BK.out
      obtain ⟨ad, e0, hx0, hx1, hx2, hx3, hx4, hx5, hx6⟩ := at_T44 (Kd.C_below HR0.out HB.out) (i : Int) (by omega) (by omega)
      cases e0
      simp only [Int.toNat_natCast] at hx0 hx1 hx2 hx3 hx4 hx5 hx6
      obtain ⟨hf0, hf1, hf2, hf3, hf4, hf5⟩ := hfs
      have HS := Aside0.mk (tasks_step hlt HE.out)
      have HZ := Aside0.mk (HX0.out _ (List.getElem_mem hlt))
      rw [← rd_at44 hlt] at HZ
      have HK := Aside0.mk (blk_new wr (.cells #[.string (rd_T44 l0 (i : Int)).f0, .int .i64 (rd_T44 l0 (i : Int)).f1, .int .i64 (rd_T44 l0 (i : Int)).f2, .int .i64 (rd_T44 l0 (i : Int)).f3, .int .i64 (rd_T44 l0 (i : Int)).f4.f0, .int .i64 (rd_T44 l0 (i : Int)).f4.f1, .int .i64 (rd_T44 l0 (i : Int)).f4.f2] 44 (0, 0)))
      have HB2 := Aside0.mk (below_alloc HB.out (.cells #[.string (rd_T44 l0 (i : Int)).f0, .int .i64 (rd_T44 l0 (i : Int)).f1, .int .i64 (rd_T44 l0 (i : Int)).f2, .int .i64 (rd_T44 l0 (i : Int)).f3, .int .i64 (rd_T44 l0 (i : Int)).f4.f0, .int .i64 (rd_T44 l0 (i : Int)).f4.f1, .int .i64 (rd_T44 l0 (i : Int)).f4.f2] 44 (0, 0)))
      have BK2 := Aside0.mk (blk_alloc BK.out (.cells #[.string (rd_T44 l0 (i : Int)).f0, .int .i64 (rd_T44 l0 (i : Int)).f1, .int .i64 (rd_T44 l0 (i : Int)).f2, .int .i64 (rd_T44 l0 (i : Int)).f3, .int .i64 (rd_T44 l0 (i : Int)).f4.f0, .int .i64 (rd_T44 l0 (i : Int)).f4.f1, .int .i64 (rd_T44 l0 (i : Int)).f4.f2] 44 (0, 0)))
      go_upto_region 7 with (fail)
      generalize wr.heap.size = gx at HK ⊢
      refine world_ (fun W => W.heap[gx]? = some (.cells #[.string (rd_T44 l0 (i : Int)).f0, .int .i64 (rd_T44 l0 (i : Int)).f1, .int .i64 (rd_T44 l0 (i : Int)).f2, .int .i64 (rd_T44 l0 (i : Int)).f3, .int .i64 (rd_T44 l0 (i : Int)).f4.f0, .int .i64 (rd_T44 l0 (i : Int)).f4.f1, .int .i64 (rd_T44 l0 (i : Int)).f4.f2] 44 (0, 0)) ∧ W.heap[w.heap.size]? = some (.cells #[.slice (some ad) l0.length c0, .slice A1 l1.length c1, .slice A2 l2.length c2, .int .i64 p, .int .i64 q, .int .i64 r] 30 (0, 0)) ∧ Below w.heap.size w W) ⟨HK.out, BK2.out, HB2.out⟩ ?_
      clear HK HB2 HE HB hx0 hx1 hx2 hx3 hx4 hx5 hx6 BK2 BK hf0 hf1 hf2 hf3 hf4 hf5
      rintro W ⟨HK, BK, HB⟩
      replace HK := Aside0.mk HK
      replace HB := Aside0.mk HB
      replace BK := Aside0.mk BK
      obtain ⟨b1, Eb1⟩ : ∃ b, taskB (rd_T44 l0 (i : Int)).f0 (rd_T44 l0 (i : Int)).f1 (rd_T44 l0 (i : Int)).f2 (rd_T44 l0 (i : Int)).f3 (rd_T44 l0 (i : Int)).f4.f0 (rd_T44 l0 (i : Int)).f4.f1 (rd_T44 l0 (i : Int)).f4.f2 = b := ⟨_, rfl⟩
      have Kb1 := Aside0.mk (fun w' => kb_ (task_u (rd_T44 l0 (i : Int)).f0 (rd_T44 l0 (i : Int)).f1 (rd_T44 l0 (i : Int)).f2 (rd_T44 l0 (i : Int)).f3 (rd_T44 l0 (i : Int)).f4.f0 (rd_T44 l0 (i : Int)).f4.f1 (rd_T44 l0 (i : Int)).f4.f2 HZ.out w') Eb1)
      obtain ⟨b2, Eb2⟩ : ∃ b, behindB (rd_T44 l0 (i : Int)).f4.f0 (rd_T44 l0 (i : Int)).f4.f1 (rd_T44 l0 (i : Int)).f4.f2 p q r = b := ⟨_, rfl⟩
      have Kb2 := Aside0.mk (fun w' => kb_ (behind_u (rd_T44 l0 (i : Int)).f4.f0 (rd_T44 l0 (i : Int)).f4.f1 (rd_T44 l0 (i : Int)).f4.f2 p q r w') Eb2)
      have HE := Aside0.mk (And.intro Eb1 Eb2)
      clear Eb1 Eb2
      go_cut [67] (fun v wc => v = .bool (!taskAt (fun a b c => behindB a b c p q r) l0 (i : Int)) ∧ Aside0 (wc.heap[w.heap.size]? = some (.cells #[.slice (some ad) l0.length c0, .slice A1 l1.length c1, .slice A2 l2.length c2, .int .i64 p, .int .i64 q, .int .i64 r] 30 (0, 0))) ∧ Aside0 (Below w.heap.size w wc))
      case first =>
        clear HS
        rcases Nat.eq_zero_or_pos i with h0 | h0
        · subst h0
          have L := Aside0.mk (fun w' (h : Up W w') => (⟨ck (blk_below HK.out h) 0 rfl, ck (blk_below HK.out h) 1 rfl, ck (blk_below HK.out h) 2 rfl, ck (blk_below HK.out h) 3 rfl, ck (blk_below HK.out h) 4 rfl, ck (blk_below HK.out h) 5 rfl, ck (blk_below HK.out h) 6 rfl, ck (blk_below BK.out h) 0 rfl, ck (blk_below BK.out h) 3 rfl, ck (blk_below BK.out h) 4 rfl, ck (blk_below BK.out h) 5 rfl⟩ : w'.cell? ⟨gx, 0, none⟩ = some (.string (rd_T44 l0 ((0 : Nat) : Int)).f0) ∧ w'.cell? ⟨gx, 1, none⟩ = some (.int .i64 (rd_T44 l0 ((0 : Nat) : Int)).f1) ∧ w'.cell? ⟨gx, 2, none⟩ = some (.int .i64 (rd_T44 l0 ((0 : Nat) : Int)).f2) ∧ w'.cell? ⟨gx, 3, none⟩ = some (.int .i64 (rd_T44 l0 ((0 : Nat) : Int)).f3) ∧ w'.cell? ⟨gx, 4, none⟩ = some (.int .i64 (rd_T44 l0 ((0 : Nat) : Int)).f4.f0) ∧ w'.cell? ⟨gx, 5, none⟩ = some (.int .i64 (rd_T44 l0 ((0 : Nat) : Int)).f4.f1) ∧ w'.cell? ⟨gx, 6, none⟩ = some (.int .i64 (rd_T44 l0 ((0 : Nat) : Int)).f4.f2) ∧ w'.cell? ⟨w.heap.size, 0, none⟩ = some (.slice (some ad) l0.length c0) ∧ w'.cell? ⟨w.heap.size, 3, none⟩ = some (.int .i64 p) ∧ w'.cell? ⟨w.heap.size, 4, none⟩ = some (.int .i64 q) ∧ w'.cell? ⟨w.heap.size, 5, none⟩ = some (.int .i64 r)))
          have HP : Aside0 (taskAtPv l0 ((0 : Nat) : Int) = true) := ⟨rfl⟩
          rcases or2_ b1 b2 with rfl | ⟨rfl, rfl⟩ | ⟨rfl, rfl⟩
          all_goals
            (refine rg_ (by kernel_rfl) (by kernel_rfl) ?_; (repeat (first | refine qn_ ?_ | refine qc_ uTaskOk (fun w' _ => Kb1.out w') ?_ | refine qc_ uBehind (fun w' _ => Kb2.out w') ?_ | refine ql_ L.out ?_)); refine qd_ ?_; intro w5 hb; (try go_wp2); go_meet; case rel => exact ⟨by have hp := HP.out; unfold taskAtPv at hp; unfold taskAt; (try dsimp only); rw [HE.out.1, HE.out.2, hp]; first | rfl | simp, ⟨blk_below BK.out hb⟩, ⟨below_step HB.out hb⟩⟩)
        · obtain ⟨j, rfl⟩ : ∃ j, i = j + 1 := ⟨i - 1, by omega⟩
          obtain ⟨ad', e0, y0, y1, y2, y3, y4, y5, y6⟩ := at_T44 HR0.out (j : Int) (by omega) (by omega)
          obtain rfl : ad = ad' := by injection e0
          simp only [Int.toNat_natCast] at y0 y1 y2 y3 y4 y5 y6
          have hj : wrap64 (j : Int) = (j : Int) := w64 (by omega) (by omega)
          have hjl : j < l0.length := by omega
          have L := Aside0.mk (fun w' (h : Up W w') => (⟨ck (blk_below HK.out h) 0 rfl, ck (blk_below HK.out h) 1 rfl, ck (blk_below HK.out h) 2 rfl, ck (blk_below HK.out h) 3 rfl, ck (blk_below HK.out h) 4 rfl, ck (blk_below HK.out h) 5 rfl, ck (blk_below HK.out h) 6 rfl, ck (blk_below BK.out h) 0 rfl, ck (blk_below BK.out h) 3 rfl, ck (blk_below BK.out h) 4 rfl, ck (blk_below BK.out h) 5 rfl, bc (below_step HB.out h) y0⟩ : w'.cell? ⟨gx, 0, none⟩ = some (.string (rd_T44 l0 ((j + 1 : Nat) : Int)).f0) ∧ w'.cell? ⟨gx, 1, none⟩ = some (.int .i64 (rd_T44 l0 ((j + 1 : Nat) : Int)).f1) ∧ w'.cell? ⟨gx, 2, none⟩ = some (.int .i64 (rd_T44 l0 ((j + 1 : Nat) : Int)).f2) ∧ w'.cell? ⟨gx, 3, none⟩ = some (.int .i64 (rd_T44 l0 ((j + 1 : Nat) : Int)).f3) ∧ w'.cell? ⟨gx, 4, none⟩ = some (.int .i64 (rd_T44 l0 ((j + 1 : Nat) : Int)).f4.f0) ∧ w'.cell? ⟨gx, 5, none⟩ = some (.int .i64 (rd_T44 l0 ((j + 1 : Nat) : Int)).f4.f1) ∧ w'.cell? ⟨gx, 6, none⟩ = some (.int .i64 (rd_T44 l0 ((j + 1 : Nat) : Int)).f4.f2) ∧ w'.cell? ⟨w.heap.size, 0, none⟩ = some (.slice (some ad) l0.length c0) ∧ w'.cell? ⟨w.heap.size, 3, none⟩ = some (.int .i64 p) ∧ w'.cell? ⟨w.heap.size, 4, none⟩ = some (.int .i64 q) ∧ w'.cell? ⟨w.heap.size, 5, none⟩ = some (.int .i64 r) ∧ w'.cell? (ad.add (j * 7)) = some (.string (rd_T44 l0 (j : Int)).f0)))
          obtain ⟨bP, EP⟩ : ∃ b, Op.bytesLess (rd_T44 l0 (j : Int)).f0.toList (rd_T44 l0 ((j : Int) + 1)).f0.toList = b := ⟨_, rfl⟩
          have HP : Aside0 (taskAtPv l0 ((j + 1 : Nat) : Int) = bP) := ⟨by unfold taskAtPv; rw [decide_eq_false (show ¬ ¬ ((j + 1 : Nat) : Int) > 0 by omega), show ((j + 1 : Nat) : Int) - 1 = (j : Int) by omega, show ((j + 1 : Nat) : Int) = (j : Int) + 1 by omega, EP]; rfl⟩
          clear y0 y1 y2 y3 y4 y5 y6 e0 h0
          rcases or3_ b1 b2 bP with rfl | ⟨rfl, rfl⟩ | ⟨rfl, rfl, rfl⟩ | ⟨rfl, rfl, rfl⟩
          all_goals
            (refine rg_ (by kernel_rfl) (by kernel_rfl) ?_; (repeat (first | refine qn_ ?_ | refine qc_ uTaskOk (fun w' _ => Kb1.out w') ?_ | refine qc_ uBehind (fun w' _ => Kb2.out w') ?_ | refine ql_ L.out ?_)); refine qd_ ?_; intro w5 hb; (try go_wp2); go_meet; case rel => exact ⟨by have hp := HP.out; unfold taskAtPv at hp; unfold taskAt; (try dsimp only); rw [HE.out.1, HE.out.2, hp]; first | rfl | simp, ⟨blk_below BK.out hb⟩, ⟨below_step HB.out hb⟩⟩)
      case rest =>
        clear HB HZ HE HK BK
        obtain ⟨rfl, BK, HB⟩ := hcut
        cases hc : taskAt (fun a b c => behindB a b c p q r) l0 (i : Int) with
        | false =>
          rw [hc] at HS
          go_wp2
          go_ret
          exact ⟨by rw [HS.out]; rfl, HB.out⟩
        | true =>
          rw [hc] at HS
          go_wp2
          go_roundw
          case rel => exact ⟨i + 1, by omega, by go_num, ⟨HS.out⟩, BK, HB⟩
          case measure => simp [intOf]; omega
    · obtain rfl : i = l0.length := by omega
      have HS := Aside0.mk (tasks_end HE.out)
      have HS0 := Aside0.mk (HS.out.trans (Bool.and_true _).symm)
      obtain ⟨hf0, hf1, hf2, hf3, hf4, hf5⟩ := ck6 BK.out
      clear HS HE
      go_wp2
      clear hf0 hf1 hf2 hf3 hf4 hf5
      have BK0 := BK
      have HB0 := HB
      clear BK HB
      obtain ⟨wo, rfl⟩ : ∃ wo : World, wo = wr := ⟨_, rfl⟩
      go_loopw [5] (fun v wr => ∃ i : Nat, i ≤ l2.length ∧ v = .int .i64 i ∧ Aside0 (fleetB l0 l1 l2 p q r = (defectsFrom r l2 (l2.length - i) i && true)) ∧ Aside0 (wr.heap[w.heap.size]? = some (.cells #[.slice A0 l0.length c0, .slice A1 l1.length c1, .slice A2 l2.length c2, .int .i64 p, .int .i64 q, .int .i64 r] 30 (0, 0))) ∧ Aside0 (Below w.heap.size w wr)) (fun v _ => l2.length - (intOf v).toNat)
      case atStart => exact ⟨0, Nat.zero_le _, rfl, ⟨HS0.out⟩, BK0, HB0⟩
      case round =>
        clear BK0 HB0 HS0
        obtain ⟨i, hi, rfl, HE, BK, HB⟩ := hrel
        by_cases hlt : i < l2.length
        · have hfs := ck6 BK.out
          obtain ⟨ad, e0, hx0, hx1, hx2⟩ := at_T57 (Kd.C_below HR2.out HB.out) (i : Int) (by omega) (by omega)
          cases e0
          simp only [Int.toNat_natCast] at hx0 hx1 hx2
          obtain ⟨hf0, hf1, hf2, hf3, hf4, hf5⟩ := hfs
          have HS := Aside0.mk (defects_step hlt HE.out)
          have HZ := Aside0.mk (HX2.out _ (List.getElem_mem hlt))
          rw [← rd_at57 hlt] at HZ
          have HK := Aside0.mk (blk_new wr (.cells #[.string (rd_T57 l2 (i : Int)).f0, .int .i64 (rd_T57 l2 (i : Int)).f1, .int .i64 (rd_T57 l2 (i : Int)).f2] 57 (0, 0)))
          have HB2 := Aside0.mk (below_alloc HB.out (.cells #[.string (rd_T57 l2 (i : Int)).f0, .int .i64 (rd_T57 l2 (i : Int)).f1, .int .i64 (rd_T57 l2 (i : Int)).f2] 57 (0, 0)))
          have BK2 := Aside0.mk (blk_alloc BK.out (.cells #[.string (rd_T57 l2 (i : Int)).f0, .int .i64 (rd_T57 l2 (i : Int)).f1, .int .i64 (rd_T57 l2 (i : Int)).f2] 57 (0, 0)))
          go_upto_region 13 with (fail)
          generalize wr.heap.size = gx at HK ⊢
          refine world_ (fun W => W.heap[gx]? = some (.cells #[.string (rd_T57 l2 (i : Int)).f0, .int .i64 (rd_T57 l2 (i : Int)).f1, .int .i64 (rd_T57 l2 (i : Int)).f2] 57 (0, 0)) ∧ W.heap[w.heap.size]? = some (.cells #[.slice A0 l0.length c0, .slice A1 l1.length c1, .slice (some ad) l2.length c2, .int .i64 p, .int .i64 q, .int .i64 r] 30 (0, 0)) ∧ Below w.heap.size w W) ⟨HK.out, BK2.out, HB2.out⟩ ?_
          clear HK HB2 HE HB hx0 hx1 hx2 BK2 BK hf0 hf1 hf2 hf3 hf4 hf5
          rintro W ⟨HK, BK, HB⟩
          replace HK := Aside0.mk HK
          replace HB := Aside0.mk HB
          replace BK := Aside0.mk BK
          obtain ⟨b1, Eb1⟩ : ∃ b, nameB (rd_T57 l2 (i : Int)).f0 = b := ⟨_, rfl⟩
          have Kb1 := Aside0.mk (fun w' => kb_ (name_u (rd_T57 l2 (i : Int)).f0 HZ.out w') Eb1)
          obtain ⟨b2, Eb2⟩ : ∃ b, inB (rd_T57 l2 (i : Int)).f1 1 1000000 = b := ⟨_, rfl⟩
          have Kb2 := Aside0.mk (fun w' => kb_ (in_u (rd_T57 l2 (i : Int)).f1 1 1000000 w') Eb2)
          obtain ⟨b3, Eb3⟩ : ∃ b, inB (rd_T57 l2 (i : Int)).f2 0 r = b := ⟨_, rfl⟩
          have Kb3 := Aside0.mk (fun w' => kb_ (in_u (rd_T57 l2 (i : Int)).f2 0 r w') Eb3)
          have HE := Aside0.mk (And.intro Eb1 (And.intro Eb2 Eb3))
          clear Eb1 Eb2 Eb3
          go_cut [114] (fun v wc => v = .bool (!defectAt r l2 (i : Int)) ∧ Aside0 (wc.heap[w.heap.size]? = some (.cells #[.slice A0 l0.length c0, .slice A1 l1.length c1, .slice (some ad) l2.length c2, .int .i64 p, .int .i64 q, .int .i64 r] 30 (0, 0))) ∧ Aside0 (Below w.heap.size w wc))
          case first =>
            clear HS
            rcases Nat.eq_zero_or_pos i with h0 | h0
            · subst h0
              have L := Aside0.mk (fun w' (h : Up W w') => (⟨ck (blk_below HK.out h) 0 rfl, ck (blk_below HK.out h) 1 rfl, ck (blk_below HK.out h) 2 rfl, ck (blk_below BK.out h) 2 rfl, ck (blk_below BK.out h) 5 rfl⟩ : w'.cell? ⟨gx, 0, none⟩ = some (.string (rd_T57 l2 ((0 : Nat) : Int)).f0) ∧ w'.cell? ⟨gx, 1, none⟩ = some (.int .i64 (rd_T57 l2 ((0 : Nat) : Int)).f1) ∧ w'.cell? ⟨gx, 2, none⟩ = some (.int .i64 (rd_T57 l2 ((0 : Nat) : Int)).f2) ∧ w'.cell? ⟨w.heap.size, 2, none⟩ = some (.slice (some ad) l2.length c2) ∧ w'.cell? ⟨w.heap.size, 5, none⟩ = some (.int .i64 r)))
              have HP : Aside0 (defectAtPv l2 ((0 : Nat) : Int) = true) := ⟨rfl⟩
              rcases or3_ b1 b2 b3 with rfl | ⟨rfl, rfl⟩ | ⟨rfl, rfl, rfl⟩ | ⟨rfl, rfl, rfl⟩
              all_goals
                (refine rg_ (by kernel_rfl) (by kernel_rfl) ?_; (repeat (first | refine qn_ ?_ | refine qc_ uName (fun w' _ => Kb1.out w') ?_ | refine qc_ uIn (fun w' _ => Kb2.out w') ?_ | refine qc_ uIn (fun w' _ => Kb3.out w') ?_ | refine ql_ L.out ?_)); refine qd_ ?_; intro w5 hb; (try go_wp2); go_meet; case rel => exact ⟨by have hp := HP.out; unfold defectAtPv at hp; unfold defectAt; (try dsimp only); rw [HE.out.1, HE.out.2.1, HE.out.2.2, hp]; first | rfl | simp, ⟨blk_below BK.out hb⟩, ⟨below_step HB.out hb⟩⟩)
            · obtain ⟨j, rfl⟩ : ∃ j, i = j + 1 := ⟨i - 1, by omega⟩
              obtain ⟨ad', e0, y0, y1, y2⟩ := at_T57 HR2.out (j : Int) (by omega) (by omega)
              obtain rfl : ad = ad' := by injection e0
              simp only [Int.toNat_natCast] at y0 y1 y2
              have hj : wrap64 (j : Int) = (j : Int) := w64 (by omega) (by omega)
              have hjl : j < l2.length := by omega
              have L := Aside0.mk (fun w' (h : Up W w') => (⟨ck (blk_below HK.out h) 0 rfl, ck (blk_below HK.out h) 1 rfl, ck (blk_below HK.out h) 2 rfl, ck (blk_below BK.out h) 2 rfl, ck (blk_below BK.out h) 5 rfl, bc (below_step HB.out h) y1⟩ : w'.cell? ⟨gx, 0, none⟩ = some (.string (rd_T57 l2 ((j + 1 : Nat) : Int)).f0) ∧ w'.cell? ⟨gx, 1, none⟩ = some (.int .i64 (rd_T57 l2 ((j + 1 : Nat) : Int)).f1) ∧ w'.cell? ⟨gx, 2, none⟩ = some (.int .i64 (rd_T57 l2 ((j + 1 : Nat) : Int)).f2) ∧ w'.cell? ⟨w.heap.size, 2, none⟩ = some (.slice (some ad) l2.length c2) ∧ w'.cell? ⟨w.heap.size, 5, none⟩ = some (.int .i64 r) ∧ w'.cell? ⟨(ad.add (j * 3)).block, (ad.add (j * 3)).off + 1, none⟩ = some (.int .i64 (rd_T57 l2 (j : Int)).f1)))
              obtain ⟨bP, EP⟩ : ∃ b, decide ((rd_T57 l2 (j : Int)).f1 < (rd_T57 l2 ((j : Int) + 1)).f1) = b := ⟨_, rfl⟩
              have HP : Aside0 (defectAtPv l2 ((j + 1 : Nat) : Int) = bP) := ⟨by unfold defectAtPv; rw [decide_eq_false (show ¬ ¬ ((j + 1 : Nat) : Int) > 0 by omega), show ((j + 1 : Nat) : Int) - 1 = (j : Int) by omega, show ((j + 1 : Nat) : Int) = (j : Int) + 1 by omega, EP]; rfl⟩
              have EQ : decide ((rd_T57 l2 ((j : Int) + 1)).f1 ≤ (rd_T57 l2 (j : Int)).f1) = !bP := by rw [← EP]; exact le_lt_ _ _
              clear EP
              clear y0 y1 y2 e0 h0
              rcases or4_ b1 b2 bP b3 with rfl | ⟨rfl, rfl⟩ | ⟨rfl, rfl, rfl⟩ | ⟨rfl, rfl, rfl, rfl⟩ | ⟨rfl, rfl, rfl, rfl⟩
              all_goals
                (refine rg_ (by kernel_rfl) (by kernel_rfl) ?_; (repeat (first | refine qn_ ?_ | refine qc_ uName (fun w' _ => Kb1.out w') ?_ | refine qc_ uIn (fun w' _ => Kb2.out w') ?_ | refine qc_ uIn (fun w' _ => Kb3.out w') ?_ | refine ql_ L.out ?_)); refine qd_ ?_; intro w5 hb; (try go_wp2); go_meet; case rel => exact ⟨by have hp := HP.out; unfold defectAtPv at hp; unfold defectAt; (try dsimp only); rw [HE.out.1, HE.out.2.1, HE.out.2.2, hp]; first | rfl | simp, ⟨blk_below BK.out hb⟩, ⟨below_step HB.out hb⟩⟩)
          case rest =>
            clear HB HZ HE HK BK
            obtain ⟨rfl, BK, HB⟩ := hcut
            cases hc : defectAt r l2 (i : Int) with
            | false =>
              rw [hc] at HS
              go_wp2
              go_ret
              exact ⟨by rw [HS.out]; rfl, HB.out⟩
            | true =>
              rw [hc] at HS
              go_wp2
              go_roundw
              case rel => exact ⟨i + 1, by omega, by go_num, ⟨HS.out⟩, BK, HB⟩
              case measure => simp [intOf]; omega
        · obtain rfl : i = l2.length := by omega
          have HS := Aside0.mk (defects_end HE.out)
          clear HE
          obtain ⟨hf0, hf1, hf2, hf3, hf4, hf5⟩ := ck6 BK.out
          go_wp2
          go_ret
          exact ⟨by rw [HS.out]; rfl, HB.out⟩
-- HAND TO

end Go.Proofs.Ytdimdlifjdbgnaa.PFnExactDoWork
