import Derived.Test.YtdimdlifjdbgnaaGreatPFnExactRunWorkx1
namespace Go.Proofs.YtdimdlifjdbgnaaGreat.PFnExactRunWork
open Go.RowKit Go.Proofs.YtdimdlifjdbgnaaGreatW.PrintWords Go.Proofs.YtdimdlifjdbgnaaGreatW.PrintLast Go.Proofs.YtdimdlifjdbgnaaGreatW.PrintMore Go.Proofs.YtdimdlifjdbgnaaGreat.Sq
attribute [local go_sem] max2_int min2_int max_two min_two max_three min_three max_four min_four
set_option linter.unusedVariables false
set_option linter.unusedSimpArgs false

/-! ### spec_ClockOk: function 60 -/
def spec_ClockOk.f (a0_0 : Int) (a0_1 : Int) (a0_2 : Int) : Option (Bool) := (spec_l1In.f a0_0 0 1000000).bind fun t138 => (if t138 = true then ((spec_l1In.f a0_1 0 1000000).bind fun t139 => (if t139 = true then ((spec_l1In.f a0_2 0 1000000).bind fun t140 => (some t140)) else (some false))) else (some false))
set_option maxHeartbeats 8000000 in
set_option maxRecDepth 100000 in
theorem spec_ClockOk.calls (a0_0 : Int) (a0_1 : Int) (a0_2 : Int) (r : Bool) (w : World) (h : spec_ClockOk.f a0_0 a0_1 a0_2 = some r) :
  Calls Tryz.prog 60 #[.agg #[.int .i64 a0_0, .int .i64 a0_1, .int .i64 a0_2]] w fun e w' => e = .returned (.bool r) ∧ Below w.heap.size w w' := by
 have hu35 := Tryz.underlying35
 have HB := Aside0.mk (Below.refl w.heap.size w)
 have H : ((spec_l1In.f a0_0 0 1000000).bind fun t138 => (if t138 = true then ((spec_l1In.f a0_1 0 1000000).bind fun t139 => (if t139 = true then ((spec_l1In.f a0_2 0 1000000).bind fun t140 => (some t140)) else (some false))) else (some false))) = some r := h
 clear h
 replace H := Option.bind_eq_some_iff.mp H
 obtain ⟨t138, A20, H⟩ := H
 replace H : (if t138 = true then ((spec_l1In.f a0_1 0 1000000).bind fun t139 => (if t139 = true then ((spec_l1In.f a0_2 0 1000000).bind fun t140 => (some t140)) else (some false))) else (some false)) = some r := H
 have A2 := Aside0.mk A20
 clear A20
 by_cases c3 : t138 = true
 ·
  subst c3
  have H1 : ((spec_l1In.f a0_1 0 1000000).bind fun t139 => (if t139 = true then ((spec_l1In.f a0_2 0 1000000).bind fun t140 => (some t140)) else (some false))) = some r := by rw [if_pos rfl] at H; exact H
  clear H
  have H := H1
  clear H1
  replace H := Option.bind_eq_some_iff.mp H
  obtain ⟨t139, A40, H⟩ := H
  replace H : (if t139 = true then ((spec_l1In.f a0_2 0 1000000).bind fun t140 => (some t140)) else (some false)) = some r := H
  have A4 := Aside0.mk A40
  clear A40
  by_cases c5 : t139 = true
  ·
   subst c5
   have H1 : ((spec_l1In.f a0_2 0 1000000).bind fun t140 => (some t140)) = some r := by rw [if_pos rfl] at H; exact H
   clear H
   have H := H1
   clear H1
   replace H := Option.bind_eq_some_iff.mp H
   obtain ⟨t140, A60, H⟩ := H
   replace H : (some t140) = some r := H
   have A6 := Aside0.mk A60
   clear A60
   obtain rfl := Option.some.inj H
   go_enter Tryz.func60, Tryz.ntmps60
   go_wp2_with (first | ((with_reducible refine gate_dst (N := 1) rfl ?_); refine box_event ?hg (N := 1) ?hd (cs := #[.int .i64 a0_0, .int .i64 a0_1, .int .i64 a0_2]) (t := 35) ?hr ?_; (case hd => rfl); (case hg => rfl); (case hr => first | (go_simp; done) | (go_simp; rfl)); intro gb137 hg w7 hbox hb; have BK137 := Aside0.mk (hbox); have GW137 := Aside0.mk ((by rw [hg]; exact (below_size (bl HB.out)) : w.heap.size ≤ gb137)); have GE137 := GW137; replace HB := Aside0.mk (below_step (bl HB.out) hb); clear hb hbox hg; obtain ⟨hcz8_0, hcz8_1, hcz8_2⟩ := ck3 BK137.out; obtain ⟨hfz8_0, hfz8_1, hfz8_2⟩ := fz3 BK137.out) | ((with_reducible refine gate_callee (f := 65) rfl ?_); refine goesL_ (some 5) rfl rfl Tryz.func65 (by kernel_rfl) rfl #[.int .i64 a0_0, .int .i64 0, .int .i64 1000000] rfl (by (try simp only [am_]); first | done | rfl) ?_; (with_reducible refine (spec_l1In.calls a0_0 0 1000000 true _ A2.out).mono ?_); rintro e w' ⟨rfl, ⟨nd, rfl⟩⟩; refine ⟨_, rfl, ?_⟩) | (go_at_call 65; (with_reducible refine (spec_l1In.calls a0_1 0 1000000 true _ A4.out).mono ?_); rintro e w' ⟨rfl, ⟨nd, rfl⟩⟩) | (go_at_call 65; (with_reducible refine (spec_l1In.calls a0_2 0 1000000 t140 _ A6.out).mono ?_); rintro e w' ⟨rfl, ⟨nd, rfl⟩⟩))
   go_ret
   exact ⟨by first | rfl | (simp [errW_none, errW_some] <;> rfl) | (simp [*, errW_none, errW_some] <;> rfl), by repeat with_reducible first | exact bl HB.out | refine below_set ?_ GE137.out | refine bq ?_⟩
  ·
   replace c5 := Bool.eq_false_iff.mpr c5
   subst c5
   have H1 : (some false) = some r := by rw [if_neg (show ¬ (false = true) by decide)] at H; exact H
   clear H
   have H := H1
   clear H1
   obtain rfl := Option.some.inj H
   go_enter Tryz.func60, Tryz.ntmps60
   go_wp2_with (first | ((with_reducible refine gate_dst (N := 1) rfl ?_); refine box_event ?hg (N := 1) ?hd (cs := #[.int .i64 a0_0, .int .i64 a0_1, .int .i64 a0_2]) (t := 35) ?hr ?_; (case hd => rfl); (case hg => rfl); (case hr => first | (go_simp; done) | (go_simp; rfl)); intro gb137 hg w9 hbox hb; have BK137 := Aside0.mk (hbox); have GW137 := Aside0.mk ((by rw [hg]; exact (below_size (bl HB.out)) : w.heap.size ≤ gb137)); have GE137 := GW137; replace HB := Aside0.mk (below_step (bl HB.out) hb); clear hb hbox hg; obtain ⟨hcz10_0, hcz10_1, hcz10_2⟩ := ck3 BK137.out; obtain ⟨hfz10_0, hfz10_1, hfz10_2⟩ := fz3 BK137.out) | ((with_reducible refine gate_callee (f := 65) rfl ?_); refine goesL_ (some 5) rfl rfl Tryz.func65 (by kernel_rfl) rfl #[.int .i64 a0_0, .int .i64 0, .int .i64 1000000] rfl (by (try simp only [am_]); first | done | rfl) ?_; (with_reducible refine (spec_l1In.calls a0_0 0 1000000 true _ A2.out).mono ?_); rintro e w' ⟨rfl, ⟨nd, rfl⟩⟩; refine ⟨_, rfl, ?_⟩) | (go_at_call 65; (with_reducible refine (spec_l1In.calls a0_1 0 1000000 false _ A4.out).mono ?_); rintro e w' ⟨rfl, ⟨nd, rfl⟩⟩))
   go_ret
   exact ⟨by first | rfl | (simp [errW_none, errW_some] <;> rfl) | (simp [*, errW_none, errW_some] <;> rfl), by repeat with_reducible first | exact bl HB.out | refine below_set ?_ GE137.out | refine bq ?_⟩
 ·
  replace c3 := Bool.eq_false_iff.mpr c3
  subst c3
  have H1 : (some false) = some r := by rw [if_neg (show ¬ (false = true) by decide)] at H; exact H
  clear H
  have H := H1
  clear H1
  obtain rfl := Option.some.inj H
  go_enter Tryz.func60, Tryz.ntmps60
  go_wp2_with (first | ((with_reducible refine gate_dst (N := 1) rfl ?_); refine box_event ?hg (N := 1) ?hd (cs := #[.int .i64 a0_0, .int .i64 a0_1, .int .i64 a0_2]) (t := 35) ?hr ?_; (case hd => rfl); (case hg => rfl); (case hr => first | (go_simp; done) | (go_simp; rfl)); intro gb137 hg w11 hbox hb; have BK137 := Aside0.mk (hbox); have GW137 := Aside0.mk ((by rw [hg]; exact (below_size (bl HB.out)) : w.heap.size ≤ gb137)); have GE137 := GW137; replace HB := Aside0.mk (below_step (bl HB.out) hb); clear hb hbox hg; obtain ⟨hcz12_0, hcz12_1, hcz12_2⟩ := ck3 BK137.out; obtain ⟨hfz12_0, hfz12_1, hfz12_2⟩ := fz3 BK137.out) | ((with_reducible refine gate_callee (f := 65) rfl ?_); refine goesL_ (some 5) rfl rfl Tryz.func65 (by kernel_rfl) rfl #[.int .i64 a0_0, .int .i64 0, .int .i64 1000000] rfl (by (try simp only [am_]); first | done | rfl) ?_; (with_reducible refine (spec_l1In.calls a0_0 0 1000000 false _ A2.out).mono ?_); rintro e w' ⟨rfl, ⟨nd, rfl⟩⟩; refine ⟨_, rfl, ?_⟩))
  go_ret
  exact ⟨by first | rfl | (simp [errW_none, errW_some] <;> rfl) | (simp [*, errW_none, errW_some] <;> rfl), by repeat with_reducible first | exact bl HB.out | refine below_set ?_ GE137.out | refine bq ?_⟩

/-! ### spec_l1Name: function 64 -/
mutual
def spec_l1Name.l0 : Nat → ByteArray → Int → Option (Bool)
 | 0, _, _ => none
 | k + 1, x0, x3 => if x3 < (x0.size : Int) then (if 0 ≤ x3 then ((spec_l1In.f (wrap64 (bt x0 x3)) 97 122).bind fun t142 => (if t142 = true then (spec_l1Name.j1 k x0 x3 false) else ((spec_l1In.f (wrap64 (bt x0 x3)) 65 90).bind fun t143 => (if t143 = true then (spec_l1Name.j1 k x0 x3 false) else ((spec_l1In.f (wrap64 (bt x0 x3)) 48 57).bind fun t144 => (if t144 = true then (spec_l1Name.j1 k x0 x3 false) else (spec_l1Name.j1 k x0 x3 ((wrap64 (bt x0 x3)) != 45)))))))) else (none)) else ((spec_l1In.f (x0.size : Int) 1 20).bind fun t141 => (some t141))
def spec_l1Name.j1 : Nat → ByteArray → Int → Bool → Option (Bool)
 | 0, _, _, _ => none
 | k + 1, x0, x3, x31 => if x31 = true then (some false) else (spec_l1Name.l0 k x0 (wrap64 (x3 + 1)))
end
def spec_l1Name.f (k : Nat) (a0 : ByteArray) : Option (Bool) := spec_l1Name.l0 k a0 0
set_option maxHeartbeats 8000000 in
set_option maxRecDepth 100000 in
theorem spec_l1Name.calls (k : Nat) (a0 : ByteArray) (r : Bool) (w : World) (h : spec_l1Name.f k a0 = some r) :
  Calls Tryz.prog 64 #[.string a0] w fun e w' => e = .returned (.bool r) ∧ Drawn0 w w' := by
 have H : (spec_l1Name.l0 k a0 0) = some r := h
 clear h
 have H' := Aside0.mk H
 clear H
 go_enter Tryz.func64, Tryz.ntmps64
 go_wp2
 go_loopg [3] k (fun kq v3 w' => ∃ (x3_1 : Int), v3 = .int .i64 x3_1 ∧ Aside0 (spec_l1Name.l0 kq a0 x3_1 = some r) ∧ Aside0 (kq ≤ k) ∧ Drawn0 w w')
 case atStart => exact ⟨(0), (by first | rfl | (simp; done) | (simp [*]; done)), H', ⟨Nat.le_refl _⟩, by repeat (first | exact Drawn0.refl _ | apply Drawn0.step)⟩
 case round =>
  clear H'
  obtain ⟨x3_1, rfl, HA, HK1, ⟨m1, rfl⟩⟩ := hrel
  cases gk with
  | zero => exact absurd HA.out (by simp [spec_l1Name.l0])
  | succ k1 =>
   have H := HA.out
   clear HA
   simp only [spec_l1Name.l0] at H
   by_cases c2 : x3_1 < (a0.size : Int)
   ·
    rw [if_pos c2] at H
    have c2b0 : decide (x3_1 < (a0.size : Int)) = true := decide_eq_true c2
    clear c2
    by_cases c3 : 0 ≤ x3_1
    ·
     rw [if_pos c3] at H
     have c3b0 : decide (0 ≤ x3_1) = true := decide_eq_true c3
     clear c3
     have HC5 := Aside0.mk H
     clear H
     have p4 : 0 ≤ (x3_1 : Int) := of_decide_eq_true (by first | (with_reducible assumption) | assumption)
     have q4 : x3_1 < (a0.size : Int) := of_decide_eq_true (by first | (with_reducible assumption) | assumption)
     have hx4 := bt_at a0 x3_1
     replace p4 := eq_true p4
     replace q4 := eq_true q4
     go_upto_region 5 with (fail)
     go_cut [31] (fun v31 wc => ∃ (kq : Nat) (x31_4 : Bool), v31 = .bool x31_4 ∧ Aside0 (spec_l1Name.j1 kq a0 x3_1 x31_4 = some r) ∧ Aside0 (kq ≤ k1) ∧ Drawn0 w wc)
     case first =>
      have H := HC5.out
      clear HC5
      replace H := Option.bind_eq_some_iff.mp H
      obtain ⟨t142, A60, H⟩ := H
      replace H : (if t142 = true then (spec_l1Name.j1 k1 a0 x3_1 false) else ((spec_l1In.f (wrap64 (bt a0 x3_1)) 65 90).bind fun t143 => (if t143 = true then (spec_l1Name.j1 k1 a0 x3_1 false) else ((spec_l1In.f (wrap64 (bt a0 x3_1)) 48 57).bind fun t144 => (if t144 = true then (spec_l1Name.j1 k1 a0 x3_1 false) else (spec_l1Name.j1 k1 a0 x3_1 ((wrap64 (bt a0 x3_1)) != 45))))))) = some r := H
      have A6 := Aside0.mk A60
      clear A60
      by_cases c7 : t142 = true
      ·
       subst c7
       have H1 : (spec_l1Name.j1 k1 a0 x3_1 false) = some r := by rw [if_pos rfl] at H; exact H
       clear H
       have H := H1
       clear H1
       have H' := Aside0.mk H
       clear H
       go_wp2_with (first | ((with_reducible refine gate_callee (f := 65) rfl ?_); refine goesL_ (some 16) rfl rfl Tryz.func65 (by kernel_rfl) rfl #[.int .i64 (wrap64 (bt a0 x3_1)), .int .i64 97, .int .i64 122] rfl (by (try simp only [am_]); first | done | rfl) ?_; (with_reducible refine (spec_l1In.calls (wrap64 (bt a0 x3_1)) 97 122 true _ A6.out).mono ?_); rintro e w' ⟨rfl, ⟨nd, rfl⟩⟩; refine ⟨_, rfl, ?_⟩))
       go_meet
       case rel => exact ⟨_, (false), (by first | rfl | (simp; done) | (simp [*]; done)), H', ⟨by have := HK1.out; first | omega | exact Nat.le_refl _⟩, by repeat (first | exact Drawn0.refl _ | apply Drawn0.step)⟩
      ·
       replace c7 := Bool.eq_false_iff.mpr c7
       subst c7
       have H1 : ((spec_l1In.f (wrap64 (bt a0 x3_1)) 65 90).bind fun t143 => (if t143 = true then (spec_l1Name.j1 k1 a0 x3_1 false) else ((spec_l1In.f (wrap64 (bt a0 x3_1)) 48 57).bind fun t144 => (if t144 = true then (spec_l1Name.j1 k1 a0 x3_1 false) else (spec_l1Name.j1 k1 a0 x3_1 ((wrap64 (bt a0 x3_1)) != 45)))))) = some r := by rw [if_neg (show ¬ (false = true) by decide)] at H; exact H
       clear H
       have H := H1
       clear H1
       replace H := Option.bind_eq_some_iff.mp H
       obtain ⟨t143, A80, H⟩ := H
       replace H : (if t143 = true then (spec_l1Name.j1 k1 a0 x3_1 false) else ((spec_l1In.f (wrap64 (bt a0 x3_1)) 48 57).bind fun t144 => (if t144 = true then (spec_l1Name.j1 k1 a0 x3_1 false) else (spec_l1Name.j1 k1 a0 x3_1 ((wrap64 (bt a0 x3_1)) != 45))))) = some r := H
       have A8 := Aside0.mk A80
       clear A80
       by_cases c9 : t143 = true
       ·
        subst c9
        have H1 : (spec_l1Name.j1 k1 a0 x3_1 false) = some r := by rw [if_pos rfl] at H; exact H
        clear H
        have H := H1
        clear H1
        have H' := Aside0.mk H
        clear H
        go_wp2_with (first | ((with_reducible refine gate_callee (f := 65) rfl ?_); refine goesL_ (some 16) rfl rfl Tryz.func65 (by kernel_rfl) rfl #[.int .i64 (wrap64 (bt a0 x3_1)), .int .i64 97, .int .i64 122] rfl (by (try simp only [am_]); first | done | rfl) ?_; (with_reducible refine (spec_l1In.calls (wrap64 (bt a0 x3_1)) 97 122 false _ A6.out).mono ?_); rintro e w' ⟨rfl, ⟨nd, rfl⟩⟩; refine ⟨_, rfl, ?_⟩) | (go_at_call 65; (with_reducible refine (spec_l1In.calls (wrap64 (bt a0 x3_1)) 65 90 true _ A8.out).mono ?_); rintro e w' ⟨rfl, ⟨nd, rfl⟩⟩))
        go_meet
        case rel => exact ⟨_, (false), (by first | rfl | (simp; done) | (simp [*]; done)), H', ⟨by have := HK1.out; first | omega | exact Nat.le_refl _⟩, by repeat (first | exact Drawn0.refl _ | apply Drawn0.step)⟩
       ·
        replace c9 := Bool.eq_false_iff.mpr c9
        subst c9
        have H1 : ((spec_l1In.f (wrap64 (bt a0 x3_1)) 48 57).bind fun t144 => (if t144 = true then (spec_l1Name.j1 k1 a0 x3_1 false) else (spec_l1Name.j1 k1 a0 x3_1 ((wrap64 (bt a0 x3_1)) != 45)))) = some r := by rw [if_neg (show ¬ (false = true) by decide)] at H; exact H
        clear H
        have H := H1
        clear H1
        replace H := Option.bind_eq_some_iff.mp H
        obtain ⟨t144, A100, H⟩ := H
        replace H : (if t144 = true then (spec_l1Name.j1 k1 a0 x3_1 false) else (spec_l1Name.j1 k1 a0 x3_1 ((wrap64 (bt a0 x3_1)) != 45))) = some r := H
        have A10 := Aside0.mk A100
        clear A100
        by_cases c11 : t144 = true
        ·
         subst c11
         have H1 : (spec_l1Name.j1 k1 a0 x3_1 false) = some r := by rw [if_pos rfl] at H; exact H
         clear H
         have H := H1
         clear H1
         have H' := Aside0.mk H
         clear H
         go_wp2_with (first | ((with_reducible refine gate_callee (f := 65) rfl ?_); refine goesL_ (some 16) rfl rfl Tryz.func65 (by kernel_rfl) rfl #[.int .i64 (wrap64 (bt a0 x3_1)), .int .i64 97, .int .i64 122] rfl (by (try simp only [am_]); first | done | rfl) ?_; (with_reducible refine (spec_l1In.calls (wrap64 (bt a0 x3_1)) 97 122 false _ A6.out).mono ?_); rintro e w' ⟨rfl, ⟨nd, rfl⟩⟩; refine ⟨_, rfl, ?_⟩) | (go_at_call 65; (with_reducible refine (spec_l1In.calls (wrap64 (bt a0 x3_1)) 65 90 false _ A8.out).mono ?_); rintro e w' ⟨rfl, ⟨nd, rfl⟩⟩) | (go_at_call 65; (with_reducible refine (spec_l1In.calls (wrap64 (bt a0 x3_1)) 48 57 true _ A10.out).mono ?_); rintro e w' ⟨rfl, ⟨nd, rfl⟩⟩))
         go_meet
         case rel => exact ⟨_, (false), (by first | rfl | (simp; done) | (simp [*]; done)), H', ⟨by have := HK1.out; first | omega | exact Nat.le_refl _⟩, by repeat (first | exact Drawn0.refl _ | apply Drawn0.step)⟩
        ·
         replace c11 := Bool.eq_false_iff.mpr c11
         subst c11
         have H1 : (spec_l1Name.j1 k1 a0 x3_1 ((wrap64 (bt a0 x3_1)) != 45)) = some r := by rw [if_neg (show ¬ (false = true) by decide)] at H; exact H
         clear H
         have H := H1
         clear H1
         have H' := Aside0.mk H
         clear H
         go_wp2_with (first | ((with_reducible refine gate_callee (f := 65) rfl ?_); refine goesL_ (some 16) rfl rfl Tryz.func65 (by kernel_rfl) rfl #[.int .i64 (wrap64 (bt a0 x3_1)), .int .i64 97, .int .i64 122] rfl (by (try simp only [am_]); first | done | rfl) ?_; (with_reducible refine (spec_l1In.calls (wrap64 (bt a0 x3_1)) 97 122 false _ A6.out).mono ?_); rintro e w' ⟨rfl, ⟨nd, rfl⟩⟩; refine ⟨_, rfl, ?_⟩) | (go_at_call 65; (with_reducible refine (spec_l1In.calls (wrap64 (bt a0 x3_1)) 65 90 false _ A8.out).mono ?_); rintro e w' ⟨rfl, ⟨nd, rfl⟩⟩) | (go_at_call 65; (with_reducible refine (spec_l1In.calls (wrap64 (bt a0 x3_1)) 48 57 false _ A10.out).mono ?_); rintro e w' ⟨rfl, ⟨nd, rfl⟩⟩))
         go_meet
         case rel => exact ⟨_, (((wrap64 (bt a0 x3_1)) != 45)), (by first | rfl | (simp; done) | (simp [*]; done)), H', ⟨by have := HK1.out; first | omega | exact Nat.le_refl _⟩, by repeat (first | exact Drawn0.refl _ | apply Drawn0.step)⟩
     case rest =>
      clear HC5
      try clear c1
      try clear c2
      try clear c2b0
      try clear p2
      try clear c3
      try clear c3b0
      try clear p4
      try clear q4
      try clear hx4
      try clear c6
      try clear p6
      try clear c7
      try clear c9
      try clear c11
      try clear p4
      try clear q4
      obtain ⟨kq, x31_4, rfl, HA, HJ4, ⟨mc4, rfl⟩⟩ := hcut
      cases kq with
      | zero => exact absurd HA.out (by simp [spec_l1Name.j1])
      | succ kj4 =>
       have H := HA.out
       clear HA
       simp only [spec_l1Name.j1] at H
       by_cases c12 : x31_4 = true
       ·
        subst c12
        have H1 : (some false) = some r := by rw [if_pos rfl] at H; exact H
        clear H
        have H := H1
        clear H1
        obtain rfl := Option.some.inj H
        go_wp2
        go_ret
        exact ⟨by first | rfl | (simp; done) | (simp [*]; done), by repeat (first | exact Drawn0.refl _ | apply Drawn0.step)⟩
       ·
        replace c12 := Bool.eq_false_iff.mpr c12
        subst c12
        have H1 : (spec_l1Name.l0 kj4 a0 (wrap64 (x3_1 + 1))) = some r := by rw [if_neg (show ¬ (false = true) by decide)] at H; exact H
        clear H
        have H := H1
        clear H1
        have H' := Aside0.mk H
        clear H
        go_wp2
        go_roundg kj4
        case measure => have := HK1.out; have := HJ4.out; omega
        case rel => exact ⟨(wrap64 (x3_1 + 1)), (by first | rfl | (simp; done) | (simp [*]; done)), H', ⟨by have := HK1.out; have := HJ4.out; omega⟩, by repeat (first | exact Drawn0.refl _ | apply Drawn0.step)⟩
    ·
     rw [if_neg c3] at H
     exact absurd H (by simp)
   ·
    rw [if_neg c2] at H
    have c2b0 : decide (x3_1 < (a0.size : Int)) = false := decide_eq_false c2
    clear c2
    replace H := Option.bind_eq_some_iff.mp H
    obtain ⟨t141, A130, H⟩ := H
    replace H : (some t141) = some r := H
    have A13 := Aside0.mk A130
    clear A130
    obtain rfl := Option.some.inj H
    go_wp2_with (first | ((with_reducible refine gate_callee (f := 65) rfl ?_); refine goesL_ (some 34) rfl rfl Tryz.func65 (by kernel_rfl) rfl #[.int .i64 (a0.size : Int), .int .i64 1, .int .i64 20] rfl (by (try simp only [am_]); first | done | rfl) ?_; (with_reducible refine (spec_l1In.calls (a0.size : Int) 1 20 t141 _ A13.out).mono ?_); rintro e w' ⟨rfl, ⟨nd, rfl⟩⟩; refine ⟨_, rfl, ?_⟩))
    go_ret
    exact ⟨by first | rfl | (simp; done) | (simp [*]; done), by repeat (first | exact Drawn0.refl _ | apply Drawn0.step)⟩

-- HAND FROM
open Go.Proofs.YtdimdlifjdbgnaaGreat.Base Go.Proofs.YtdimdlifjdbgnaaGreat.Sq
/-! ### A region that draws and whose callees make memory at most: one walk in the order of the text (by hand) -/
theorem ck3 {w : World} {g : Nat} {t : TypeId} {v0 v1 v2 : Value} (h : w.heap[g]? = some (.cells #[v0, v1, v2] t (0, 0))) : w.cell? ⟨g, 0, none⟩ = some v0 ∧ w.cell? ⟨g, 1, none⟩ = some v1 ∧ w.cell? ⟨g, 2, none⟩ = some v2 := ⟨ck h 0 rfl, ck h 1 rfl, ck h 2 rfl⟩
theorem ck6 {w : World} {g : Nat} {t : TypeId} {v0 v1 v2 v3 v4 v5 : Value} (h : w.heap[g]? = some (.cells #[v0, v1, v2, v3, v4, v5] t (0, 0))) : w.cell? ⟨g, 0, none⟩ = some v0 ∧ w.cell? ⟨g, 1, none⟩ = some v1 ∧ w.cell? ⟨g, 2, none⟩ = some v2 ∧ w.cell? ⟨g, 3, none⟩ = some v3 ∧ w.cell? ⟨g, 4, none⟩ = some v4 ∧ w.cell? ⟨g, 5, none⟩ = some v5 := ⟨ck h 0 rfl, ck h 1 rfl, ck h 2 rfl, ck h 3 rfl, ck h 4 rfl, ck h 5 rfl⟩
theorem ck7 {w : World} {g : Nat} {t : TypeId} {v0 v1 v2 v3 v4 v5 v6 : Value} (h : w.heap[g]? = some (.cells #[v0, v1, v2, v3, v4, v5, v6] t (0, 0))) : w.cell? ⟨g, 0, none⟩ = some v0 ∧ w.cell? ⟨g, 1, none⟩ = some v1 ∧ w.cell? ⟨g, 2, none⟩ = some v2 ∧ w.cell? ⟨g, 3, none⟩ = some v3 ∧ w.cell? ⟨g, 4, none⟩ = some v4 ∧ w.cell? ⟨g, 5, none⟩ = some v5 ∧ w.cell? ⟨g, 6, none⟩ = some v6 := ⟨ck h 0 rfl, ck h 1 rfl, ck h 2 rfl, ck h 3 rfl, ck h 4 rfl, ck h 5 rfl, ck h 6 rfl⟩
section
variable {P : Program} {ops : Array Oper} {Q : Act → Prop} {a a' : Act} {o : Oper} {rest : List Oper} {W : World}
abbrev Up (W : World) : World → Prop := fun w' => Below W.heap.size W w'
def Ent (P : Program) (f : FuncId) : Prop := ∀ (args : Array Value) (w : World), (callFunc f args).run P w = .ok (.enter f args) w
structure Wq (P : Program) (ops : Array Oper) (W : World) (Q : Act → Prop) (l : List Oper) (a : Act) : Prop where mk :: (out : wpQuiet P ops (Up W) Q l a)
theorem rg_ {id : Nat} {Q : Exit → Act → World → Prop} {a : Act} {W : World} {l : List Oper} (hm : P.follows .mixedOrders = true) (hB : Region.lexB .any l.toArray = true)
    (h : Wq P l.toArray W (fun a' => ∀ w', Up W w' → Q .normal a' w') l a) : (Code.region id l.toArray true).wp P Q a W :=
  wp_region_quiet (C := Up W) hm hB (below_drew (Below.refl _ _)) (by simpa using h.out)
theorem qn_ (h : Wq P ops W Q rest a') (hw : Region.wanted o (yielded ops a.tmps) = false := by rfl) (ha : a.put o.dst undef = a' := by simp only [sp_]; rfl) : Wq P ops W Q (o :: rest) a := by
  subst ha; exact ⟨BigFrame.wpQuiet_skip hw h.out⟩
theorem ql_ {F : World → Prop} {v : Value} (hL : ∀ w, Up W w → F w) (h : Wq P ops W Q rest a') (hw : Region.wanted o (yielded ops a.tmps) = true := by rfl)
    (hy : ∀ w, F w → (execOp a.eval o).run P w = .ok (.value v) w := by intro w' hf; (try go_split_ands); go_simp; with_reducible rfl) (ha : a.put o.dst v = a' := by simp only [sp_]; rfl) : Wq P ops W Q (o :: rest) a := by
  subst ha
  exact ⟨BigFrame.wpQuiet_want hw fun K hK => ⟨v, fun w hw => by unfold Oper.quietAt; rw [hy w (hL w hw)]; exact ⟨rfl, rfl⟩, hK _ h.out⟩⟩
theorem qc_ {f : FuncId} {args : Array Value} {v : Value} {as_ : Array Operand} {ts : Array TypeId} (he : Ent P f) (hc : ∀ w', Up W w' → Calls P f args w' fun e w'' => e = .returned v ∧ Below w'.heap.size w' w'') (h : Wq P ops W Q rest a')
    (hop : o.op = .call { callee := .value (.func f), args := as_, argTypes := ts } := by rfl) (hw : Region.wanted o (yielded ops a.tmps) = true := by rfl) (hargs : as_.map a.eval = args := by (try simp only [am_]); first | done | rfl) (ha : a.put o.dst v = a' := by simp only [sp_]; rfl) :
    Wq P ops W Q (o :: rest) a := by
  subst ha
  refine ⟨BigFrame.wpQuiet_want hw fun K hK => ⟨v, fun w hw => ?_, hK _ h.out⟩⟩
  have hrun : (execOp a.eval o).run P w = .ok (.enter f args) w := by
    unfold execOp
    simp [hop, resolve, Deferred.ofValue, invoke, Act.eval, hargs, he args w]
  unfold Oper.quietAt
  rw [hrun]
  exact ⟨rfl, (hc w hw).mono fun e w'' ⟨he, hb⟩ => ⟨he, below_step hw hb⟩⟩
theorem qd_ (h : Q a) : Wq P ops W Q [] a := ⟨h⟩
/-- What is known of a world, told anew under one letter. -/
theorem world_ {c : Code} {Q : Exit → Act → World → Prop} {a : Act} {W : World} (F : World → Prop) (h : F W) (k : ∀ w, F w → c.wp P Q a w) : c.wp P Q a W := k W h
theorem drawn_ {f : FuncId} {args : Array Value} {w : World} {v : Value} (h : Calls P f args w fun e w' => e = .returned v ∧ Drawn0 w w') : Calls P f args w fun e w' => e = .returned v ∧ Below w.heap.size w w' :=
  h.mono fun e w' ⟨he, hn⟩ => ⟨he, hn.below⟩
end
theorem or2_ : ∀ b0 b1 : Bool, b0 = false ∨ b0 = true ∧ b1 = false ∨ b0 = true ∧ b1 = true := by decide
theorem or3_ : ∀ b0 b1 b2 : Bool, b0 = false ∨ b0 = true ∧ b1 = false ∨ b0 = true ∧ b1 = true ∧ b2 = false ∨ b0 = true ∧ b1 = true ∧ b2 = true := by decide
theorem or4_ : ∀ b0 b1 b2 b3 : Bool, b0 = false ∨ b0 = true ∧ b1 = false ∨ b0 = true ∧ b1 = true ∧ b2 = false ∨ b0 = true ∧ b1 = true ∧ b2 = true ∧ b3 = false ∨ b0 = true ∧ b1 = true ∧ b2 = true ∧ b3 = true := by decide
theorem kb_ {P : Program} {f : FuncId} {args : Array Value} {w : World} {b b' : Bool} (h : Calls P f args w fun e w' => e = .returned (.bool b) ∧ Below w.heap.size w w') (e : b = b') : Calls P f args w fun e w' => e = .returned (.bool b') ∧ Below w.heap.size w w' := e ▸ h
theorem ki_ {P : Program} {f : FuncId} {args : Array Value} {w : World} {b b' : Int} (h : Calls P f args w fun e w' => e = .returned (.int .i64 b) ∧ Below w.heap.size w w') (e : b = b') : Calls P f args w fun e w' => e = .returned (.int .i64 b') ∧ Below w.heap.size w w' := e ▸ h
theorem lt_le_ (a b : Int) : decide (b < a) = !decide (a ≤ b) := by by_cases h : a ≤ b <;> simp [h] <;> omega
theorem le_lt_ (a b : Int) : decide (b ≤ a) = !decide (a < b) := by by_cases h : a < b <;> simp [h] <;> omega
def Alnum (c : Int) : Prop := (97 ≤ c ∧ c ≤ 122) ∨ (65 ≤ c ∧ c ≤ 90) ∨ (48 ≤ c ∧ c ≤ 57)
instance (c : Int) : Decidable (Alnum c) := by unfold Alnum; exact inferInstance
def charB (c : Int) : Bool := decide (Alnum c) || (c == 45)
def charsB (s : ByteArray) : Nat → Nat → Bool
  | 0, _ => true
  | d + 1, i => charB (bt s (i : Int)) && charsB s d (i + 1)
def nameB (s : ByteArray) : Bool := charsB s s.size 0 && inB (s.size : Int) 1 20
abbrev Cr := S88
def carryAt (xs : List Cr) (i : Int) : Bool := nameB (rd_T88 xs i).f0 && (inB (rd_T88 xs i).f1 0 10 && (inB (rd_T88 xs i).f2 0 120 && (decide (¬ i > 0) || Op.bytesLess (rd_T88 xs (i - 1)).f0.toList (rd_T88 xs i).f0.toList)))
def carryFrom (xs : List Cr) : Nat → Nat → Bool
  | 0, _ => decide ((xs.length : Int) ≤ 20)
  | d + 1, i => carryAt xs (i : Int) && carryFrom xs d (i + 1)
def carryB (xs : List Cr) : Bool := carryFrom xs xs.length 0
def carryAtPv (xs : List S88) (i : Int) : Bool := decide (¬ i > 0) || Op.bytesLess (rd_T88 xs (i - 1)).f0.toList (rd_T88 xs i).f0.toList
theorem rd_at88 {l : List S88} {i : Nat} (h : i < l.length) : rd_T88 l (i : Int) = l[i] := by simp [rd_T88, List.getD_eq_getElem?_getD, h]
theorem rd_at86 {l : List S86} {i : Nat} (h : i < l.length) : rd_T86 l (i : Int) = l[i] := by simp [rd_T86, List.getD_eq_getElem?_getD, h]
theorem rd_at90 {l : List S90} {i : Nat} (h : i < l.length) : rd_T90 l (i : Int) = l[i] := by simp [rd_T90, List.getD_eq_getElem?_getD, h]
theorem carry_step {l : List S88} {i : Nat} (h : i < l.length) {b : Bool} (e : b = carryFrom l (l.length - i) i) : b = (carryAt l (i : Int) && carryFrom l (l.length - (i + 1)) (i + 1)) := by
  rw [e, show l.length - i = (l.length - (i + 1)) + 1 by omega]; rfl
theorem carry_end {l : List S88} {b : Bool} (e : b = carryFrom l (l.length - l.length) l.length) : b = decide ((l.length : Int) ≤ 20) := by
  rw [e, Nat.sub_self]; rfl
theorem spec_in_eq (a b c : Int) : spec_l1In.f a b c = some (inB a b c) := in_form a b c
theorem spec_l1Name_l (s : ByteArray) (hn : s.size ≤ 140737488355328) (d : Nat) : ∀ i : Nat, i + d = s.size → Ev (fun k => spec_l1Name.l0 k s (i : Int)) (charsB s d i && inB (s.size : Int) 1 20) := by
  induction d with
  | zero =>
    intro i h
    refine ev_succ ?_
    simp only [spec_l1Name.l0, if_neg (show ¬ ((i : Int) < (s.size : Int)) by omega), spec_in_eq, Option.bind_some, charsB, Bool.true_and]
    exact ev_now _
  | succ d ih =>
    intro i h
    have hi := ih (i + 1) (by omega)
    refine ev_succ ?_
    have hb := bt_range s (i : Int)
    simp only [spec_l1Name.l0, if_pos (show ((i : Int) < (s.size : Int)) by omega), if_pos (show (0 : Int) ≤ (i : Int) by omega), spec_in_eq, Option.bind_some, w64 (show -9223372036854775808 ≤ bt s (i : Int) by omega) (show bt s (i : Int) ≤ 9223372036854775807 by omega)]
    unfold charsB
    generalize bt s (i : Int) = c
    refine Ev.congr (f := fun k => spec_l1Name.j1 k s (i : Int) (!charB c)) (fun k => ?_) ?_
    · by_cases hc : Alnum c
      · rw [show charB c = true by simp [charB, hc]]
        unfold Alnum at hc
        repeat' split
        all_goals first | rfl | (rename_i a1 a2 a3; rw [inB_iff] at a1 a2 a3; exfalso; omega)
      · rw [show charB c = (c == 45) by simp [charB, hc]]
        unfold Alnum at hc
        have n1 : inB c 97 122 = false := by rw [Bool.eq_false_iff, ne_eq, inB_iff]; omega
        have n2 : inB c 65 90 = false := by rw [Bool.eq_false_iff, ne_eq, inB_iff]; omega
        have n3 : inB c 48 57 = false := by rw [Bool.eq_false_iff, ne_eq, inB_iff]; omega
        simp only [n1, n2, n3, Bool.false_eq_true, if_false]
        rfl
    · refine ev_succ ?_
      cases charB c with
      | true => simpa only [spec_l1Name.j1, Bool.not_true, Bool.false_eq_true, if_false, w64s i (show i < 9223372036854775807 by omega), Bool.true_and] using hi
      | false => simpa only [spec_l1Name.j1, Bool.not_false, if_true, Bool.false_and] using ev_now false
theorem spec_l1Name_ev (s : ByteArray) (hn : s.size ≤ 140737488355328) : Ev (fun k => spec_l1Name.f k s) (nameB s) := by
  simpa [spec_l1Name.f, nameB] using spec_l1Name_l s hn s.size 0 (by omega)
theorem uName : Ent Tryz.prog 64 := fun a w => enters_ Tryz.func64 rfl rfl a w
theorem uIn : Ent Tryz.prog 65 := fun a w => enters_ Tryz.func65 rfl rfl a w
theorem name_u (s : ByteArray) (hs : s.size ≤ 140737488355328) (w : World) : Calls Tryz.prog 64 #[.string s] w fun e w' => e = .returned (.bool (nameB s)) ∧ Below w.heap.size w w' := by
  obtain ⟨k, hk⟩ := (spec_l1Name_ev s hs).rounds
  exact drawn_ (spec_l1Name.calls k s _ w hk)
theorem in_u (a b c : Int) (w : World) : Calls Tryz.prog 65 #[.int .i64 a, .int .i64 b, .int .i64 c] w fun e w' => e = .returned (.bool (inB a b c)) ∧ Below w.heap.size w w' := drawn_ (spec_l1In.calls a b c _ w (spec_in_eq a b c))
set_option maxHeartbeats 4000000 in
set_option maxRecDepth 100000 in
theorem spec_CarryOk.go (A0 : Option Addr) (c0 : Nat) (l0 : List S88) (w : World) (hr0 : Kd.C k88 w A0 l0.length l0) (hc0 : l0.length ≤ c0) (hn : l0.length ≤ 140737488355328) (hx : ∀ x ∈ l0, x.f0.size ≤ 140737488355328) :
    Calls Tryz.prog 61 #[.slice A0 l0.length c0] w fun e w' => e = .returned (.bool (carryB l0)) ∧ Below w.heap.size w w' := by
  have hu88 := Tryz.underlying88
  have HR := Aside0.mk hr0
  have HX := Aside0.mk hx
  clear hr0 hx
  go_enter Tryz.func61, Tryz.ntmps61
  go_wp2
  go_loopw [3] (fun v wr => ∃ i : Nat, i ≤ l0.length ∧ v = .int .i64 i ∧ Aside0 (carryB l0 = carryFrom l0 (l0.length - i) i) ∧ Aside0 (Below w.heap.size w wr)) (fun v _ => l0.length - (intOf v).toNat)
  case atStart => exact ⟨0, Nat.zero_le _, rfl, ⟨rfl⟩, ⟨Below.refl _ _⟩⟩
  case round =>
    obtain ⟨i, hi, rfl, HE, HB⟩ := hrel
    by_cases hlt : i < l0.length
    · obtain ⟨ad, e0, hx0, hx1, hx2⟩ := at_T88 (Kd.C_below HR.out HB.out) (i : Int) (by omega) (by omega)
      cases e0
      simp only [Int.toNat_natCast] at hx0 hx1 hx2
      have HS := Aside0.mk (carry_step hlt HE.out)
      have HZ := Aside0.mk (HX.out _ (List.getElem_mem hlt))
      rw [← rd_at88 hlt] at HZ
      have HK := Aside0.mk (blk_new wr (.cells #[.string (rd_T88 l0 (i : Int)).f0, .int .i64 (rd_T88 l0 (i : Int)).f1, .int .i64 (rd_T88 l0 (i : Int)).f2] 88 (0, 0)))
      have HB2 := Aside0.mk (below_alloc HB.out (.cells #[.string (rd_T88 l0 (i : Int)).f0, .int .i64 (rd_T88 l0 (i : Int)).f1, .int .i64 (rd_T88 l0 (i : Int)).f2] 88 (0, 0)))
      go_upto_region 5 with (fail)
      generalize wr.heap.size = gx at HK ⊢
      refine world_ (fun W => W.heap[gx]? = some (.cells #[.string (rd_T88 l0 (i : Int)).f0, .int .i64 (rd_T88 l0 (i : Int)).f1, .int .i64 (rd_T88 l0 (i : Int)).f2] 88 (0, 0)) ∧ Below w.heap.size w W) ⟨HK.out, HB2.out⟩ ?_
      clear HK HB2 HE HB hx0 hx1 hx2
      rintro W ⟨HK, HB⟩
      replace HK := Aside0.mk HK
      replace HB := Aside0.mk HB
      obtain ⟨b1, Eb1⟩ : ∃ b, nameB (rd_T88 l0 (i : Int)).f0 = b := ⟨_, rfl⟩
      have Kb1 := Aside0.mk (fun w' => kb_ (name_u (rd_T88 l0 (i : Int)).f0 HZ.out w') Eb1)
      obtain ⟨b2, Eb2⟩ : ∃ b, inB (rd_T88 l0 (i : Int)).f1 0 10 = b := ⟨_, rfl⟩
      have Kb2 := Aside0.mk (fun w' => kb_ (in_u (rd_T88 l0 (i : Int)).f1 0 10 w') Eb2)
      obtain ⟨b3, Eb3⟩ : ∃ b, inB (rd_T88 l0 (i : Int)).f2 0 120 = b := ⟨_, rfl⟩
      have Kb3 := Aside0.mk (fun w' => kb_ (in_u (rd_T88 l0 (i : Int)).f2 0 120 w') Eb3)
      have HE := Aside0.mk (And.intro Eb1 (And.intro Eb2 Eb3))
      clear Eb1 Eb2 Eb3
      go_cut [45] (fun v wc => v = .bool (!carryAt l0 (i : Int)) ∧ Aside0 (Below w.heap.size w wc))
      case first =>
        clear HS
        rcases Nat.eq_zero_or_pos i with h0 | h0
        · subst h0
          have L := Aside0.mk (fun w' (h : Up W w') => (⟨ck (blk_below HK.out h) 0 rfl, ck (blk_below HK.out h) 1 rfl, ck (blk_below HK.out h) 2 rfl⟩ : w'.cell? ⟨gx, 0, none⟩ = some (.string (rd_T88 l0 ((0 : Nat) : Int)).f0) ∧ w'.cell? ⟨gx, 1, none⟩ = some (.int .i64 (rd_T88 l0 ((0 : Nat) : Int)).f1) ∧ w'.cell? ⟨gx, 2, none⟩ = some (.int .i64 (rd_T88 l0 ((0 : Nat) : Int)).f2)))
          have HP : Aside0 (carryAtPv l0 ((0 : Nat) : Int) = true) := ⟨rfl⟩
          rcases or3_ b1 b2 b3 with rfl | ⟨rfl, rfl⟩ | ⟨rfl, rfl, rfl⟩ | ⟨rfl, rfl, rfl⟩
          all_goals
            (refine rg_ (by kernel_rfl) (by kernel_rfl) ?_; (repeat (first | refine qn_ ?_ | refine qc_ uName (fun w' _ => Kb1.out w') ?_ | refine qc_ uIn (fun w' _ => Kb2.out w') ?_ | refine qc_ uIn (fun w' _ => Kb3.out w') ?_ | refine ql_ L.out ?_)); refine qd_ ?_; intro w5 hb; (try go_wp2); go_meet; case rel => exact ⟨by have hp := HP.out; unfold carryAtPv at hp; unfold carryAt; (try dsimp only); rw [HE.out.1, HE.out.2.1, HE.out.2.2, hp]; first | rfl | simp, ⟨below_step HB.out hb⟩⟩)
        · obtain ⟨j, rfl⟩ : ∃ j, i = j + 1 := ⟨i - 1, by omega⟩
          obtain ⟨ad', e0, y0, y1, y2⟩ := at_T88 HR.out (j : Int) (by omega) (by omega)
          obtain rfl : ad = ad' := by injection e0
          simp only [Int.toNat_natCast] at y0 y1 y2
          have hj : wrap64 (j : Int) = (j : Int) := w64 (by omega) (by omega)
          have hjl : j < l0.length := by omega
          have L := Aside0.mk (fun w' (h : Up W w') => (⟨ck (blk_below HK.out h) 0 rfl, ck (blk_below HK.out h) 1 rfl, ck (blk_below HK.out h) 2 rfl, bc (below_step HB.out h) y0⟩ : w'.cell? ⟨gx, 0, none⟩ = some (.string (rd_T88 l0 ((j + 1 : Nat) : Int)).f0) ∧ w'.cell? ⟨gx, 1, none⟩ = some (.int .i64 (rd_T88 l0 ((j + 1 : Nat) : Int)).f1) ∧ w'.cell? ⟨gx, 2, none⟩ = some (.int .i64 (rd_T88 l0 ((j + 1 : Nat) : Int)).f2) ∧ w'.cell? (ad.add (j * 3)) = some (.string (rd_T88 l0 (j : Int)).f0)))
          obtain ⟨bP, EP⟩ : ∃ b, Op.bytesLess (rd_T88 l0 (j : Int)).f0.toList (rd_T88 l0 ((j : Int) + 1)).f0.toList = b := ⟨_, rfl⟩
          have HP : Aside0 (carryAtPv l0 ((j + 1 : Nat) : Int) = bP) := ⟨by unfold carryAtPv; rw [decide_eq_false (show ¬ ¬ ((j + 1 : Nat) : Int) > 0 by omega), show ((j + 1 : Nat) : Int) - 1 = (j : Int) by omega, show ((j + 1 : Nat) : Int) = (j : Int) + 1 by omega, EP]; rfl⟩
          clear y0 y1 y2 e0 h0
          rcases or4_ b1 bP b2 b3 with rfl | ⟨rfl, rfl⟩ | ⟨rfl, rfl, rfl⟩ | ⟨rfl, rfl, rfl, rfl⟩ | ⟨rfl, rfl, rfl, rfl⟩
          all_goals
            (refine rg_ (by kernel_rfl) (by kernel_rfl) ?_; (repeat (first | refine qn_ ?_ | refine qc_ uName (fun w' _ => Kb1.out w') ?_ | refine qc_ uIn (fun w' _ => Kb2.out w') ?_ | refine qc_ uIn (fun w' _ => Kb3.out w') ?_ | refine ql_ L.out ?_)); refine qd_ ?_; intro w5 hb; (try go_wp2); go_meet; case rel => exact ⟨by have hp := HP.out; unfold carryAtPv at hp; unfold carryAt; (try dsimp only); rw [HE.out.1, HE.out.2.1, HE.out.2.2, hp]; first | rfl | simp, ⟨below_step HB.out hb⟩⟩)
      case rest =>
        clear HB HZ HE HK
        obtain ⟨rfl, HB⟩ := hcut
        cases hc : carryAt l0 (i : Int) with
        | false =>
          rw [hc] at HS
          go_wp2
          go_ret
          exact ⟨by rw [HS.out]; rfl, HB.out⟩
        | true =>
          rw [hc] at HS
          go_wp2
          go_roundw
          case rel => exact ⟨i + 1, by omega, by go_num, ⟨HS.out⟩, HB⟩
          case measure => simp [intOf]; omega
    · obtain rfl : i = l0.length := by omega
      have HS := Aside0.mk (carry_end HE.out)
      go_wp2
      go_ret
      exact ⟨by rw [HS.out]; rfl, HB.out⟩
-- HAND TO

/-! ### spec_TaskOk: function 62 -/
def spec_TaskOk.f (k : Nat) (a0_0 : ByteArray) (a0_1 : Int) (a0_2 : Int) (a0_3 : Int) (a0_4 : Int) (a0_5 : Int) (a0_6 : Int) : Option (Bool) := (spec_l1Name.f k a0_0).bind fun t146 => (if t146 = true then ((spec_l1In.f a0_1 0 100000).bind fun t147 => (if t147 = true then ((spec_l1In.f a0_2 0 100000).bind fun t148 => (if t148 = true then ((spec_l1In.f a0_3 0 100000).bind fun t149 => (if t149 = true then (if (wrap64 ((wrap64 (a0_1 + a0_2)) + a0_3)) > 0 then ((spec_ClockOk.f a0_4 a0_5 a0_6).bind fun t150 => (some t150)) else (some false)) else (some false))) else (some false))) else (some false))) else (some false))
set_option maxHeartbeats 8000000 in
set_option maxRecDepth 100000 in
theorem spec_TaskOk.calls (k : Nat) (a0_0 : ByteArray) (a0_1 : Int) (a0_2 : Int) (a0_3 : Int) (a0_4 : Int) (a0_5 : Int) (a0_6 : Int) (r : Bool) (w : World) (h : spec_TaskOk.f k a0_0 a0_1 a0_2 a0_3 a0_4 a0_5 a0_6 = some r) :
  Calls Tryz.prog 62 #[.agg #[.string a0_0, .int .i64 a0_1, .int .i64 a0_2, .int .i64 a0_3, .int .i64 a0_4, .int .i64 a0_5, .int .i64 a0_6]] w fun e w' => e = .returned (.bool r) ∧ Below w.heap.size w w' := by
 have hu86 := Tryz.underlying86
 have hu35 := Tryz.underlying35
 have HB := Aside0.mk (Below.refl w.heap.size w)
 have H : ((spec_l1Name.f k a0_0).bind fun t146 => (if t146 = true then ((spec_l1In.f a0_1 0 100000).bind fun t147 => (if t147 = true then ((spec_l1In.f a0_2 0 100000).bind fun t148 => (if t148 = true then ((spec_l1In.f a0_3 0 100000).bind fun t149 => (if t149 = true then (if (wrap64 ((wrap64 (a0_1 + a0_2)) + a0_3)) > 0 then ((spec_ClockOk.f a0_4 a0_5 a0_6).bind fun t150 => (some t150)) else (some false)) else (some false))) else (some false))) else (some false))) else (some false))) = some r := h
 clear h
 replace H := Option.bind_eq_some_iff.mp H
 obtain ⟨t146, A20, H⟩ := H
 replace H : (if t146 = true then ((spec_l1In.f a0_1 0 100000).bind fun t147 => (if t147 = true then ((spec_l1In.f a0_2 0 100000).bind fun t148 => (if t148 = true then ((spec_l1In.f a0_3 0 100000).bind fun t149 => (if t149 = true then (if (wrap64 ((wrap64 (a0_1 + a0_2)) + a0_3)) > 0 then ((spec_ClockOk.f a0_4 a0_5 a0_6).bind fun t150 => (some t150)) else (some false)) else (some false))) else (some false))) else (some false))) else (some false)) = some r := H
 have A2 := Aside0.mk A20
 clear A20
 by_cases c3 : t146 = true
 ·
  subst c3
  have H1 : ((spec_l1In.f a0_1 0 100000).bind fun t147 => (if t147 = true then ((spec_l1In.f a0_2 0 100000).bind fun t148 => (if t148 = true then ((spec_l1In.f a0_3 0 100000).bind fun t149 => (if t149 = true then (if (wrap64 ((wrap64 (a0_1 + a0_2)) + a0_3)) > 0 then ((spec_ClockOk.f a0_4 a0_5 a0_6).bind fun t150 => (some t150)) else (some false)) else (some false))) else (some false))) else (some false))) = some r := by rw [if_pos rfl] at H; exact H
  clear H
  have H := H1
  clear H1
  replace H := Option.bind_eq_some_iff.mp H
  obtain ⟨t147, A40, H⟩ := H
  replace H : (if t147 = true then ((spec_l1In.f a0_2 0 100000).bind fun t148 => (if t148 = true then ((spec_l1In.f a0_3 0 100000).bind fun t149 => (if t149 = true then (if (wrap64 ((wrap64 (a0_1 + a0_2)) + a0_3)) > 0 then ((spec_ClockOk.f a0_4 a0_5 a0_6).bind fun t150 => (some t150)) else (some false)) else (some false))) else (some false))) else (some false)) = some r := H
  have A4 := Aside0.mk A40
  clear A40
  by_cases c5 : t147 = true
  ·
   subst c5
   have H1 : ((spec_l1In.f a0_2 0 100000).bind fun t148 => (if t148 = true then ((spec_l1In.f a0_3 0 100000).bind fun t149 => (if t149 = true then (if (wrap64 ((wrap64 (a0_1 + a0_2)) + a0_3)) > 0 then ((spec_ClockOk.f a0_4 a0_5 a0_6).bind fun t150 => (some t150)) else (some false)) else (some false))) else (some false))) = some r := by rw [if_pos rfl] at H; exact H
   clear H
   have H := H1
   clear H1
   replace H := Option.bind_eq_some_iff.mp H
   obtain ⟨t148, A60, H⟩ := H
   replace H : (if t148 = true then ((spec_l1In.f a0_3 0 100000).bind fun t149 => (if t149 = true then (if (wrap64 ((wrap64 (a0_1 + a0_2)) + a0_3)) > 0 then ((spec_ClockOk.f a0_4 a0_5 a0_6).bind fun t150 => (some t150)) else (some false)) else (some false))) else (some false)) = some r := H
   have A6 := Aside0.mk A60
   clear A60
   by_cases c7 : t148 = true
   ·
    subst c7
    have H1 : ((spec_l1In.f a0_3 0 100000).bind fun t149 => (if t149 = true then (if (wrap64 ((wrap64 (a0_1 + a0_2)) + a0_3)) > 0 then ((spec_ClockOk.f a0_4 a0_5 a0_6).bind fun t150 => (some t150)) else (some false)) else (some false))) = some r := by rw [if_pos rfl] at H; exact H
    clear H
    have H := H1
    clear H1
    replace H := Option.bind_eq_some_iff.mp H
    obtain ⟨t149, A80, H⟩ := H
    replace H : (if t149 = true then (if (wrap64 ((wrap64 (a0_1 + a0_2)) + a0_3)) > 0 then ((spec_ClockOk.f a0_4 a0_5 a0_6).bind fun t150 => (some t150)) else (some false)) else (some false)) = some r := H
    have A8 := Aside0.mk A80
    clear A80
    by_cases c9 : t149 = true
    ·
     subst c9
     have H1 : (if (wrap64 ((wrap64 (a0_1 + a0_2)) + a0_3)) > 0 then ((spec_ClockOk.f a0_4 a0_5 a0_6).bind fun t150 => (some t150)) else (some false)) = some r := by rw [if_pos rfl] at H; exact H
     clear H
     have H := H1
     clear H1
     by_cases c10 : (wrap64 ((wrap64 (a0_1 + a0_2)) + a0_3)) > 0
     ·
      rw [if_pos c10] at H
      have c10b0 : decide (0 < (wrap64 ((wrap64 (a0_1 + a0_2)) + a0_3))) = true := decide_eq_true c10
      clear c10
      replace H := Option.bind_eq_some_iff.mp H
      obtain ⟨t150, A110, H⟩ := H
      replace H : (some t150) = some r := H
      have A11 := Aside0.mk A110
      clear A110
      obtain rfl := Option.some.inj H
      go_enter Tryz.func62, Tryz.ntmps62
      go_wp2_with (first | ((with_reducible refine gate_dst (N := 1) rfl ?_); refine box_event ?hg (N := 1) ?hd (cs := #[.string a0_0, .int .i64 a0_1, .int .i64 a0_2, .int .i64 a0_3, .int .i64 a0_4, .int .i64 a0_5, .int .i64 a0_6]) (t := 86) ?hr ?_; (case hd => rfl); (case hg => rfl); (case hr => first | (go_simp; done) | (go_simp; rfl)); intro gb145 hg w12 hbox hb; have BK145 := Aside0.mk (hbox); have GW145 := Aside0.mk ((by rw [hg]; exact (below_size (bl HB.out)) : w.heap.size ≤ gb145)); have GE145 := GW145; replace HB := Aside0.mk (below_step (bl HB.out) hb); clear hb hbox hg; obtain ⟨hcz13_0, hcz13_1, hcz13_2, hcz13_3, hcz13_4, hcz13_5, hcz13_6⟩ := ck7 BK145.out; obtain ⟨hfz13_0, hfz13_1, hfz13_2, hfz13_3, hfz13_4, hfz13_5, hfz13_6⟩ := fz7 BK145.out) | ((with_reducible refine gate_callee (f := 64) rfl ?_); refine goesL_ (some 5) rfl rfl Tryz.func64 (by kernel_rfl) rfl #[.string a0_0] rfl (by (try simp only [am_]); first | done | rfl) ?_; (with_reducible refine (spec_l1Name.calls k a0_0 true _ A2.out).mono ?_); rintro e w' ⟨rfl, ⟨nd, rfl⟩⟩; refine ⟨_, rfl, ?_⟩) | (go_at_call 65; (with_reducible refine (spec_l1In.calls a0_1 0 100000 true _ A4.out).mono ?_); rintro e w' ⟨rfl, ⟨nd, rfl⟩⟩) | (go_at_call 65; (with_reducible refine (spec_l1In.calls a0_2 0 100000 true _ A6.out).mono ?_); rintro e w' ⟨rfl, ⟨nd, rfl⟩⟩) | (go_at_call 65; (with_reducible refine (spec_l1In.calls a0_3 0 100000 true _ A8.out).mono ?_); rintro e w' ⟨rfl, ⟨nd, rfl⟩⟩) | (go_at_call 60; (with_reducible refine (spec_ClockOk.calls a0_4 a0_5 a0_6 t150 _ A11.out).mono ?_); rintro e w14 ⟨rfl, hb⟩; replace BK145 := Aside0.mk (blk_below (bk BK145.out) hb); replace HB := Aside0.mk (below_step (by repeat with_reducible first | exact bl HB.out | refine below_set ?_ GE145.out | refine bq ?_) hb); (try clear hb); (try clear hb2); (try clear hk); (try clear hi)))
      go_ret
      exact ⟨by first | rfl | (simp [errW_none, errW_some] <;> rfl) | (simp [*, errW_none, errW_some] <;> rfl), by repeat with_reducible first | exact bl HB.out | refine below_set ?_ GE145.out | refine bq ?_⟩
     ·
      rw [if_neg c10] at H
      have c10b0 : decide (0 < (wrap64 ((wrap64 (a0_1 + a0_2)) + a0_3))) = false := decide_eq_false c10
      clear c10
      obtain rfl := Option.some.inj H
      go_enter Tryz.func62, Tryz.ntmps62
      go_wp2_with (first | ((with_reducible refine gate_dst (N := 1) rfl ?_); refine box_event ?hg (N := 1) ?hd (cs := #[.string a0_0, .int .i64 a0_1, .int .i64 a0_2, .int .i64 a0_3, .int .i64 a0_4, .int .i64 a0_5, .int .i64 a0_6]) (t := 86) ?hr ?_; (case hd => rfl); (case hg => rfl); (case hr => first | (go_simp; done) | (go_simp; rfl)); intro gb145 hg w15 hbox hb; have BK145 := Aside0.mk (hbox); have GW145 := Aside0.mk ((by rw [hg]; exact (below_size (bl HB.out)) : w.heap.size ≤ gb145)); have GE145 := GW145; replace HB := Aside0.mk (below_step (bl HB.out) hb); clear hb hbox hg; obtain ⟨hcz16_0, hcz16_1, hcz16_2, hcz16_3, hcz16_4, hcz16_5, hcz16_6⟩ := ck7 BK145.out; obtain ⟨hfz16_0, hfz16_1, hfz16_2, hfz16_3, hfz16_4, hfz16_5, hfz16_6⟩ := fz7 BK145.out) | ((with_reducible refine gate_callee (f := 64) rfl ?_); refine goesL_ (some 5) rfl rfl Tryz.func64 (by kernel_rfl) rfl #[.string a0_0] rfl (by (try simp only [am_]); first | done | rfl) ?_; (with_reducible refine (spec_l1Name.calls k a0_0 true _ A2.out).mono ?_); rintro e w' ⟨rfl, ⟨nd, rfl⟩⟩; refine ⟨_, rfl, ?_⟩) | (go_at_call 65; (with_reducible refine (spec_l1In.calls a0_1 0 100000 true _ A4.out).mono ?_); rintro e w' ⟨rfl, ⟨nd, rfl⟩⟩) | (go_at_call 65; (with_reducible refine (spec_l1In.calls a0_2 0 100000 true _ A6.out).mono ?_); rintro e w' ⟨rfl, ⟨nd, rfl⟩⟩) | (go_at_call 65; (with_reducible refine (spec_l1In.calls a0_3 0 100000 true _ A8.out).mono ?_); rintro e w' ⟨rfl, ⟨nd, rfl⟩⟩))
      go_ret
      exact ⟨by first | rfl | (simp [errW_none, errW_some] <;> rfl) | (simp [*, errW_none, errW_some] <;> rfl), by repeat with_reducible first | exact bl HB.out | refine below_set ?_ GE145.out | refine bq ?_⟩
    ·
     replace c9 := Bool.eq_false_iff.mpr c9
     subst c9
     have H1 : (some false) = some r := by rw [if_neg (show ¬ (false = true) by decide)] at H; exact H
     clear H
     have H := H1
     clear H1
     obtain rfl := Option.some.inj H
     go_enter Tryz.func62, Tryz.ntmps62
     go_wp2_with (first | ((with_reducible refine gate_dst (N := 1) rfl ?_); refine box_event ?hg (N := 1) ?hd (cs := #[.string a0_0, .int .i64 a0_1, .int .i64 a0_2, .int .i64 a0_3, .int .i64 a0_4, .int .i64 a0_5, .int .i64 a0_6]) (t := 86) ?hr ?_; (case hd => rfl); (case hg => rfl); (case hr => first | (go_simp; done) | (go_simp; rfl)); intro gb145 hg w17 hbox hb; have BK145 := Aside0.mk (hbox); have GW145 := Aside0.mk ((by rw [hg]; exact (below_size (bl HB.out)) : w.heap.size ≤ gb145)); have GE145 := GW145; replace HB := Aside0.mk (below_step (bl HB.out) hb); clear hb hbox hg; obtain ⟨hcz18_0, hcz18_1, hcz18_2, hcz18_3, hcz18_4, hcz18_5, hcz18_6⟩ := ck7 BK145.out; obtain ⟨hfz18_0, hfz18_1, hfz18_2, hfz18_3, hfz18_4, hfz18_5, hfz18_6⟩ := fz7 BK145.out) | ((with_reducible refine gate_callee (f := 64) rfl ?_); refine goesL_ (some 5) rfl rfl Tryz.func64 (by kernel_rfl) rfl #[.string a0_0] rfl (by (try simp only [am_]); first | done | rfl) ?_; (with_reducible refine (spec_l1Name.calls k a0_0 true _ A2.out).mono ?_); rintro e w' ⟨rfl, ⟨nd, rfl⟩⟩; refine ⟨_, rfl, ?_⟩) | (go_at_call 65; (with_reducible refine (spec_l1In.calls a0_1 0 100000 true _ A4.out).mono ?_); rintro e w' ⟨rfl, ⟨nd, rfl⟩⟩) | (go_at_call 65; (with_reducible refine (spec_l1In.calls a0_2 0 100000 true _ A6.out).mono ?_); rintro e w' ⟨rfl, ⟨nd, rfl⟩⟩) | (go_at_call 65; (with_reducible refine (spec_l1In.calls a0_3 0 100000 false _ A8.out).mono ?_); rintro e w' ⟨rfl, ⟨nd, rfl⟩⟩))
     go_ret
     exact ⟨by first | rfl | (simp [errW_none, errW_some] <;> rfl) | (simp [*, errW_none, errW_some] <;> rfl), by repeat with_reducible first | exact bl HB.out | refine below_set ?_ GE145.out | refine bq ?_⟩
   ·
    replace c7 := Bool.eq_false_iff.mpr c7
    subst c7
    have H1 : (some false) = some r := by rw [if_neg (show ¬ (false = true) by decide)] at H; exact H
    clear H
    have H := H1
    clear H1
    obtain rfl := Option.some.inj H
    go_enter Tryz.func62, Tryz.ntmps62
    go_wp2_with (first | ((with_reducible refine gate_dst (N := 1) rfl ?_); refine box_event ?hg (N := 1) ?hd (cs := #[.string a0_0, .int .i64 a0_1, .int .i64 a0_2, .int .i64 a0_3, .int .i64 a0_4, .int .i64 a0_5, .int .i64 a0_6]) (t := 86) ?hr ?_; (case hd => rfl); (case hg => rfl); (case hr => first | (go_simp; done) | (go_simp; rfl)); intro gb145 hg w19 hbox hb; have BK145 := Aside0.mk (hbox); have GW145 := Aside0.mk ((by rw [hg]; exact (below_size (bl HB.out)) : w.heap.size ≤ gb145)); have GE145 := GW145; replace HB := Aside0.mk (below_step (bl HB.out) hb); clear hb hbox hg; obtain ⟨hcz20_0, hcz20_1, hcz20_2, hcz20_3, hcz20_4, hcz20_5, hcz20_6⟩ := ck7 BK145.out; obtain ⟨hfz20_0, hfz20_1, hfz20_2, hfz20_3, hfz20_4, hfz20_5, hfz20_6⟩ := fz7 BK145.out) | ((with_reducible refine gate_callee (f := 64) rfl ?_); refine goesL_ (some 5) rfl rfl Tryz.func64 (by kernel_rfl) rfl #[.string a0_0] rfl (by (try simp only [am_]); first | done | rfl) ?_; (with_reducible refine (spec_l1Name.calls k a0_0 true _ A2.out).mono ?_); rintro e w' ⟨rfl, ⟨nd, rfl⟩⟩; refine ⟨_, rfl, ?_⟩) | (go_at_call 65; (with_reducible refine (spec_l1In.calls a0_1 0 100000 true _ A4.out).mono ?_); rintro e w' ⟨rfl, ⟨nd, rfl⟩⟩) | (go_at_call 65; (with_reducible refine (spec_l1In.calls a0_2 0 100000 false _ A6.out).mono ?_); rintro e w' ⟨rfl, ⟨nd, rfl⟩⟩))
    go_ret
    exact ⟨by first | rfl | (simp [errW_none, errW_some] <;> rfl) | (simp [*, errW_none, errW_some] <;> rfl), by repeat with_reducible first | exact bl HB.out | refine below_set ?_ GE145.out | refine bq ?_⟩
  ·
   replace c5 := Bool.eq_false_iff.mpr c5
   subst c5
   have H1 : (some false) = some r := by rw [if_neg (show ¬ (false = true) by decide)] at H; exact H
   clear H
   have H := H1
   clear H1
   obtain rfl := Option.some.inj H
   go_enter Tryz.func62, Tryz.ntmps62
   go_wp2_with (first | ((with_reducible refine gate_dst (N := 1) rfl ?_); refine box_event ?hg (N := 1) ?hd (cs := #[.string a0_0, .int .i64 a0_1, .int .i64 a0_2, .int .i64 a0_3, .int .i64 a0_4, .int .i64 a0_5, .int .i64 a0_6]) (t := 86) ?hr ?_; (case hd => rfl); (case hg => rfl); (case hr => first | (go_simp; done) | (go_simp; rfl)); intro gb145 hg w21 hbox hb; have BK145 := Aside0.mk (hbox); have GW145 := Aside0.mk ((by rw [hg]; exact (below_size (bl HB.out)) : w.heap.size ≤ gb145)); have GE145 := GW145; replace HB := Aside0.mk (below_step (bl HB.out) hb); clear hb hbox hg; obtain ⟨hcz22_0, hcz22_1, hcz22_2, hcz22_3, hcz22_4, hcz22_5, hcz22_6⟩ := ck7 BK145.out; obtain ⟨hfz22_0, hfz22_1, hfz22_2, hfz22_3, hfz22_4, hfz22_5, hfz22_6⟩ := fz7 BK145.out) | ((with_reducible refine gate_callee (f := 64) rfl ?_); refine goesL_ (some 5) rfl rfl Tryz.func64 (by kernel_rfl) rfl #[.string a0_0] rfl (by (try simp only [am_]); first | done | rfl) ?_; (with_reducible refine (spec_l1Name.calls k a0_0 true _ A2.out).mono ?_); rintro e w' ⟨rfl, ⟨nd, rfl⟩⟩; refine ⟨_, rfl, ?_⟩) | (go_at_call 65; (with_reducible refine (spec_l1In.calls a0_1 0 100000 false _ A4.out).mono ?_); rintro e w' ⟨rfl, ⟨nd, rfl⟩⟩))
   go_ret
   exact ⟨by first | rfl | (simp [errW_none, errW_some] <;> rfl) | (simp [*, errW_none, errW_some] <;> rfl), by repeat with_reducible first | exact bl HB.out | refine below_set ?_ GE145.out | refine bq ?_⟩
 ·
  replace c3 := Bool.eq_false_iff.mpr c3
  subst c3
  have H1 : (some false) = some r := by rw [if_neg (show ¬ (false = true) by decide)] at H; exact H
  clear H
  have H := H1
  clear H1
  obtain rfl := Option.some.inj H
  go_enter Tryz.func62, Tryz.ntmps62
  go_wp2_with (first | ((with_reducible refine gate_dst (N := 1) rfl ?_); refine box_event ?hg (N := 1) ?hd (cs := #[.string a0_0, .int .i64 a0_1, .int .i64 a0_2, .int .i64 a0_3, .int .i64 a0_4, .int .i64 a0_5, .int .i64 a0_6]) (t := 86) ?hr ?_; (case hd => rfl); (case hg => rfl); (case hr => first | (go_simp; done) | (go_simp; rfl)); intro gb145 hg w23 hbox hb; have BK145 := Aside0.mk (hbox); have GW145 := Aside0.mk ((by rw [hg]; exact (below_size (bl HB.out)) : w.heap.size ≤ gb145)); have GE145 := GW145; replace HB := Aside0.mk (below_step (bl HB.out) hb); clear hb hbox hg; obtain ⟨hcz24_0, hcz24_1, hcz24_2, hcz24_3, hcz24_4, hcz24_5, hcz24_6⟩ := ck7 BK145.out; obtain ⟨hfz24_0, hfz24_1, hfz24_2, hfz24_3, hfz24_4, hfz24_5, hfz24_6⟩ := fz7 BK145.out) | ((with_reducible refine gate_callee (f := 64) rfl ?_); refine goesL_ (some 5) rfl rfl Tryz.func64 (by kernel_rfl) rfl #[.string a0_0] rfl (by (try simp only [am_]); first | done | rfl) ?_; (with_reducible refine (spec_l1Name.calls k a0_0 false _ A2.out).mono ?_); rintro e w' ⟨rfl, ⟨nd, rfl⟩⟩; refine ⟨_, rfl, ?_⟩))
  go_ret
  exact ⟨by first | rfl | (simp [errW_none, errW_some] <;> rfl) | (simp [*, errW_none, errW_some] <;> rfl), by repeat with_reducible first | exact bl HB.out | refine below_set ?_ GE145.out | refine bq ?_⟩

/-! ### spec_l19Behind: function 63 -/
def spec_l19Behind.f (a0_0 : Int) (a0_1 : Int) (a0_2 : Int) (a1_0 : Int) (a1_1 : Int) (a1_2 : Int) : Option (Bool) := if a0_0 ≤ a1_0 then (if a0_1 ≤ a1_1 then (some (decide (a0_2 ≤ a1_2))) else (some false)) else (some false)
set_option maxHeartbeats 8000000 in
set_option maxRecDepth 100000 in
theorem spec_l19Behind.calls (a0_0 : Int) (a0_1 : Int) (a0_2 : Int) (a1_0 : Int) (a1_1 : Int) (a1_2 : Int) (r : Bool) (w : World) (h : spec_l19Behind.f a0_0 a0_1 a0_2 a1_0 a1_1 a1_2 = some r) :
  Calls Tryz.prog 63 #[.agg #[.int .i64 a0_0, .int .i64 a0_1, .int .i64 a0_2], .agg #[.int .i64 a1_0, .int .i64 a1_1, .int .i64 a1_2]] w fun e w' => e = .returned (.bool r) ∧ Below w.heap.size w w' := by
 have hu35 := Tryz.underlying35
 have HB := Aside0.mk (Below.refl w.heap.size w)
 have H : (if a0_0 ≤ a1_0 then (if a0_1 ≤ a1_1 then (some (decide (a0_2 ≤ a1_2))) else (some false)) else (some false)) = some r := h
 clear h
 by_cases c3 : a0_0 ≤ a1_0
 ·
  rw [if_pos c3] at H
  have c3b0 : decide (a0_0 ≤ a1_0) = true := decide_eq_true c3
  clear c3
  by_cases c4 : a0_1 ≤ a1_1
  ·
   rw [if_pos c4] at H
   have c4b0 : decide (a0_1 ≤ a1_1) = true := decide_eq_true c4
   clear c4
   obtain rfl := Option.some.inj H
   go_enter Tryz.func63, Tryz.ntmps63
   go_wp2_with (first | ((with_reducible refine gate_dst (N := 2) rfl ?_); refine box_event ?hg (N := 2) ?hd (cs := #[.int .i64 a0_0, .int .i64 a0_1, .int .i64 a0_2]) (t := 35) ?hr ?_; (case hd => rfl); (case hg => rfl); (case hr => first | (go_simp; done) | (go_simp; rfl)); intro gb151 hg w5 hbox hb; have BK151 := Aside0.mk (hbox); have GW151 := Aside0.mk ((by rw [hg]; exact (below_size (bl HB.out)) : w.heap.size ≤ gb151)); have GE151 := GW151; replace HB := Aside0.mk (below_step (bl HB.out) hb); clear hb hbox hg) | ((with_reducible refine gate_dst (N := 3) rfl ?_); refine box_event ?hg (N := 3) ?hd (cs := #[.int .i64 a1_0, .int .i64 a1_1, .int .i64 a1_2]) (t := 35) ?hr ?_; (case hd => rfl); (case hg => rfl); (case hr => first | (go_simp; done) | (go_simp; rfl)); intro gb152 hg w6 hbox hb; have BK152 := Aside0.mk (hbox); have GW152 := Aside0.mk ((by rw [hg]; exact (below_size (by repeat with_reducible first | exact bl HB.out | refine below_set ?_ GE151.out | refine bq ?_)) : w.heap.size ≤ gb152)); have GE152 := GW152; replace HB := Aside0.mk (below_step (by repeat with_reducible first | exact bl HB.out | refine below_set ?_ GE151.out | refine bq ?_) hb); have NB151_152 := nb_ hg BK151.out; have NB152_151 := Aside0.mk NB151_152.out.symm; replace BK151 := Aside0.mk (blk_below (bk BK151.out) hb); clear hb hbox hg; have hnb7 := NB151_152.out; have hnc7 := NB152_151.out; obtain ⟨hcz8_0, hcz8_1, hcz8_2⟩ := ck3 BK151.out; obtain ⟨hfz8_0, hfz8_1, hfz8_2⟩ := fz3 BK151.out; obtain ⟨hcz9_0, hcz9_1, hcz9_2⟩ := ck3 BK152.out; obtain ⟨hfz9_0, hfz9_1, hfz9_2⟩ := fz3 BK152.out))
   go_ret
   exact ⟨by first | rfl | (simp [errW_none, errW_some] <;> rfl) | (simp [*, errW_none, errW_some] <;> rfl), by repeat with_reducible first | exact bl HB.out | refine below_set ?_ GE151.out | refine below_set ?_ GE152.out | refine bq ?_⟩
  ·
   rw [if_neg c4] at H
   have c4b0 : decide (a0_1 ≤ a1_1) = false := decide_eq_false c4
   clear c4
   obtain rfl := Option.some.inj H
   go_enter Tryz.func63, Tryz.ntmps63
   go_wp2_with (first | ((with_reducible refine gate_dst (N := 2) rfl ?_); refine box_event ?hg (N := 2) ?hd (cs := #[.int .i64 a0_0, .int .i64 a0_1, .int .i64 a0_2]) (t := 35) ?hr ?_; (case hd => rfl); (case hg => rfl); (case hr => first | (go_simp; done) | (go_simp; rfl)); intro gb151 hg w10 hbox hb; have BK151 := Aside0.mk (hbox); have GW151 := Aside0.mk ((by rw [hg]; exact (below_size (bl HB.out)) : w.heap.size ≤ gb151)); have GE151 := GW151; replace HB := Aside0.mk (below_step (bl HB.out) hb); clear hb hbox hg) | ((with_reducible refine gate_dst (N := 3) rfl ?_); refine box_event ?hg (N := 3) ?hd (cs := #[.int .i64 a1_0, .int .i64 a1_1, .int .i64 a1_2]) (t := 35) ?hr ?_; (case hd => rfl); (case hg => rfl); (case hr => first | (go_simp; done) | (go_simp; rfl)); intro gb152 hg w11 hbox hb; have BK152 := Aside0.mk (hbox); have GW152 := Aside0.mk ((by rw [hg]; exact (below_size (by repeat with_reducible first | exact bl HB.out | refine below_set ?_ GE151.out | refine bq ?_)) : w.heap.size ≤ gb152)); have GE152 := GW152; replace HB := Aside0.mk (below_step (by repeat with_reducible first | exact bl HB.out | refine below_set ?_ GE151.out | refine bq ?_) hb); have NB151_152 := nb_ hg BK151.out; have NB152_151 := Aside0.mk NB151_152.out.symm; replace BK151 := Aside0.mk (blk_below (bk BK151.out) hb); clear hb hbox hg; have hnb12 := NB151_152.out; have hnc12 := NB152_151.out; obtain ⟨hcz13_0, hcz13_1, hcz13_2⟩ := ck3 BK151.out; obtain ⟨hfz13_0, hfz13_1, hfz13_2⟩ := fz3 BK151.out; obtain ⟨hcz14_0, hcz14_1, hcz14_2⟩ := ck3 BK152.out; obtain ⟨hfz14_0, hfz14_1, hfz14_2⟩ := fz3 BK152.out))
   go_ret
   exact ⟨by first | rfl | (simp [errW_none, errW_some] <;> rfl) | (simp [*, errW_none, errW_some] <;> rfl), by repeat with_reducible first | exact bl HB.out | refine below_set ?_ GE151.out | refine below_set ?_ GE152.out | refine bq ?_⟩
 ·
  rw [if_neg c3] at H
  have c3b0 : decide (a0_0 ≤ a1_0) = false := decide_eq_false c3
  clear c3
  obtain rfl := Option.some.inj H
  go_enter Tryz.func63, Tryz.ntmps63
  go_wp2_with (first | ((with_reducible refine gate_dst (N := 2) rfl ?_); refine box_event ?hg (N := 2) ?hd (cs := #[.int .i64 a0_0, .int .i64 a0_1, .int .i64 a0_2]) (t := 35) ?hr ?_; (case hd => rfl); (case hg => rfl); (case hr => first | (go_simp; done) | (go_simp; rfl)); intro gb151 hg w15 hbox hb; have BK151 := Aside0.mk (hbox); have GW151 := Aside0.mk ((by rw [hg]; exact (below_size (bl HB.out)) : w.heap.size ≤ gb151)); have GE151 := GW151; replace HB := Aside0.mk (below_step (bl HB.out) hb); clear hb hbox hg) | ((with_reducible refine gate_dst (N := 3) rfl ?_); refine box_event ?hg (N := 3) ?hd (cs := #[.int .i64 a1_0, .int .i64 a1_1, .int .i64 a1_2]) (t := 35) ?hr ?_; (case hd => rfl); (case hg => rfl); (case hr => first | (go_simp; done) | (go_simp; rfl)); intro gb152 hg w16 hbox hb; have BK152 := Aside0.mk (hbox); have GW152 := Aside0.mk ((by rw [hg]; exact (below_size (by repeat with_reducible first | exact bl HB.out | refine below_set ?_ GE151.out | refine bq ?_)) : w.heap.size ≤ gb152)); have GE152 := GW152; replace HB := Aside0.mk (below_step (by repeat with_reducible first | exact bl HB.out | refine below_set ?_ GE151.out | refine bq ?_) hb); have NB151_152 := nb_ hg BK151.out; have NB152_151 := Aside0.mk NB151_152.out.symm; replace BK151 := Aside0.mk (blk_below (bk BK151.out) hb); clear hb hbox hg; have hnb17 := NB151_152.out; have hnc17 := NB152_151.out; obtain ⟨hcz18_0, hcz18_1, hcz18_2⟩ := ck3 BK151.out; obtain ⟨hfz18_0, hfz18_1, hfz18_2⟩ := fz3 BK151.out; obtain ⟨hcz19_0, hcz19_1, hcz19_2⟩ := ck3 BK152.out; obtain ⟨hfz19_0, hfz19_1, hfz19_2⟩ := fz3 BK152.out))
  go_ret
  exact ⟨by first | rfl | (simp [errW_none, errW_some] <;> rfl) | (simp [*, errW_none, errW_some] <;> rfl), by repeat with_reducible first | exact bl HB.out | refine below_set ?_ GE151.out | refine below_set ?_ GE152.out | refine bq ?_⟩

end Go.Proofs.YtdimdlifjdbgnaaGreat.PFnExactRunWork
