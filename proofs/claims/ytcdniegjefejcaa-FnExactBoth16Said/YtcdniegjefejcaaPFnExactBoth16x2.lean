-- Written by a program of this session (wip/xprint.py) out of the translation; Lean checks it.
import Derived.Test.YtcdniegjefejcaaPFnExactBoth16x0
namespace Go.Proofs.Ytcdniegjefejcaa.PFnExactBoth16
open Go.RowKit Go.Proofs.YtcdniegjefejcaaW.PrintWords Go.Proofs.YtcdniegjefejcaaW.PrintLast Go.Proofs.YtcdniegjefejcaaW.PrintMore Go.Proofs.Ytcdniegjefejcaa.Sq
attribute [local go_sem] max2_int min2_int max_two min_two max_three min_three max_four min_four   -- for this text's walks alone
set_option linter.unusedVariables false
set_option linter.unusedSimpArgs false

/-! ### impl_in: function 55 -/
def impl_in.f (a0 : Int) (a1 : Int) (a2 : Int) : Option (Bool) := if a0 ≥ a1 then (some (decide (a0 ≤ a2))) else (some false)
set_option maxHeartbeats 8000000 in
set_option maxRecDepth 100000 in
theorem impl_in.calls (a0 : Int) (a1 : Int) (a2 : Int) (r : Bool) (w : World) (h : impl_in.f a0 a1 a2 = some r) :
  Calls Try.prog 55 #[.int .i64 a0, .int .i64 a1, .int .i64 a2] w fun e w' => e = .returned (.bool r) ∧ Drawn0 w w' := by
 have H : (if a0 ≥ a1 then (some (decide (a0 ≤ a2))) else (some false)) = some r := h
 clear h
 by_cases c4 : a0 ≥ a1
 ·
  rw [if_pos c4] at H
  have c4b0 : decide (a1 ≤ a0) = true := decide_eq_true c4
  clear c4
  obtain rfl := Option.some.inj H
  go_enter Try.func55, Try.ntmps55
  go_wp2
  go_ret
  exact ⟨by first | rfl | (simp; done) | (simp [*]; done), by repeat (first | exact Drawn0.refl _ | apply Drawn0.step)⟩
 ·
  rw [if_neg c4] at H
  have c4b0 : decide (a1 ≤ a0) = false := decide_eq_false c4
  clear c4
  obtain rfl := Option.some.inj H
  go_enter Try.func55, Try.ntmps55
  go_wp2
  go_ret
  exact ⟨by first | rfl | (simp; done) | (simp [*]; done), by repeat (first | exact Drawn0.refl _ | apply Drawn0.step)⟩

/-! ### impl_WordOk: function 27 -/
def impl_WordOk.f (a0_0 : Int) (a0_1 : Int) (l0_2 : List Int) : Option (Bool) := (impl_in.f a0_0 1 255).bind fun t105 => (if t105 = true then ((impl_in.f a0_1 0 255).bind fun t106 => (if t106 = true then (some (decide ((l0_2.length : Int) ≤ 32))) else (some false))) else (some false))
set_option maxHeartbeats 8000000 in
set_option maxRecDepth 100000 in
theorem impl_WordOk.calls (a0_0 : Int) (a0_1 : Int) (A0_2 : Option Addr) (c0_2 : Nat) (l0_2 : List Int) (r : Bool) (w : World) (hr0_2 : Kd.C (Kd.int .u8) w A0_2 l0_2.length l0_2) (hc0_2 : l0_2.length ≤ c0_2) (h : impl_WordOk.f a0_0 a0_1 l0_2 = some r) :
  Calls Try.prog 27 #[.agg #[.int .i64 a0_0, .int .i64 a0_1, .slice A0_2 l0_2.length c0_2]] w fun e w' => e = .returned (.bool r) ∧ Below w.heap.size w w' := by
 have hu41 := Try.underlying41
 have HR0_2 := Aside0.mk hr0_2
 have HC0_2 := Aside0.mk hc0_2
 clear hr0_2 hc0_2
 have HB := Aside0.mk (Below.refl w.heap.size w)
 have H : ((impl_in.f a0_0 1 255).bind fun t105 => (if t105 = true then ((impl_in.f a0_1 0 255).bind fun t106 => (if t106 = true then (some (decide ((l0_2.length : Int) ≤ 32))) else (some false))) else (some false))) = some r := h
 clear h
 replace H := Option.bind_eq_some_iff.mp H
 obtain ⟨t105, A20, H⟩ := H
 replace H : (if t105 = true then ((impl_in.f a0_1 0 255).bind fun t106 => (if t106 = true then (some (decide ((l0_2.length : Int) ≤ 32))) else (some false))) else (some false)) = some r := H
 have A2 := Aside0.mk A20
 clear A20
 by_cases c3 : t105 = true
 ·
  subst c3
  have H1 : ((impl_in.f a0_1 0 255).bind fun t106 => (if t106 = true then (some (decide ((l0_2.length : Int) ≤ 32))) else (some false))) = some r := by rw [if_pos rfl] at H; exact H
  clear H
  have H := H1
  clear H1
  replace H := Option.bind_eq_some_iff.mp H
  obtain ⟨t106, A40, H⟩ := H
  replace H : (if t106 = true then (some (decide ((l0_2.length : Int) ≤ 32))) else (some false)) = some r := H
  have A4 := Aside0.mk A40
  clear A40
  by_cases c5 : t106 = true
  ·
   subst c5
   have H1 : (some (decide ((l0_2.length : Int) ≤ 32))) = some r := by rw [if_pos rfl] at H; exact H
   clear H
   have H := H1
   clear H1
   obtain rfl := Option.some.inj H
   go_enter Try.func27, Try.ntmps27
   go_wp2_with (first | ((with_reducible refine gate_dst (N := 1) rfl ?_); (try (refine gate_guard (by rfl) ?_; dsimp only)); refine box_event ?hg (N := 1) ?hd (cs := #[.int .i64 a0_0, .int .i64 a0_1, .slice A0_2 l0_2.length c0_2]) (t := 41) ?hr ?_; (case hd => rfl); (case hg => rfl); (case hr => first | (go_simp; done) | (go_simp; rfl)); intro gb104 hg w6 hbox hb; have BK104 := Aside0.mk (hbox); have GW104 := Aside0.mk ((by rw [hg]; exact (below_size (bl HB.out)) : w.heap.size ≤ gb104)); have GE104 := GW104; replace HB := Aside0.mk (below_step (bl HB.out) hb); clear hb hbox hg; obtain ⟨hcz7_0, hcz7_1, hcz7_2⟩ := ck3 BK104.out; obtain ⟨hfz7_0, hfz7_1, hfz7_2⟩ := fz3 BK104.out) | ((with_reducible refine gate_callee (f := 55) rfl ?_); refine goesL_ (some 5) rfl rfl Try.func55 (by kernel_rfl) rfl #[.int .i64 a0_0, .int .i64 1, .int .i64 255] rfl (by (try simp only [am_]); first | done | rfl) ?_; (with_reducible refine (impl_in.calls a0_0 1 255 true _ A2.out).mono ?_); rintro e w' ⟨rfl, ⟨nd, rfl⟩⟩; refine ⟨_, rfl, ?_⟩) | (go_at_call 55; (with_reducible refine (impl_in.calls a0_1 0 255 true _ A4.out).mono ?_); rintro e w' ⟨rfl, ⟨nd, rfl⟩⟩))
   go_ret
   exact ⟨by first | rfl | (simp [errW_none, errW_some] <;> rfl) | (simp [*, errW_none, errW_some] <;> rfl), by repeat with_reducible first | exact bl HB.out | refine below_set ?_ GE104.out | refine bq ?_⟩
  ·
   replace c5 := Bool.eq_false_iff.mpr c5
   subst c5
   have H1 : (some false) = some r := by rw [if_neg (show ¬ (false = true) by decide)] at H; exact H
   clear H
   have H := H1
   clear H1
   obtain rfl := Option.some.inj H
   go_enter Try.func27, Try.ntmps27
   go_wp2_with (first | ((with_reducible refine gate_dst (N := 1) rfl ?_); (try (refine gate_guard (by rfl) ?_; dsimp only)); refine box_event ?hg (N := 1) ?hd (cs := #[.int .i64 a0_0, .int .i64 a0_1, .slice A0_2 l0_2.length c0_2]) (t := 41) ?hr ?_; (case hd => rfl); (case hg => rfl); (case hr => first | (go_simp; done) | (go_simp; rfl)); intro gb104 hg w8 hbox hb; have BK104 := Aside0.mk (hbox); have GW104 := Aside0.mk ((by rw [hg]; exact (below_size (bl HB.out)) : w.heap.size ≤ gb104)); have GE104 := GW104; replace HB := Aside0.mk (below_step (bl HB.out) hb); clear hb hbox hg; obtain ⟨hcz9_0, hcz9_1, hcz9_2⟩ := ck3 BK104.out; obtain ⟨hfz9_0, hfz9_1, hfz9_2⟩ := fz3 BK104.out) | ((with_reducible refine gate_callee (f := 55) rfl ?_); refine goesL_ (some 5) rfl rfl Try.func55 (by kernel_rfl) rfl #[.int .i64 a0_0, .int .i64 1, .int .i64 255] rfl (by (try simp only [am_]); first | done | rfl) ?_; (with_reducible refine (impl_in.calls a0_0 1 255 true _ A2.out).mono ?_); rintro e w' ⟨rfl, ⟨nd, rfl⟩⟩; refine ⟨_, rfl, ?_⟩) | (go_at_call 55; (with_reducible refine (impl_in.calls a0_1 0 255 false _ A4.out).mono ?_); rintro e w' ⟨rfl, ⟨nd, rfl⟩⟩))
   go_ret
   exact ⟨by first | rfl | (simp [errW_none, errW_some] <;> rfl) | (simp [*, errW_none, errW_some] <;> rfl), by repeat with_reducible first | exact bl HB.out | refine below_set ?_ GE104.out | refine bq ?_⟩
 ·
  replace c3 := Bool.eq_false_iff.mpr c3
  subst c3
  have H1 : (some false) = some r := by rw [if_neg (show ¬ (false = true) by decide)] at H; exact H
  clear H
  have H := H1
  clear H1
  obtain rfl := Option.some.inj H
  go_enter Try.func27, Try.ntmps27
  go_wp2_with (first | ((with_reducible refine gate_dst (N := 1) rfl ?_); (try (refine gate_guard (by rfl) ?_; dsimp only)); refine box_event ?hg (N := 1) ?hd (cs := #[.int .i64 a0_0, .int .i64 a0_1, .slice A0_2 l0_2.length c0_2]) (t := 41) ?hr ?_; (case hd => rfl); (case hg => rfl); (case hr => first | (go_simp; done) | (go_simp; rfl)); intro gb104 hg w10 hbox hb; have BK104 := Aside0.mk (hbox); have GW104 := Aside0.mk ((by rw [hg]; exact (below_size (bl HB.out)) : w.heap.size ≤ gb104)); have GE104 := GW104; replace HB := Aside0.mk (below_step (bl HB.out) hb); clear hb hbox hg; obtain ⟨hcz11_0, hcz11_1, hcz11_2⟩ := ck3 BK104.out; obtain ⟨hfz11_0, hfz11_1, hfz11_2⟩ := fz3 BK104.out) | ((with_reducible refine gate_callee (f := 55) rfl ?_); refine goesL_ (some 5) rfl rfl Try.func55 (by kernel_rfl) rfl #[.int .i64 a0_0, .int .i64 1, .int .i64 255] rfl (by (try simp only [am_]); first | done | rfl) ?_; (with_reducible refine (impl_in.calls a0_0 1 255 false _ A2.out).mono ?_); rintro e w' ⟨rfl, ⟨nd, rfl⟩⟩; refine ⟨_, rfl, ?_⟩))
  go_ret
  exact ⟨by first | rfl | (simp [errW_none, errW_some] <;> rfl) | (simp [*, errW_none, errW_some] <;> rfl), by repeat with_reducible first | exact bl HB.out | refine below_set ?_ GE104.out | refine bq ?_⟩

/-! ### impl_ReceiverOk: function 16 -/
def impl_ReceiverOk.f (a0_0 : Int) (a0_1 : Int) (a0_2 : Int) : Option (Bool) := (impl_in.f a0_0 1 255).bind fun t108 => (if t108 = true then ((impl_in.f a0_1 (-1) 255).bind fun t109 => (if t109 = true then ((impl_in.f a0_2 1 100).bind fun t110 => (some t110)) else (some false))) else (some false))
set_option maxHeartbeats 8000000 in
set_option maxRecDepth 100000 in
theorem impl_ReceiverOk.calls (a0_0 : Int) (a0_1 : Int) (a0_2 : Int) (r : Bool) (w : World) (h : impl_ReceiverOk.f a0_0 a0_1 a0_2 = some r) :
  Calls Try.prog 16 #[.agg #[.int .i64 a0_0, .int .i64 a0_1, .int .i64 a0_2]] w fun e w' => e = .returned (.bool r) ∧ Below w.heap.size w w' := by
 have hu25 := Try.underlying25
 have HB := Aside0.mk (Below.refl w.heap.size w)
 have H : ((impl_in.f a0_0 1 255).bind fun t108 => (if t108 = true then ((impl_in.f a0_1 (-1) 255).bind fun t109 => (if t109 = true then ((impl_in.f a0_2 1 100).bind fun t110 => (some t110)) else (some false))) else (some false))) = some r := h
 clear h
 replace H := Option.bind_eq_some_iff.mp H
 obtain ⟨t108, A20, H⟩ := H
 replace H : (if t108 = true then ((impl_in.f a0_1 (-1) 255).bind fun t109 => (if t109 = true then ((impl_in.f a0_2 1 100).bind fun t110 => (some t110)) else (some false))) else (some false)) = some r := H
 have A2 := Aside0.mk A20
 clear A20
 by_cases c3 : t108 = true
 ·
  subst c3
  have H1 : ((impl_in.f a0_1 (-1) 255).bind fun t109 => (if t109 = true then ((impl_in.f a0_2 1 100).bind fun t110 => (some t110)) else (some false))) = some r := by rw [if_pos rfl] at H; exact H
  clear H
  have H := H1
  clear H1
  replace H := Option.bind_eq_some_iff.mp H
  obtain ⟨t109, A40, H⟩ := H
  replace H : (if t109 = true then ((impl_in.f a0_2 1 100).bind fun t110 => (some t110)) else (some false)) = some r := H
  have A4 := Aside0.mk A40
  clear A40
  by_cases c5 : t109 = true
  ·
   subst c5
   have H1 : ((impl_in.f a0_2 1 100).bind fun t110 => (some t110)) = some r := by rw [if_pos rfl] at H; exact H
   clear H
   have H := H1
   clear H1
   replace H := Option.bind_eq_some_iff.mp H
   obtain ⟨t110, A60, H⟩ := H
   replace H : (some t110) = some r := H
   have A6 := Aside0.mk A60
   clear A60
   obtain rfl := Option.some.inj H
   go_enter Try.func16, Try.ntmps16
   go_wp2_with (first | ((with_reducible refine gate_dst (N := 1) rfl ?_); refine box_event ?hg (N := 1) ?hd (cs := #[.int .i64 a0_0, .int .i64 a0_1, .int .i64 a0_2]) (t := 25) ?hr ?_; (case hd => rfl); (case hg => rfl); (case hr => first | (go_simp; done) | (go_simp; rfl)); intro gb107 hg w7 hbox hb; have BK107 := Aside0.mk (hbox); have GW107 := Aside0.mk ((by rw [hg]; exact (below_size (bl HB.out)) : w.heap.size ≤ gb107)); have GE107 := GW107; replace HB := Aside0.mk (below_step (bl HB.out) hb); clear hb hbox hg; obtain ⟨hcz8_0, hcz8_1, hcz8_2⟩ := ck3 BK107.out; obtain ⟨hfz8_0, hfz8_1, hfz8_2⟩ := fz3 BK107.out) | ((with_reducible refine gate_callee (f := 55) rfl ?_); refine goesL_ (some 5) rfl rfl Try.func55 (by kernel_rfl) rfl #[.int .i64 a0_0, .int .i64 1, .int .i64 255] rfl (by (try simp only [am_]); first | done | rfl) ?_; (with_reducible refine (impl_in.calls a0_0 1 255 true _ A2.out).mono ?_); rintro e w' ⟨rfl, ⟨nd, rfl⟩⟩; refine ⟨_, rfl, ?_⟩) | (go_at_call 55; (with_reducible refine (impl_in.calls a0_1 (-1) 255 true _ A4.out).mono ?_); rintro e w' ⟨rfl, ⟨nd, rfl⟩⟩) | (go_at_call 55; (with_reducible refine (impl_in.calls a0_2 1 100 t110 _ A6.out).mono ?_); rintro e w' ⟨rfl, ⟨nd, rfl⟩⟩))
   go_ret
   exact ⟨by first | rfl | (simp [errW_none, errW_some] <;> rfl) | (simp [*, errW_none, errW_some] <;> rfl), by repeat with_reducible first | exact bl HB.out | refine below_set ?_ GE107.out | refine bq ?_⟩
  ·
   replace c5 := Bool.eq_false_iff.mpr c5
   subst c5
   have H1 : (some false) = some r := by rw [if_neg (show ¬ (false = true) by decide)] at H; exact H
   clear H
   have H := H1
   clear H1
   obtain rfl := Option.some.inj H
   go_enter Try.func16, Try.ntmps16
   go_wp2_with (first | ((with_reducible refine gate_dst (N := 1) rfl ?_); refine box_event ?hg (N := 1) ?hd (cs := #[.int .i64 a0_0, .int .i64 a0_1, .int .i64 a0_2]) (t := 25) ?hr ?_; (case hd => rfl); (case hg => rfl); (case hr => first | (go_simp; done) | (go_simp; rfl)); intro gb107 hg w9 hbox hb; have BK107 := Aside0.mk (hbox); have GW107 := Aside0.mk ((by rw [hg]; exact (below_size (bl HB.out)) : w.heap.size ≤ gb107)); have GE107 := GW107; replace HB := Aside0.mk (below_step (bl HB.out) hb); clear hb hbox hg; obtain ⟨hcz10_0, hcz10_1, hcz10_2⟩ := ck3 BK107.out; obtain ⟨hfz10_0, hfz10_1, hfz10_2⟩ := fz3 BK107.out) | ((with_reducible refine gate_callee (f := 55) rfl ?_); refine goesL_ (some 5) rfl rfl Try.func55 (by kernel_rfl) rfl #[.int .i64 a0_0, .int .i64 1, .int .i64 255] rfl (by (try simp only [am_]); first | done | rfl) ?_; (with_reducible refine (impl_in.calls a0_0 1 255 true _ A2.out).mono ?_); rintro e w' ⟨rfl, ⟨nd, rfl⟩⟩; refine ⟨_, rfl, ?_⟩) | (go_at_call 55; (with_reducible refine (impl_in.calls a0_1 (-1) 255 false _ A4.out).mono ?_); rintro e w' ⟨rfl, ⟨nd, rfl⟩⟩))
   go_ret
   exact ⟨by first | rfl | (simp [errW_none, errW_some] <;> rfl) | (simp [*, errW_none, errW_some] <;> rfl), by repeat with_reducible first | exact bl HB.out | refine below_set ?_ GE107.out | refine bq ?_⟩
 ·
  replace c3 := Bool.eq_false_iff.mpr c3
  subst c3
  have H1 : (some false) = some r := by rw [if_neg (show ¬ (false = true) by decide)] at H; exact H
  clear H
  have H := H1
  clear H1
  obtain rfl := Option.some.inj H
  go_enter Try.func16, Try.ntmps16
  go_wp2_with (first | ((with_reducible refine gate_dst (N := 1) rfl ?_); refine box_event ?hg (N := 1) ?hd (cs := #[.int .i64 a0_0, .int .i64 a0_1, .int .i64 a0_2]) (t := 25) ?hr ?_; (case hd => rfl); (case hg => rfl); (case hr => first | (go_simp; done) | (go_simp; rfl)); intro gb107 hg w11 hbox hb; have BK107 := Aside0.mk (hbox); have GW107 := Aside0.mk ((by rw [hg]; exact (below_size (bl HB.out)) : w.heap.size ≤ gb107)); have GE107 := GW107; replace HB := Aside0.mk (below_step (bl HB.out) hb); clear hb hbox hg; obtain ⟨hcz12_0, hcz12_1, hcz12_2⟩ := ck3 BK107.out; obtain ⟨hfz12_0, hfz12_1, hfz12_2⟩ := fz3 BK107.out) | ((with_reducible refine gate_callee (f := 55) rfl ?_); refine goesL_ (some 5) rfl rfl Try.func55 (by kernel_rfl) rfl #[.int .i64 a0_0, .int .i64 1, .int .i64 255] rfl (by (try simp only [am_]); first | done | rfl) ?_; (with_reducible refine (impl_in.calls a0_0 1 255 false _ A2.out).mono ?_); rintro e w' ⟨rfl, ⟨nd, rfl⟩⟩; refine ⟨_, rfl, ?_⟩))
  go_ret
  exact ⟨by first | rfl | (simp [errW_none, errW_some] <;> rfl) | (simp [*, errW_none, errW_some] <;> rfl), by repeat with_reducible first | exact bl HB.out | refine below_set ?_ GE107.out | refine bq ?_⟩

/-! ### impl_Accept: function 32 -/
def impl_Accept.j0 : Nat → Bool → Int → Int → Int → Int → Int → List Int → Option (Int × Int × Int × Bool × Int)
 | 0, _, _, _, _, _, _, _ => none
 | k + 1, x22, x112000, x112001, x112002, x113000, x113001, x113002 => if x22 = true then (some (x112000, x112001, x112002, false, 0)) else (if x112001 ≥ 0 then (if (Int.tmod (wrap64 ((wrap64 (x113001 - x112001)) + 256)) 256) ≥ x112002 then (some (x112000, x112001, x112002, false, 0)) else (some (x112000, Int.tmod (wrap64 (x113001 + 1)) 256, x112002, true, Int.tmod (wrap64 ((wrap64 (x113001 - x112001)) + 256)) 256))) else (if 0 ≥ x112002 then (some (x112000, x112001, x112002, false, 0)) else (some (x112000, Int.tmod (wrap64 (x113001 + 1)) 256, x112002, true, 0))))
def impl_Accept.f (k : Nat) (a0_0 : Int) (a0_1 : Int) (a0_2 : Int) (a1_0 : Int) (a1_1 : Int) (l1_2 : List Int) : Option (Int × Int × Int × Bool × Int) := (impl_ReceiverOk.f a0_0 a0_1 a0_2).bind fun t114 => (if t114 = true then ((impl_WordOk.f a1_0 a1_1 l1_2).bind fun t115 => (if t115 = true then (impl_Accept.j0 k (a1_0 != a0_0) a0_0 a0_1 a0_2 a1_0 a1_1 l1_2) else (impl_Accept.j0 k true a0_0 a0_1 a0_2 a1_0 a1_1 l1_2))) else (impl_Accept.j0 k true a0_0 a0_1 a0_2 a1_0 a1_1 l1_2))
theorem impl_Accept.mono_l : ∀ k, (∀ y0 y1 y2 y3 y4 y5 y6, LeO (impl_Accept.j0 k y0 y1 y2 y3 y4 y5 y6) (impl_Accept.j0 (k + 1) y0 y1 y2 y3 y4 y5 y6))
 | 0 => fun _ _ _ _ _ _ _ r h => by simp [impl_Accept.j0] at h
 | k + 1 => by
  have ih0 := impl_Accept.mono_l k
  ·
   intro y0 y1 y2 y3 y4 y5 y6
   unfold impl_Accept.j0
   repeat' first
   | (with_reducible exact ih0 _ _ _ _ _ _ _)
   | (with_reducible exact LeO.refl _)
   | (with_reducible exact LeO.none _)
   | (with_reducible refine LeO.ite ?_ ?_)
   | (with_reducible refine LeO.bind ?_ (fun _ => ?_))
   | exact ih0 _ _ _ _ _ _ _
   | exact LeO.none _
   | refine LeO.ite ?_ ?_
   | refine LeO.bind ?_ (fun _ => ?_)
theorem impl_Accept.mono : ∀ a0 a1 a2 a3 a4 a5 k, LeO (impl_Accept.f k a0 a1 a2 a3 a4 a5) (impl_Accept.f (k + 1) a0 a1 a2 a3 a4 a5) := by
 intro a0 a1 a2 a3 a4 a5 k
 have ih0 := impl_Accept.mono_l k
 unfold impl_Accept.f
 repeat' first
   | (with_reducible exact ih0 _ _ _ _ _ _ _)
   | (with_reducible exact LeO.refl _)
   | (with_reducible exact LeO.none _)
   | (with_reducible refine LeO.ite ?_ ?_)
   | (with_reducible refine LeO.bind ?_ (fun _ => ?_))
   | exact ih0 _ _ _ _ _ _ _
   | exact LeO.none _
   | refine LeO.ite ?_ ?_
   | refine LeO.bind ?_ (fun _ => ?_)
set_option maxHeartbeats 8000000 in
set_option maxRecDepth 100000 in
theorem impl_Accept.calls (k : Nat) (a0_0 : Int) (a0_1 : Int) (a0_2 : Int) (a1_0 : Int) (a1_1 : Int) (A1_2 : Option Addr) (c1_2 : Nat) (l1_2 : List Int) (r1 : Int) (r2 : Int) (r3 : Int) (r4 : Bool) (r5 : Int) (w : World) (hr1_2 : Kd.C (Kd.int .u8) w A1_2 l1_2.length l1_2) (hc1_2 : l1_2.length ≤ c1_2) (h : impl_Accept.f k a0_0 a0_1 a0_2 a1_0 a1_1 l1_2 = some (r1, r2, r3, r4, r5)) :
  Calls Try.prog 32 #[.agg #[.int .i64 a0_0, .int .i64 a0_1, .int .i64 a0_2], .agg #[.int .i64 a1_0, .int .i64 a1_1, .slice A1_2 l1_2.length c1_2]] w fun e w' => e = .returned (.tuple #[.agg #[.int .i64 r1, .int .i64 r2, .int .i64 r3], .bool r4, .int .i64 r5]) ∧ Below w.heap.size w w' := by
 have hu25 := Try.underlying25
 have hu41 := Try.underlying41
 have HR1_2 := Aside0.mk hr1_2
 have HC1_2 := Aside0.mk hc1_2
 clear hr1_2 hc1_2
 have HB := Aside0.mk (Below.refl w.heap.size w)
 have H : ((impl_ReceiverOk.f a0_0 a0_1 a0_2).bind fun t114 => (if t114 = true then ((impl_WordOk.f a1_0 a1_1 l1_2).bind fun t115 => (if t115 = true then (impl_Accept.j0 k (a1_0 != a0_0) a0_0 a0_1 a0_2 a1_0 a1_1 l1_2) else (impl_Accept.j0 k true a0_0 a0_1 a0_2 a1_0 a1_1 l1_2))) else (impl_Accept.j0 k true a0_0 a0_1 a0_2 a1_0 a1_1 l1_2))) = some (r1, r2, r3, r4, r5) := h
 clear h
 have HC3 := Aside0.mk H
 clear H
 go_enter Try.func32, Try.ntmps32
 go_upto_region 1 with (first | ((with_reducible refine gate_dst (N := 2) rfl ?_); refine box_event ?hg (N := 2) ?hd (cs := #[.int .i64 a0_0, .int .i64 a0_1, .int .i64 a0_2]) (t := 25) ?hr ?_; (case hd => rfl); (case hg => rfl); (case hr => first | (go_simp; done) | (go_simp; rfl)); intro gb111 hg w4 hbox hb; have BK111 := Aside0.mk (hbox); have GW111 := Aside0.mk ((by rw [hg]; exact (below_size (bl HB.out)) : w.heap.size ≤ gb111)); have GE111 := GW111; replace HB := Aside0.mk (below_step (bl HB.out) hb); clear hb hbox hg) | ((with_reducible refine gate_dst (N := 3) rfl ?_); refine box_event ?hg (N := 3) ?hd (cs := #[.int .i64 a1_0, .int .i64 a1_1, .slice A1_2 l1_2.length c1_2]) (t := 41) ?hr ?_; (case hd => rfl); (case hg => rfl); (case hr => first | (go_simp; done) | (go_simp; rfl)); intro gb112 hg w5 hbox hb; have BK112 := Aside0.mk (hbox); have GW112 := Aside0.mk ((by rw [hg]; exact (below_size (by repeat with_reducible first | exact bl HB.out | refine below_set ?_ GE111.out | refine bq ?_)) : w.heap.size ≤ gb112)); have GE112 := GW112; replace HB := Aside0.mk (below_step (by repeat with_reducible first | exact bl HB.out | refine below_set ?_ GE111.out | refine bq ?_) hb); have NB111_112 := nb_ hg BK111.out; have NB112_111 := Aside0.mk NB111_112.out.symm; replace BK111 := Aside0.mk (blk_below (bk BK111.out) hb); clear hb hbox hg) | ((with_reducible refine gate_dst (N := 4) rfl ?_); refine box_event ?hg (N := 4) ?hd (cs := #[.int .i64 0, .int .i64 0, .int .i64 0]) (t := 25) ?hr ?_; (case hd => rfl); (case hg => rfl); (case hr => first | (go_simp; done) | (go_simp; rfl)); intro gb113 hg w6 hbox hb; have BK113 := Aside0.mk (hbox); have GW113 := Aside0.mk ((by rw [hg]; exact (below_size (by repeat with_reducible first | exact bl HB.out | refine below_set ?_ GE111.out | refine below_set ?_ GE112.out | refine bq ?_)) : w.heap.size ≤ gb113)); have GE113 := GW113; replace HB := Aside0.mk (below_step (by repeat with_reducible first | exact bl HB.out | refine below_set ?_ GE111.out | refine below_set ?_ GE112.out | refine bq ?_) hb); have NB111_113 := nb_ hg BK111.out; have NB113_111 := Aside0.mk NB111_113.out.symm; replace BK111 := Aside0.mk (blk_below (bk BK111.out) hb); have NB112_113 := nb_ hg BK112.out; have NB113_112 := Aside0.mk NB112_113.out.symm; replace BK112 := Aside0.mk (blk_below (bk BK112.out) hb); clear hb hbox hg))
 (try simp only [Act.put, List.setIfInBounds_toArray, List.set_cons_zero, List.set_cons_succ])
 go_cut [22] (fun v22 wc => ∃ (kq : Nat) (x22_2 : Bool), v22 = .bool x22_2 ∧ Aside0 (impl_Accept.j0 kq x22_2 a0_0 a0_1 a0_2 a1_0 a1_1 l1_2 = some (r1, r2, r3, r4, r5)) ∧ Aside0 (kq ≤ k) ∧ Aside0 (wc.heap[gb111]? = some (.cells #[.int .i64 a0_0, .int .i64 a0_1, .int .i64 a0_2] 25 (0, 0))) ∧ Aside0 (wc.heap[gb112]? = some (.cells #[.int .i64 a1_0, .int .i64 a1_1, (.slice A1_2 l1_2.length c1_2)] 41 (0, 0))) ∧ Aside0 (wc.heap[gb113]? = some (.cells #[.int .i64 0, .int .i64 0, .int .i64 0] 25 (0, 0))) ∧ Aside0 (Below w.heap.size w wc))
 case first =>
  have H := HC3.out
  clear HC3
  replace H := Option.bind_eq_some_iff.mp H
  obtain ⟨t114, A70, H⟩ := H
  replace H : (if t114 = true then ((impl_WordOk.f a1_0 a1_1 l1_2).bind fun t115 => (if t115 = true then (impl_Accept.j0 k (a1_0 != a0_0) a0_0 a0_1 a0_2 a1_0 a1_1 l1_2) else (impl_Accept.j0 k true a0_0 a0_1 a0_2 a1_0 a1_1 l1_2))) else (impl_Accept.j0 k true a0_0 a0_1 a0_2 a1_0 a1_1 l1_2)) = some (r1, r2, r3, r4, r5) := H
  have A7 := Aside0.mk A70
  clear A70
  by_cases c8 : t114 = true
  ·
   subst c8
   have H1 : ((impl_WordOk.f a1_0 a1_1 l1_2).bind fun t115 => (if t115 = true then (impl_Accept.j0 k (a1_0 != a0_0) a0_0 a0_1 a0_2 a1_0 a1_1 l1_2) else (impl_Accept.j0 k true a0_0 a0_1 a0_2 a1_0 a1_1 l1_2))) = some (r1, r2, r3, r4, r5) := by rw [if_pos rfl] at H; exact H
   clear H
   have H := H1
   clear H1
   replace H := Option.bind_eq_some_iff.mp H
   obtain ⟨t115, A90, H⟩ := H
   replace H : (if t115 = true then (impl_Accept.j0 k (a1_0 != a0_0) a0_0 a0_1 a0_2 a1_0 a1_1 l1_2) else (impl_Accept.j0 k true a0_0 a0_1 a0_2 a1_0 a1_1 l1_2)) = some (r1, r2, r3, r4, r5) := H
   have A9 := Aside0.mk A90
   clear A90
   by_cases c10 : t115 = true
   ·
    subst c10
    have H1 : (impl_Accept.j0 k (a1_0 != a0_0) a0_0 a0_1 a0_2 a1_0 a1_1 l1_2) = some (r1, r2, r3, r4, r5) := by rw [if_pos rfl] at H; exact H
    clear H
    have H := H1
    clear H1
    have H' := Aside0.mk H
    clear H
    have hnb11 := NB111_112.out
    have hnc11 := NB112_111.out
    have hnb12 := NB111_113.out
    have hnc12 := NB113_111.out
    obtain ⟨hcz13_0, hcz13_1, hcz13_2⟩ := ck3 BK111.out
    obtain ⟨hfz13_0, hfz13_1, hfz13_2⟩ := fz3 BK111.out
    go_wp2_with (first | ((with_reducible refine gate_callee (f := 16) rfl ?_); refine goesL_ (some 9) rfl rfl Try.func16 (by kernel_rfl) rfl #[.agg #[.int .i64 a0_0, .int .i64 a0_1, .int .i64 a0_2]] rfl (by (try simp only [am_]); first | done | rfl) ?_; (with_reducible refine (impl_ReceiverOk.calls a0_0 a0_1 a0_2 true _ A7.out).mono ?_); rintro e w14 ⟨rfl, hb⟩; refine ⟨_, rfl, ?_⟩; replace BK111 := Aside0.mk (blk_below (bk BK111.out) hb); replace BK112 := Aside0.mk (blk_below (bk BK112.out) hb); replace BK113 := Aside0.mk (blk_below (bk BK113.out) hb); replace HB := Aside0.mk (below_step (by repeat with_reducible first | exact bl HB.out | refine below_set ?_ GE111.out | refine below_set ?_ GE112.out | refine below_set ?_ GE113.out | refine bq ?_) hb); (try clear hb); (try clear hb2); (try clear hk); (try clear hi); have hnb15 := NB112_113.out; have hnc15 := NB113_112.out; obtain ⟨hcz16_0, hcz16_1, hcz16_2⟩ := ck3 BK112.out; obtain ⟨hfz16_0, hfz16_1, hfz16_2⟩ := fz3 BK112.out) | (go_at_call 27; (with_reducible refine (impl_WordOk.calls a1_0 a1_1 _ _ l1_2 true _ ?side1 ?side2 A9.out).mono ?_); (case side1 => exact rc (Kd.C_below HR1_2.out HB.out)); (case side2 => exact HC1_2.out); rintro e w17 ⟨rfl, hb⟩; replace BK111 := Aside0.mk (blk_below (bk BK111.out) hb); replace BK112 := Aside0.mk (blk_below (bk BK112.out) hb); replace BK113 := Aside0.mk (blk_below (bk BK113.out) hb); replace HB := Aside0.mk (below_step (by repeat with_reducible first | exact bl HB.out | refine below_set ?_ GE111.out | refine below_set ?_ GE112.out | refine below_set ?_ GE113.out | refine bq ?_) hb); (try clear hb); (try clear hb2); (try clear hk); (try clear hi); obtain ⟨hcz18_0, hcz18_1, hcz18_2⟩ := ck3 BK112.out; obtain ⟨hfz18_0, hfz18_1, hfz18_2⟩ := fz3 BK112.out; obtain ⟨hcz19_0, hcz19_1, hcz19_2⟩ := ck3 BK111.out; obtain ⟨hfz19_0, hfz19_1, hfz19_2⟩ := fz3 BK111.out))
    go_meet
    case rel => exact ⟨_, ((a1_0 != a0_0)), (by first | rfl | (simp; done) | (simp [*]; done)), H', ⟨by first | omega | exact Nat.le_refl _⟩, ⟨bk BK111.out⟩, ⟨bk BK112.out⟩, ⟨bk BK113.out⟩, ⟨by repeat with_reducible first | exact bl HB.out | refine below_set ?_ GE111.out | refine below_set ?_ GE112.out | refine below_set ?_ GE113.out | refine bq ?_⟩⟩
   ·
    replace c10 := Bool.eq_false_iff.mpr c10
    subst c10
    have H1 : (impl_Accept.j0 k true a0_0 a0_1 a0_2 a1_0 a1_1 l1_2) = some (r1, r2, r3, r4, r5) := by rw [if_neg (show ¬ (false = true) by decide)] at H; exact H
    clear H
    have H := H1
    clear H1
    have H' := Aside0.mk H
    clear H
    have hnb20 := NB111_112.out
    have hnc20 := NB112_111.out
    have hnb21 := NB111_113.out
    have hnc21 := NB113_111.out
    obtain ⟨hcz22_0, hcz22_1, hcz22_2⟩ := ck3 BK111.out
    obtain ⟨hfz22_0, hfz22_1, hfz22_2⟩ := fz3 BK111.out
    go_wp2_with (first | ((with_reducible refine gate_callee (f := 16) rfl ?_); refine goesL_ (some 9) rfl rfl Try.func16 (by kernel_rfl) rfl #[.agg #[.int .i64 a0_0, .int .i64 a0_1, .int .i64 a0_2]] rfl (by (try simp only [am_]); first | done | rfl) ?_; (with_reducible refine (impl_ReceiverOk.calls a0_0 a0_1 a0_2 true _ A7.out).mono ?_); rintro e w23 ⟨rfl, hb⟩; refine ⟨_, rfl, ?_⟩; replace BK111 := Aside0.mk (blk_below (bk BK111.out) hb); replace BK112 := Aside0.mk (blk_below (bk BK112.out) hb); replace BK113 := Aside0.mk (blk_below (bk BK113.out) hb); replace HB := Aside0.mk (below_step (by repeat with_reducible first | exact bl HB.out | refine below_set ?_ GE111.out | refine below_set ?_ GE112.out | refine below_set ?_ GE113.out | refine bq ?_) hb); (try clear hb); (try clear hb2); (try clear hk); (try clear hi); have hnb24 := NB112_113.out; have hnc24 := NB113_112.out; obtain ⟨hcz25_0, hcz25_1, hcz25_2⟩ := ck3 BK112.out; obtain ⟨hfz25_0, hfz25_1, hfz25_2⟩ := fz3 BK112.out) | (go_at_call 27; (with_reducible refine (impl_WordOk.calls a1_0 a1_1 _ _ l1_2 false _ ?side1 ?side2 A9.out).mono ?_); (case side1 => exact rc (Kd.C_below HR1_2.out HB.out)); (case side2 => exact HC1_2.out); rintro e w26 ⟨rfl, hb⟩; replace BK111 := Aside0.mk (blk_below (bk BK111.out) hb); replace BK112 := Aside0.mk (blk_below (bk BK112.out) hb); replace BK113 := Aside0.mk (blk_below (bk BK113.out) hb); replace HB := Aside0.mk (below_step (by repeat with_reducible first | exact bl HB.out | refine below_set ?_ GE111.out | refine below_set ?_ GE112.out | refine below_set ?_ GE113.out | refine bq ?_) hb); (try clear hb); (try clear hb2); (try clear hk); (try clear hi)))
    go_meet
    case rel => exact ⟨_, (true), (by first | rfl | (simp; done) | (simp [*]; done)), H', ⟨by first | omega | exact Nat.le_refl _⟩, ⟨bk BK111.out⟩, ⟨bk BK112.out⟩, ⟨bk BK113.out⟩, ⟨by repeat with_reducible first | exact bl HB.out | refine below_set ?_ GE111.out | refine below_set ?_ GE112.out | refine below_set ?_ GE113.out | refine bq ?_⟩⟩
  ·
   replace c8 := Bool.eq_false_iff.mpr c8
   subst c8
   have H1 : (impl_Accept.j0 k true a0_0 a0_1 a0_2 a1_0 a1_1 l1_2) = some (r1, r2, r3, r4, r5) := by rw [if_neg (show ¬ (false = true) by decide)] at H; exact H
   clear H
   have H := H1
   clear H1
   have H' := Aside0.mk H
   clear H
   have hnb27 := NB111_112.out
   have hnc27 := NB112_111.out
   have hnb28 := NB111_113.out
   have hnc28 := NB113_111.out
   obtain ⟨hcz29_0, hcz29_1, hcz29_2⟩ := ck3 BK111.out
   obtain ⟨hfz29_0, hfz29_1, hfz29_2⟩ := fz3 BK111.out
   go_wp2_with (first | ((with_reducible refine gate_callee (f := 16) rfl ?_); refine goesL_ (some 9) rfl rfl Try.func16 (by kernel_rfl) rfl #[.agg #[.int .i64 a0_0, .int .i64 a0_1, .int .i64 a0_2]] rfl (by (try simp only [am_]); first | done | rfl) ?_; (with_reducible refine (impl_ReceiverOk.calls a0_0 a0_1 a0_2 false _ A7.out).mono ?_); rintro e w30 ⟨rfl, hb⟩; refine ⟨_, rfl, ?_⟩; replace BK111 := Aside0.mk (blk_below (bk BK111.out) hb); replace BK112 := Aside0.mk (blk_below (bk BK112.out) hb); replace BK113 := Aside0.mk (blk_below (bk BK113.out) hb); replace HB := Aside0.mk (below_step (by repeat with_reducible first | exact bl HB.out | refine below_set ?_ GE111.out | refine below_set ?_ GE112.out | refine below_set ?_ GE113.out | refine bq ?_) hb); (try clear hb); (try clear hb2); (try clear hk); (try clear hi)))
   go_meet
   case rel => exact ⟨_, (true), (by first | rfl | (simp; done) | (simp [*]; done)), H', ⟨by first | omega | exact Nat.le_refl _⟩, ⟨bk BK111.out⟩, ⟨bk BK112.out⟩, ⟨bk BK113.out⟩, ⟨by repeat with_reducible first | exact bl HB.out | refine below_set ?_ GE111.out | refine below_set ?_ GE112.out | refine below_set ?_ GE113.out | refine bq ?_⟩⟩
 case rest =>
  clear HC3
  try clear c1
  try clear c2
  try clear p2
  try clear c3
  try clear c8
  try clear c10
  try clear c11
  try clear c12
  try clear c15
  try clear c16
  try clear c20
  try clear c21
  try clear c24
  try clear c27
  try clear c28
  try clear hcz13_0 hcz13_1 hcz13_2 hfz13_0 hfz13_1 hfz13_2
  try clear hcz16_0 hcz16_1 hcz16_2 hfz16_0 hfz16_1 hfz16_2
  try clear hcz18_0 hcz18_1 hcz18_2 hfz18_0 hfz18_1 hfz18_2
  try clear hcz19_0 hcz19_1 hcz19_2 hfz19_0 hfz19_1 hfz19_2
  try clear hcz22_0 hcz22_1 hcz22_2 hfz22_0 hfz22_1 hfz22_2
  try clear hcz25_0 hcz25_1 hcz25_2 hfz25_0 hfz25_1 hfz25_2
  try clear hcz29_0 hcz29_1 hcz29_2 hfz29_0 hfz29_1 hfz29_2
  obtain ⟨kq, x22_2, rfl, HA, HJ2, BK111, BK112, BK113, HB⟩ := hcut
  cases kq with
  | zero => exact absurd HA.out (by simp [impl_Accept.j0])
  | succ kj2 =>
   have H := HA.out
   clear HA
   simp only [impl_Accept.j0] at H
   by_cases c31 : x22_2 = true
   ·
    subst c31
    have H1 : (some (a0_0, a0_1, a0_2, false, 0)) = some (r1, r2, r3, r4, r5) := by rw [if_pos rfl] at H; exact H
    clear H
    have H := H1
    clear H1
    simp only [Option.some.injEq, Prod.mk.injEq] at H
    obtain ⟨rfl, rfl, rfl, rfl, rfl⟩ := H
    have hnb32 := NB111_112.out
    have hnc32 := NB112_111.out
    have hnb33 := NB111_113.out
    have hnc33 := NB113_111.out
    obtain ⟨hcz34_0, hcz34_1, hcz34_2⟩ := ck3 BK111.out
    obtain ⟨hfz34_0, hfz34_1, hfz34_2⟩ := fz3 BK111.out
    have hnb35 := NB113_112.out
    have hnc35 := NB112_113.out
    obtain ⟨hcz36_0, hcz36_1, hcz36_2⟩ := ck3 BK113.out
    obtain ⟨hfz36_0, hfz36_1, hfz36_2⟩ := fz3 BK113.out
    go_wp2
    refine bodyPost_ret (results_ctt rfl _ _ gb113 25 #[.int .i64 a0_0, .int .i64 a0_1, .int .i64 a0_2] (0, 0) _ rfl (by (repeat refine bk1 ?_); refine blk_put (cs := #[.int .i64 a0_0, .int .i64 a0_1, .int .i64 0]) ?_ 2 _ rfl; (repeat refine bk1 ?_); refine blk_put (cs := #[.int .i64 a0_0, .int .i64 0, .int .i64 0]) ?_ 1 _ rfl; (repeat refine bk1 ?_); refine blk_put (cs := #[.int .i64 0, .int .i64 0, .int .i64 0]) ?_ 0 _ rfl; (repeat refine bk1 ?_); exact BK113.out) Try.underlying25 rfl (by kernel_rfl)) rfl ?_
    exact ⟨by first | rfl | (simp [errW_none, errW_some] <;> rfl) | (simp [*, errW_none, errW_some] <;> rfl), by repeat with_reducible first | exact bl HB.out | refine below_set ?_ GE111.out | refine below_set ?_ GE112.out | refine below_set ?_ GE113.out | refine bq ?_⟩
   ·
    replace c31 := Bool.eq_false_iff.mpr c31
    subst c31
    have H1 : (if a0_1 ≥ 0 then (if (Int.tmod (wrap64 ((wrap64 (a1_1 - a0_1)) + 256)) 256) ≥ a0_2 then (some (a0_0, a0_1, a0_2, false, 0)) else (some (a0_0, Int.tmod (wrap64 (a1_1 + 1)) 256, a0_2, true, Int.tmod (wrap64 ((wrap64 (a1_1 - a0_1)) + 256)) 256))) else (if 0 ≥ a0_2 then (some (a0_0, a0_1, a0_2, false, 0)) else (some (a0_0, Int.tmod (wrap64 (a1_1 + 1)) 256, a0_2, true, 0)))) = some (r1, r2, r3, r4, r5) := by rw [if_neg (show ¬ (false = true) by decide)] at H; exact H
    clear H
    have H := H1
    clear H1
    by_cases c37 : a0_1 ≥ 0
    ·
     rw [if_pos c37] at H
     have c37b0 : decide (0 ≤ a0_1) = true := decide_eq_true c37
     clear c37
     by_cases c38 : (Int.tmod (wrap64 ((wrap64 (a1_1 - a0_1)) + 256)) 256) ≥ a0_2
     ·
      rw [if_pos c38] at H
      have c38b0 : decide (a0_2 ≤ (Int.tmod (wrap64 ((wrap64 (a1_1 - a0_1)) + 256)) 256)) = true := decide_eq_true c38
      clear c38
      simp only [Option.some.injEq, Prod.mk.injEq] at H
      obtain ⟨rfl, rfl, rfl, rfl, rfl⟩ := H
      have hnb39 := NB111_112.out
      have hnc39 := NB112_111.out
      have hnb40 := NB111_113.out
      have hnc40 := NB113_111.out
      obtain ⟨hcz41_0, hcz41_1, hcz41_2⟩ := ck3 BK111.out
      obtain ⟨hfz41_0, hfz41_1, hfz41_2⟩ := fz3 BK111.out
      have hnb42 := NB112_113.out
      have hnc42 := NB113_112.out
      obtain ⟨hcz43_0, hcz43_1, hcz43_2⟩ := ck3 BK112.out
      obtain ⟨hfz43_0, hfz43_1, hfz43_2⟩ := fz3 BK112.out
      obtain ⟨hcz44_0, hcz44_1, hcz44_2⟩ := ck3 BK113.out
      obtain ⟨hfz44_0, hfz44_1, hfz44_2⟩ := fz3 BK113.out
      go_wp2
      refine bodyPost_ret (results_ctt rfl _ _ gb113 25 #[.int .i64 a0_0, .int .i64 a0_1, .int .i64 a0_2] (0, 0) _ rfl (by (repeat refine bk1 ?_); refine blk_put (cs := #[.int .i64 a0_0, .int .i64 a0_1, .int .i64 0]) ?_ 2 _ rfl; (repeat refine bk1 ?_); refine blk_put (cs := #[.int .i64 a0_0, .int .i64 0, .int .i64 0]) ?_ 1 _ rfl; (repeat refine bk1 ?_); refine blk_put (cs := #[.int .i64 0, .int .i64 0, .int .i64 0]) ?_ 0 _ rfl; (repeat refine bk1 ?_); exact BK113.out) Try.underlying25 rfl (by kernel_rfl)) rfl ?_
      exact ⟨by first | rfl | (simp [errW_none, errW_some] <;> rfl) | (simp [*, errW_none, errW_some] <;> rfl), by repeat with_reducible first | exact bl HB.out | refine below_set ?_ GE111.out | refine below_set ?_ GE112.out | refine below_set ?_ GE113.out | refine bq ?_⟩
     ·
      rw [if_neg c38] at H
      have c38b0 : decide (a0_2 ≤ (Int.tmod (wrap64 ((wrap64 (a1_1 - a0_1)) + 256)) 256)) = false := decide_eq_false c38
      clear c38
      simp only [Option.some.injEq, Prod.mk.injEq] at H
      obtain ⟨rfl, rfl, rfl, rfl, rfl⟩ := H
      have hnb45 := NB111_112.out
      have hnc45 := NB112_111.out
      have hnb46 := NB111_113.out
      have hnc46 := NB113_111.out
      obtain ⟨hcz47_0, hcz47_1, hcz47_2⟩ := ck3 BK111.out
      obtain ⟨hfz47_0, hfz47_1, hfz47_2⟩ := fz3 BK111.out
      have hnb48 := NB112_113.out
      have hnc48 := NB113_112.out
      obtain ⟨hcz49_0, hcz49_1, hcz49_2⟩ := ck3 BK112.out
      obtain ⟨hfz49_0, hfz49_1, hfz49_2⟩ := fz3 BK112.out
      obtain ⟨hcz50_0, hcz50_1, hcz50_2⟩ := ck3 BK113.out
      obtain ⟨hfz50_0, hfz50_1, hfz50_2⟩ := fz3 BK113.out
      go_wp2
      refine bodyPost_ret (results_ctt rfl _ _ gb113 25 #[.int .i64 a0_0, .int .i64 (Int.tmod (wrap64 (a1_1 + 1)) 256), .int .i64 a0_2] (0, 0) _ rfl (by (repeat refine bk1 ?_); refine blk_put (cs := #[.int .i64 a0_0, .int .i64 (Int.tmod (wrap64 (a1_1 + 1)) 256), .int .i64 0]) ?_ 2 _ rfl; (repeat refine bk1 ?_); refine blk_put (cs := #[.int .i64 a0_0, .int .i64 0, .int .i64 0]) ?_ 1 _ rfl; (repeat refine bk1 ?_); refine blk_put (cs := #[.int .i64 0, .int .i64 0, .int .i64 0]) ?_ 0 _ rfl; (repeat refine bk1 ?_); refine blk_far ?_ NB113_111.out _; (repeat refine bk1 ?_); exact BK113.out) Try.underlying25 rfl (by kernel_rfl)) rfl ?_
      exact ⟨by first | rfl | (simp [errW_none, errW_some] <;> rfl) | (simp [*, errW_none, errW_some] <;> rfl), by repeat with_reducible first | exact bl HB.out | refine below_set ?_ GE111.out | refine below_set ?_ GE112.out | refine below_set ?_ GE113.out | refine bq ?_⟩
    ·
     rw [if_neg c37] at H
     have c37b0 : decide (0 ≤ a0_1) = false := decide_eq_false c37
     clear c37
     by_cases c51 : 0 ≥ a0_2
     ·
      rw [if_pos c51] at H
      have c51b0 : decide (a0_2 ≤ 0) = true := decide_eq_true c51
      clear c51
      simp only [Option.some.injEq, Prod.mk.injEq] at H
      obtain ⟨rfl, rfl, rfl, rfl, rfl⟩ := H
      have hnb52 := NB111_112.out
      have hnc52 := NB112_111.out
      have hnb53 := NB111_113.out
      have hnc53 := NB113_111.out
      obtain ⟨hcz54_0, hcz54_1, hcz54_2⟩ := ck3 BK111.out
      obtain ⟨hfz54_0, hfz54_1, hfz54_2⟩ := fz3 BK111.out
      have hnb55 := NB113_112.out
      have hnc55 := NB112_113.out
      obtain ⟨hcz56_0, hcz56_1, hcz56_2⟩ := ck3 BK113.out
      obtain ⟨hfz56_0, hfz56_1, hfz56_2⟩ := fz3 BK113.out
      go_wp2
      refine bodyPost_ret (results_ctt rfl _ _ gb113 25 #[.int .i64 a0_0, .int .i64 a0_1, .int .i64 a0_2] (0, 0) _ rfl (by (repeat refine bk1 ?_); refine blk_put (cs := #[.int .i64 a0_0, .int .i64 a0_1, .int .i64 0]) ?_ 2 _ rfl; (repeat refine bk1 ?_); refine blk_put (cs := #[.int .i64 a0_0, .int .i64 0, .int .i64 0]) ?_ 1 _ rfl; (repeat refine bk1 ?_); refine blk_put (cs := #[.int .i64 0, .int .i64 0, .int .i64 0]) ?_ 0 _ rfl; (repeat refine bk1 ?_); exact BK113.out) Try.underlying25 rfl (by kernel_rfl)) rfl ?_
      exact ⟨by first | rfl | (simp [errW_none, errW_some] <;> rfl) | (simp [*, errW_none, errW_some] <;> rfl), by repeat with_reducible first | exact bl HB.out | refine below_set ?_ GE111.out | refine below_set ?_ GE112.out | refine below_set ?_ GE113.out | refine bq ?_⟩
     ·
      rw [if_neg c51] at H
      have c51b0 : decide (a0_2 ≤ 0) = false := decide_eq_false c51
      clear c51
      simp only [Option.some.injEq, Prod.mk.injEq] at H
      obtain ⟨rfl, rfl, rfl, rfl, rfl⟩ := H
      have hnb57 := NB111_112.out
      have hnc57 := NB112_111.out
      have hnb58 := NB111_113.out
      have hnc58 := NB113_111.out
      obtain ⟨hcz59_0, hcz59_1, hcz59_2⟩ := ck3 BK111.out
      obtain ⟨hfz59_0, hfz59_1, hfz59_2⟩ := fz3 BK111.out
      have hnb60 := NB112_113.out
      have hnc60 := NB113_112.out
      obtain ⟨hcz61_0, hcz61_1, hcz61_2⟩ := ck3 BK112.out
      obtain ⟨hfz61_0, hfz61_1, hfz61_2⟩ := fz3 BK112.out
      obtain ⟨hcz62_0, hcz62_1, hcz62_2⟩ := ck3 BK113.out
      obtain ⟨hfz62_0, hfz62_1, hfz62_2⟩ := fz3 BK113.out
      go_wp2
      refine bodyPost_ret (results_ctt rfl _ _ gb113 25 #[.int .i64 a0_0, .int .i64 (Int.tmod (wrap64 (a1_1 + 1)) 256), .int .i64 a0_2] (0, 0) _ rfl (by (repeat refine bk1 ?_); refine blk_put (cs := #[.int .i64 a0_0, .int .i64 (Int.tmod (wrap64 (a1_1 + 1)) 256), .int .i64 0]) ?_ 2 _ rfl; (repeat refine bk1 ?_); refine blk_put (cs := #[.int .i64 a0_0, .int .i64 0, .int .i64 0]) ?_ 1 _ rfl; (repeat refine bk1 ?_); refine blk_put (cs := #[.int .i64 0, .int .i64 0, .int .i64 0]) ?_ 0 _ rfl; (repeat refine bk1 ?_); refine blk_far ?_ NB113_111.out _; (repeat refine bk1 ?_); exact BK113.out) Try.underlying25 rfl (by kernel_rfl)) rfl ?_
      exact ⟨by first | rfl | (simp [errW_none, errW_some] <;> rfl) | (simp [*, errW_none, errW_some] <;> rfl), by repeat with_reducible first | exact bl HB.out | refine below_set ?_ GE111.out | refine below_set ?_ GE112.out | refine below_set ?_ GE113.out | refine bq ?_⟩

/-! ### impl_sumOf: function 66 -/
def impl_sumOf.l0 : Nat → Int → List Int → Int → Int → Option (Int)
 | 0, _, _, _, _ => none
 | k + 1, x3, x6, x7, x8 => if x8 < x7 then (if 0 ≤ x8 then (if x8 < (x6.length : Int) then (impl_sumOf.l0 k ((((x3 * 3) % 256) + (rd x6 x8)) % 256) x6 x7 (wrap64 (x8 + 1))) else (none)) else (none)) else (some x3)
def impl_sumOf.f (k : Nat) (l0 : List Int) : Option (Int) := impl_sumOf.l0 k 0 l0 (l0.length : Int) 0
theorem impl_sumOf.mono_l : ∀ k, (∀ y0 y1 y2 y3, LeO (impl_sumOf.l0 k y0 y1 y2 y3) (impl_sumOf.l0 (k + 1) y0 y1 y2 y3))
 | 0 => fun _ _ _ _ r h => by simp [impl_sumOf.l0] at h
 | k + 1 => by
  have ih0 := impl_sumOf.mono_l k
  ·
   intro y0 y1 y2 y3
   unfold impl_sumOf.l0
   repeat' first
   | (with_reducible exact ih0 _ _ _ _)
   | (with_reducible exact LeO.refl _)
   | (with_reducible exact LeO.none _)
   | (with_reducible refine LeO.ite ?_ ?_)
   | (with_reducible refine LeO.bind ?_ (fun _ => ?_))
   | exact ih0 _ _ _ _
   | exact LeO.none _
   | refine LeO.ite ?_ ?_
   | refine LeO.bind ?_ (fun _ => ?_)
theorem impl_sumOf.mono : ∀ a0 k, LeO (impl_sumOf.f k a0) (impl_sumOf.f (k + 1) a0) := by
 intro a0 k
 have ih0 := impl_sumOf.mono_l k
 unfold impl_sumOf.f
 repeat' first
   | (with_reducible exact ih0 _ _ _ _)
   | (with_reducible exact LeO.refl _)
   | (with_reducible exact LeO.none _)
   | (with_reducible refine LeO.ite ?_ ?_)
   | (with_reducible refine LeO.bind ?_ (fun _ => ?_))
   | exact ih0 _ _ _ _
   | exact LeO.none _
   | refine LeO.ite ?_ ?_
   | refine LeO.bind ?_ (fun _ => ?_)
set_option maxHeartbeats 8000000 in
set_option maxRecDepth 100000 in
theorem impl_sumOf.calls (k : Nat) (A0 : Option Addr) (c0 : Nat) (l0 : List Int) (r : Int) (w : World) (hr0 : Kd.C (Kd.int .u8) w A0 l0.length l0) (hc0 : l0.length ≤ c0) (h : impl_sumOf.f k l0 = some r) :
  Calls Try.prog 66 #[.slice A0 l0.length c0] w fun e w' => e = .returned (.int .u8 r) ∧ Drawn0 w w' := by
 have HR0 := Aside0.mk hr0
 have HC0 := Aside0.mk hc0
 clear hr0 hc0
 have H : (impl_sumOf.l0 k 0 l0 (l0.length : Int) 0) = some r := h
 clear h
 have H' := Aside0.mk H
 clear H
 go_enter Try.func66, Try.ntmps66
 go_wp2
 go_loopg [3, 8] k (fun kq v3 v8 w' => ∃ (x3_1 : Int) (x8_1 : Int), v3 = .int .u8 x3_1 ∧ v8 = .int .i64 x8_1 ∧ Aside0 (impl_sumOf.l0 kq x3_1 l0 (l0.length : Int) x8_1 = some r) ∧ Aside0 (kq ≤ k) ∧ Drawn0 w w')
 case atStart => exact ⟨(0), (0), (by first | rfl | (simp; done) | (simp [*]; done)), (by first | rfl | (simp; done) | (simp [*]; done)), H', ⟨Nat.le_refl _⟩, by repeat (first | exact Drawn0.refl _ | apply Drawn0.step)⟩
 case round =>
  clear H'
  obtain ⟨x3_1, x8_1, rfl, rfl, HA, HK1, ⟨m1, rfl⟩⟩ := hrel
  cases gk with
  | zero => exact absurd HA.out (by simp [impl_sumOf.l0])
  | succ k1 =>
   have H := HA.out
   clear HA
   simp only [impl_sumOf.l0] at H
   by_cases c2 : x8_1 < (l0.length : Int)
   ·
    rw [if_pos c2] at H
    have c2b0 : decide (x8_1 < (l0.length : Int)) = true := decide_eq_true c2
    clear c2
    by_cases c3 : 0 ≤ x8_1
    ·
     rw [if_pos c3] at H
     have c3b0 : decide (0 ≤ x8_1) = true := decide_eq_true c3
     clear c3
     by_cases c4 : x8_1 < (l0.length : Int)
     ·
      rw [if_pos c4] at H
      have c4b0 : decide (x8_1 < (l0.length : Int)) = true := decide_eq_true c4
      clear c4
      have H' := Aside0.mk H
      clear H
      have p116 : 0 ≤ (x8_1 : Int) := of_decide_eq_true (by first | (with_reducible assumption) | assumption)
      have q116 : x8_1 < (l0.length : Int) := of_decide_eq_true (by first | (with_reducible assumption) | assumption)
      obtain ⟨ad116, e116, hx116_0⟩ := Kd.at_int HR0.out x8_1 p116 q116
      cases e116
      replace p116 := eq_true p116
      replace q116 := eq_true q116
      go_wp2
      go_roundg k1
      case measure => have := HK1.out; omega
      case rel => exact ⟨((((x3_1 * 3) % 256) + (rd l0 x8_1)) % 256), (wrap64 (x8_1 + 1)), (by first | rfl | (simp; done) | (simp [*]; done)), (by first | rfl | (simp; done) | (simp [*]; done)), H', ⟨by have := HK1.out; omega⟩, by repeat (first | exact Drawn0.refl _ | apply Drawn0.step)⟩
     ·
      rw [if_neg c4] at H
      exact absurd H (by simp)
    ·
     rw [if_neg c3] at H
     exact absurd H (by simp)
   ·
    rw [if_neg c2] at H
    have c2b0 : decide (x8_1 < (l0.length : Int)) = false := decide_eq_false c2
    clear c2
    obtain rfl := Option.some.inj H
    go_wp2
    go_ret
    exact ⟨by first | rfl | (simp; done) | (simp [*]; done), by repeat (first | exact Drawn0.refl _ | apply Drawn0.step)⟩

/-! ### slices_Clone_byte_byte: function 71 -/
def slices_Clone_byte_byte.f (l0 : List Int) : Option (List Int) := (some (([] : List Int) : List Int)).bind fun y117 => (if y117.length + l0.length < 140737488355328 then (some (y117 ++ l0)) else (none))
set_option maxHeartbeats 8000000 in
set_option maxRecDepth 100000 in
theorem slices_Clone_byte_byte.calls (A0 : Option Addr) (c0 : Nat) (l0 : List Int) (r : List Int) (w : World) (hr0 : Kd.C (Kd.int .u8) w A0 l0.length l0) (hc0 : l0.length ≤ c0) (h : slices_Clone_byte_byte.f l0 = some r) :
  Calls Try.prog 71 #[.slice A0 l0.length c0] w fun e w' => ∃ v0_ : Value, e = .returned (v0_) ∧ Kd.R (Kd.int .u8) 5 w' w.heap.size (fun _ => True) v0_ r ∧ Below w.heap.size w w' := by
 cases A0 with
 | none =>
  have hl : l0 = [] := by
   rcases Nat.eq_zero_or_pos l0.length with z | z
   ·
    exact List.length_eq_zero_iff.1 z
   ·
    obtain ⟨ad, e, _⟩ := hr0.2.2 z
    cases e
  subst hl
  obtain rfl : [] = r := by simpa [slices_Clone_byte_byte.f] using h
  clear h hr0
  have he := fun W => Lib.run_eql_slice_nil (P := Try.prog) W 28 5 none 0 c0 0 0 Try.underlying28
  go_enter Try.func71, Try.ntmps71
  go_wp2
  go_ret
  exact ⟨_, rfl, Kd.R_nil _ _ _ _ _, Below.refl _ _⟩
 | some ad0 =>
  have HR0 := Aside0.mk hr0
  have HC0 := Aside0.mk hc0
  clear hr0 hc0
  have HB := Aside0.mk (Below.refl w.heap.size w)
  have H : ((some (([] : List Int) : List Int)).bind fun y117 => (if y117.length + l0.length < 140737488355328 then (some (y117 ++ l0)) else (none))) = some r := h
  clear h
  obtain ⟨y117, hy117⟩ : ∃ y_ : List Int, y_ = (([] : List Int)) := ⟨_, rfl⟩
  replace H : (if y117.length + l0.length < 140737488355328 then (some (y117 ++ l0)) else (none)) = some r := by first | (rw [hy117]; with_reducible exact H) | (have H2_ := (Option.bind_some _ _).symm.trans H; rw [hy117]; with_reducible exact H2_) | (have H2_ := (Option.bind_some _ _).symm.trans H; with_reducible exact H2_) | with_reducible exact H | (rw [hy117]; exact H) | exact H
  have Ny117 := Aside0.mk hy117
  clear hy117
  by_cases c2 : y117.length + l0.length < 140737488355328
  ·
   rw [if_pos c2] at H
   have LMc2 := Aside0.mk c2
   clear c2
   obtain ⟨y120, hy120⟩ : ∃ y_ : List Int, y_ = (y117 ++ l0) := ⟨_, rfl⟩
   replace H : (some y120) = some r := by first | (rw [hy120]; with_reducible exact H) | (have H2_ := (Option.bind_some _ _).symm.trans H; rw [hy120]; with_reducible exact H2_) | (have H2_ := (Option.bind_some _ _).symm.trans H; with_reducible exact H2_) | with_reducible exact H | (rw [hy120]; exact H) | exact H
   have Ny120 := Aside0.mk hy120
   clear hy120
   obtain rfl := Option.some.inj H
   have he := fun W => Lib.run_eql_slice_nil (P := Try.prog) W 28 5 (some ad0) l0.length c0 0 0 Try.underlying28
   go_enter Try.func71, Try.ntmps71
   go_wp2_with (first | ((with_reducible refine gate_dst (N := 5) rfl ?_); refine Kd.R_lit (Kd.int .u8) _ 5 ?hg (N := 5) ?hd (xs := ([] : List Int)) (inner := []) (ok := fun _ => True) (okp := fun _ => True) ?hr ?hp (fun _ hk => hk) trivial (Below.refl _ _) (Nat.le_refl _) (by simp) ?_; (case hd => rfl); (case hg => rfl); (case hr => first | (go_simp; done) | (go_simp; rfl)); (case hp => exact (Reps.none _ _)); intro v118 w3 ho4 hb hg_ hnew_; clear hg_ hnew_; (first | rw [← Ny117.out] at ho4 | (simp only [Int.reduceToNat] at ho4; rw [← Ny117.out] at ho4)); have HO119 := Aside0.mk (Kd.R_lower ho4 (below_size (bl HB.out))); replace HB := Aside0.mk (below_step (bl HB.out) hb); clear hb ho4) | ((with_reducible refine gate_builtin (b := .append) (xs := #[.tmp 5, .tmp 6]) rfl ?_); at_builtin; refine Kd.R_append_rows (Kd.int .u8) (w0 := w) w.heap.size rfl (.tmp 5) (.tmp 6) 28 5 (.int .u8 0) 1 rfl Try.underlying28 info5 rfl (by decide) (by omega) v118 y117 l0 _ _ _ (fun _ => True) (fun _ => False) rfl rfl ?aO ?aR (fun _ _ h => h) (fun _ h => h.elim) ?aF ?aB ?aS ?aL ?_; (case aR => exact rc (Kd.C_below HR0.out HB.out)); (case aB => exact (bl HB.out)); (case aF => exact (fun _ _ => trivial)); (case aO => exact (rl HO119.out)); (case aS => exact (below_size (bl HB.out))); (case aL => have := LMc2.out; omega); intro v121 w5 ho hb hg hat; rw [← Ny120.out] at ho; replace HB := Aside0.mk (hb); have HO122 := Aside0.mk (ho); clear HO119; clear ho hb hg hat))
   go_ret
   exact ⟨_, by first | rfl | (simp [errW_none, errW_some] <;> rfl) | (simp [*, errW_none, errW_some] <;> rfl), by (repeat apply rl1); exact HO122.out, bl HB.out⟩
  ·
   rw [if_neg c2] at H
   exact absurd H (by simp)

/-! ### impl_Get16: function 40 -/
def impl_Get16.f (k : Nat) (l0 : List Int) : Option (Int × Int × List Int × Int) := if (l0.length : Int) < 4 then (some (0, 0, ([] : List Int), 1)) else (if 2 < (l0.length : Int) then (if (wrap64 (rd l0 2)) > 32 then (some (0, 0, ([] : List Int), 2)) else (if (l0.length : Int) < (wrap64 (4 + (wrap64 (rd l0 2)))) then (some (0, 0, ([] : List Int), 1)) else (if (l0.length : Int) > (wrap64 (4 + (wrap64 (rd l0 2)))) then (some (0, 0, ([] : List Int), 2)) else (if 0 < (l0.length : Int) then (if (rd l0 0) = 0 then (some (0, 0, ([] : List Int), 3)) else (if 0 ≤ (wrap64 ((l0.length : Int) - 1)) then (if (wrap64 ((l0.length : Int) - 1)) < (l0.length : Int) then (if (wrap64 ((l0.length : Int) - 1)) ≤ (l0.length : Int) then ((impl_sumOf.f k (l0.take ((wrap64 ((l0.length : Int) - 1)) : Int).toNat)).bind fun t128 => (if (rd l0 (wrap64 ((l0.length : Int) - 1))) = t128 then (if 1 < (l0.length : Int) then (if 3 ≤ (wrap64 ((l0.length : Int) - 1)) then ((slices_Clone_byte_byte.f ((l0.take ((wrap64 ((l0.length : Int) - 1)) : Int).toNat).drop 3)).bind fun t132 => (some (wrap64 (rd l0 0), wrap64 (rd l0 1), t132, 0))) else (none)) else (none)) else (some (0, 0, ([] : List Int), 4)))) else (none)) else (none)) else (none))) else (none))))) else (none))
theorem impl_Get16.mono : ∀ a0 k, LeO (impl_Get16.f k a0) (impl_Get16.f (k + 1) a0) := by
 intro a0 k
 unfold impl_Get16.f
 repeat' first
   | (with_reducible exact impl_sumOf.mono _ _)
   | (with_reducible exact LeO.refl _)
   | (with_reducible exact LeO.none _)
   | (with_reducible refine LeO.ite ?_ ?_)
   | (with_reducible refine LeO.bind ?_ (fun _ => ?_))
   | exact impl_sumOf.mono _ _
   | exact LeO.none _
   | refine LeO.ite ?_ ?_
   | refine LeO.bind ?_ (fun _ => ?_)
def impl_Get16.T12 : Bool × List (List Nat × List Nat) := (true, [([], []), ([], []), ([0, 1], [0, 1]), ([2], [2]), ([], []), ([], []), ([4, 5], [4, 5]), ([6], [6]), ([3, 7], [3, 7]), ([8, 7], [8])])
def impl_Get16.B12 : List Nat := [0, 0, 3, 7, 0, 0, 48, 112, 255, 511]
theorem impl_Get16.tab12 : rtab .any (opsOf Try.f40 12) = impl_Get16.T12 := by kernel_rfl
theorem impl_Get16.bits12 : waitsOk impl_Get16.T12.2 impl_Get16.B12 = true := by kernel_rfl
def impl_Get16.T14 : Bool × List (List Nat × List Nat) := (true, [([], []), ([0], [0]), ([1], [1]), ([2], [2]), ([], []), ([4], [4]), ([5], [5]), ([6], [6]), ([], []), ([], []), ([8, 9], [8, 9]), ([10], [10]), ([3, 7, 11], [3, 7, 11]), ([12, 11, 0, 1, 2, 3, 4, 5, 6, 7, 8, 9, 10, 11, 12], [12]), ([13, 0, 1, 2, 3, 4, 5, 6, 7, 8, 9, 10, 11, 12, 13], [])])
def impl_Get16.B14 : List Nat := [0, 1, 3, 7, 0, 16, 48, 112, 0, 0, 768, 1792, 4095, 8191, 16383]
theorem impl_Get16.tab14 : rtab .any (opsOf Try.f40 14) = impl_Get16.T14 := by kernel_rfl
theorem impl_Get16.bits14 : waitsOk impl_Get16.T14.2 impl_Get16.B14 = true := by kernel_rfl
set_option maxHeartbeats 8000000 in
set_option maxRecDepth 100000 in
theorem impl_Get16.calls (k : Nat) (A0 : Option Addr) (c0 : Nat) (l0 : List Int) (r1 : Int) (r2 : Int) (r3 : List Int) (r4 : Int) (w : World) (hr0 : Kd.C (Kd.int .u8) w A0 l0.length l0) (hc0 : l0.length ≤ c0) (h : impl_Get16.f k l0 = some (r1, r2, r3, r4)) :
  Calls Try.prog 40 #[.slice A0 l0.length c0] w fun e w' => ∃ v2_ : Value, e = .returned (.tuple #[.agg #[.int .i64 r1, .int .i64 r2, v2_], .int .i64 r4]) ∧ Kd.R (Kd.int .u8) 5 w' w.heap.size (fun _ => True) v2_ r3 ∧ Below w.heap.size w w' := by
 have hu41 := Try.underlying41
 have HR0 := Aside0.mk hr0
 have HC0 := Aside0.mk hc0
 clear hr0 hc0
 have HB := Aside0.mk (Below.refl w.heap.size w)
 have H : (if (l0.length : Int) < 4 then (some (0, 0, ([] : List Int), 1)) else (if 2 < (l0.length : Int) then (if (wrap64 (rd l0 2)) > 32 then (some (0, 0, ([] : List Int), 2)) else (if (l0.length : Int) < (wrap64 (4 + (wrap64 (rd l0 2)))) then (some (0, 0, ([] : List Int), 1)) else (if (l0.length : Int) > (wrap64 (4 + (wrap64 (rd l0 2)))) then (some (0, 0, ([] : List Int), 2)) else (if 0 < (l0.length : Int) then (if (rd l0 0) = 0 then (some (0, 0, ([] : List Int), 3)) else (if 0 ≤ (wrap64 ((l0.length : Int) - 1)) then (if (wrap64 ((l0.length : Int) - 1)) < (l0.length : Int) then (if (wrap64 ((l0.length : Int) - 1)) ≤ (l0.length : Int) then ((impl_sumOf.f k (l0.take ((wrap64 ((l0.length : Int) - 1)) : Int).toNat)).bind fun t128 => (if (rd l0 (wrap64 ((l0.length : Int) - 1))) = t128 then (if 1 < (l0.length : Int) then (if 3 ≤ (wrap64 ((l0.length : Int) - 1)) then ((slices_Clone_byte_byte.f ((l0.take ((wrap64 ((l0.length : Int) - 1)) : Int).toNat).drop 3)).bind fun t132 => (some (wrap64 (rd l0 0), wrap64 (rd l0 1), t132, 0))) else (none)) else (none)) else (some (0, 0, ([] : List Int), 4)))) else (none)) else (none)) else (none))) else (none))))) else (none))) = some (r1, r2, r3, r4) := h
 clear h
 by_cases c2 : (l0.length : Int) < 4
 ·
  rw [if_pos c2] at H
  have c2b0 : decide ((l0.length : Int) < 4) = true := decide_eq_true c2
  have c2b1 : decide (l0.length < 4) = true := decide_eq_true (by omega)
  clear c2
  simp only [Option.some.injEq, Prod.mk.injEq] at H
  obtain ⟨rfl, rfl, rfl, rfl⟩ := H
  go_enter Try.func40, Try.ntmps40
  go_wp2_with (first | ((with_reducible refine gate_dst (N := 2) rfl ?_); refine box_event ?hg (N := 2) ?hd (cs := #[.int .i64 0, .int .i64 0, .slice none 0 0]) (t := 41) ?hr ?_; (case hd => rfl); (case hg => rfl); (case hr => first | (go_simp; done) | (go_simp; rfl)); intro gb123 hg w3 hbox hb; have BK123 := Aside0.mk (hbox); have GW123 := Aside0.mk ((by rw [hg]; exact (below_size (bl HB.out)) : w.heap.size ≤ gb123)); have GE123 := GW123; replace HB := Aside0.mk (below_step (bl HB.out) hb); clear hb hbox hg; obtain ⟨hcz4_0, hcz4_1, hcz4_2⟩ := ck3 BK123.out; obtain ⟨hfz4_0, hfz4_1, hfz4_2⟩ := fz3 BK123.out))
  refine bodyPost_ret (results_ct rfl _ _ gb123 41 #[.int .i64 0, .int .i64 0, .slice none 0 0] (0, 0) _ rfl (by (repeat refine bk1 ?_); refine blk_put (cs := #[.int .i64 0, .int .i64 0, .slice none 0 0]) ?_ 2 _ rfl; (repeat refine bk1 ?_); refine blk_put (cs := #[.int .i64 0, .int .i64 0, .slice none 0 0]) ?_ 1 _ rfl; (repeat refine bk1 ?_); refine blk_put (cs := #[.int .i64 0, .int .i64 0, .slice none 0 0]) ?_ 0 _ rfl; (repeat refine bk1 ?_); exact BK123.out) Try.underlying41 rfl (by kernel_rfl)) rfl ?_
  exact ⟨_, by first | rfl | (simp [errW_none, errW_some] <;> rfl) | (simp [*, errW_none, errW_some] <;> rfl), by first | exact Kd.R_nil _ _ _ _ _ | exact Kd.N_nil _ _ _ _ _ | exact Kd.V_nil _ _ _ _ _ | exact Kd.Q_nil _ _ _ _ _ | exact Kd.S_nil _ _ _ _ _, by repeat with_reducible first | exact bl HB.out | refine below_set ?_ GE123.out | refine bq ?_⟩
 ·
  rw [if_neg c2] at H
  have c2b0 : decide ((l0.length : Int) < 4) = false := decide_eq_false c2
  have c2b1 : decide (l0.length < 4) = false := decide_eq_false (by omega)
  clear c2
  by_cases c5 : 2 < (l0.length : Int)
  ·
   rw [if_pos c5] at H
   have c5b0 : decide (2 < (l0.length : Int)) = true := decide_eq_true c5
   have c5b1 : decide (2 < l0.length) = true := decide_eq_true (by omega)
   clear c5
   by_cases c6 : (wrap64 (rd l0 2)) > 32
   ·
    rw [if_pos c6] at H
    have c6b0 : decide (32 < (wrap64 (rd l0 2))) = true := decide_eq_true c6
    clear c6
    simp only [Option.some.injEq, Prod.mk.injEq] at H
    obtain ⟨rfl, rfl, rfl, rfl⟩ := H
    go_enter Try.func40, Try.ntmps40
    go_wp2_with (first | ((with_reducible refine gate_dst (N := 2) rfl ?_); refine box_event ?hg (N := 2) ?hd (cs := #[.int .i64 0, .int .i64 0, .slice none 0 0]) (t := 41) ?hr ?_; (case hd => rfl); (case hg => rfl); (case hr => first | (go_simp; done) | (go_simp; rfl)); intro gb123 hg w7 hbox hb; have BK123 := Aside0.mk (hbox); have GW123 := Aside0.mk ((by rw [hg]; exact (below_size (bl HB.out)) : w.heap.size ≤ gb123)); have GE123 := GW123; replace HB := Aside0.mk (below_step (bl HB.out) hb); clear hb hbox hg; have p124 : 0 ≤ (2 : Int) := (by omega); have q124 : 2 < (l0.length : Int) := of_decide_eq_true (by first | (with_reducible assumption) | assumption); obtain ⟨ad124, e124, hx124_0⟩ := Kd.at_int HR0.out 2 p124 q124; cases e124; (try simp only [show (2 : Int).toNat = 2 from rfl, Nat.reduceMul, Nat.reduceEqDiff, Go.Addr.add, ↓reduceIte] at hx124_0); have qi124 : (2 < l0.length) = True := eq_true (by omega); (try rw [show ((2 : Int)).toNat = 2 from rfl] at hx124_0); replace hx124_0 := (HB.out.cell (World.block_lt_of_cell? w _ hx124_0)).trans hx124_0; replace p124 := eq_true p124; replace q124 := eq_true q124; obtain ⟨hcz8_0, hcz8_1, hcz8_2⟩ := ck3 BK123.out; obtain ⟨hfz8_0, hfz8_1, hfz8_2⟩ := fz3 BK123.out))
    refine bodyPost_ret (results_ct rfl _ _ gb123 41 #[.int .i64 0, .int .i64 0, .slice none 0 0] (0, 0) _ rfl (by (repeat refine bk1 ?_); refine blk_put (cs := #[.int .i64 0, .int .i64 0, .slice none 0 0]) ?_ 2 _ rfl; (repeat refine bk1 ?_); refine blk_put (cs := #[.int .i64 0, .int .i64 0, .slice none 0 0]) ?_ 1 _ rfl; (repeat refine bk1 ?_); refine blk_put (cs := #[.int .i64 0, .int .i64 0, .slice none 0 0]) ?_ 0 _ rfl; (repeat refine bk1 ?_); exact BK123.out) Try.underlying41 rfl (by kernel_rfl)) rfl ?_
    exact ⟨_, by first | rfl | (simp [errW_none, errW_some] <;> rfl) | (simp [*, errW_none, errW_some] <;> rfl), by first | exact Kd.R_nil _ _ _ _ _ | exact Kd.N_nil _ _ _ _ _ | exact Kd.V_nil _ _ _ _ _ | exact Kd.Q_nil _ _ _ _ _ | exact Kd.S_nil _ _ _ _ _, by repeat with_reducible first | exact bl HB.out | refine below_set ?_ GE123.out | refine bq ?_⟩
   ·
    rw [if_neg c6] at H
    have c6b0 : decide (32 < (wrap64 (rd l0 2))) = false := decide_eq_false c6
    clear c6
    by_cases c9 : (l0.length : Int) < (wrap64 (4 + (wrap64 (rd l0 2))))
    ·
     rw [if_pos c9] at H
     have c9b0 : decide ((l0.length : Int) < (wrap64 (4 + (wrap64 (rd l0 2))))) = true := decide_eq_true c9
     clear c9
     simp only [Option.some.injEq, Prod.mk.injEq] at H
     obtain ⟨rfl, rfl, rfl, rfl⟩ := H
     go_enter Try.func40, Try.ntmps40
     go_wp2_with (first | ((with_reducible refine gate_dst (N := 2) rfl ?_); refine box_event ?hg (N := 2) ?hd (cs := #[.int .i64 0, .int .i64 0, .slice none 0 0]) (t := 41) ?hr ?_; (case hd => rfl); (case hg => rfl); (case hr => first | (go_simp; done) | (go_simp; rfl)); intro gb123 hg w10 hbox hb; have BK123 := Aside0.mk (hbox); have GW123 := Aside0.mk ((by rw [hg]; exact (below_size (bl HB.out)) : w.heap.size ≤ gb123)); have GE123 := GW123; replace HB := Aside0.mk (below_step (bl HB.out) hb); clear hb hbox hg; have p124 : 0 ≤ (2 : Int) := (by omega); have q124 : 2 < (l0.length : Int) := of_decide_eq_true (by first | (with_reducible assumption) | assumption); obtain ⟨ad124, e124, hx124_0⟩ := Kd.at_int HR0.out 2 p124 q124; cases e124; (try simp only [show (2 : Int).toNat = 2 from rfl, Nat.reduceMul, Nat.reduceEqDiff, Go.Addr.add, ↓reduceIte] at hx124_0); have qi124 : (2 < l0.length) = True := eq_true (by omega); (try rw [show ((2 : Int)).toNat = 2 from rfl] at hx124_0); replace hx124_0 := (HB.out.cell (World.block_lt_of_cell? w _ hx124_0)).trans hx124_0; replace p124 := eq_true p124; replace q124 := eq_true q124; obtain ⟨hcz11_0, hcz11_1, hcz11_2⟩ := ck3 BK123.out; obtain ⟨hfz11_0, hfz11_1, hfz11_2⟩ := fz3 BK123.out))
     refine bodyPost_ret (results_ct rfl _ _ gb123 41 #[.int .i64 0, .int .i64 0, .slice none 0 0] (0, 0) _ rfl (by (repeat refine bk1 ?_); refine blk_put (cs := #[.int .i64 0, .int .i64 0, .slice none 0 0]) ?_ 2 _ rfl; (repeat refine bk1 ?_); refine blk_put (cs := #[.int .i64 0, .int .i64 0, .slice none 0 0]) ?_ 1 _ rfl; (repeat refine bk1 ?_); refine blk_put (cs := #[.int .i64 0, .int .i64 0, .slice none 0 0]) ?_ 0 _ rfl; (repeat refine bk1 ?_); exact BK123.out) Try.underlying41 rfl (by kernel_rfl)) rfl ?_
     exact ⟨_, by first | rfl | (simp [errW_none, errW_some] <;> rfl) | (simp [*, errW_none, errW_some] <;> rfl), by first | exact Kd.R_nil _ _ _ _ _ | exact Kd.N_nil _ _ _ _ _ | exact Kd.V_nil _ _ _ _ _ | exact Kd.Q_nil _ _ _ _ _ | exact Kd.S_nil _ _ _ _ _, by repeat with_reducible first | exact bl HB.out | refine below_set ?_ GE123.out | refine bq ?_⟩
    ·
     rw [if_neg c9] at H
     have c9b0 : decide ((l0.length : Int) < (wrap64 (4 + (wrap64 (rd l0 2))))) = false := decide_eq_false c9
     clear c9
     by_cases c12 : (l0.length : Int) > (wrap64 (4 + (wrap64 (rd l0 2))))
     ·
      rw [if_pos c12] at H
      have c12b0 : decide ((wrap64 (4 + (wrap64 (rd l0 2)))) < (l0.length : Int)) = true := decide_eq_true c12
      clear c12
      simp only [Option.some.injEq, Prod.mk.injEq] at H
      obtain ⟨rfl, rfl, rfl, rfl⟩ := H
      go_enter Try.func40, Try.ntmps40
      go_wp2_with (first | ((with_reducible refine gate_dst (N := 2) rfl ?_); refine box_event ?hg (N := 2) ?hd (cs := #[.int .i64 0, .int .i64 0, .slice none 0 0]) (t := 41) ?hr ?_; (case hd => rfl); (case hg => rfl); (case hr => first | (go_simp; done) | (go_simp; rfl)); intro gb123 hg w13 hbox hb; have BK123 := Aside0.mk (hbox); have GW123 := Aside0.mk ((by rw [hg]; exact (below_size (bl HB.out)) : w.heap.size ≤ gb123)); have GE123 := GW123; replace HB := Aside0.mk (below_step (bl HB.out) hb); clear hb hbox hg; have p124 : 0 ≤ (2 : Int) := (by omega); have q124 : 2 < (l0.length : Int) := of_decide_eq_true (by first | (with_reducible assumption) | assumption); obtain ⟨ad124, e124, hx124_0⟩ := Kd.at_int HR0.out 2 p124 q124; cases e124; (try simp only [show (2 : Int).toNat = 2 from rfl, Nat.reduceMul, Nat.reduceEqDiff, Go.Addr.add, ↓reduceIte] at hx124_0); have qi124 : (2 < l0.length) = True := eq_true (by omega); (try rw [show ((2 : Int)).toNat = 2 from rfl] at hx124_0); replace hx124_0 := (HB.out.cell (World.block_lt_of_cell? w _ hx124_0)).trans hx124_0; replace p124 := eq_true p124; replace q124 := eq_true q124; obtain ⟨hcz14_0, hcz14_1, hcz14_2⟩ := ck3 BK123.out; obtain ⟨hfz14_0, hfz14_1, hfz14_2⟩ := fz3 BK123.out))
      refine bodyPost_ret (results_ct rfl _ _ gb123 41 #[.int .i64 0, .int .i64 0, .slice none 0 0] (0, 0) _ rfl (by (repeat refine bk1 ?_); refine blk_put (cs := #[.int .i64 0, .int .i64 0, .slice none 0 0]) ?_ 2 _ rfl; (repeat refine bk1 ?_); refine blk_put (cs := #[.int .i64 0, .int .i64 0, .slice none 0 0]) ?_ 1 _ rfl; (repeat refine bk1 ?_); refine blk_put (cs := #[.int .i64 0, .int .i64 0, .slice none 0 0]) ?_ 0 _ rfl; (repeat refine bk1 ?_); exact BK123.out) Try.underlying41 rfl (by kernel_rfl)) rfl ?_
      exact ⟨_, by first | rfl | (simp [errW_none, errW_some] <;> rfl) | (simp [*, errW_none, errW_some] <;> rfl), by first | exact Kd.R_nil _ _ _ _ _ | exact Kd.N_nil _ _ _ _ _ | exact Kd.V_nil _ _ _ _ _ | exact Kd.Q_nil _ _ _ _ _ | exact Kd.S_nil _ _ _ _ _, by repeat with_reducible first | exact bl HB.out | refine below_set ?_ GE123.out | refine bq ?_⟩
     ·
      rw [if_neg c12] at H
      have c12b0 : decide ((wrap64 (4 + (wrap64 (rd l0 2)))) < (l0.length : Int)) = false := decide_eq_false c12
      clear c12
      by_cases c15 : 0 < (l0.length : Int)
      ·
       rw [if_pos c15] at H
       have c15b0 : decide (0 < (l0.length : Int)) = true := decide_eq_true c15
       have c15b1 : decide (0 < l0.length) = true := decide_eq_true (by omega)
       clear c15
       by_cases c16 : (rd l0 0) = 0
       ·
        rw [if_pos c16] at H
        have c16b0 : ((rd l0 0) == 0) = true := beq_iff_eq.mpr c16
        have c16b1 : ((rd l0 0) != 0) = false := bne_eq_false_iff_eq.mpr c16
        clear c16
        simp only [Option.some.injEq, Prod.mk.injEq] at H
        obtain ⟨rfl, rfl, rfl, rfl⟩ := H
        go_enter Try.func40, Try.ntmps40
        go_wp2_with (first | ((with_reducible refine gate_dst (N := 2) rfl ?_); refine box_event ?hg (N := 2) ?hd (cs := #[.int .i64 0, .int .i64 0, .slice none 0 0]) (t := 41) ?hr ?_; (case hd => rfl); (case hg => rfl); (case hr => first | (go_simp; done) | (go_simp; rfl)); intro gb123 hg w17 hbox hb; have BK123 := Aside0.mk (hbox); have GW123 := Aside0.mk ((by rw [hg]; exact (below_size (bl HB.out)) : w.heap.size ≤ gb123)); have GE123 := GW123; replace HB := Aside0.mk (below_step (bl HB.out) hb); clear hb hbox hg; have p124 : 0 ≤ (2 : Int) := (by omega); have q124 : 2 < (l0.length : Int) := of_decide_eq_true (by first | (with_reducible assumption) | assumption); obtain ⟨ad124, e124, hx124_0⟩ := Kd.at_int HR0.out 2 p124 q124; cases e124; (try simp only [show (2 : Int).toNat = 2 from rfl, Nat.reduceMul, Nat.reduceEqDiff, Go.Addr.add, ↓reduceIte] at hx124_0); have qi124 : (2 < l0.length) = True := eq_true (by omega); (try rw [show ((2 : Int)).toNat = 2 from rfl] at hx124_0); replace hx124_0 := (HB.out.cell (World.block_lt_of_cell? w _ hx124_0)).trans hx124_0; replace p124 := eq_true p124; replace q124 := eq_true q124; have p125 : 0 ≤ (0 : Int) := (by omega); have q125 : 0 < (l0.length : Int) := of_decide_eq_true (by first | (with_reducible assumption) | assumption); obtain ⟨ad125, e125, hx125_0⟩ := Kd.at_int HR0.out 0 p125 q125; obtain rfl : ad124 = ad125 := (by injection e125); have qi125 : (0 < l0.length) = True := eq_true (by omega); (try rw [show ((0 : Int)).toNat = 0 from rfl] at hx125_0); (try rw [Addr.add_zero'] at hx125_0); replace hx125_0 := (HB.out.cell (World.block_lt_of_cell? w _ hx125_0)).trans hx125_0; replace p125 := eq_true p125; replace q125 := eq_true q125; obtain ⟨hcz18_0, hcz18_1, hcz18_2⟩ := ck3 BK123.out; obtain ⟨hfz18_0, hfz18_1, hfz18_2⟩ := fz3 BK123.out))
        refine bodyPost_ret (results_ct rfl _ _ gb123 41 #[.int .i64 0, .int .i64 0, .slice none 0 0] (0, 0) _ rfl (by (repeat refine bk1 ?_); refine blk_put (cs := #[.int .i64 0, .int .i64 0, .slice none 0 0]) ?_ 2 _ rfl; (repeat refine bk1 ?_); refine blk_put (cs := #[.int .i64 0, .int .i64 0, .slice none 0 0]) ?_ 1 _ rfl; (repeat refine bk1 ?_); refine blk_put (cs := #[.int .i64 0, .int .i64 0, .slice none 0 0]) ?_ 0 _ rfl; (repeat refine bk1 ?_); exact BK123.out) Try.underlying41 rfl (by kernel_rfl)) rfl ?_
        exact ⟨_, by first | rfl | (simp [errW_none, errW_some] <;> rfl) | (simp [*, errW_none, errW_some] <;> rfl), by first | exact Kd.R_nil _ _ _ _ _ | exact Kd.N_nil _ _ _ _ _ | exact Kd.V_nil _ _ _ _ _ | exact Kd.Q_nil _ _ _ _ _ | exact Kd.S_nil _ _ _ _ _, by repeat with_reducible first | exact bl HB.out | refine below_set ?_ GE123.out | refine bq ?_⟩
       ·
        rw [if_neg c16] at H
        have c16b0 : ((rd l0 0) == 0) = false := beq_eq_false_iff_ne.mpr c16
        have c16b1 : ((rd l0 0) != 0) = true := bne_iff_ne.mpr c16
        obtain ⟨ji19, hji19⟩ : ∃ j_ : Int, (wrap64 ((l0.length : Int) - 1)) = j_ := ⟨_, rfl⟩
        replace H : (if 0 ≤ (ji19) then (if (ji19) < (l0.length : Int) then (if (ji19) ≤ (l0.length : Int) then ((impl_sumOf.f k (l0.take ((ji19) : Int).toNat)).bind fun t128 => (if (rd l0 (ji19)) = t128 then (if 1 < (l0.length : Int) then (if 3 ≤ (ji19) then ((slices_Clone_byte_byte.f ((l0.take ((ji19) : Int).toNat).drop 3)).bind fun t132 => (some (wrap64 (rd l0 0), wrap64 (rd l0 1), t132, 0))) else (none)) else (none)) else (some (0, 0, ([] : List Int), 4)))) else (none)) else (none)) else (none)) = some (r1, r2, r3, r4) := by first | (rw [hji19] at H; exact H) | (simp only [hji19] at H ⊢; exact H)
        have hji19w : (IntKind.i64.wrap ((l0.length : Int) - 1)) = ji19 := (i64_w _).trans hji19
        by_cases c20 : 0 ≤ (ji19)
        ·
         rw [if_pos c20] at H
         have c20b0 : decide (0 ≤ (ji19)) = true := decide_eq_true c20
         clear c20
         by_cases c21 : (ji19) < (l0.length : Int)
         ·
          rw [if_pos c21] at H
          have c21b0 : decide ((ji19) < (l0.length : Int)) = true := decide_eq_true c21
          clear c21
          have c22b0 := eq_true (of_decide_eq_true (by first | (with_reducible assumption) | assumption) : 0 ≤ (ji19))
          by_cases c23 : (ji19) ≤ (l0.length : Int)
          ·
           rw [if_pos c23] at H
           have c23b0 := eq_true c23
           have c23b1 : decide ((ji19) ≤ (l0.length : Int)) = true := decide_eq_true c23
           clear c23
           replace H := Option.bind_eq_some_iff.mp H
           obtain ⟨t128, A240, H⟩ := H
           replace H : (if (rd l0 (ji19)) = t128 then (if 1 < (l0.length : Int) then (if 3 ≤ (ji19) then ((slices_Clone_byte_byte.f ((l0.take ((ji19) : Int).toNat).drop 3)).bind fun t132 => (some (wrap64 (rd l0 0), wrap64 (rd l0 1), t132, 0))) else (none)) else (none)) else (some (0, 0, ([] : List Int), 4))) = some (r1, r2, r3, r4) := H
           have A24 := Aside0.mk A240
           clear A240
           by_cases c25 : (rd l0 (ji19)) = t128
           ·
            rw [if_pos c25] at H
            have c25b0 : ((rd l0 (ji19)) == t128) = true := beq_iff_eq.mpr c25
            have c25b1 : ((rd l0 (ji19)) != t128) = false := bne_eq_false_iff_eq.mpr c25
            clear c25
            by_cases c26 : 1 < (l0.length : Int)
            ·
             rw [if_pos c26] at H
             have c26b0 : decide (1 < (l0.length : Int)) = true := decide_eq_true c26
             have c26b1 : decide (1 < l0.length) = true := decide_eq_true (by omega)
             clear c26
             by_cases c27 : 3 ≤ (ji19)
             ·
              rw [if_pos c27] at H
              have c27b0 := eq_true c27
              have c27b1 : decide (3 ≤ (ji19)) = true := decide_eq_true c27
              clear c27
              have c28b0 := eq_true (of_decide_eq_true (by first | (with_reducible assumption) | assumption) : (ji19) ≤ (l0.length : Int))
              replace H := Option.bind_eq_some_iff.mp H
              obtain ⟨t132, A290, H⟩ := H
              replace H : (some (wrap64 (rd l0 0), wrap64 (rd l0 1), t132, 0)) = some (r1, r2, r3, r4) := H
              have A29 := Aside0.mk A290
              clear A290
              simp only [Option.some.injEq, Prod.mk.injEq] at H
              obtain ⟨rfl, rfl, rfl, rfl⟩ := H
              go_enter Try.func40, Try.ntmps40
              try go_wp2_with (first | ((with_reducible refine gate_dst (N := 2) rfl ?_); refine box_event ?hg (N := 2) ?hd (cs := #[.int .i64 0, .int .i64 0, .slice none 0 0]) (t := 41) ?hr ?_; (case hd => rfl); (case hg => rfl); (case hr => first | (go_simp; done) | (go_simp; rfl)); intro gb123 hg w30 hbox hb; have BK123 := Aside0.mk (hbox); have GW123 := Aside0.mk ((by rw [hg]; exact (below_size (bl HB.out)) : w.heap.size ≤ gb123)); have GE123 := GW123; replace HB := Aside0.mk (below_step (bl HB.out) hb); clear hb hbox hg; have p124 : 0 ≤ (2 : Int) := (by omega); have q124 : 2 < (l0.length : Int) := of_decide_eq_true (by first | (with_reducible assumption) | assumption); obtain ⟨ad124, e124, hx124_0⟩ := Kd.at_int HR0.out 2 p124 q124; cases e124; (try simp only [show (2 : Int).toNat = 2 from rfl, Nat.reduceMul, Nat.reduceEqDiff, Go.Addr.add, ↓reduceIte] at hx124_0); have qi124 : (2 < l0.length) = True := eq_true (by omega); (try rw [show ((2 : Int)).toNat = 2 from rfl] at hx124_0); replace hx124_0 := (HB.out.cell (World.block_lt_of_cell? w _ hx124_0)).trans hx124_0; replace p124 := eq_true p124; replace q124 := eq_true q124; have p125 : 0 ≤ (0 : Int) := (by omega); have q125 : 0 < (l0.length : Int) := of_decide_eq_true (by first | (with_reducible assumption) | assumption); obtain ⟨ad125, e125, hx125_0⟩ := Kd.at_int HR0.out 0 p125 q125; obtain rfl : ad124 = ad125 := (by injection e125); have qi125 : (0 < l0.length) = True := eq_true (by omega); (try rw [show ((0 : Int)).toNat = 0 from rfl] at hx125_0); (try rw [Addr.add_zero'] at hx125_0); replace hx125_0 := (HB.out.cell (World.block_lt_of_cell? w _ hx125_0)).trans hx125_0; replace p125 := eq_true p125; replace q125 := eq_true q125))
              have n0_ := Aside0.mk (blk_drew BK123.out)
              have n1_ := Aside0.mk (below_drew1 HB.out)
              clear BK123
              clear HB
              have BK123 := n0_
              have HB := n1_
              clear n0_ n1_
              have p126 : 0 ≤ ((ji19) : Int) := of_decide_eq_true (by first | (with_reducible assumption) | assumption)
              have q126 : (ji19) < (l0.length : Int) := of_decide_eq_true (by first | (with_reducible assumption) | assumption)
              obtain ⟨ad126, e126, hx126_0⟩ := Kd.at_int HR0.out (ji19) p126 q126
              have hw126_0 := hx126_0
              obtain rfl : ad124 = ad126 := (by injection e126)
              replace hx126_0 := bc HB.out hx126_0
              replace p126 := eq_true p126
              replace q126 := eq_true q126
              obtain ⟨i032, hi032, _, hsz32, _⟩ := info_parts info5
              obtain ⟨hcut32, hA32, hC32⟩ := print_take_of (P := Try.prog) (Value.int .u8) 0 28 5 .i64 Try.underlying28 hi032 hsz32 (some ad124) c0 l0 (ji19) (of_decide_eq_true (by first | (with_reducible assumption) | assumption)) (of_decide_eq_true (by first | (with_reducible assumption) | assumption)) HC0.out
              have HR127 := Aside0.mk (Kd.C_of_reads (h1 := fun _ => rfl) (hA32 _ (Kd.reads_of_C HR0.out)))
              have HC127 := Aside0.mk hC32
              clear hA32 hC32 hi032 hsz32
              refine start_ (n := 10) (S := fun w' => w'.cell? (ad124.add ((ji19)).toNat) = some (.int .u8 (rd l0 (ji19)))) (ds := []) m0_10 (by kernel_rfl) rfl rfl (((HB.out.cell (World.block_lt_of_cell? w _ hw126_0)).trans hw126_0)) (fun hHeld => ?_); refine with_tabW impl_Get16.tab12 impl_Get16.bits12 (fun HT_ HW_ => ?_)
              generalize w30.drew = w31 at BK123 HB HR127 hx126_0 hHeld ⊢
              refine pq_ HT_.out 0 42 m1_10 ?_
              refine pq_ HT_.out 1 43 m2_10 ?_
              refine pq_ HT_.out 2 44 m3_10 ?_
              refine pq_ HT_.out 4 46 n3 ?_
              refine pq_ HT_.out 5 47 n4 ?_
              refine pq_ HT_.out 6 48 n5 ?_
              refine tk_ HT_.out HW_.out 3 45 m7_10 rfl rfl (by kernel_rfl) (by rfl) (by intro w' s0; go_simp; with_reducible rfl) hHeld (by simp only [sp_]; rfl) (fun _ _ _ h => h) ?_
              refine one_ (i := 7) (N := some 49) m8_10 rfl rfl (one_of HT_.out (by kernel_rfl)) (by decide) (fun K hK => ?_)
              refine goes_ Try.func66 (by kernel_rfl) rfl #[.slice (some ad124) (l0.take ((ji19) : Int).toNat).length c0] (by rfl) rfl rfl (by (try simp only [List.map_toArray, List.map_cons, List.map_nil]); first | done | (rw [show (l0.take ((ji19) : Int).toNat).length = (ji19).toNat from (by rw [List.length_take]; have h_ : ((ji19) : Int) ≤ (l0.length : Int) := of_decide_eq_true (by first | (with_reducible assumption) | assumption); omega)] <;> rfl) | (simp only [hji19]; rfl) | rfl | (simp only [List.length_drop, List.length_take]; rfl)) ?_
              with_reducible refine (impl_sumOf.calls k _ _ (l0.take ((ji19) : Int).toNat) t128 _ ?side1 ?side2 A24.out).mono ?_
              (case side1 => exact rc (Kd.C_below HR127.out HB.out))
              (case side2 => exact HC127.out)
              rintro e w' ⟨rfl, ⟨nd, rfl⟩⟩
              refine ⟨_, rfl, ?_⟩
              refine hK.out _ _ (((HB.out.cell (World.block_lt_of_cell? w _ hw126_0)).trans hw126_0)) (fun hHeld => ?_)
              clear hK K
              refine norm_ (a' := ?_) ?_ ?_
              rotate_left
              ·
               show Act.put _ (some 49) _ = _
               simp only [sp_]
               rfl
              refine pq_ HT_.out 8 50 m9_10 ?_
              refine pq_ HT_.out 9 41 m10_10 ?_
              refine done_ (done_of HT_.out (by kernel_rfl)) ?_
              try go_wp2
              (try (rw [drewN_self w31]; generalize hq_ : World.drewN w31 _ = w31; have n0_ : Aside0 (w31.heap[gb123]? = some (.cells #[.int .i64 0, .int .i64 0, .slice none 0 0] 41 (0, 0))) := ⟨by rw [← hq_]; exact (bk BK123.out)⟩; have n1_ : Aside0 (Below w.heap.size w w31) := ⟨by rw [← hq_]; exact (by repeat with_reducible first | exact bl HB.out | refine below_set ?_ GE123.out | refine bq ?_)⟩; clear BK123 HB hq_; have BK123 := n0_; have HB := n1_; clear n0_ n1_))
              have n0_ := Aside0.mk (blk_drew BK123.out)
              have n1_ := Aside0.mk (below_drew1 HB.out)
              clear BK123
              clear HB
              have BK123 := n0_
              have HB := n1_
              clear n0_ n1_
              have p129 : 0 ≤ (0 : Int) := (by omega)
              have q129 : 0 < (l0.length : Int) := of_decide_eq_true (by first | (with_reducible assumption) | assumption)
              obtain ⟨ad129, e129, hx129_0⟩ := Kd.at_int HR0.out 0 p129 q129
              have hw129_0 := hx129_0
              (try rw [show ((0 : Int)).toNat = 0 from rfl] at hw129_0)
              (try rw [show 0 * 1 = 0 from rfl] at hw129_0)
              (try rw [Addr.add_zero'] at hw129_0)
              obtain rfl : ad124 = ad129 := (by injection e129)
              have qi129 : (0 < l0.length) = True := eq_true (by omega)
              (try rw [show ((0 : Int)).toNat = 0 from rfl] at hx129_0)
              (try rw [Addr.add_zero'] at hx129_0)
              replace hx129_0 := bc HB.out hx129_0
              replace p129 := eq_true p129
              replace q129 := eq_true q129
              have p130 : 0 ≤ (1 : Int) := (by omega)
              have q130 : 1 < (l0.length : Int) := of_decide_eq_true (by first | (with_reducible assumption) | assumption)
              obtain ⟨ad130, e130, hx130_0⟩ := Kd.at_int HR0.out 1 p130 q130
              have hw130_0 := hx130_0
              (try rw [show ((1 : Int)).toNat = 1 from rfl] at hw130_0)
              (try rw [show 1 * 1 = 1 from rfl] at hw130_0)
              (try simp only [Nat.reduceMul, Nat.reduceEqDiff, Go.Addr.add, ↓reduceIte] at hw130_0)
              obtain rfl : ad124 = ad130 := (by injection e130)
              (try simp only [show (1 : Int).toNat = 1 from rfl, Nat.reduceMul, Nat.reduceEqDiff, Go.Addr.add, ↓reduceIte] at hx130_0)
              have qi130 : (1 < l0.length) = True := eq_true (by omega)
              (try rw [show ((1 : Int)).toNat = 1 from rfl] at hx130_0)
              replace hx130_0 := bc HB.out hx130_0
              replace p130 := eq_true p130
              replace q130 := eq_true q130
              obtain ⟨i034, hi034, _, hsz34, _⟩ := info_parts info5
              obtain ⟨A34, hcut34, hA34, hC34⟩ := print_mid_of (P := Try.prog) (Value.int .u8) 0 28 5 .i64 .i64 Try.underlying28 hi034 hsz34 (some ad124) c0 l0 3 (ji19) (by omega) (by first | omega | exact of_decide_eq_true (by first | (with_reducible assumption) | assumption)) (of_decide_eq_true (by first | (with_reducible assumption) | assumption)) HC0.out
              have HR131 := Aside0.mk (Kd.C_of_reads (h1 := fun _ => rfl) (hA34 _ (Kd.reads_of_C HR0.out)))
              have HC131 := Aside0.mk hC34
              clear hA34 hC34 hi034 hsz34
              refine start_ (n := 15) (S := fun w' => w'.cell? ad124 = some (.int .u8 (rd l0 0)) ∧ w'.cell? ⟨ad124.block, ad124.off + 1, none⟩ = some (.int .u8 (rd l0 1))) (ds := []) m0_15 (by kernel_rfl) rfl rfl ⟨((HB.out.cell (World.block_lt_of_cell? w _ hw129_0)).trans hw129_0), ((HB.out.cell (World.block_lt_of_cell? w _ hw130_0)).trans hw130_0)⟩ (fun hHeld => ?_); refine with_tabW impl_Get16.tab14 impl_Get16.bits14 (fun HT_ HW_ => ?_)
              generalize w31.drew = w33 at BK123 HB HR131 hx129_0 hx130_0 hHeld ⊢
              refine pq_ HT_.out 0 52 m1_15 ?_
              refine pq_ HT_.out 1 53 m2_15 ?_
              refine pq_ HT_.out 4 56 n10 ?_
              refine pq_ HT_.out 5 57 n11 ?_
              refine pq_ HT_.out 8 60 n12 ?_
              refine pq_ HT_.out 9 61 n13 ?_
              refine pq_ HT_.out 10 62 n14 ?_
              refine tk_ HT_.out HW_.out 2 54 n20 rfl rfl (by kernel_rfl) (by rfl) (by rintro w' ⟨s0, s1⟩; go_simp; with_reducible rfl) hHeld (by simp only [sp_]; rfl) (fun _ _ _ h => h) ?_
              refine pq_ HT_.out 3 55 n15 ?_
              refine tk_ HT_.out HW_.out 6 58 n21 rfl rfl (by kernel_rfl) (by rfl) (by rintro w' ⟨s0, s1⟩; go_simp; with_reducible rfl) hHeld (by simp only [sp_]; rfl) (fun _ _ _ h => h) ?_
              refine pq_ HT_.out 7 59 m11_15 ?_
              refine one_ (i := 11) (N := some 63) m12_15 rfl rfl (one_of HT_.out (by kernel_rfl)) (by decide) (fun K hK => ?_)
              refine goes_ Try.func71 (by kernel_rfl) rfl #[.slice A34 ((l0.take ((ji19) : Int).toNat).drop 3).length (c0 - 3)] (by rfl) rfl rfl (by (try simp only [List.map_toArray, List.map_cons, List.map_nil]); first | done | (rw [show ((l0.take ((ji19) : Int).toNat).drop 3).length = ((ji19).toNat - 3) from (by rw [List.length_drop, List.length_take]; have h_ : ((ji19) : Int) ≤ (l0.length : Int) := of_decide_eq_true (by first | (with_reducible assumption) | assumption); omega)] <;> rfl) | (simp only [hji19]; rfl) | rfl | (simp only [List.length_drop, List.length_take]; rfl)) ?_
              with_reducible refine (slices_Clone_byte_byte.calls _ _ ((l0.take ((ji19) : Int).toNat).drop 3) t132 _ ?side1 ?side2 A29.out).mono ?_
              (case side1 => exact rc (Kd.C_below HR131.out HB.out))
              (case side2 => exact HC131.out)
              rintro e w35 ⟨v133, rfl, ho0, hb⟩
              refine ⟨_, rfl, ?_⟩
              have n0_ := Aside0.mk (Kd.R_lower ho0 (below_size (by repeat with_reducible first | exact bl HB.out | refine below_set ?_ GE123.out | refine bq ?_)))
              have n1_ := Aside0.mk (blk_below (bk BK123.out) hb)
              have n2_ := Aside0.mk (below_step (by repeat with_reducible first | exact bl HB.out | refine below_set ?_ GE123.out | refine bq ?_) hb)
              clear BK123
              clear HB
              have HO134 := n0_
              have BK123 := n1_
              have HB := n2_
              clear n0_ n1_ n2_
              (try clear hb)
              (try clear hb2)
              (try clear hk)
              (try clear hi)
              (try clear ho0)
              obtain ⟨Ao36, co36, eo36⟩ := Kd.R_slice HO134.out
              (first | subst eo36 | (injection eo36 with f1_ f2_ f3_; have f4_ := f1_.symm; have f5_ := f3_.symm; clear f1_ f2_ f3_; subst f4_; subst f5_))
              refine hK.out _ _ ⟨((HB.out.cell (World.block_lt_of_cell? w _ hw129_0)).trans hw129_0), ((HB.out.cell (World.block_lt_of_cell? w _ hw130_0)).trans hw130_0)⟩ (fun hHeld => ?_)
              clear hK K
              refine norm_ (a' := ?_) ?_ ?_
              rotate_left
              ·
               show Act.put _ (some 63) _ = _
               simp only [sp_]
               rfl
              refine pq_ HT_.out 12 64 m13_15 ?_
              refine one_ (i := 13) (N := none) m14_15 rfl rfl (one_of HT_.out (by kernel_rfl)) (by decide) (fun K hK => ?_)
              have hs37 : w35.cell? ⟨gb123, 0, none⟩ = some (.int .i64 0) := ck BK123.out 0 rfl
              have hfs37 := blk_frozen BK123.out 0
              have hs38 : w35.cell? ⟨gb123, 1, none⟩ = some (.int .i64 0) := ck BK123.out 1 rfl
              have hfs38 := blk_frozen BK123.out 1
              have hs39 : w35.cell? ⟨gb123, 2, none⟩ = some (.slice none 0 0) := ck BK123.out 2 rfl
              have hfs39 := blk_frozen BK123.out 2
              refine skip_ (w1 := ?_) (by rfl) rfl ?_ ?_
              rotate_left
              ·
               go_simp
               rfl
              refine hK.out _ _ ⟨((cell_far (p := ⟨gb123, _, none⟩) (by first | exact Nat.ne_of_lt (Nat.lt_of_lt_of_le (by have := World.block_lt_of_cell? _ _ hw129_0; first | rwa [add_block] at this | exact this) GW123.out) | (rw [add_block]; exact Nat.ne_of_lt (Nat.lt_of_lt_of_le (by have := World.block_lt_of_cell? _ _ hw129_0; first | rwa [add_block] at this | exact this) GW123.out)) | (show (Addr.add _ _).block ≠ _; rw [add_block]; exact Nat.ne_of_lt (Nat.lt_of_lt_of_le (by have := World.block_lt_of_cell? _ _ hw129_0; first | rwa [add_block] at this | exact this) GW123.out)) | (dsimp only; exact Nat.ne_of_lt (Nat.lt_of_lt_of_le (by have := World.block_lt_of_cell? _ _ hw129_0; first | rwa [add_block] at this | exact this) GW123.out))) _).trans (((cell_far (p := ⟨gb123, _, none⟩) (by first | exact Nat.ne_of_lt (Nat.lt_of_lt_of_le (by have := World.block_lt_of_cell? _ _ hw129_0; first | rwa [add_block] at this | exact this) GW123.out) | (rw [add_block]; exact Nat.ne_of_lt (Nat.lt_of_lt_of_le (by have := World.block_lt_of_cell? _ _ hw129_0; first | rwa [add_block] at this | exact this) GW123.out)) | (show (Addr.add _ _).block ≠ _; rw [add_block]; exact Nat.ne_of_lt (Nat.lt_of_lt_of_le (by have := World.block_lt_of_cell? _ _ hw129_0; first | rwa [add_block] at this | exact this) GW123.out)) | (dsimp only; exact Nat.ne_of_lt (Nat.lt_of_lt_of_le (by have := World.block_lt_of_cell? _ _ hw129_0; first | rwa [add_block] at this | exact this) GW123.out))) _).trans (((cell_far (p := ⟨gb123, _, none⟩) (by first | exact Nat.ne_of_lt (Nat.lt_of_lt_of_le (by have := World.block_lt_of_cell? _ _ hw129_0; first | rwa [add_block] at this | exact this) GW123.out) | (rw [add_block]; exact Nat.ne_of_lt (Nat.lt_of_lt_of_le (by have := World.block_lt_of_cell? _ _ hw129_0; first | rwa [add_block] at this | exact this) GW123.out)) | (show (Addr.add _ _).block ≠ _; rw [add_block]; exact Nat.ne_of_lt (Nat.lt_of_lt_of_le (by have := World.block_lt_of_cell? _ _ hw129_0; first | rwa [add_block] at this | exact this) GW123.out)) | (dsimp only; exact Nat.ne_of_lt (Nat.lt_of_lt_of_le (by have := World.block_lt_of_cell? _ _ hw129_0; first | rwa [add_block] at this | exact this) GW123.out))) _).trans (hHeld.1)))))), ((cell_far (p := ⟨gb123, _, none⟩) (by first | exact Nat.ne_of_lt (Nat.lt_of_lt_of_le (by have := World.block_lt_of_cell? _ _ hw130_0; first | rwa [add_block] at this | exact this) GW123.out) | (rw [add_block]; exact Nat.ne_of_lt (Nat.lt_of_lt_of_le (by have := World.block_lt_of_cell? _ _ hw130_0; first | rwa [add_block] at this | exact this) GW123.out)) | (show (Addr.add _ _).block ≠ _; rw [add_block]; exact Nat.ne_of_lt (Nat.lt_of_lt_of_le (by have := World.block_lt_of_cell? _ _ hw130_0; first | rwa [add_block] at this | exact this) GW123.out)) | (dsimp only; exact Nat.ne_of_lt (Nat.lt_of_lt_of_le (by have := World.block_lt_of_cell? _ _ hw130_0; first | rwa [add_block] at this | exact this) GW123.out))) _).trans (((cell_far (p := ⟨gb123, _, none⟩) (by first | exact Nat.ne_of_lt (Nat.lt_of_lt_of_le (by have := World.block_lt_of_cell? _ _ hw130_0; first | rwa [add_block] at this | exact this) GW123.out) | (rw [add_block]; exact Nat.ne_of_lt (Nat.lt_of_lt_of_le (by have := World.block_lt_of_cell? _ _ hw130_0; first | rwa [add_block] at this | exact this) GW123.out)) | (show (Addr.add _ _).block ≠ _; rw [add_block]; exact Nat.ne_of_lt (Nat.lt_of_lt_of_le (by have := World.block_lt_of_cell? _ _ hw130_0; first | rwa [add_block] at this | exact this) GW123.out)) | (dsimp only; exact Nat.ne_of_lt (Nat.lt_of_lt_of_le (by have := World.block_lt_of_cell? _ _ hw130_0; first | rwa [add_block] at this | exact this) GW123.out))) _).trans (((cell_far (p := ⟨gb123, _, none⟩) (by first | exact Nat.ne_of_lt (Nat.lt_of_lt_of_le (by have := World.block_lt_of_cell? _ _ hw130_0; first | rwa [add_block] at this | exact this) GW123.out) | (rw [add_block]; exact Nat.ne_of_lt (Nat.lt_of_lt_of_le (by have := World.block_lt_of_cell? _ _ hw130_0; first | rwa [add_block] at this | exact this) GW123.out)) | (show (Addr.add _ _).block ≠ _; rw [add_block]; exact Nat.ne_of_lt (Nat.lt_of_lt_of_le (by have := World.block_lt_of_cell? _ _ hw130_0; first | rwa [add_block] at this | exact this) GW123.out)) | (dsimp only; exact Nat.ne_of_lt (Nat.lt_of_lt_of_le (by have := World.block_lt_of_cell? _ _ hw130_0; first | rwa [add_block] at this | exact this) GW123.out))) _).trans (hHeld.2))))))⟩ (fun hHeld => ?_)
              clear hK K
              refine pq_ HT_.out 14 3 m15_15 ?_
              refine done_ (done_of HT_.out (by kernel_rfl)) ?_
              try go_wp2
              refine bodyPost_ret (results_ct rfl _ _ gb123 41 #[.int .i64 (wrap64 (rd l0 0)), .int .i64 (wrap64 (rd l0 1)), .slice Ao36 t132.length co36] (0, 0) _ rfl (by (repeat refine bk1 ?_); refine blk_put (cs := #[.int .i64 (wrap64 (rd l0 0)), .int .i64 (wrap64 (rd l0 1)), .slice none 0 0]) ?_ 2 _ rfl; (repeat refine bk1 ?_); refine blk_put (cs := #[.int .i64 (wrap64 (rd l0 0)), .int .i64 0, .slice none 0 0]) ?_ 1 _ rfl; (repeat refine bk1 ?_); refine blk_put (cs := #[.int .i64 0, .int .i64 0, .slice none 0 0]) ?_ 0 _ rfl; (repeat refine bk1 ?_); exact BK123.out) Try.underlying41 rfl (by kernel_rfl)) rfl ?_
              exact ⟨_, by first | rfl | (simp [errW_none, errW_some] <;> rfl) | (simp only [← hji19]; first | rfl | (simp [errW_none, errW_some] <;> rfl)) | (simp [*, errW_none, errW_some] <;> rfl), by (repeat apply rl1); exact Kd.R_mono (Kd.R_far (p := ⟨gb123, 2, none⟩) (Kd.R_far (p := ⟨gb123, 1, none⟩) (Kd.R_far (p := ⟨gb123, 0, none⟩) (Kd.R_types HO134.out BK123.out (by decide)) (fun _ hk => hk.2) (.int .i64 (wrap64 (rd l0 0)))) (fun _ hk => hk.2) (.int .i64 (wrap64 (rd l0 1)))) (fun _ hk => hk.2) (.slice Ao36 t132.length co36)) (fun _ hk => trivial), by repeat with_reducible first | exact bl HB.out | refine below_set ?_ GE123.out | refine bq ?_⟩
             ·
              rw [if_neg c27] at H
              exact absurd H (by simp)
            ·
             rw [if_neg c26] at H
             exact absurd H (by simp)
           ·
            rw [if_neg c25] at H
            have c25b0 : ((rd l0 (ji19)) == t128) = false := beq_eq_false_iff_ne.mpr c25
            have c25b1 : ((rd l0 (ji19)) != t128) = true := bne_iff_ne.mpr c25
            simp only [Option.some.injEq, Prod.mk.injEq] at H
            obtain ⟨rfl, rfl, rfl, rfl⟩ := H
            go_enter Try.func40, Try.ntmps40
            try go_wp2_with (first | ((with_reducible refine gate_dst (N := 2) rfl ?_); refine box_event ?hg (N := 2) ?hd (cs := #[.int .i64 0, .int .i64 0, .slice none 0 0]) (t := 41) ?hr ?_; (case hd => rfl); (case hg => rfl); (case hr => first | (go_simp; done) | (go_simp; rfl)); intro gb123 hg w40 hbox hb; have BK123 := Aside0.mk (hbox); have GW123 := Aside0.mk ((by rw [hg]; exact (below_size (bl HB.out)) : w.heap.size ≤ gb123)); have GE123 := GW123; replace HB := Aside0.mk (below_step (bl HB.out) hb); clear hb hbox hg; have p124 : 0 ≤ (2 : Int) := (by omega); have q124 : 2 < (l0.length : Int) := of_decide_eq_true (by first | (with_reducible assumption) | assumption); obtain ⟨ad124, e124, hx124_0⟩ := Kd.at_int HR0.out 2 p124 q124; cases e124; (try simp only [show (2 : Int).toNat = 2 from rfl, Nat.reduceMul, Nat.reduceEqDiff, Go.Addr.add, ↓reduceIte] at hx124_0); have qi124 : (2 < l0.length) = True := eq_true (by omega); (try rw [show ((2 : Int)).toNat = 2 from rfl] at hx124_0); replace hx124_0 := (HB.out.cell (World.block_lt_of_cell? w _ hx124_0)).trans hx124_0; replace p124 := eq_true p124; replace q124 := eq_true q124; have p125 : 0 ≤ (0 : Int) := (by omega); have q125 : 0 < (l0.length : Int) := of_decide_eq_true (by first | (with_reducible assumption) | assumption); obtain ⟨ad125, e125, hx125_0⟩ := Kd.at_int HR0.out 0 p125 q125; obtain rfl : ad124 = ad125 := (by injection e125); have qi125 : (0 < l0.length) = True := eq_true (by omega); (try rw [show ((0 : Int)).toNat = 0 from rfl] at hx125_0); (try rw [Addr.add_zero'] at hx125_0); replace hx125_0 := (HB.out.cell (World.block_lt_of_cell? w _ hx125_0)).trans hx125_0; replace p125 := eq_true p125; replace q125 := eq_true q125))
            have n0_ := Aside0.mk (blk_drew BK123.out)
            have n1_ := Aside0.mk (below_drew1 HB.out)
            clear BK123
            clear HB
            have BK123 := n0_
            have HB := n1_
            clear n0_ n1_
            have p126 : 0 ≤ ((ji19) : Int) := of_decide_eq_true (by first | (with_reducible assumption) | assumption)
            have q126 : (ji19) < (l0.length : Int) := of_decide_eq_true (by first | (with_reducible assumption) | assumption)
            obtain ⟨ad126, e126, hx126_0⟩ := Kd.at_int HR0.out (ji19) p126 q126
            have hw126_0 := hx126_0
            obtain rfl : ad124 = ad126 := (by injection e126)
            replace hx126_0 := bc HB.out hx126_0
            replace p126 := eq_true p126
            replace q126 := eq_true q126
            obtain ⟨i042, hi042, _, hsz42, _⟩ := info_parts info5
            obtain ⟨hcut42, hA42, hC42⟩ := print_take_of (P := Try.prog) (Value.int .u8) 0 28 5 .i64 Try.underlying28 hi042 hsz42 (some ad124) c0 l0 (ji19) (of_decide_eq_true (by first | (with_reducible assumption) | assumption)) (of_decide_eq_true (by first | (with_reducible assumption) | assumption)) HC0.out
            have HR127 := Aside0.mk (Kd.C_of_reads (h1 := fun _ => rfl) (hA42 _ (Kd.reads_of_C HR0.out)))
            have HC127 := Aside0.mk hC42
            clear hA42 hC42 hi042 hsz42
            refine start_ (n := 10) (S := fun w' => w'.cell? (ad124.add ((ji19)).toNat) = some (.int .u8 (rd l0 (ji19)))) (ds := []) m0_10 (by kernel_rfl) rfl rfl (((HB.out.cell (World.block_lt_of_cell? w _ hw126_0)).trans hw126_0)) (fun hHeld => ?_); refine with_tabW impl_Get16.tab12 impl_Get16.bits12 (fun HT_ HW_ => ?_)
            generalize w40.drew = w41 at BK123 HB HR127 hx126_0 hHeld ⊢
            refine pq_ HT_.out 0 42 m1_10 ?_
            refine pq_ HT_.out 1 43 m2_10 ?_
            refine pq_ HT_.out 2 44 m3_10 ?_
            refine pq_ HT_.out 4 46 n3 ?_
            refine pq_ HT_.out 5 47 n4 ?_
            refine pq_ HT_.out 6 48 n5 ?_
            refine tk_ HT_.out HW_.out 3 45 m7_10 rfl rfl (by kernel_rfl) (by rfl) (by intro w' s0; go_simp; with_reducible rfl) hHeld (by simp only [sp_]; rfl) (fun _ _ _ h => h) ?_
            refine one_ (i := 7) (N := some 49) m8_10 rfl rfl (one_of HT_.out (by kernel_rfl)) (by decide) (fun K hK => ?_)
            refine goes_ Try.func66 (by kernel_rfl) rfl #[.slice (some ad124) (l0.take ((ji19) : Int).toNat).length c0] (by rfl) rfl rfl (by (try simp only [List.map_toArray, List.map_cons, List.map_nil]); first | done | (rw [show (l0.take ((ji19) : Int).toNat).length = (ji19).toNat from (by rw [List.length_take]; have h_ : ((ji19) : Int) ≤ (l0.length : Int) := of_decide_eq_true (by first | (with_reducible assumption) | assumption); omega)] <;> rfl) | (simp only [hji19]; rfl) | rfl | (simp only [List.length_drop, List.length_take]; rfl)) ?_
            with_reducible refine (impl_sumOf.calls k _ _ (l0.take ((ji19) : Int).toNat) t128 _ ?side1 ?side2 A24.out).mono ?_
            (case side1 => exact rc (Kd.C_below HR127.out HB.out))
            (case side2 => exact HC127.out)
            rintro e w' ⟨rfl, ⟨nd, rfl⟩⟩
            refine ⟨_, rfl, ?_⟩
            refine hK.out _ _ (((HB.out.cell (World.block_lt_of_cell? w _ hw126_0)).trans hw126_0)) (fun hHeld => ?_)
            clear hK K
            refine norm_ (a' := ?_) ?_ ?_
            rotate_left
            ·
             show Act.put _ (some 49) _ = _
             simp only [sp_]
             rfl
            refine pq_ HT_.out 8 50 m9_10 ?_
            refine pq_ HT_.out 9 41 m10_10 ?_
            refine done_ (done_of HT_.out (by kernel_rfl)) ?_
            obtain ⟨hcz43_0, hcz43_1, hcz43_2⟩ := ck3 BK123.out
            obtain ⟨hfz43_0, hfz43_1, hfz43_2⟩ := fz3 BK123.out
            try go_wp2
            refine bodyPost_ret (results_ct rfl _ _ gb123 41 #[.int .i64 0, .int .i64 0, .slice none 0 0] (0, 0) _ rfl (by (repeat refine bk1 ?_); refine blk_put (cs := #[.int .i64 0, .int .i64 0, .slice none 0 0]) ?_ 2 _ rfl; (repeat refine bk1 ?_); refine blk_put (cs := #[.int .i64 0, .int .i64 0, .slice none 0 0]) ?_ 1 _ rfl; (repeat refine bk1 ?_); refine blk_put (cs := #[.int .i64 0, .int .i64 0, .slice none 0 0]) ?_ 0 _ rfl; (repeat refine bk1 ?_); exact BK123.out) Try.underlying41 rfl (by kernel_rfl)) rfl ?_
            exact ⟨_, by first | rfl | (simp [errW_none, errW_some] <;> rfl) | (simp only [← hji19]; first | rfl | (simp [errW_none, errW_some] <;> rfl)) | (simp [*, errW_none, errW_some] <;> rfl), by first | exact Kd.R_nil _ _ _ _ _ | exact Kd.N_nil _ _ _ _ _ | exact Kd.V_nil _ _ _ _ _ | exact Kd.Q_nil _ _ _ _ _ | exact Kd.S_nil _ _ _ _ _, by repeat with_reducible first | exact bl HB.out | refine below_set ?_ GE123.out | refine bq ?_⟩
          ·
           rw [if_neg c23] at H
           exact absurd H (by simp)
         ·
          rw [if_neg c21] at H
          exact absurd H (by simp)
        ·
         rw [if_neg c20] at H
         exact absurd H (by simp)
      ·
       rw [if_neg c15] at H
       exact absurd H (by simp)
  ·
   rw [if_neg c5] at H
   exact absurd H (by simp)

/-! ### impl.Both16's function value (function 67) (by hand) -/
def take16.f (k : Nat) (l : List (List Int)) (i : Int) (x0 x1 x2 : Int) (xs : List S41) (m : Int) : Option (Int × Int × Int × List S41 × Int) :=
 if i ≥ (l.length : Int) then some (x0, x1, x2, xs, m) else if 0 ≤ i then (impl_Get16.f k (rd_L1 l i)).bind fun g => if g.2.2.2 = 0 then (impl_Accept.f k x0 x1 x2 g.1 g.2.1 g.2.2.1).bind fun a => if a.2.2.2.1 = true then (if xs.length < 1000000 then some (a.1, a.2.1, a.2.2.1, xs ++ [⟨g.1, g.2.1, g.2.2.1⟩], wrap64 (m + a.2.2.2.2)) else none) else some (x0, x1, x2, xs, m) else some (x0, x1, x2, xs, m) else none
/-- The three variables that the function value holds, and the row of one of them. -/
def Box16 (base Br Bo Bm : Nat) (x0 x1 x2 : Int) (v : Value) (xs : List S41) (m : Int) (W : World) : Prop :=
 W.heap[Br]? = some (.cells #[.int .i64 x0, .int .i64 x1, .int .i64 x2] 25 (0, 0)) ∧ W.heap[Bo]? = some (.cells #[v] 45 (0, 0)) ∧ W.heap[Bm]? = some (.cells #[.int .i64 m] 3 (0, 0)) ∧ Kd.S k41 41 W base (fun _ => True) v xs
theorem Box16.below {base Br Bo Bm : Nat} {x0 x1 x2 : Int} {v : Value} {xs : List S41} {m : Int} {W W1 : World} (h : Box16 base Br Bo Bm x0 x1 x2 v xs m W) (hb : Below W.heap.size W W1) : Box16 base Br Bo Bm x0 x1 x2 v xs m W1 :=
 ⟨blk_below h.1 hb, blk_below h.2.1 hb, blk_below h.2.2.1 hb, Kd.S_below h.2.2.2 hb⟩
/-- Other blocks of receivers are as they were. -/
def Far16 (Br : Nat) (w w' : World) : Prop := ∀ g c0 c1 c2, g ≠ Br → w.heap[g]? = some (.cells #[c0, c1, c2] 25 (0, 0)) → w'.heap[g]? = some (.cells #[c0, c1, c2] 25 (0, 0))
theorem Far16.below (Br : Nat) {w w' : World} (h : Below w.heap.size w w') : Far16 Br w w' := fun g c0 c1 c2 _ hg => blk_below hg h
theorem Far16.then {Br : Nat} {w w1 w2 : World} (h : Far16 Br w w1) (k : Far16 Br w1 w2) : Far16 Br w w2 := fun g c0 c1 c2 hn hg => k g c0 c1 c2 hn (h g c0 c1 c2 hn hg)
theorem Box16.cells {base Br Bo Bm : Nat} {x0 x1 x2 : Int} {v : Value} {xs : List S41} {m : Int} {W : World} (h : Box16 base Br Bo Bm x0 x1 x2 v xs m W) :
  (W.cell? ⟨Br, 0, none⟩ = some (.int .i64 x0) ∧ W.cell? ⟨Br, 1, none⟩ = some (.int .i64 x1) ∧ W.cell? ⟨Br, 2, none⟩ = some (.int .i64 x2)) ∧ W.cell? ⟨Bo, 0, none⟩ = some v ∧ W.cell? ⟨Bm, 0, none⟩ = some (.int .i64 m) :=
 ⟨⟨(blk_cell h.1 0).trans rfl, (blk_cell h.1 1).trans rfl, (blk_cell h.1 2).trans rfl⟩, (blk_cell h.2.1 0).trans rfl, (blk_cell h.2.2.1 0).trans rfl⟩
theorem Box16.cells3 {Br Bo Bm : Nat} {x0 x1 x2 m : Int} {v : Value} {W : World} (h1 : W.heap[Br]? = some (.cells #[.int .i64 x0, .int .i64 x1, .int .i64 x2] 25 (0, 0))) (h2 : W.heap[Bo]? = some (.cells #[v] 45 (0, 0))) (h3 : W.heap[Bm]? = some (.cells #[.int .i64 m] 3 (0, 0))) :
  (W.cell? ⟨Br, 0, none⟩ = some (.int .i64 x0) ∧ W.cell? ⟨Br, 1, none⟩ = some (.int .i64 x1) ∧ W.cell? ⟨Br, 2, none⟩ = some (.int .i64 x2)) ∧ W.cell? ⟨Bo, 0, none⟩ = some v ∧ W.cell? ⟨Bm, 0, none⟩ = some (.int .i64 m) :=
 ⟨⟨(blk_cell h1 0).trans rfl, (blk_cell h1 1).trans rfl, (blk_cell h1 2).trans rfl⟩, (blk_cell h2 0).trans rfl, (blk_cell h3 0).trans rfl⟩
theorem Box16.cell9 {B : Nat} {x0 x1 x2 : Int} {W : World} (h1 : W.heap[B]? = some (.cells #[.int .i64 x0, .int .i64 x1, .int .i64 x2] 25 (0, 0))) : W.cell? ⟨B, 0, none⟩ = some (.int .i64 x0) ∧ W.cell? ⟨B, 1, none⟩ = some (.int .i64 x1) ∧ W.cell? ⟨B, 2, none⟩ = some (.int .i64 x2) :=
 ⟨(blk_cell h1 0).trans rfl, (blk_cell h1 1).trans rfl, (blk_cell h1 2).trans rfl⟩
theorem Box16.grown {base Br Bo Bm : Nat} {x0 x1 x2 : Int} {v : Value} {xs : List S41} {m : Int} {W W1 : World} (h : Box16 base Br Bo Bm x0 x1 x2 v xs m W) (hg : W.drew.grownBy W1 v.ownBlock) :
  W1.heap[Br]? = some (.cells #[.int .i64 x0, .int .i64 x1, .int .i64 x2] 25 (0, 0)) ∧ W1.heap[Bo]? = some (.cells #[v] 45 (0, 0)) ∧ W1.heap[Bm]? = some (.cells #[.int .i64 m] 3 (0, 0)) :=
 ⟨blk_grown (w := W.drew) h.1 hg (Kd.S_ne h.2.2.2 h.1 (by decide)), blk_grown (w := W.drew) h.2.1 hg (Kd.S_ne h.2.2.2 h.2.1 (by decide)), blk_grown (w := W.drew) h.2.2.1 hg (Kd.S_ne h.2.2.2 h.2.2.1 (by decide))⟩
theorem Box16.far {Br Bo Bm g : Nat} {b0 b1 b2 m : Int} {m' : Int} {v v1 c0 c1 c2 : Value} {W : World} (hn : g ≠ Br) (h : W.heap[g]? = some (.cells #[c0, c1, c2] 25 (0, 0))) (h2 : W.heap[Bo]? = some (.cells #[v] 45 (0, 0))) (h3 : W.heap[Bm]? = some (.cells #[.int .i64 m] 3 (0, 0))) :
  (((((W.setCell ⟨Br, 0, none⟩ (.int .i64 b0)).setCell ⟨Br, 1, none⟩ (.int .i64 b1)).setCell ⟨Br, 2, none⟩ (.int .i64 b2)).setCell ⟨Bo, 0, none⟩ v1).setCell ⟨Bm, 0, none⟩ (.int .i64 m')).heap[g]? = some (.cells #[c0, c1, c2] 25 (0, 0)) :=
 blk_far (blk_far (blk_far (blk_far (blk_far h (p := ⟨Br, 0, none⟩) hn _) (p := ⟨Br, 1, none⟩) hn _) (p := ⟨Br, 2, none⟩) hn _) (p := ⟨Bo, 0, none⟩) (blk_ne h h2 (by decide)) _) (p := ⟨Bm, 0, none⟩) (blk_ne h h3 (by decide)) _
theorem Box16.put {base Br Bo Bm : Nat} {x0 x1 x2 b0 b1 b2 m m' : Int} {v v1 : Value} {ys : List S41} {W : World} (h1 : W.heap[Br]? = some (.cells #[.int .i64 x0, .int .i64 x1, .int .i64 x2] 25 (0, 0))) (h2 : W.heap[Bo]? = some (.cells #[v] 45 (0, 0))) (h3 : W.heap[Bm]? = some (.cells #[.int .i64 m] 3 (0, 0)))
  (hs : Kd.S k41 41 W base (fun _ => True) v1 ys) :
  Box16 base Br Bo Bm b0 b1 b2 v1 ys m' (((((W.setCell ⟨Br, 0, none⟩ (.int .i64 b0)).setCell ⟨Br, 1, none⟩ (.int .i64 b1)).setCell ⟨Br, 2, none⟩ (.int .i64 b2)).setCell ⟨Bo, 0, none⟩ v1).setCell ⟨Bm, 0, none⟩ (.int .i64 m')) := by
 have n1 : Br ≠ Bo := blk_ne h1 h2 (by decide)
 have n2 : Br ≠ Bm := blk_ne h1 h3 (by decide)
 have n3 : Bo ≠ Bm := blk_ne h2 h3 (by decide)
 have a1 := blk_set (blk_set (blk_set h1 0 (.int .i64 b0)) 1 (.int .i64 b1)) 2 (.int .i64 b2)
 have a2 := blk_far (blk_far (blk_far h2 (p := ⟨Br, 0, none⟩) (Ne.symm n1) (.int .i64 b0)) (p := ⟨Br, 1, none⟩) (Ne.symm n1) (.int .i64 b1)) (p := ⟨Br, 2, none⟩) (Ne.symm n1) (.int .i64 b2)
 have a3 := blk_far (blk_far (blk_far h3 (p := ⟨Br, 0, none⟩) (Ne.symm n2) (.int .i64 b0)) (p := ⟨Br, 1, none⟩) (Ne.symm n2) (.int .i64 b1)) (p := ⟨Br, 2, none⟩) (Ne.symm n2) (.int .i64 b2)
 have s1 := Kd.S_set hs h1 (by decide) 0 (.int .i64 b0)
 have s2 := Kd.S_set s1 (blk_set h1 0 (.int .i64 b0)) (by decide) 1 (.int .i64 b1)
 have s3 := Kd.S_set s2 (blk_set (blk_set h1 0 (.int .i64 b0)) 1 (.int .i64 b1)) (by decide) 2 (.int .i64 b2)
 have a4 := blk_set a2 0 v1
 have s4 := Kd.S_set s3 a2 (by decide) 0 v1
 have a5 := blk_far a3 (p := ⟨Bo, 0, none⟩) (Ne.symm n3) v1
 exact ⟨blk_far (blk_far a1 (p := ⟨Bo, 0, none⟩) n1 v1) (p := ⟨Bm, 0, none⟩) n2 _, blk_far a4 (p := ⟨Bm, 0, none⟩) n3 _, blk_set a5 0 _, Kd.S_set s4 a5 (by decide) 0 _⟩
set_option maxHeartbeats 8000000 in
set_option maxRecDepth 100000 in
theorem take16.calls (k : Nat) (A : Option Addr) (c : Nat) (l : List (List Int)) (i x0 x1 x2 : Int) (v : Value) (xs : List S41) (m y0 y1 y2 : Int) (ys : List S41) (m' : Int) (Br Bo Bm : Nat) (w0 w : World) (hl : Kd.C (Kd.slice 5 (Kd.int .u8)) w0 A l.length l) (hc : l.length ≤ c) (hB : Below w0.heap.size w0 w) (hbx : Box16 w0.heap.size Br Bo Bm x0 x1 x2 v xs m w)
  (gr : w0.heap.size ≤ Br) (go : w0.heap.size ≤ Bo) (gm : w0.heap.size ≤ Bm) (h : take16.f k l i x0 x1 x2 xs m = some (y0, y1, y2, ys, m')) :
  Calls Try.prog 67 #[.slice A l.length c, .int .i64 i, .pointer (some ⟨Br, 0, none⟩), .pointer (some ⟨Bo, 0, none⟩), .pointer (some ⟨Bm, 0, none⟩)] w fun e w' => ∃ v', e = .returned (.tuple #[]) ∧ Box16 w0.heap.size Br Bo Bm y0 y1 y2 v' ys m' w' ∧ Below w0.heap.size w0 w' ∧ Far16 Br w w' := by
 have hu25 := Try.underlying25
 have hu41 := Try.underlying41
 have HX := Aside0.mk hbx
 have HB := Aside0.mk hB
 have HL := Aside0.mk hl
 have HC := Aside0.mk hc
 have GR := Aside0.mk gr
 have GO := Aside0.mk go
 have GM := Aside0.mk gm
 clear hbx hB hl hc gr go gm
 unfold take16.f at h
 by_cases h1 : i ≥ (l.length : Int)
 ·
  rw [if_pos h1] at h
  simp only [Option.some.injEq, Prod.mk.injEq] at h
  obtain ⟨rfl, rfl, rfl, rfl, rfl⟩ := h
  have hd : decide (i < (l.length : Int)) = false := by simpa using h1
  go_enter Try.func67, Try.ntmps67
  go_wp2
  ((try simp only [Exit.inBlock, Exit.then]); refine bodyPost_ret (results_none rfl _ _ _) rfl ?_)
  exact ⟨v, rfl, HX.out, HB.out, Far16.below _ (Below.refl _ _)⟩
 ·
  rw [if_neg h1] at h
  by_cases h2 : 0 ≤ i
  ·
   rw [if_pos h2] at h
   obtain ⟨⟨g0, g1, g2, g3⟩, A10, h⟩ := Option.bind_eq_some_iff.mp h
   have A1 := Aside0.mk A10
   clear A10
   simp only at h
   have q1 : i < (l.length : Int) := by omega
   obtain ⟨ad, A0, c0, e0, hx0, hl0, hi0⟩ := at_L1 (Kd.C_below HL.out HB.out) i h2 q1
   cases e0
   have HI := Aside0.mk hi0
   have HL0 := Aside0.mk hl0
   clear hi0 hl0
   by_cases h3 : g3 = 0
   ·
    rw [if_pos h3] at h
    subst h3
    obtain ⟨⟨b0, b1, b2, b3, b4⟩, A20, h⟩ := Option.bind_eq_some_iff.mp h
    have A2 := Aside0.mk A20
    clear A20
    simp only at h
    have hd : decide (i < (l.length : Int)) = true := by simpa using h1
    have htaken : ∀ bt : Bool, b3 = bt → (bt = false → (x0, x1, x2, xs, m) = (y0, y1, y2, ys, m')) := fun bt e1 e2 => by
     subst e1 e2
     rw [if_neg (by simp)] at h
     exact Option.some.inj h
    cases b3 with
    | false =>
     have he := htaken false rfl rfl
     simp only [Prod.mk.injEq] at he
     obtain ⟨rfl, rfl, rfl, rfl, rfl⟩ := he
     clear h htaken
     go_enter Try.func67, Try.ntmps67
     go_wp2_with (first
      | (go_at_call 40; (with_reducible refine (impl_Get16.calls k _ _ _ g0 g1 g2 0 _ HI.out HL0.out A1.out).mono ?_); rintro e w1 ⟨v2, rfl, ho, hb⟩; have HB1 := Aside0.mk hb; have HO1 := Aside0.mk ho; have HX1 := Aside0.mk (Box16.below HX.out hb); obtain ⟨⟨hr0, hr1, hr2⟩, _, _⟩ := Box16.cells HX1.out; have hltr : Br < w1.heap.size := blk_lt HX1.out.1; clear ho hb; obtain ⟨Ao, co, rfl⟩ := Kd.R_slice HO1.out)
      | (go_at_call 32; (with_reducible refine (impl_Accept.calls k x0 x1 x2 g0 g1 _ _ g2 b0 b1 b2 false b4 _ ?side1 ?side2 A2.out).mono ?_); (case side1 => exact Kd.C_alloc (Kd.R_reads' HO1.out).2.2 _); (case side2 => exact (Kd.R_reads' HO1.out).2.1); rintro e w2 ⟨rfl, hb⟩; have HB2 := Aside0.mk (below_step (below_alloc (Below.refl w1.heap.size w1) _) hb); clear hb hr0 hr1 hr2 hltr))
     ((try simp only [Exit.inBlock, Exit.then]); refine bodyPost_end (results_none rfl _ _ _) rfl ?_)
     have hbb := below_alloc HB2.out (.cells #[.int .i64 b0, .int .i64 b1, .int .i64 b2] 25)
     exact ⟨v, rfl, Box16.below HX1.out hbb, below_step (below_step HB.out HB1.out) hbb, Far16.below _ (below_step HB1.out hbb)⟩
    | true =>
     clear htaken
     rw [if_pos rfl] at h
     by_cases h4 : xs.length < 1000000
     ·
      rw [if_pos h4] at h
      simp only [Option.some.injEq, Prod.mk.injEq] at h
      obtain ⟨rfl, rfl, rfl, rfl, rfl⟩ := h
      go_enter Try.func67, Try.ntmps67
      go_wp2_with (first
       | (go_at_call 40; (with_reducible refine (impl_Get16.calls k _ _ _ g0 g1 g2 0 _ HI.out HL0.out A1.out).mono ?_); rintro e w1 ⟨v2, rfl, ho, hb⟩; have HB1 := Aside0.mk hb; have HO1 := Aside0.mk ho; have HX1 := Aside0.mk (Box16.below HX.out hb); obtain ⟨⟨hr0, hr1, hr2⟩, _, _⟩ := Box16.cells HX1.out; have hltr : Br < w1.heap.size := blk_lt HX1.out.1; clear ho hb; obtain ⟨Ao, co, rfl⟩ := Kd.R_slice HO1.out; have B7 := Aside0.mk (blk_new w1 (.cells #[.int .i64 g0, .int .i64 g1, .slice Ao g2.length co] 41)))
       | (go_at_call 32; (with_reducible refine (impl_Accept.calls k x0 x1 x2 g0 g1 _ _ g2 b0 b1 b2 true b4 _ ?side1 ?side2 A2.out).mono ?_); (case side1 => exact Kd.C_alloc (Kd.R_reads' HO1.out).2.2 _); (case side2 => exact (Kd.R_reads' HO1.out).2.1); rintro e w2 ⟨rfl, hb⟩; have HB2 := Aside0.mk (below_step (below_alloc (Below.refl w1.heap.size w1) _) hb); have B7b := Aside0.mk (blk_below B7.out hb); have B9 := Aside0.mk (blk_new w2 (.cells #[.int .i64 b0, .int .i64 b1, .int .i64 b2] 25)); clear hb hr0 hr1 hr2 hltr B7))
      have HB3 := Aside0.mk (below_alloc HB2.out (.cells #[.int .i64 b0, .int .i64 b1, .int .i64 b2] 25))
      have B7c := Aside0.mk (blk_alloc B7b.out (.cells #[.int .i64 b0, .int .i64 b1, .int .i64 b2] 25))
      generalize w2.alloc (.cells #[.int .i64 b0, .int .i64 b1, .int .i64 b2] 25) = w3 at HB3 B7c B9 ⊢
      have g9le := Aside0.mk (Nat.le_trans HB1.out.size HB2.out.size : w.heap.size ≤ w2.heap.size)
      have g7le := Aside0.mk (HB1.out.size : w.heap.size ≤ w1.heap.size)
      have hltw := Aside0.mk (blk_lt HX.out.1 : Br < w.heap.size)
      generalize w2.heap.size = G9 at B9 g9le ⊢
      generalize w1.heap.size = G7 at B7c g7le ⊢
      clear B7b HB2
      have hlb := below_step HB1.out HB3.out
      have HX3 := Aside0.mk (Box16.below HX1.out HB3.out)
      have HW := Aside0.mk hlb
      have HB0 := Aside0.mk (below_step HB.out hlb)
      have HS := Aside0.mk (Kd.S_old HX.out.2.2.2 hlb)
      have HVlt := Aside0.mk (Kd.S_lt HX.out.2.2.2)
      have HO3 := Aside0.mk (Kd.R_below HO1.out HB3.out)
      clear HB3 HO1 HX1 HL HI HL0 HC A1 A2 hx0 hd
      refine start_ (n := 11) (S := fun w' => w'.heap[G9]? = some (.cells #[.int .i64 b0, .int .i64 b1, .int .i64 b2] 25 (0, 0)) ∧ w'.heap[G7]? = some (.cells #[.int .i64 g0, .int .i64 g1, .slice Ao g2.length co] 41 (0, 0)) ∧ w'.heap[Bm]? = some (.cells #[.int .i64 m] 3 (0, 0))) (ds := [10]) m0_11 (by kernel_rfl) rfl rfl ⟨B9.out, B7c.out, HX3.out.2.2.1⟩ (fun hHeld => ?_)
      have nBr : w3.drew.heap[Br]? = some (.cells #[.int .i64 x0, .int .i64 x1, .int .i64 x2] 25 (0, 0)) := HX3.out.1
      have nBo : w3.drew.heap[Bo]? = some (.cells #[v] 45 (0, 0)) := HX3.out.2.1
      have nS := Kd.S_drew HX3.out.2.2.2
      have nHS := Kd.S_drew HS.out
      have nHO := Kd.R_drew HO3.out
      have HG7 := Aside0.mk g7le.out
      have NR9 := Aside0.mk (show Br ≠ G9 by have h1 := hltw.out; have h2 := g9le.out; omega)
      have nHB := below_drew HB0.out
      have nFA := Far16.below Br (below_drew HW.out)
      have HG9 := Aside0.mk B9.out
      clear HX3 HS HO3 HB0 B9 B7c HW
      generalize w3.drew = w4 at hHeld nBr nBo nS nHS nHO nHB nFA ⊢
      have NBr := Aside0.mk nBr
      have NBo := Aside0.mk nBo
      have NS := Aside0.mk nS
      have NHS := Aside0.mk nHS
      have NHO := Aside0.mk nHO
      have NHB := Aside0.mk nHB
      have NFA := Aside0.mk nFA
      have hH := Aside0.mk hHeld
      clear nBr nBo nS nHS nHO nHB nFA hHeld HG9
      refine take_ (i := 0) (N := some 34) (v := ?_) (a' := ?_) m1_11 rfl rfl (by kernel_rfl) (fun _ _ _ h => h) (Or.inl ⟨by rfl, ?_⟩) hH.out ?_ ?_
      rotate_left
      ·
       rintro w' ⟨s0, s1, s2⟩
       have c0 : w'.cell? ⟨G9, 0, none⟩ = some (.int .i64 b0) := (blk_cell s0 0).trans rfl
       have c1 : w'.cell? ⟨G9, 1, none⟩ = some (.int .i64 b1) := (blk_cell s0 1).trans rfl
       have c2 : w'.cell? ⟨G9, 2, none⟩ = some (.int .i64 b2) := (blk_cell s0 2).trans rfl
       clear s0 s1 s2
       go_simp
       with_reducible rfl
      rotate_left
      ·
       simp only [Act.put, List.setIfInBounds_toArray, List.set_cons_zero, List.set_cons_succ]; rfl
      refine take_ (i := 2) (N := some 36) (v := ?_) (a' := ?_) n29 rfl rfl (by kernel_rfl) (fun _ _ _ h => h) (Or.inl ⟨by rfl, ?_⟩) hH.out ?_ ?_
      rotate_left
      ·
       rintro w' ⟨s0, s1, s2⟩
       have c0 : w'.cell? ⟨G7, 0, none⟩ = some (.int .i64 g0) := (blk_cell s1 0).trans rfl
       have c1 : w'.cell? ⟨G7, 1, none⟩ = some (.int .i64 g1) := (blk_cell s1 1).trans rfl
       have c2 : w'.cell? ⟨G7, 2, none⟩ = some (.slice Ao g2.length co) := (blk_cell s1 2).trans rfl
       clear s0 s1 s2
       go_simp
       with_reducible rfl
      rotate_left
      ·
       simp only [Act.put, List.setIfInBounds_toArray, List.set_cons_zero, List.set_cons_succ]; rfl
      refine take_ (i := 5) (N := some 39) (v := ?_) (a' := ?_) n30 rfl rfl (by kernel_rfl) (fun _ _ _ h => h) (Or.inl ⟨by rfl, ?_⟩) hH.out ?_ ?_
      rotate_left
      ·
       rintro w' ⟨s0, s1, s2⟩
       have c0 : w'.cell? ⟨Bm, 0, none⟩ = some (.int .i64 m) := (blk_cell s2 0).trans rfl
       clear s0 s1 s2
       go_simp
       with_reducible rfl
      rotate_left
      ·
       simp only [Act.put, List.setIfInBounds_toArray, List.set_cons_zero, List.set_cons_succ]; rfl
      refine pure_ (i := 6) (N := some 40) (v := ?_) (a' := ?_) n31 rfl rfl (by kernel_rfl) (fun _ _ _ h => h) (Or.inl ⟨by rfl, ?_⟩) ?_ ?_
      rotate_left
      ·
       intro w'; go_simp; with_reducible rfl
      rotate_left
      ·
       simp only [Act.put, List.setIfInBounds_toArray, List.set_cons_zero, List.set_cons_succ]; rfl
      refine pure_ (i := 7) (N := some 41) (v := ?_) (a' := ?_) n32 rfl rfl (by kernel_rfl) (fun _ _ _ h => h) (Or.inl ⟨by rfl, ?_⟩) ?_ ?_
      rotate_left
      ·
       intro w'; go_simp; with_reducible rfl
      rotate_left
      ·
       simp only [Act.put, List.setIfInBounds_toArray, List.set_cons_zero, List.set_cons_succ]; rfl
      -- REST
      refine two_ (i := 1) (j := 3) (Ni := some 35) (Nj := some 37) n33 n34 rfl rfl rfl rfl (by kernel_rfl) (by decide) (by decide) (fun K hK => ?_) (fun K hK => ?_)
      refine event_step (v := v) (w1 := w4) (by rfl) ?_ ?_
      ·
       have c0 : (w4).cell? ⟨Bo, 0, none⟩ = some v := ck NBo.out 0 rfl
       obtain ⟨Av, cv, rfl⟩ := Kd.S_slice NS.out
       clear hK
       go_simp
      refine hK.out _ _ hH.out (fun _ => ?_)
      clear hK K
      refine norm_ (a' := ?_) ?_ ?_
      rotate_left
      ·
       show Act.put _ (some 35) _ = _
       simp only [Act.put, List.setIfInBounds_toArray, List.set_cons_zero, List.set_cons_succ]
       rfl
      refine one_ (i := 3) (N := some 37) n35 rfl rfl (by kernel_rfl) (by decide) (fun K hK => ?_)
      refine event_step (v := .slice (some ⟨w4.heap.size, 0, none⟩) 1 1) (w1 := w4.alloc (.cells #[.int .i64 g0, .int .i64 g1, .slice Ao g2.length co] 41)) (by rfl) ?_ ?_
      ·
       clear hK
       go_simp
      refine hK.out _ _ ⟨blk_alloc hH.out.1 _, blk_alloc hH.out.2.1 _, blk_alloc hH.out.2.2 _⟩ (fun _ => ?_)
      clear hK K
      refine norm_ (a' := ?_) ?_ ?_
      rotate_left
      ·
       show Act.put _ (some 37) _ = _
       simp only [Act.put, List.setIfInBounds_toArray, List.set_cons_zero, List.set_cons_succ]
       rfl
      rotate_left
      refine event_step (v := .slice (some ⟨w4.heap.size, 0, none⟩) 1 1) (w1 := w4.alloc (.cells #[.int .i64 g0, .int .i64 g1, .slice Ao g2.length co] 41)) (by rfl) ?_ ?_
      ·
       clear hK
       go_simp
      refine hK.out _ _ ⟨blk_alloc hH.out.1 _, blk_alloc hH.out.2.1 _, blk_alloc hH.out.2.2 _⟩ (fun _ => ?_)
      clear hK K
      refine norm_ (a' := ?_) ?_ ?_
      rotate_left
      ·
       show Act.put _ (some 37) _ = _
       simp only [Act.put, List.setIfInBounds_toArray, List.set_cons_zero, List.set_cons_succ]
       rfl
      refine one_ (i := 1) (N := some 35) n35 rfl rfl (by kernel_rfl) (by decide) (fun K hK => ?_)
      refine event_step (v := v) (w1 := w4.alloc (.cells #[.int .i64 g0, .int .i64 g1, .slice Ao g2.length co] 41)) (by rfl) ?_ ?_
      ·
       have c0 : (w4.alloc (.cells #[.int .i64 g0, .int .i64 g1, .slice Ao g2.length co] 41)).cell? ⟨Bo, 0, none⟩ = some v := (blk_cell (blk_alloc NBo.out _) 0).trans rfl
       obtain ⟨Av, cv, rfl⟩ := Kd.S_slice NS.out
       clear hK
       go_simp
      refine hK.out _ _ ⟨blk_alloc hH.out.1 _, blk_alloc hH.out.2.1 _, blk_alloc hH.out.2.2 _⟩ (fun _ => ?_)
      clear hK K
      refine norm_ (a' := ?_) ?_ ?_
      rotate_left
      ·
       show Act.put _ (some 35) _ = _
       simp only [Act.put, List.setIfInBounds_toArray, List.set_cons_zero, List.set_cons_succ]
       rfl
      all_goals
       refine one_ (i := 4) (N := some 38) m8_11 rfl rfl (by kernel_rfl) (by decide) (fun K hK => ?_)
       refine Kd.S_append_step k41 (w0 := w0) w0.heap.size (by rfl) (.tmp 35) (.tmp 37) 45 41 (.agg #[.int .i64 0, .int .i64 0, .slice none 0 0]) 40 rfl Try.underlying45 info41 rfl (by decide) (by decide) v xs ⟨g0, g1, g2⟩ [.int .i64 g0, .int .i64 g1, .slice Ao g2.length co] (fun _ => True) (fun k_ => w.heap.size ≤ k_) rfl rfl (k41_mkM _ _ _ ⟨g0, g1, g2⟩ (Kd.R_lower (Kd.R_mono (Kd.R_bound NHO.out) (fun k hk => hk.2.1)) HB.out.size)) (fun k hk => ⟨trivial, fun e => absurd (HVlt.out k e.symm) (Nat.not_lt.2 hk)⟩) (fun _ _ => trivial) (Kd.S_mono NHS.out (fun k hk => ⟨trivial, Nat.not_le.2 hk.2⟩)) NHB.out NHB.out.size (by omega) ?_
       intro v1 w9 hs9 hb9 hg9 hat9
       have HS9 := Aside0.mk hs9
       have HB9 := Aside0.mk hb9
       have MR := Aside0.mk (blk_grown NBr.out hg9 (Kd.S_ne NS.out NBr.out (by decide)))
       have MO := Aside0.mk (blk_grown NBo.out hg9 (Kd.S_ne NS.out NBo.out (by decide)))
       have MM := Aside0.mk (blk_grown hH.out.2.2 hg9 (Kd.S_ne NS.out hH.out.2.2 (by decide)))
       have M9 := Aside0.mk (blk_grown hH.out.1 hg9 (Kd.S_ne NS.out hH.out.1 (by decide)))
       have M7 := Aside0.mk (blk_grown hH.out.2.1 hg9 (fun e => absurd (HVlt.out G7 e.symm) (Nat.not_lt.2 HG7.out)))
       have MF := Aside0.mk (show Far16 Br w w9 from fun g c0 c1 c2 hn hg => blk_grown (NFA.out g c0 c1 c2 hn hg) hg9 (Kd.S_ne NS.out (NFA.out g c0 c1 c2 hn hg) (by decide)))
       clear hs9 hb9 hg9 hat9
       refine hK.out _ _ ⟨M9.out, M7.out, MM.out⟩ (fun _ => ?_)
       clear hK K
       refine norm_ (a' := ?_) ?_ ?_
       rotate_left
       ·
        show Act.put _ (some 38) _ = _
        simp only [Act.put, List.setIfInBounds_toArray, List.set_cons_zero, List.set_cons_succ]
        rfl
       obtain ⟨A9, c9, rfl⟩ := Kd.S_slice HS9.out
       have n1 : Br ≠ G9 := NR9.out
       have n3 : Bo ≠ G9 := blk_ne MO.out M9.out (by decide)
       have n4 : Bm ≠ Br := blk_ne MM.out MR.out (by decide)
       have n5 : G7 ≠ Br := blk_ne M7.out MR.out (by decide)
       have n6 : Bm ≠ Bo := blk_ne MM.out MO.out (by decide)
       have n7 : G7 ≠ Bo := blk_ne M7.out MO.out (by decide)
       refine one_ (i := 8) (N := none) m9_11 rfl rfl (by kernel_rfl) (by decide) (fun K hK => ?_)
       refine skip_ (w1 := ((w9.setCell ⟨Br, 0, none⟩ (.int .i64 b0)).setCell ⟨Br, 1, none⟩ (.int .i64 b1)).setCell ⟨Br, 2, none⟩ (.int .i64 b2)) (by rfl) rfl ?_ ?_
       ·
        clear hK
        obtain ⟨kr0, kr1, kr2⟩ := Box16.cell9 MR.out
        have fr0 := blk_frozen MR.out 0
        have fr1 := blk_frozen MR.out 1
        have fr2 := blk_frozen MR.out 2
        go_simp
       refine hK.out _ _ ⟨(blk_far (blk_far (blk_far M9.out (p := ⟨Br, 0, none⟩) (Ne.symm n1) _) (p := ⟨Br, 1, none⟩) (Ne.symm n1) _) (p := ⟨Br, 2, none⟩) (Ne.symm n1) _), (blk_far (blk_far (blk_far M7.out (p := ⟨Br, 0, none⟩) n5 _) (p := ⟨Br, 1, none⟩) n5 _) (p := ⟨Br, 2, none⟩) n5 _), (blk_far (blk_far (blk_far MM.out (p := ⟨Br, 0, none⟩) n4 _) (p := ⟨Br, 1, none⟩) n4 _) (p := ⟨Br, 2, none⟩) n4 _)⟩ (fun _ => ?_)
       clear hK K
       refine one_ (i := 9) (N := none) m10_11 rfl rfl (by kernel_rfl) (by decide) (fun K hK => ?_)
       refine skip_ (w1 := (((w9.setCell ⟨Br, 0, none⟩ (.int .i64 b0)).setCell ⟨Br, 1, none⟩ (.int .i64 b1)).setCell ⟨Br, 2, none⟩ (.int .i64 b2)).setCell ⟨Bo, 0, none⟩ (.slice A9 (xs ++ [(⟨g0, g1, g2⟩ : S41)]).length c9)) (by rfl) rfl ?_ ?_
       ·
        clear hK
        have MO2 := (blk_far (blk_far (blk_far MO.out (p := ⟨Br, 0, none⟩) (Ne.symm (blk_ne MR.out MO.out (by decide))) (.int .i64 b0)) (p := ⟨Br, 1, none⟩) (Ne.symm (blk_ne MR.out MO.out (by decide))) (.int .i64 b1)) (p := ⟨Br, 2, none⟩) (Ne.symm (blk_ne MR.out MO.out (by decide))) (.int .i64 b2))
        have ko0 := (blk_cell MO2 0).trans rfl
        have fo0 := blk_frozen MO2 0
        clear MO2
        generalize ((w9.setCell ⟨Br, 0, none⟩ (.int .i64 b0)).setCell ⟨Br, 1, none⟩ (.int .i64 b1)).setCell ⟨Br, 2, none⟩ (.int .i64 b2) = w5 at ko0 fo0 ⊢
        go_simp
       refine hK.out _ _ ⟨blk_far (blk_far (blk_far (blk_far M9.out (p := ⟨Br, 0, none⟩) (Ne.symm n1) _) (p := ⟨Br, 1, none⟩) (Ne.symm n1) _) (p := ⟨Br, 2, none⟩) (Ne.symm n1) _) (p := ⟨Bo, 0, none⟩) (Ne.symm n3) _, blk_far (blk_far (blk_far (blk_far M7.out (p := ⟨Br, 0, none⟩) n5 _) (p := ⟨Br, 1, none⟩) n5 _) (p := ⟨Br, 2, none⟩) n5 _) (p := ⟨Bo, 0, none⟩) n7 _, blk_far (blk_far (blk_far (blk_far MM.out (p := ⟨Br, 0, none⟩) n4 _) (p := ⟨Br, 1, none⟩) n4 _) (p := ⟨Br, 2, none⟩) n4 _) (p := ⟨Bo, 0, none⟩) n6 _⟩ (fun hq => ?_)
       clear hK K
       have HQ := Aside0.mk hq
       clear hq
       refine last_ (i := 10) (N := none) m11_11 rfl rfl (by kernel_rfl) (by decide) (fun K hK => ?_)
       refine skip_ (w1 := ((((w9.setCell ⟨Br, 0, none⟩ (.int .i64 b0)).setCell ⟨Br, 1, none⟩ (.int .i64 b1)).setCell ⟨Br, 2, none⟩ (.int .i64 b2)).setCell ⟨Bo, 0, none⟩ (.slice A9 (xs ++ [(⟨g0, g1, g2⟩ : S41)]).length c9)).setCell ⟨Bm, 0, none⟩ (.int .i64 (wrap64 (m + b4)))) (by rfl) rfl ?_ ?_
       ·
        clear hK
        have km0 := (blk_cell HQ.out.2.2 0).trans rfl
        have fm0 := blk_frozen HQ.out.2.2 0
        clear HQ
        generalize (((w9.setCell ⟨Br, 0, none⟩ (.int .i64 b0)).setCell ⟨Br, 1, none⟩ (.int .i64 b1)).setCell ⟨Br, 2, none⟩ (.int .i64 b2)).setCell ⟨Bo, 0, none⟩ (.slice A9 (xs ++ [(⟨g0, g1, g2⟩ : S41)]).length c9) = w5 at km0 fm0 ⊢
        go_simp
        (try simp only [i64_w])
       refine hK.out _ _ ?_
       clear hK K
       refine done_ (by kernel_rfl) ?_
       try go_wp2
       ((try simp only [Exit.inBlock, Exit.then]); refine bodyPost_end (results_none rfl _ _ _) rfl ?_)
       exact ⟨_, rfl, Box16.put MR.out MO.out MM.out HS9.out, below_set (below_set (below_set (below_set (below_set HB9.out GR.out) GR.out) GR.out) GO.out) GM.out, fun g c0 c1 c2 hn hg => Box16.far hn (MF.out g c0 c1 c2 hn hg) MO.out MM.out⟩
     ·
      rw [if_neg h4] at h
      exact absurd h (by simp)
   ·
    rw [if_neg h3] at h
    simp only [Option.some.injEq, Prod.mk.injEq] at h
    obtain ⟨rfl, rfl, rfl, rfl, rfl⟩ := h
    have hd : decide (i < (l.length : Int)) = true := by simpa using h1
    have hn : (g3 == 0) = false := by simpa using h3
    have hn2 : (g3 != 0) = true := by simpa using h3
    go_enter Try.func67, Try.ntmps67
    go_wp2_with (first | (go_at_call 40; (with_reducible refine (impl_Get16.calls k _ _ _ g0 g1 g2 g3 _ HI.out HL0.out A1.out).mono ?_); rintro e w1 ⟨v2, rfl, ho, hb⟩; have HB1 := Aside0.mk hb; clear hb; obtain ⟨Ao, co, rfl⟩ := Kd.R_slice ho; clear ho))
    ((try simp only [Exit.inBlock, Exit.then]); refine bodyPost_ret (results_none rfl _ _ _) rfl ?_)
    exact ⟨v, rfl, Box16.below HX.out (below_step HB1.out (below_alloc (Below.refl _ _) _)), below_step HB.out (below_step HB1.out (below_alloc (Below.refl _ _) _)), Far16.below _ (below_step HB1.out (below_alloc (Below.refl _ _) _))⟩
  ·
   rw [if_neg h2] at h
   exact absurd h (by simp)

def impl_Both16.l0 : Nat → List (List Int) → List (List Int) → Int → Int → List S41 → Int → Int → Int → Int → Option (List S41 × Int × Int × Int × Int)
 | 0, _, _, _, _, _, _, _, _, _ => none
 | k + 1, l1, l2, n, i, xs, m, x0, x1, x2 => if i < n then (take16.f k l1 i x0 x1 x2 xs m).bind fun a => (take16.f k l2 i a.1 a.2.1 a.2.2.1 a.2.2.2.1 a.2.2.2.2).bind fun b => impl_Both16.l0 k l1 l2 n (wrap64 (i + 1)) b.2.2.2.1 b.2.2.2.2 b.1 b.2.1 b.2.2.1 else some (xs, m, x0, x1, x2)
def impl_Both16.f (k : Nat) (a0_0 a0_1 a0_2 : Int) (l1 l2 : List (List Int)) : Option (List S41 × Int × Int × Int × Int) :=
 if (l1.length : Int) > 200 then some ([], 0, a0_0, a0_1, a0_2) else if (l2.length : Int) > 200 then some ([], 0, a0_0, a0_1, a0_2) else impl_Both16.l0 k l1 l2 (mx (l1.length : Int) (l2.length : Int)) 0 [] 0 a0_0 a0_1 a0_2
theorem take16.mono (k : Nat) (l : List (List Int)) (i x0 x1 x2 : Int) (xs : List S41) (m : Int) : LeO (take16.f k l i x0 x1 x2 xs m) (take16.f (k + 1) l i x0 x1 x2 xs m) := by
 unfold take16.f
 exact LeO.ite (LeO.refl _) (LeO.ite (LeO.bind (impl_Get16.mono _ _) fun _ => LeO.ite (LeO.bind (impl_Accept.mono _ _ _ _ _ _ _) fun _ => LeO.refl _) (LeO.refl _)) (LeO.refl _))
theorem impl_Both16.mono_l : ∀ k y0 y1 y2 y3 y4 y5 y6 y7 y8, LeO (impl_Both16.l0 k y0 y1 y2 y3 y4 y5 y6 y7 y8) (impl_Both16.l0 (k + 1) y0 y1 y2 y3 y4 y5 y6 y7 y8)
 | 0 => fun _ _ _ _ _ _ _ _ _ r h => by simp [impl_Both16.l0] at h
 | k + 1 => by
  have ih := impl_Both16.mono_l k
  intro y0 y1 y2 y3 y4 y5 y6 y7 y8
  unfold impl_Both16.l0
  exact LeO.ite (LeO.bind (take16.mono _ _ _ _ _ _ _ _) fun _ => LeO.bind (take16.mono _ _ _ _ _ _ _ _) fun _ => ih _ _ _ _ _ _ _ _ _) (LeO.refl _)
theorem impl_Both16.mono : ∀ a0 a1 a2 a3 a4 k, LeO (impl_Both16.f k a0 a1 a2 a3 a4) (impl_Both16.f (k + 1) a0 a1 a2 a3 a4) := by
 intro a0 a1 a2 a3 a4 k
 unfold impl_Both16.f
 exact LeO.ite (LeO.refl _) (LeO.ite (LeO.refl _) (impl_Both16.mono_l _ _ _ _ _ _ _ _ _ _))
theorem results_ttc {P : Program} {fn : Func} {p u v : Tmp} {ty : TypeId} (h : fn.results = #[.tmp u, .tmp v, .cell p ty]) (tmps : Array Value) (w : World) (g : Nat) (t : TypeId) (cs : Array Value) (fr : Nat × Nat) (d : TypeDesc)
  (hp : tmps.getD p undef = .pointer (some ⟨g, 0, none⟩)) (hg : w.heap[g]? = some (.cells cs t fr))
  (hu : P.underlying ty = some d) (hd : (match d with | .struct _ | .array _ _ => true | _ => false) = true) (hi : (P.info? ty).map (·.size) = some cs.size) :
  (results fn tmps).run P w = .ok (.tuple #[tmps.getD u undef, tmps.getD v undef, .agg cs]) w := by
 have hp' : tmps[p]?.getD undef = .pointer (some ⟨g, 0, none⟩) := by simpa using hp
 simp [results, h, hp', asAddr, run_loadVar_row w g t ty cs fr d hg hu hd hi]
theorem at16 {W : World} {g : Nat} (o : Obj) (h : W.heap.size = g) : (W.alloc o).heap[g]? = some o := by rw [← h]; exact blk_new W o
theorem S_empty16 {W : World} {base g : Nat} (hb : base ≤ g) (h : W.heap[g]? = some (.cells #[] 41 (0, 0))) : Kd.S k41 41 W base (fun _ => True) (.slice (some ⟨g, 0, none⟩) 0 0) [] :=
 ⟨fun _ => 0, fun _ _ => trivial, [], ⟨rfl, .inr ⟨g, 0, #[], rfl, hb, h, Nat.le_refl _, Nat.zero_le _, rfl, rfl⟩⟩, Reps.none _ _⟩
set_option maxHeartbeats 8000000 in
set_option maxRecDepth 100000 in
theorem impl_Both16.calls (k : Nat) (a0_0 a0_1 a0_2 : Int) (A1 : Option Addr) (c1 : Nat) (l1 : List (List Int)) (A2 : Option Addr) (c2 : Nat) (l2 : List (List Int)) (r1 : List S41) (r2 r3 r4 r5 : Int) (w : World) (hr1 : Kd.C (Kd.slice 5 (Kd.int .u8)) w A1 l1.length l1) (hc1 : l1.length ≤ c1) (hr2 : Kd.C (Kd.slice 5 (Kd.int .u8)) w A2 l2.length l2) (hc2 : l2.length ≤ c2) (h : impl_Both16.f k a0_0 a0_1 a0_2 l1 l2 = some (r1, r2, r3, r4, r5)) :
  Calls Try.prog 31 #[.agg #[.int .i64 a0_0, .int .i64 a0_1, .int .i64 a0_2], .slice A1 l1.length c1, .slice A2 l2.length c2] w fun e w' => ∃ v0_ : Value, e = .returned (.tuple #[v0_, .int .i64 r2, .agg #[.int .i64 r3, .int .i64 r4, .int .i64 r5]]) ∧ Kd.S k41 41 w' w.heap.size (fun _ => True) v0_ r1 ∧ Below w.heap.size w w' := by
 have hu25 := Try.underlying25
 have HR1 := Aside0.mk hr1
 have HR2 := Aside0.mk hr2
 have HC1 := Aside0.mk hc1
 have HC2 := Aside0.mk hc2
 clear hr1 hr2 hc1 hc2
 have hbad : (some (([] : List S41), (0 : Int), a0_0, a0_1, a0_2) = some (r1, r2, r3, r4, r5)) → (decide ((l1.length : Int) > 200) = true ∨ (decide ((l1.length : Int) > 200) = false ∧ decide ((l2.length : Int) > 200) = true)) →
   Calls Try.prog 31 #[.agg #[.int .i64 a0_0, .int .i64 a0_1, .int .i64 a0_2], .slice A1 l1.length c1, .slice A2 l2.length c2] w fun e w' => ∃ v0_ : Value, e = .returned (.tuple #[v0_, .int .i64 r2, .agg #[.int .i64 r3, .int .i64 r4, .int .i64 r5]]) ∧ Kd.S k41 41 w' w.heap.size (fun _ => True) v0_ r1 ∧ Below w.heap.size w w' := by
  intro he hor
  simp only [Option.some.injEq, Prod.mk.injEq] at he
  obtain ⟨rfl, rfl, rfl, rfl, rfl⟩ := he
  have b1 := Aside0.mk (blk_alloc (blk_new w (.cells #[.int .i64 a0_0, .int .i64 a0_1, .int .i64 a0_2] 25)) (.cells #[.int .i64 0, .int .i64 0, .int .i64 0] 25))
  have b2 := Aside0.mk (show ((w.alloc (.cells #[.int .i64 a0_0, .int .i64 a0_1, .int .i64 a0_2] 25)).alloc (.cells #[.int .i64 0, .int .i64 0, .int .i64 0] 25)).heap[w.heap.size + 1]? = some (.cells #[.int .i64 0, .int .i64 0, .int .i64 0] 25 (0, 0)) from by have := blk_new (w.alloc (.cells #[.int .i64 a0_0, .int .i64 a0_1, .int .i64 a0_2] 25)) (.cells #[.int .i64 0, .int .i64 0, .int .i64 0] 25); simpa using this)
  have hB := Aside0.mk (below_alloc (below_alloc (Below.refl w.heap.size w) (.cells #[.int .i64 a0_0, .int .i64 a0_1, .int .i64 a0_2] 25)) (.cells #[.int .i64 0, .int .i64 0, .int .i64 0] 25))
  rcases hor with h1 | ⟨h1, h2⟩
  all_goals
   go_enter Try.func31, Try.ntmps31
   go_wp2
   refine start_ (n := 4) (S := fun w' => w'.heap[w.heap.size]? = some (.cells #[.int .i64 a0_0, .int .i64 a0_1, .int .i64 a0_2] 25 (0, 0))) (ds := [3]) m0_4 (by kernel_rfl) rfl rfl b1.out (fun hHeld => ?_)
   have hH := Aside0.mk hHeld
   have b3 := Aside0.mk (show (((w.alloc (.cells #[.int .i64 a0_0, .int .i64 a0_1, .int .i64 a0_2] 25)).alloc (.cells #[.int .i64 0, .int .i64 0, .int .i64 0] 25)).drew).heap[w.heap.size + 1]? = some (.cells #[.int .i64 0, .int .i64 0, .int .i64 0] 25 (0, 0)) from b2.out)
   have hB1 := Aside0.mk (below_drew hB.out)
   clear hHeld b1 b2 hB
   generalize ((w.alloc (.cells #[.int .i64 a0_0, .int .i64 a0_1, .int .i64 a0_2] 25)).alloc (.cells #[.int .i64 0, .int .i64 0, .int .i64 0] 25)).drew = w4 at hH b3 hB1 ⊢
   refine take_ (i := 0) (N := some 21) (v := ?_) (a' := ?_) m1_4 rfl rfl (by kernel_rfl) (fun _ _ _ h => h) (Or.inl ⟨by rfl, ?_⟩) hH.out ?_ ?_
   rotate_left
   ·
    rintro w' s0
    obtain ⟨q0, q1, q2⟩ := Box16.cell9 s0
    clear s0
    go_simp
    with_reducible rfl
   rotate_left
   ·
    simp only [Act.put, List.setIfInBounds_toArray, List.set_cons_zero, List.set_cons_succ]; rfl
   refine pure_ (i := 1) (N := some 6) (v := ?_) (a' := ?_) m2_4 rfl rfl (by kernel_rfl) (fun _ _ _ h => h) (Or.inl ⟨by rfl, ?_⟩) ?_ ?_
   rotate_left
   ·
    intro w'; go_simp; with_reducible rfl
   rotate_left
   ·
    simp only [Act.put, List.setIfInBounds_toArray, List.set_cons_zero, List.set_cons_succ]; rfl
   refine pure_ (i := 2) (N := some 7) (v := ?_) (a' := ?_) m3_4 rfl rfl (by kernel_rfl) (fun _ _ _ h => h) (Or.inl ⟨by rfl, ?_⟩) ?_ ?_
   rotate_left
   ·
    intro w'; go_simp; with_reducible rfl
   rotate_left
   ·
    simp only [Act.put, List.setIfInBounds_toArray, List.set_cons_zero, List.set_cons_succ]; rfl
   refine last_ (i := 3) (N := none) m4_4 rfl rfl (by kernel_rfl) (by decide) (fun K hK => ?_)
   refine skip_ (w1 := ((w4.setCell ⟨w.heap.size + 1, 0, none⟩ (.int .i64 a0_0)).setCell ⟨w.heap.size + 1, 1, none⟩ (.int .i64 a0_1)).setCell ⟨w.heap.size + 1, 2, none⟩ (.int .i64 a0_2)) (by rfl) rfl ?_ ?_
   ·
    clear hK
    obtain ⟨kr0, kr1, kr2⟩ := Box16.cell9 b3.out
    have fr0 := blk_frozen b3.out 0
    have fr1 := blk_frozen b3.out 1
    have fr2 := blk_frozen b3.out 2
    go_simp
   refine hK.out _ _ ?_
   clear hK K
   refine done_ (by kernel_rfl) ?_
   try go_wp2
   (try simp only [Exit.inBlock, Exit.then])
   refine bodyPost_ret (results_ttc rfl _ _ (w.heap.size + 1) 25 #[.int .i64 a0_0, .int .i64 a0_1, .int .i64 a0_2] (0, 0) _ rfl (blk_set (blk_set (blk_set b3.out 0 _) 1 _) 2 _) Try.underlying25 rfl (by kernel_rfl)) rfl ?_
   exact ⟨_, rfl, Kd.S_nil _ _ _ _ _, below_set (below_set (below_set hB1.out (Nat.le_succ _)) (Nat.le_succ _)) (Nat.le_succ _)⟩
 unfold impl_Both16.f at h
 by_cases h1 : (l1.length : Int) > 200
 ·
  rw [if_pos h1] at h
  exact hbad h (.inl (decide_eq_true h1))
 ·
  rw [if_neg h1] at h
  by_cases h2 : (l2.length : Int) > 200
  ·
   rw [if_pos h2] at h
   exact hbad h (.inr ⟨decide_eq_false h1, decide_eq_true h2⟩)
  ·
   rw [if_neg h2] at h
   clear hbad
   obtain ⟨n, hn⟩ : ∃ n : Int, n = mx (l1.length : Int) (l2.length : Int) := ⟨_, rfl⟩
   rw [← hn] at h
   have H := Aside0.mk h
   clear h
   have hmf : ∀ (fn : Fn) (first cap : Array Value) (w : World), (Instr.makeFunc fn first cap).run Try.prog w = .ok (.func fn first cap) w := fun _ _ _ _ => rfl
   rcases Int.lt_or_le (l1.length : Int) (l2.length : Int) with hlt | hlt
   ·
    have HM := Aside0.mk (show (l2.length : Int) = n by unfold mx at hn; rw [if_pos hlt] at hn; exact hn.symm)
    clear hn
    go_enter Try.func31, Try.ntmps31
    have hBox : Box16 w.heap.size w.heap.size (w.heap.size + 1 + 1 + 1) (w.heap.size + 1 + 1 + 1 + 1) a0_0 a0_1 a0_2 (.slice (some ⟨w.heap.size + 1 + 1, 0, none⟩) 0 0) [] 0 (((((w.alloc (.cells #[.int .i64 a0_0, .int .i64 a0_1, .int .i64 a0_2] 25)).alloc (.cells #[.int .i64 0, .int .i64 0, .int .i64 0] 25)).alloc (.cells #[] 41)).alloc (.cells #[.slice (some ⟨w.heap.size + 1 + 1, 0, none⟩) 0 0] 45)).alloc (.cells #[.int .i64 0] 3)) := by
     refine ⟨blk_alloc (blk_alloc (blk_alloc (blk_alloc (blk_new w _) _) _) _) _, ?_, ?_, S_empty16 (Nat.le_trans (Nat.le_succ _) (Nat.le_succ _)) ?_⟩
     ·
      refine blk_alloc (at16 _ (by simp)) _
     ·
      exact at16 _ (by simp)
     ·
      refine blk_alloc (blk_alloc (at16 _ (by simp)) _) _
    have hR8 : ((((((w.alloc (.cells #[.int .i64 a0_0, .int .i64 a0_1, .int .i64 a0_2] 25)).alloc (.cells #[.int .i64 0, .int .i64 0, .int .i64 0] 25)).alloc (.cells #[] 41)).alloc (.cells #[.slice (some ⟨w.heap.size + 1 + 1, 0, none⟩) 0 0] 45)).alloc (.cells #[.int .i64 0] 3))).heap[w.heap.size + 1]? = some (.cells #[.int .i64 0, .int .i64 0, .int .i64 0] 25 (0, 0)) := by
     refine blk_alloc (blk_alloc (blk_alloc (at16 _ (by simp)) _) _) _
    have hBW : Below w.heap.size w (((((w.alloc (.cells #[.int .i64 a0_0, .int .i64 a0_1, .int .i64 a0_2] 25)).alloc (.cells #[.int .i64 0, .int .i64 0, .int .i64 0] 25)).alloc (.cells #[] 41)).alloc (.cells #[.slice (some ⟨w.heap.size + 1 + 1, 0, none⟩) 0 0] 45)).alloc (.cells #[.int .i64 0] 3)) := below_alloc (below_alloc (below_alloc (below_alloc (below_alloc (Below.refl _ _) _) _) _) _) _
    have HBX := Aside0.mk hBox
    have HR8 := Aside0.mk hR8
    have HBW := Aside0.mk hBW
    clear hBox hR8 hBW
    go_wp2
    generalize (((((w.alloc (.cells #[.int .i64 a0_0, .int .i64 a0_1, .int .i64 a0_2] 25)).alloc (.cells #[.int .i64 0, .int .i64 0, .int .i64 0] 25)).alloc (.cells #[] 41)).alloc (.cells #[.slice (some ⟨w.heap.size + 1 + 1, 0, none⟩) 0 0] 45)).alloc (.cells #[.int .i64 0] 3)) = wa at HBX HR8 HBW ⊢
    generalize hgm : w.heap.size + 1 + 1 + 1 + 1 = Gm_ at HBX ⊢
    generalize hgo : w.heap.size + 1 + 1 + 1 = Go_ at HBX ⊢
    generalize hg8 : w.heap.size + 1 = G8_ at HR8 ⊢
    have HLE := Aside0.mk (show w.heap.size ≤ Go_ ∧ w.heap.size ≤ Gm_ ∧ w.heap.size ≤ G8_ ∧ G8_ ≠ w.heap.size by omega)
    clear hgo hgm hg8
    have hm := HM.out
    rw [hm]
    clear hm
    go_loopg [29] k (fun kq v29 w' => ∃ (i x0 x1 x2 m : Int) (v : Value) (xs : List S41), v29 = .int .i64 i ∧ Aside0 (impl_Both16.l0 kq l1 l2 n i xs m x0 x1 x2 = some (r1, r2, r3, r4, r5)) ∧ Aside0 (kq ≤ k) ∧ Aside0 (Box16 w.heap.size w.heap.size Go_ Gm_ x0 x1 x2 v xs m w') ∧ Aside0 (w'.heap[G8_]? = some (.cells #[.int .i64 0, .int .i64 0, .int .i64 0] 25 (0, 0))) ∧ Aside0 (Below w.heap.size w w'))
    case atStart => exact ⟨0, a0_0, a0_1, a0_2, 0, _, [], rfl, H, ⟨Nat.le_refl _⟩, HBX, HR8, HBW⟩
    case round =>
     clear H HBX HR8 HBW
     obtain ⟨i, x0, x1, x2, m, v, xs, rfl, HA, HK1, HBX, HR8, HBW⟩ := hrel
     cases gk with
     | zero => exact absurd HA.out (by simp [impl_Both16.l0])
     | succ k1 =>
      have H := HA.out
      clear HA
      simp only [impl_Both16.l0] at H
      by_cases c1_ : i < n
      ·
       rw [if_pos c1_] at H
       obtain ⟨⟨p0, p1, p2, p3, p4⟩, A10, H⟩ := Option.bind_eq_some_iff.mp H
       obtain ⟨⟨q0, q1, q2, q3, q4⟩, A20, H⟩ := Option.bind_eq_some_iff.mp H
       have A1_ := Aside0.mk A10
       have A2_ := Aside0.mk A20
       have H' := Aside0.mk H
       clear A10 A20 H
       go_wp2_with (first
        | (go_at_call 67; (with_reducible refine (take16.calls k1 _ _ l1 i x0 x1 x2 v xs m p0 p1 p2 p3 p4 w.heap.size Go_ Gm_ w _ HR1.out HC1.out HBW.out HBX.out (Nat.le_refl _) HLE.out.1 HLE.out.2.1 A1_.out).mono ?_); rintro e w2 ⟨v2, rfl, hx, hb, hf⟩; have HBX2 := Aside0.mk hx; have HBW2 := Aside0.mk hb; have HR82 := Aside0.mk (hf G8_ _ _ _ HLE.out.2.2.2 HR8.out); clear hx hb hf)
        | (go_at_call 67; (with_reducible refine (take16.calls k1 _ _ l2 i p0 p1 p2 v2 p3 p4 q0 q1 q2 q3 q4 w.heap.size Go_ Gm_ w _ HR2.out HC2.out HBW2.out HBX2.out (Nat.le_refl _) HLE.out.1 HLE.out.2.1 A2_.out).mono ?_); rintro e w3 ⟨v3, rfl, hx, hb, hf⟩; have HBX3 := Aside0.mk hx; have HBW3 := Aside0.mk hb; have HR83 := Aside0.mk (hf G8_ _ _ _ HLE.out.2.2.2 HR82.out); clear hx hb hf))
       go_roundg k1
       case measure => have := HK1.out; omega
       case rel => exact ⟨wrap64 (i + 1), q0, q1, q2, q4, v3, q3, rfl, H', ⟨by have := HK1.out; omega⟩, HBX3, HR83, HBW3⟩
      ·
       rw [if_neg c1_] at H
       simp only [Option.some.injEq, Prod.mk.injEq] at H
       obtain ⟨rfl, rfl, rfl, rfl, rfl⟩ := H
       go_wp2
       obtain ⟨Av, cv, rfl⟩ := Kd.S_slice HBX.out.2.2.2
       refine start_ (n := 6) (S := fun w' => w'.heap[w.heap.size]? = some (.cells #[.int .i64 x0, .int .i64 x1, .int .i64 x2] 25 (0, 0)) ∧ w'.heap[Go_]? = some (.cells #[.slice Av xs.length cv] 45 (0, 0)) ∧ w'.heap[Gm_]? = some (.cells #[.int .i64 m] 3 (0, 0))) (ds := [5]) m0_6 (by kernel_rfl) rfl rfl ⟨HBX.out.1, HBX.out.2.1, HBX.out.2.2.1⟩ (fun hHeld => ?_)
       have hH := Aside0.mk hHeld
       have b3 := Aside0.mk (show wr.drew.heap[G8_]? = some (.cells #[.int .i64 0, .int .i64 0, .int .i64 0] 25 (0, 0)) from HR8.out)
       have hB1 := Aside0.mk (below_drew HBW.out)
       have HSS := Aside0.mk (Kd.S_drew HBX.out.2.2.2)
       clear hHeld HR8 HBW HBX
       generalize wr.drew = w4 at hH b3 hB1 HSS ⊢
       refine take_ (i := 0) (N := some 41) (v := ?_) (a' := ?_) m1_6 rfl rfl (by kernel_rfl) (fun _ _ _ h => h) (Or.inl ⟨by rfl, ?_⟩) hH.out ?_ ?_
       rotate_left
       ·
        rintro w' ⟨s0, s1, s2⟩
        have k0 : w'.cell? ⟨Go_, 0, none⟩ = some (.slice Av xs.length cv) := (blk_cell s1 0).trans rfl
        clear s0 s1 s2
        go_simp
        with_reducible rfl
       rotate_left
       ·
        simp only [Act.put, List.setIfInBounds_toArray, List.set_cons_zero, List.set_cons_succ]; rfl
       refine take_ (i := 1) (N := some 42) (v := ?_) (a' := ?_) m2_6 rfl rfl (by kernel_rfl) (fun _ _ _ h => h) (Or.inl ⟨by rfl, ?_⟩) hH.out ?_ ?_
       rotate_left
       ·
        rintro w' ⟨s0, s1, s2⟩
        have k0 : w'.cell? ⟨Gm_, 0, none⟩ = some (.int .i64 m) := (blk_cell s2 0).trans rfl
        clear s0 s1 s2
        go_simp
        with_reducible rfl
       rotate_left
       ·
        simp only [Act.put, List.setIfInBounds_toArray, List.set_cons_zero, List.set_cons_succ]; rfl
       refine take_ (i := 2) (N := some 43) (v := ?_) (a' := ?_) m3_6 rfl rfl (by kernel_rfl) (fun _ _ _ h => h) (Or.inl ⟨by rfl, ?_⟩) hH.out ?_ ?_
       rotate_left
       ·
        rintro w' ⟨s0, s1, s2⟩
        obtain ⟨t0, t1, t2⟩ := Box16.cell9 s0
        clear s0 s1 s2
        go_simp
        with_reducible rfl
       rotate_left
       ·
        simp only [Act.put, List.setIfInBounds_toArray, List.set_cons_zero, List.set_cons_succ]; rfl
       refine pure_ (i := 3) (N := some 6) (v := ?_) (a' := ?_) m4_6 rfl rfl (by kernel_rfl) (fun _ _ _ h => h) (Or.inl ⟨by rfl, ?_⟩) ?_ ?_
       rotate_left
       ·
        intro w'; go_simp; with_reducible rfl
       rotate_left
       ·
        simp only [Act.put, List.setIfInBounds_toArray, List.set_cons_zero, List.set_cons_succ]; rfl
       refine pure_ (i := 4) (N := some 7) (v := ?_) (a' := ?_) m5_6 rfl rfl (by kernel_rfl) (fun _ _ _ h => h) (Or.inl ⟨by rfl, ?_⟩) ?_ ?_
       rotate_left
       ·
        intro w'; go_simp; with_reducible rfl
       rotate_left
       ·
        simp only [Act.put, List.setIfInBounds_toArray, List.set_cons_zero, List.set_cons_succ]; rfl
       refine last_ (i := 5) (N := none) m6_6 rfl rfl (by kernel_rfl) (by decide) (fun K hK => ?_)
       refine skip_ (w1 := ((w4.setCell ⟨G8_, 0, none⟩ (.int .i64 x0)).setCell ⟨G8_, 1, none⟩ (.int .i64 x1)).setCell ⟨G8_, 2, none⟩ (.int .i64 x2)) (by rfl) rfl ?_ ?_
       ·
        clear hK
        obtain ⟨kr0, kr1, kr2⟩ := Box16.cell9 b3.out
        have fr0 := blk_frozen b3.out 0
        have fr1 := blk_frozen b3.out 1
        have fr2 := blk_frozen b3.out 2
        go_simp
       refine hK.out _ _ ?_
       clear hK K
       refine done_ (by kernel_rfl) ?_
       try go_wp2
       (try simp only [Exit.inBlock, Exit.then])
       refine bodyPost_ret (results_ttc rfl _ _ G8_ 25 #[.int .i64 x0, .int .i64 x1, .int .i64 x2] (0, 0) _ rfl (blk_set (blk_set (blk_set b3.out 0 _) 1 _) 2 _) Try.underlying25 rfl (by kernel_rfl)) rfl ?_
       exact ⟨_, rfl, Kd.S_set (Kd.S_set (Kd.S_set HSS.out b3.out (by decide) 0 _) (blk_set b3.out 0 _) (by decide) 1 _) (blk_set (blk_set b3.out 0 _) 1 _) (by decide) 2 _, below_set (below_set (below_set hB1.out HLE.out.2.2.1) HLE.out.2.2.1) HLE.out.2.2.1⟩
   ·
    have HM := Aside0.mk (show (l1.length : Int) = n by unfold mx at hn; rw [if_neg (by omega)] at hn; exact hn.symm)
    clear hn
    go_enter Try.func31, Try.ntmps31
    have hBox : Box16 w.heap.size w.heap.size (w.heap.size + 1 + 1 + 1) (w.heap.size + 1 + 1 + 1 + 1) a0_0 a0_1 a0_2 (.slice (some ⟨w.heap.size + 1 + 1, 0, none⟩) 0 0) [] 0 (((((w.alloc (.cells #[.int .i64 a0_0, .int .i64 a0_1, .int .i64 a0_2] 25)).alloc (.cells #[.int .i64 0, .int .i64 0, .int .i64 0] 25)).alloc (.cells #[] 41)).alloc (.cells #[.slice (some ⟨w.heap.size + 1 + 1, 0, none⟩) 0 0] 45)).alloc (.cells #[.int .i64 0] 3)) := by
     refine ⟨blk_alloc (blk_alloc (blk_alloc (blk_alloc (blk_new w _) _) _) _) _, ?_, ?_, S_empty16 (Nat.le_trans (Nat.le_succ _) (Nat.le_succ _)) ?_⟩
     ·
      refine blk_alloc (at16 _ (by simp)) _
     ·
      exact at16 _ (by simp)
     ·
      refine blk_alloc (blk_alloc (at16 _ (by simp)) _) _
    have hR8 : ((((((w.alloc (.cells #[.int .i64 a0_0, .int .i64 a0_1, .int .i64 a0_2] 25)).alloc (.cells #[.int .i64 0, .int .i64 0, .int .i64 0] 25)).alloc (.cells #[] 41)).alloc (.cells #[.slice (some ⟨w.heap.size + 1 + 1, 0, none⟩) 0 0] 45)).alloc (.cells #[.int .i64 0] 3))).heap[w.heap.size + 1]? = some (.cells #[.int .i64 0, .int .i64 0, .int .i64 0] 25 (0, 0)) := by
     refine blk_alloc (blk_alloc (blk_alloc (at16 _ (by simp)) _) _) _
    have hBW : Below w.heap.size w (((((w.alloc (.cells #[.int .i64 a0_0, .int .i64 a0_1, .int .i64 a0_2] 25)).alloc (.cells #[.int .i64 0, .int .i64 0, .int .i64 0] 25)).alloc (.cells #[] 41)).alloc (.cells #[.slice (some ⟨w.heap.size + 1 + 1, 0, none⟩) 0 0] 45)).alloc (.cells #[.int .i64 0] 3)) := below_alloc (below_alloc (below_alloc (below_alloc (below_alloc (Below.refl _ _) _) _) _) _) _
    have HBX := Aside0.mk hBox
    have HR8 := Aside0.mk hR8
    have HBW := Aside0.mk hBW
    clear hBox hR8 hBW
    go_wp2
    generalize (((((w.alloc (.cells #[.int .i64 a0_0, .int .i64 a0_1, .int .i64 a0_2] 25)).alloc (.cells #[.int .i64 0, .int .i64 0, .int .i64 0] 25)).alloc (.cells #[] 41)).alloc (.cells #[.slice (some ⟨w.heap.size + 1 + 1, 0, none⟩) 0 0] 45)).alloc (.cells #[.int .i64 0] 3)) = wa at HBX HR8 HBW ⊢
    generalize hgm : w.heap.size + 1 + 1 + 1 + 1 = Gm_ at HBX ⊢
    generalize hgo : w.heap.size + 1 + 1 + 1 = Go_ at HBX ⊢
    generalize hg8 : w.heap.size + 1 = G8_ at HR8 ⊢
    have HLE := Aside0.mk (show w.heap.size ≤ Go_ ∧ w.heap.size ≤ Gm_ ∧ w.heap.size ≤ G8_ ∧ G8_ ≠ w.heap.size by omega)
    clear hgo hgm hg8
    have hm := HM.out
    rw [hm]
    clear hm
    go_loopg [29] k (fun kq v29 w' => ∃ (i x0 x1 x2 m : Int) (v : Value) (xs : List S41), v29 = .int .i64 i ∧ Aside0 (impl_Both16.l0 kq l1 l2 n i xs m x0 x1 x2 = some (r1, r2, r3, r4, r5)) ∧ Aside0 (kq ≤ k) ∧ Aside0 (Box16 w.heap.size w.heap.size Go_ Gm_ x0 x1 x2 v xs m w') ∧ Aside0 (w'.heap[G8_]? = some (.cells #[.int .i64 0, .int .i64 0, .int .i64 0] 25 (0, 0))) ∧ Aside0 (Below w.heap.size w w'))
    case atStart => exact ⟨0, a0_0, a0_1, a0_2, 0, _, [], rfl, H, ⟨Nat.le_refl _⟩, HBX, HR8, HBW⟩
    case round =>
     clear H HBX HR8 HBW
     obtain ⟨i, x0, x1, x2, m, v, xs, rfl, HA, HK1, HBX, HR8, HBW⟩ := hrel
     cases gk with
     | zero => exact absurd HA.out (by simp [impl_Both16.l0])
     | succ k1 =>
      have H := HA.out
      clear HA
      simp only [impl_Both16.l0] at H
      by_cases c1_ : i < n
      ·
       rw [if_pos c1_] at H
       obtain ⟨⟨p0, p1, p2, p3, p4⟩, A10, H⟩ := Option.bind_eq_some_iff.mp H
       obtain ⟨⟨q0, q1, q2, q3, q4⟩, A20, H⟩ := Option.bind_eq_some_iff.mp H
       have A1_ := Aside0.mk A10
       have A2_ := Aside0.mk A20
       have H' := Aside0.mk H
       clear A10 A20 H
       go_wp2_with (first
        | (go_at_call 67; (with_reducible refine (take16.calls k1 _ _ l1 i x0 x1 x2 v xs m p0 p1 p2 p3 p4 w.heap.size Go_ Gm_ w _ HR1.out HC1.out HBW.out HBX.out (Nat.le_refl _) HLE.out.1 HLE.out.2.1 A1_.out).mono ?_); rintro e w2 ⟨v2, rfl, hx, hb, hf⟩; have HBX2 := Aside0.mk hx; have HBW2 := Aside0.mk hb; have HR82 := Aside0.mk (hf G8_ _ _ _ HLE.out.2.2.2 HR8.out); clear hx hb hf)
        | (go_at_call 67; (with_reducible refine (take16.calls k1 _ _ l2 i p0 p1 p2 v2 p3 p4 q0 q1 q2 q3 q4 w.heap.size Go_ Gm_ w _ HR2.out HC2.out HBW2.out HBX2.out (Nat.le_refl _) HLE.out.1 HLE.out.2.1 A2_.out).mono ?_); rintro e w3 ⟨v3, rfl, hx, hb, hf⟩; have HBX3 := Aside0.mk hx; have HBW3 := Aside0.mk hb; have HR83 := Aside0.mk (hf G8_ _ _ _ HLE.out.2.2.2 HR82.out); clear hx hb hf))
       go_roundg k1
       case measure => have := HK1.out; omega
       case rel => exact ⟨wrap64 (i + 1), q0, q1, q2, q4, v3, q3, rfl, H', ⟨by have := HK1.out; omega⟩, HBX3, HR83, HBW3⟩
      ·
       rw [if_neg c1_] at H
       simp only [Option.some.injEq, Prod.mk.injEq] at H
       obtain ⟨rfl, rfl, rfl, rfl, rfl⟩ := H
       go_wp2
       obtain ⟨Av, cv, rfl⟩ := Kd.S_slice HBX.out.2.2.2
       refine start_ (n := 6) (S := fun w' => w'.heap[w.heap.size]? = some (.cells #[.int .i64 x0, .int .i64 x1, .int .i64 x2] 25 (0, 0)) ∧ w'.heap[Go_]? = some (.cells #[.slice Av xs.length cv] 45 (0, 0)) ∧ w'.heap[Gm_]? = some (.cells #[.int .i64 m] 3 (0, 0))) (ds := [5]) m0_6 (by kernel_rfl) rfl rfl ⟨HBX.out.1, HBX.out.2.1, HBX.out.2.2.1⟩ (fun hHeld => ?_)
       have hH := Aside0.mk hHeld
       have b3 := Aside0.mk (show wr.drew.heap[G8_]? = some (.cells #[.int .i64 0, .int .i64 0, .int .i64 0] 25 (0, 0)) from HR8.out)
       have hB1 := Aside0.mk (below_drew HBW.out)
       have HSS := Aside0.mk (Kd.S_drew HBX.out.2.2.2)
       clear hHeld HR8 HBW HBX
       generalize wr.drew = w4 at hH b3 hB1 HSS ⊢
       refine take_ (i := 0) (N := some 41) (v := ?_) (a' := ?_) m1_6 rfl rfl (by kernel_rfl) (fun _ _ _ h => h) (Or.inl ⟨by rfl, ?_⟩) hH.out ?_ ?_
       rotate_left
       ·
        rintro w' ⟨s0, s1, s2⟩
        have k0 : w'.cell? ⟨Go_, 0, none⟩ = some (.slice Av xs.length cv) := (blk_cell s1 0).trans rfl
        clear s0 s1 s2
        go_simp
        with_reducible rfl
       rotate_left
       ·
        simp only [Act.put, List.setIfInBounds_toArray, List.set_cons_zero, List.set_cons_succ]; rfl
       refine take_ (i := 1) (N := some 42) (v := ?_) (a' := ?_) m2_6 rfl rfl (by kernel_rfl) (fun _ _ _ h => h) (Or.inl ⟨by rfl, ?_⟩) hH.out ?_ ?_
       rotate_left
       ·
        rintro w' ⟨s0, s1, s2⟩
        have k0 : w'.cell? ⟨Gm_, 0, none⟩ = some (.int .i64 m) := (blk_cell s2 0).trans rfl
        clear s0 s1 s2
        go_simp
        with_reducible rfl
       rotate_left
       ·
        simp only [Act.put, List.setIfInBounds_toArray, List.set_cons_zero, List.set_cons_succ]; rfl
       refine take_ (i := 2) (N := some 43) (v := ?_) (a' := ?_) m3_6 rfl rfl (by kernel_rfl) (fun _ _ _ h => h) (Or.inl ⟨by rfl, ?_⟩) hH.out ?_ ?_
       rotate_left
       ·
        rintro w' ⟨s0, s1, s2⟩
        obtain ⟨t0, t1, t2⟩ := Box16.cell9 s0
        clear s0 s1 s2
        go_simp
        with_reducible rfl
       rotate_left
       ·
        simp only [Act.put, List.setIfInBounds_toArray, List.set_cons_zero, List.set_cons_succ]; rfl
       refine pure_ (i := 3) (N := some 6) (v := ?_) (a' := ?_) m4_6 rfl rfl (by kernel_rfl) (fun _ _ _ h => h) (Or.inl ⟨by rfl, ?_⟩) ?_ ?_
       rotate_left
       ·
        intro w'; go_simp; with_reducible rfl
       rotate_left
       ·
        simp only [Act.put, List.setIfInBounds_toArray, List.set_cons_zero, List.set_cons_succ]; rfl
       refine pure_ (i := 4) (N := some 7) (v := ?_) (a' := ?_) m5_6 rfl rfl (by kernel_rfl) (fun _ _ _ h => h) (Or.inl ⟨by rfl, ?_⟩) ?_ ?_
       rotate_left
       ·
        intro w'; go_simp; with_reducible rfl
       rotate_left
       ·
        simp only [Act.put, List.setIfInBounds_toArray, List.set_cons_zero, List.set_cons_succ]; rfl
       refine last_ (i := 5) (N := none) m6_6 rfl rfl (by kernel_rfl) (by decide) (fun K hK => ?_)
       refine skip_ (w1 := ((w4.setCell ⟨G8_, 0, none⟩ (.int .i64 x0)).setCell ⟨G8_, 1, none⟩ (.int .i64 x1)).setCell ⟨G8_, 2, none⟩ (.int .i64 x2)) (by rfl) rfl ?_ ?_
       ·
        clear hK
        obtain ⟨kr0, kr1, kr2⟩ := Box16.cell9 b3.out
        have fr0 := blk_frozen b3.out 0
        have fr1 := blk_frozen b3.out 1
        have fr2 := blk_frozen b3.out 2
        go_simp
       refine hK.out _ _ ?_
       clear hK K
       refine done_ (by kernel_rfl) ?_
       try go_wp2
       (try simp only [Exit.inBlock, Exit.then])
       refine bodyPost_ret (results_ttc rfl _ _ G8_ 25 #[.int .i64 x0, .int .i64 x1, .int .i64 x2] (0, 0) _ rfl (blk_set (blk_set (blk_set b3.out 0 _) 1 _) 2 _) Try.underlying25 rfl (by kernel_rfl)) rfl ?_
       exact ⟨_, rfl, Kd.S_set (Kd.S_set (Kd.S_set HSS.out b3.out (by decide) 0 _) (blk_set b3.out 0 _) (by decide) 1 _) (blk_set (blk_set b3.out 0 _) 1 _) (by decide) 2 _, below_set (below_set (below_set hB1.out HLE.out.2.2.1) HLE.out.2.2.1) HLE.out.2.2.1⟩

end Go.Proofs.Ytcdniegjefejcaa.PFnExactBoth16
