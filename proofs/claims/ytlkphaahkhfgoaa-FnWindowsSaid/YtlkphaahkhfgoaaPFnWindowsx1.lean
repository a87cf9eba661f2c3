-- Written by a program of this session (wip/xprint.py) out of the translation; Lean checks it.
import Derived.Test.YtlkphaahkhfgoaaPFnWindowsx0
namespace Go.Proofs.Ytlkphaahkhfgoaa.PFnWindows
open Go.RowKit Go.Proofs.YtlkphaahkhfgoaaW.PrintWords Go.Proofs.YtlkphaahkhfgoaaW.PrintLast Go.Proofs.YtlkphaahkhfgoaaW.PrintMore Go.Proofs.Ytlkphaahkhfgoaa.Sq
attribute [local go_sem] max2_int min2_int max_two min_two max_three min_three max_four min_four   -- for this text's walks alone
set_option linter.unusedVariables false
set_option linter.unusedSimpArgs false

/-! ### impl_in: function 38 -/
def impl_in.f (a0 : Int) (a1 : Int) (a2 : Int) : Option (Bool) := if a0 ≥ a1 then (some (decide (a0 ≤ a2))) else (some false)
set_option maxHeartbeats 8000000 in
set_option maxRecDepth 100000 in
theorem impl_in.calls (a0 : Int) (a1 : Int) (a2 : Int) (r : Bool) (w : World) (h : impl_in.f a0 a1 a2 = some r) :
  Calls Try.prog 38 #[.int .i64 a0, .int .i64 a1, .int .i64 a2] w fun e w' => e = .returned (.bool r) ∧ Drawn0 w w' := by
 have H : (if a0 ≥ a1 then (some (decide (a0 ≤ a2))) else (some false)) = some r := h
 clear h
 by_cases c4 : a0 ≥ a1
 ·
  rw [if_pos c4] at H
  have c4b0 : decide (a1 ≤ a0) = true := decide_eq_true c4
  clear c4
  obtain rfl := Option.some.inj H
  go_enter Try.func38, Try.ntmps38
  go_wp2
  go_ret
  exact ⟨by first | rfl | (simp; done) | (simp [*]; done), by repeat (first | exact Drawn0.refl _ | apply Drawn0.step)⟩
 ·
  rw [if_neg c4] at H
  have c4b0 : decide (a1 ≤ a0) = false := decide_eq_false c4
  clear c4
  obtain rfl := Option.some.inj H
  go_enter Try.func38, Try.ntmps38
  go_wp2
  go_ret
  exact ⟨by first | rfl | (simp; done) | (simp [*]; done), by repeat (first | exact Drawn0.refl _ | apply Drawn0.step)⟩

/-! ### impl_PlanOk: function 12 -/
def impl_PlanOk.l0 : Nat → Int → List (S62) → Int → Int → Int → Int → List (S62) → Option (Bool)
 | 0, _, _, _, _, _, _, _ => none
 | k + 1, x3, x7, x8, x9, x102000, x102001, x102002 => if x9 < x8 then (if 0 ≤ x9 then (if x9 < (x7.length : Int) then ((impl_in.f ((rd_T62 x7 x9).f0) 0 (wrap64 (x102001 - 1))).bind fun t106 => (if t106 = true then ((impl_in.f ((rd_T62 x7 x9).f2) 1 10000).bind fun t107 => (if t107 = true then (if ((rd_T62 x7 x9).f1) < x3 then (some false) else (if ((rd_T62 x7 x9).f1) > (wrap64 (x102000 - ((rd_T62 x7 x9).f2))) then (some false) else (impl_PlanOk.l0 k (wrap64 (((rd_T62 x7 x9).f1) + ((rd_T62 x7 x9).f2))) x7 x8 (wrap64 (x9 + 1)) x102000 x102001 x102002))) else (some false))) else (some false))) else (none)) else (none)) else ((impl_in.f x102000 1 100000).bind fun t102 => (if t102 = true then ((impl_in.f x102001 1 10).bind fun t103 => (if t103 = true then (some (decide ((x102002.length : Int) ≤ 40))) else (some false))) else (some false)))
def impl_PlanOk.f (k : Nat) (a0_0 : Int) (a0_1 : Int) (l0_2 : List (S62)) : Option (Bool) := impl_PlanOk.l0 k 0 l0_2 (l0_2.length : Int) 0 a0_0 a0_1 l0_2
theorem impl_PlanOk.mono_l : ∀ k, (∀ y0 y1 y2 y3 y4 y5 y6, LeO (impl_PlanOk.l0 k y0 y1 y2 y3 y4 y5 y6) (impl_PlanOk.l0 (k + 1) y0 y1 y2 y3 y4 y5 y6))
 | 0 => fun _ _ _ _ _ _ _ r h => by simp [impl_PlanOk.l0] at h
 | k + 1 => by
  have ih0 := impl_PlanOk.mono_l k
  ·
   intro y0 y1 y2 y3 y4 y5 y6
   unfold impl_PlanOk.l0
   repeat' first
   | (with_reducible exact ih0 _ _ _ _ _ _ _)
   | (with_reducible exact LeO.refl _)
   | (with_reducible exact LeO.none _)
   | (with_reducible refine LeO.ite ?_ ?_)
   | (with_reducible refine LeO.bind ?_ (fun _ => ?_))
   | exact ih0 _ _ _ _ _ _ _
   | exact LeO.none _
   | refine LeO.ite ?_ ?_
   | refine LeO.bind ?_ (fun _ => ?_)
theorem impl_PlanOk.mono : ∀ a0 a1 a2 k, LeO (impl_PlanOk.f k a0 a1 a2) (impl_PlanOk.f (k + 1) a0 a1 a2) := by
 intro a0 a1 a2 k
 have ih0 := impl_PlanOk.mono_l k
 unfold impl_PlanOk.f
 repeat' first
   | (with_reducible exact ih0 _ _ _ _ _ _ _)
   | (with_reducible exact LeO.refl _)
   | (with_reducible exact LeO.none _)
   | (with_reducible refine LeO.ite ?_ ?_)
   | (with_reducible refine LeO.bind ?_ (fun _ => ?_))
   | exact ih0 _ _ _ _ _ _ _
   | exact LeO.none _
   | refine LeO.ite ?_ ?_
   | refine LeO.bind ?_ (fun _ => ?_)
set_option maxHeartbeats 8000000 in
set_option maxRecDepth 100000 in
theorem impl_PlanOk.calls (k : Nat) (a0_0 : Int) (a0_1 : Int) (A0_2 : Option Addr) (c0_2 : Nat) (l0_2 : List (S62)) (r : Bool) (w : World) (hr0_2 : Kd.C k62 w A0_2 l0_2.length l0_2) (hc0_2 : l0_2.length ≤ c0_2) (h : impl_PlanOk.f k a0_0 a0_1 l0_2 = some r) :
  Calls Try.prog 12 #[.agg #[.int .i64 a0_0, .int .i64 a0_1, .slice A0_2 l0_2.length c0_2]] w fun e w' => e = .returned (.bool r) ∧ Below w.heap.size w w' := by
 have hu29 := Try.underlying29
 have hu62 := Try.underlying62
 have HR0_2 := Aside0.mk hr0_2
 have HC0_2 := Aside0.mk hc0_2
 clear hr0_2 hc0_2
 have HB := Aside0.mk (Below.refl w.heap.size w)
 have H : (impl_PlanOk.l0 k 0 l0_2 (l0_2.length : Int) 0 a0_0 a0_1 l0_2) = some r := h
 clear h
 have H' := Aside0.mk H
 clear H
 go_enter Try.func12, Try.ntmps12
 go_wp2_with (first | ((with_reducible refine gate_dst (N := 1) rfl ?_); (try (refine gate_guard (by rfl) ?_; dsimp only)); refine box_event ?hg (N := 1) ?hd (cs := #[.int .i64 a0_0, .int .i64 a0_1, .slice A0_2 l0_2.length c0_2]) (t := 29) ?hr ?_; (case hd => rfl); (case hg => rfl); (case hr => first | (go_simp; done) | (go_simp; rfl)); intro gb101 hg w2 hbox hb; have BK101 := Aside0.mk (hbox); have GW101 := Aside0.mk ((by rw [hg]; exact (below_size (bl HB.out)) : w.heap.size ≤ gb101)); have GE101 := GW101; replace HB := Aside0.mk (below_step (bl HB.out) hb); clear hb hbox hg; obtain ⟨hcz3_0, hcz3_1, hcz3_2⟩ := ck3 BK101.out; obtain ⟨hfz3_0, hfz3_1, hfz3_2⟩ := fz3 BK101.out))
 go_loopg [3, 9] k (fun kq v3 v9 w' => ∃ (x3_1 : Int) (x9_1 : Int), v3 = .int .i64 x3_1 ∧ v9 = .int .i64 x9_1 ∧ Aside0 (impl_PlanOk.l0 kq x3_1 l0_2 (l0_2.length : Int) x9_1 a0_0 a0_1 l0_2 = some r) ∧ Aside0 (kq ≤ k) ∧ Aside0 (w'.heap[gb101]? = some (.cells #[.int .i64 a0_0, .int .i64 a0_1, (.slice A0_2 l0_2.length c0_2)] 29 (0, 0))) ∧ Aside0 (Below w.heap.size w w'))
 case atStart => exact ⟨(0), (0), (by first | rfl | (simp; done) | (simp [*]; done)), (by first | rfl | (simp; done) | (simp [*]; done)), H', ⟨Nat.le_refl _⟩, ⟨bk BK101.out⟩, ⟨by repeat with_reducible first | exact bl HB.out | refine below_set ?_ GE101.out | refine bq ?_⟩⟩
 case round =>
  clear H'
  try clear c1
  try clear p2
  try clear hcz3_0 hcz3_1 hcz3_2 hfz3_0 hfz3_1 hfz3_2
  (try clear BK101); obtain ⟨x3_1, x9_1, rfl, rfl, HA, HK1, BK101, HB⟩ := hrel
  cases gk with
  | zero => exact absurd HA.out (by simp [impl_PlanOk.l0])
  | succ k1 =>
   have H := HA.out
   clear HA
   simp only [impl_PlanOk.l0] at H
   by_cases c4 : x9_1 < (l0_2.length : Int)
   ·
    rw [if_pos c4] at H
    have c4b0 : decide (x9_1 < (l0_2.length : Int)) = true := decide_eq_true c4
    clear c4
    by_cases c5 : 0 ≤ x9_1
    ·
     rw [if_pos c5] at H
     have c5b0 : decide (0 ≤ x9_1) = true := decide_eq_true c5
     clear c5
     by_cases c6 : x9_1 < (l0_2.length : Int)
     ·
      rw [if_pos c6] at H
      have c6b0 : decide (x9_1 < (l0_2.length : Int)) = true := decide_eq_true c6
      clear c6
      replace H := Option.bind_eq_some_iff.mp H
      obtain ⟨t106, A70, H⟩ := H
      replace H : (if t106 = true then ((impl_in.f ((rd_T62 l0_2 x9_1).f2) 1 10000).bind fun t107 => (if t107 = true then (if ((rd_T62 l0_2 x9_1).f1) < x3_1 then (some false) else (if ((rd_T62 l0_2 x9_1).f1) > (wrap64 (a0_0 - ((rd_T62 l0_2 x9_1).f2))) then (some false) else (impl_PlanOk.l0 k1 (wrap64 (((rd_T62 l0_2 x9_1).f1) + ((rd_T62 l0_2 x9_1).f2))) l0_2 (l0_2.length : Int) (wrap64 (x9_1 + 1)) a0_0 a0_1 l0_2))) else (some false))) else (some false)) = some r := H
      have A7 := Aside0.mk A70
      clear A70
      by_cases c8 : t106 = true
      ·
       subst c8
       have H1 : ((impl_in.f ((rd_T62 l0_2 x9_1).f2) 1 10000).bind fun t107 => (if t107 = true then (if ((rd_T62 l0_2 x9_1).f1) < x3_1 then (some false) else (if ((rd_T62 l0_2 x9_1).f1) > (wrap64 (a0_0 - ((rd_T62 l0_2 x9_1).f2))) then (some false) else (impl_PlanOk.l0 k1 (wrap64 (((rd_T62 l0_2 x9_1).f1) + ((rd_T62 l0_2 x9_1).f2))) l0_2 (l0_2.length : Int) (wrap64 (x9_1 + 1)) a0_0 a0_1 l0_2))) else (some false))) = some r := by rw [if_pos rfl] at H; exact H
       clear H
       have H := H1
       clear H1
       replace H := Option.bind_eq_some_iff.mp H
       obtain ⟨t107, A90, H⟩ := H
       replace H : (if t107 = true then (if ((rd_T62 l0_2 x9_1).f1) < x3_1 then (some false) else (if ((rd_T62 l0_2 x9_1).f1) > (wrap64 (a0_0 - ((rd_T62 l0_2 x9_1).f2))) then (some false) else (impl_PlanOk.l0 k1 (wrap64 (((rd_T62 l0_2 x9_1).f1) + ((rd_T62 l0_2 x9_1).f2))) l0_2 (l0_2.length : Int) (wrap64 (x9_1 + 1)) a0_0 a0_1 l0_2))) else (some false)) = some r := H
       have A9 := Aside0.mk A90
       clear A90
       by_cases c10 : t107 = true
       ·
        subst c10
        have H1 : (if ((rd_T62 l0_2 x9_1).f1) < x3_1 then (some false) else (if ((rd_T62 l0_2 x9_1).f1) > (wrap64 (a0_0 - ((rd_T62 l0_2 x9_1).f2))) then (some false) else (impl_PlanOk.l0 k1 (wrap64 (((rd_T62 l0_2 x9_1).f1) + ((rd_T62 l0_2 x9_1).f2))) l0_2 (l0_2.length : Int) (wrap64 (x9_1 + 1)) a0_0 a0_1 l0_2))) = some r := by rw [if_pos rfl] at H; exact H
        clear H
        have H := H1
        clear H1
        by_cases c11 : ((rd_T62 l0_2 x9_1).f1) < x3_1
        ·
         rw [if_pos c11] at H
         have c11b0 : decide (((rd_T62 l0_2 x9_1).f1) < x3_1) = true := decide_eq_true c11
         clear c11
         obtain rfl := Option.some.inj H
         have p104 : 0 ≤ (x9_1 : Int) := of_decide_eq_true (by first | (with_reducible assumption) | assumption)
         have q104 : x9_1 < (l0_2.length : Int) := of_decide_eq_true (by first | (with_reducible assumption) | assumption)
         obtain ⟨ad104, e104, hx104_0, hx104_1, hx104_2⟩ := at_T62 HR0_2.out x9_1 p104 q104
         cases e104
         replace hx104_0 := bc HB.out hx104_0
         replace hx104_1 := bc HB.out hx104_1
         replace hx104_2 := bc HB.out hx104_2
         replace p104 := eq_true p104
         replace q104 := eq_true q104
         go_wp2_with (first | ((with_reducible refine gate_dst (N := 5) rfl ?_); (try (refine gate_guard (by rfl) ?_; dsimp only)); refine box_event ?hg (N := 5) ?hd (cs := #[.int .i64 0, .int .i64 0, .int .i64 0]) (t := 62) ?hr ?_; (case hd => rfl); (case hg => rfl); (case hr => first | (go_simp; done) | (go_simp; rfl)); intro gb105 hg w12 hbox hb; have BK105 := Aside0.mk (hbox); have GW105 := Aside0.mk ((by rw [hg]; exact (below_size (by repeat with_reducible first | exact bl HB.out | refine below_set ?_ GE101.out | refine bq ?_)) : w.heap.size ≤ gb105)); have GE105 := GW105; replace HB := Aside0.mk (below_step (by repeat with_reducible first | exact bl HB.out | refine below_set ?_ GE101.out | refine bq ?_) hb); have NB101_105 := nb_ hg BK101.out; have NB105_101 := Aside0.mk NB101_105.out.symm; replace BK101 := Aside0.mk (blk_below (bk BK101.out) hb); clear hb hbox hg; have hnb13 := NB105_101.out; have hnc13 := NB101_105.out; obtain ⟨hcz14_0, hcz14_1, hcz14_2⟩ := ck3 BK105.out; obtain ⟨hfz14_0, hfz14_1, hfz14_2⟩ := fz3 BK105.out; obtain ⟨hcz15_0, hcz15_1, hcz15_2⟩ := ck3 BK101.out; obtain ⟨hfz15_0, hfz15_1, hfz15_2⟩ := fz3 BK101.out) | ((with_reducible refine gate_callee (f := 38) rfl ?_); refine goesL_ (some 18) rfl rfl Try.func38 (by kernel_rfl) rfl #[.int .i64 ((rd_T62 l0_2 x9_1).f0), .int .i64 0, .int .i64 (wrap64 (a0_1 - 1))] rfl (by (try simp only [am_]); first | done | rfl) ?_; (with_reducible refine (impl_in.calls ((rd_T62 l0_2 x9_1).f0) 0 (wrap64 (a0_1 - 1)) true _ A7.out).mono ?_); rintro e w' ⟨rfl, ⟨nd, rfl⟩⟩; refine ⟨_, rfl, ?_⟩) | (go_at_call 38; (with_reducible refine (impl_in.calls ((rd_T62 l0_2 x9_1).f2) 1 10000 true _ A9.out).mono ?_); rintro e w' ⟨rfl, ⟨nd, rfl⟩⟩))
         go_ret
         exact ⟨by first | rfl | (simp [errW_none, errW_some] <;> rfl) | (simp [*, errW_none, errW_some] <;> rfl), by repeat with_reducible first | exact bl HB.out | refine below_set ?_ GE101.out | refine below_set ?_ GE105.out | refine bq ?_⟩
        ·
         rw [if_neg c11] at H
         have c11b0 : decide (((rd_T62 l0_2 x9_1).f1) < x3_1) = false := decide_eq_false c11
         clear c11
         by_cases c16 : ((rd_T62 l0_2 x9_1).f1) > (wrap64 (a0_0 - ((rd_T62 l0_2 x9_1).f2)))
         ·
          rw [if_pos c16] at H
          have c16b0 : decide ((wrap64 (a0_0 - ((rd_T62 l0_2 x9_1).f2))) < ((rd_T62 l0_2 x9_1).f1)) = true := decide_eq_true c16
          clear c16
          obtain rfl := Option.some.inj H
          have p104 : 0 ≤ (x9_1 : Int) := of_decide_eq_true (by first | (with_reducible assumption) | assumption)
          have q104 : x9_1 < (l0_2.length : Int) := of_decide_eq_true (by first | (with_reducible assumption) | assumption)
          obtain ⟨ad104, e104, hx104_0, hx104_1, hx104_2⟩ := at_T62 HR0_2.out x9_1 p104 q104
          cases e104
          replace hx104_0 := bc HB.out hx104_0
          replace hx104_1 := bc HB.out hx104_1
          replace hx104_2 := bc HB.out hx104_2
          replace p104 := eq_true p104
          replace q104 := eq_true q104
          go_wp2_with (first | ((with_reducible refine gate_dst (N := 5) rfl ?_); (try (refine gate_guard (by rfl) ?_; dsimp only)); refine box_event ?hg (N := 5) ?hd (cs := #[.int .i64 0, .int .i64 0, .int .i64 0]) (t := 62) ?hr ?_; (case hd => rfl); (case hg => rfl); (case hr => first | (go_simp; done) | (go_simp; rfl)); intro gb105 hg w17 hbox hb; have BK105 := Aside0.mk (hbox); have GW105 := Aside0.mk ((by rw [hg]; exact (below_size (by repeat with_reducible first | exact bl HB.out | refine below_set ?_ GE101.out | refine bq ?_)) : w.heap.size ≤ gb105)); have GE105 := GW105; replace HB := Aside0.mk (below_step (by repeat with_reducible first | exact bl HB.out | refine below_set ?_ GE101.out | refine bq ?_) hb); have NB101_105 := nb_ hg BK101.out; have NB105_101 := Aside0.mk NB101_105.out.symm; replace BK101 := Aside0.mk (blk_below (bk BK101.out) hb); clear hb hbox hg; have hnb18 := NB105_101.out; have hnc18 := NB101_105.out; obtain ⟨hcz19_0, hcz19_1, hcz19_2⟩ := ck3 BK105.out; obtain ⟨hfz19_0, hfz19_1, hfz19_2⟩ := fz3 BK105.out; obtain ⟨hcz20_0, hcz20_1, hcz20_2⟩ := ck3 BK101.out; obtain ⟨hfz20_0, hfz20_1, hfz20_2⟩ := fz3 BK101.out) | ((with_reducible refine gate_callee (f := 38) rfl ?_); refine goesL_ (some 18) rfl rfl Try.func38 (by kernel_rfl) rfl #[.int .i64 ((rd_T62 l0_2 x9_1).f0), .int .i64 0, .int .i64 (wrap64 (a0_1 - 1))] rfl (by (try simp only [am_]); first | done | rfl) ?_; (with_reducible refine (impl_in.calls ((rd_T62 l0_2 x9_1).f0) 0 (wrap64 (a0_1 - 1)) true _ A7.out).mono ?_); rintro e w' ⟨rfl, ⟨nd, rfl⟩⟩; refine ⟨_, rfl, ?_⟩) | (go_at_call 38; (with_reducible refine (impl_in.calls ((rd_T62 l0_2 x9_1).f2) 1 10000 true _ A9.out).mono ?_); rintro e w' ⟨rfl, ⟨nd, rfl⟩⟩))
          go_ret
          exact ⟨by first | rfl | (simp [errW_none, errW_some] <;> rfl) | (simp [*, errW_none, errW_some] <;> rfl), by repeat with_reducible first | exact bl HB.out | refine below_set ?_ GE101.out | refine below_set ?_ GE105.out | refine bq ?_⟩
         ·
          rw [if_neg c16] at H
          have c16b0 : decide ((wrap64 (a0_0 - ((rd_T62 l0_2 x9_1).f2))) < ((rd_T62 l0_2 x9_1).f1)) = false := decide_eq_false c16
          clear c16
          have H' := Aside0.mk H
          clear H
          have p104 : 0 ≤ (x9_1 : Int) := of_decide_eq_true (by first | (with_reducible assumption) | assumption)
          have q104 : x9_1 < (l0_2.length : Int) := of_decide_eq_true (by first | (with_reducible assumption) | assumption)
          obtain ⟨ad104, e104, hx104_0, hx104_1, hx104_2⟩ := at_T62 HR0_2.out x9_1 p104 q104
          cases e104
          replace hx104_0 := bc HB.out hx104_0
          replace hx104_1 := bc HB.out hx104_1
          replace hx104_2 := bc HB.out hx104_2
          replace p104 := eq_true p104
          replace q104 := eq_true q104
          go_wp2_with (first | ((with_reducible refine gate_dst (N := 5) rfl ?_); (try (refine gate_guard (by rfl) ?_; dsimp only)); refine box_event ?hg (N := 5) ?hd (cs := #[.int .i64 0, .int .i64 0, .int .i64 0]) (t := 62) ?hr ?_; (case hd => rfl); (case hg => rfl); (case hr => first | (go_simp; done) | (go_simp; rfl)); intro gb105 hg w21 hbox hb; have BK105 := Aside0.mk (hbox); have GW105 := Aside0.mk ((by rw [hg]; exact (below_size (by repeat with_reducible first | exact bl HB.out | refine below_set ?_ GE101.out | refine bq ?_)) : w.heap.size ≤ gb105)); have GE105 := GW105; replace HB := Aside0.mk (below_step (by repeat with_reducible first | exact bl HB.out | refine below_set ?_ GE101.out | refine bq ?_) hb); have NB101_105 := nb_ hg BK101.out; have NB105_101 := Aside0.mk NB101_105.out.symm; replace BK101 := Aside0.mk (blk_below (bk BK101.out) hb); clear hb hbox hg; have hnb22 := NB105_101.out; have hnc22 := NB101_105.out; obtain ⟨hcz23_0, hcz23_1, hcz23_2⟩ := ck3 BK105.out; obtain ⟨hfz23_0, hfz23_1, hfz23_2⟩ := fz3 BK105.out; obtain ⟨hcz24_0, hcz24_1, hcz24_2⟩ := ck3 BK101.out; obtain ⟨hfz24_0, hfz24_1, hfz24_2⟩ := fz3 BK101.out) | ((with_reducible refine gate_callee (f := 38) rfl ?_); refine goesL_ (some 18) rfl rfl Try.func38 (by kernel_rfl) rfl #[.int .i64 ((rd_T62 l0_2 x9_1).f0), .int .i64 0, .int .i64 (wrap64 (a0_1 - 1))] rfl (by (try simp only [am_]); first | done | rfl) ?_; (with_reducible refine (impl_in.calls ((rd_T62 l0_2 x9_1).f0) 0 (wrap64 (a0_1 - 1)) true _ A7.out).mono ?_); rintro e w' ⟨rfl, ⟨nd, rfl⟩⟩; refine ⟨_, rfl, ?_⟩) | (go_at_call 38; (with_reducible refine (impl_in.calls ((rd_T62 l0_2 x9_1).f2) 1 10000 true _ A9.out).mono ?_); rintro e w' ⟨rfl, ⟨nd, rfl⟩⟩))
          go_roundg k1
          case measure => have := HK1.out; omega
          case rel => exact ⟨(wrap64 (((rd_T62 l0_2 x9_1).f1) + ((rd_T62 l0_2 x9_1).f2))), (wrap64 (x9_1 + 1)), (by first | rfl | (simp; done) | (simp [*]; done)), (by first | rfl | (simp; done) | (simp [*]; done)), H', ⟨by have := HK1.out; omega⟩, ⟨by (repeat refine bk1 ?_); refine blk_far ?_ NB101_105.out _; (repeat refine bk1 ?_); refine blk_far ?_ NB101_105.out _; (repeat refine bk1 ?_); refine blk_far ?_ NB101_105.out _; (repeat refine bk1 ?_); exact BK101.out⟩, ⟨by repeat with_reducible first | exact bl HB.out | refine below_set ?_ GE101.out | refine below_set ?_ GE105.out | refine bq ?_⟩⟩
       ·
        replace c10 := Bool.eq_false_iff.mpr c10
        subst c10
        have H1 : (some false) = some r := by rw [if_neg (show ¬ (false = true) by decide)] at H; exact H
        clear H
        have H := H1
        clear H1
        obtain rfl := Option.some.inj H
        have p104 : 0 ≤ (x9_1 : Int) := of_decide_eq_true (by first | (with_reducible assumption) | assumption)
        have q104 : x9_1 < (l0_2.length : Int) := of_decide_eq_true (by first | (with_reducible assumption) | assumption)
        obtain ⟨ad104, e104, hx104_0, hx104_1, hx104_2⟩ := at_T62 HR0_2.out x9_1 p104 q104
        cases e104
        replace hx104_0 := bc HB.out hx104_0
        replace hx104_1 := bc HB.out hx104_1
        replace hx104_2 := bc HB.out hx104_2
        replace p104 := eq_true p104
        replace q104 := eq_true q104
        go_wp2_with (first | ((with_reducible refine gate_dst (N := 5) rfl ?_); (try (refine gate_guard (by rfl) ?_; dsimp only)); refine box_event ?hg (N := 5) ?hd (cs := #[.int .i64 0, .int .i64 0, .int .i64 0]) (t := 62) ?hr ?_; (case hd => rfl); (case hg => rfl); (case hr => first | (go_simp; done) | (go_simp; rfl)); intro gb105 hg w25 hbox hb; have BK105 := Aside0.mk (hbox); have GW105 := Aside0.mk ((by rw [hg]; exact (below_size (by repeat with_reducible first | exact bl HB.out | refine below_set ?_ GE101.out | refine bq ?_)) : w.heap.size ≤ gb105)); have GE105 := GW105; replace HB := Aside0.mk (below_step (by repeat with_reducible first | exact bl HB.out | refine below_set ?_ GE101.out | refine bq ?_) hb); have NB101_105 := nb_ hg BK101.out; have NB105_101 := Aside0.mk NB101_105.out.symm; replace BK101 := Aside0.mk (blk_below (bk BK101.out) hb); clear hb hbox hg; have hnb26 := NB105_101.out; have hnc26 := NB101_105.out; obtain ⟨hcz27_0, hcz27_1, hcz27_2⟩ := ck3 BK105.out; obtain ⟨hfz27_0, hfz27_1, hfz27_2⟩ := fz3 BK105.out; obtain ⟨hcz28_0, hcz28_1, hcz28_2⟩ := ck3 BK101.out; obtain ⟨hfz28_0, hfz28_1, hfz28_2⟩ := fz3 BK101.out) | ((with_reducible refine gate_callee (f := 38) rfl ?_); refine goesL_ (some 18) rfl rfl Try.func38 (by kernel_rfl) rfl #[.int .i64 ((rd_T62 l0_2 x9_1).f0), .int .i64 0, .int .i64 (wrap64 (a0_1 - 1))] rfl (by (try simp only [am_]); first | done | rfl) ?_; (with_reducible refine (impl_in.calls ((rd_T62 l0_2 x9_1).f0) 0 (wrap64 (a0_1 - 1)) true _ A7.out).mono ?_); rintro e w' ⟨rfl, ⟨nd, rfl⟩⟩; refine ⟨_, rfl, ?_⟩) | (go_at_call 38; (with_reducible refine (impl_in.calls ((rd_T62 l0_2 x9_1).f2) 1 10000 false _ A9.out).mono ?_); rintro e w' ⟨rfl, ⟨nd, rfl⟩⟩))
        go_ret
        exact ⟨by first | rfl | (simp [errW_none, errW_some] <;> rfl) | (simp [*, errW_none, errW_some] <;> rfl), by repeat with_reducible first | exact bl HB.out | refine below_set ?_ GE101.out | refine below_set ?_ GE105.out | refine bq ?_⟩
      ·
       replace c8 := Bool.eq_false_iff.mpr c8
       subst c8
       have H1 : (some false) = some r := by rw [if_neg (show ¬ (false = true) by decide)] at H; exact H
       clear H
       have H := H1
       clear H1
       obtain rfl := Option.some.inj H
       have p104 : 0 ≤ (x9_1 : Int) := of_decide_eq_true (by first | (with_reducible assumption) | assumption)
       have q104 : x9_1 < (l0_2.length : Int) := of_decide_eq_true (by first | (with_reducible assumption) | assumption)
       obtain ⟨ad104, e104, hx104_0, hx104_1, hx104_2⟩ := at_T62 HR0_2.out x9_1 p104 q104
       cases e104
       replace hx104_0 := bc HB.out hx104_0
       replace hx104_1 := bc HB.out hx104_1
       replace hx104_2 := bc HB.out hx104_2
       replace p104 := eq_true p104
       replace q104 := eq_true q104
       go_wp2_with (first | ((with_reducible refine gate_dst (N := 5) rfl ?_); (try (refine gate_guard (by rfl) ?_; dsimp only)); refine box_event ?hg (N := 5) ?hd (cs := #[.int .i64 0, .int .i64 0, .int .i64 0]) (t := 62) ?hr ?_; (case hd => rfl); (case hg => rfl); (case hr => first | (go_simp; done) | (go_simp; rfl)); intro gb105 hg w29 hbox hb; have BK105 := Aside0.mk (hbox); have GW105 := Aside0.mk ((by rw [hg]; exact (below_size (by repeat with_reducible first | exact bl HB.out | refine below_set ?_ GE101.out | refine bq ?_)) : w.heap.size ≤ gb105)); have GE105 := GW105; replace HB := Aside0.mk (below_step (by repeat with_reducible first | exact bl HB.out | refine below_set ?_ GE101.out | refine bq ?_) hb); have NB101_105 := nb_ hg BK101.out; have NB105_101 := Aside0.mk NB101_105.out.symm; replace BK101 := Aside0.mk (blk_below (bk BK101.out) hb); clear hb hbox hg; have hnb30 := NB105_101.out; have hnc30 := NB101_105.out; obtain ⟨hcz31_0, hcz31_1, hcz31_2⟩ := ck3 BK105.out; obtain ⟨hfz31_0, hfz31_1, hfz31_2⟩ := fz3 BK105.out; obtain ⟨hcz32_0, hcz32_1, hcz32_2⟩ := ck3 BK101.out; obtain ⟨hfz32_0, hfz32_1, hfz32_2⟩ := fz3 BK101.out) | ((with_reducible refine gate_callee (f := 38) rfl ?_); refine goesL_ (some 18) rfl rfl Try.func38 (by kernel_rfl) rfl #[.int .i64 ((rd_T62 l0_2 x9_1).f0), .int .i64 0, .int .i64 (wrap64 (a0_1 - 1))] rfl (by (try simp only [am_]); first | done | rfl) ?_; (with_reducible refine (impl_in.calls ((rd_T62 l0_2 x9_1).f0) 0 (wrap64 (a0_1 - 1)) false _ A7.out).mono ?_); rintro e w' ⟨rfl, ⟨nd, rfl⟩⟩; refine ⟨_, rfl, ?_⟩))
       go_ret
       exact ⟨by first | rfl | (simp [errW_none, errW_some] <;> rfl) | (simp [*, errW_none, errW_some] <;> rfl), by repeat with_reducible first | exact bl HB.out | refine below_set ?_ GE101.out | refine below_set ?_ GE105.out | refine bq ?_⟩
     ·
      rw [if_neg c6] at H
      exact absurd H (by simp)
    ·
     rw [if_neg c5] at H
     exact absurd H (by simp)
   ·
    rw [if_neg c4] at H
    have c4b0 : decide (x9_1 < (l0_2.length : Int)) = false := decide_eq_false c4
    clear c4
    replace H := Option.bind_eq_some_iff.mp H
    obtain ⟨t102, A330, H⟩ := H
    replace H : (if t102 = true then ((impl_in.f a0_1 1 10).bind fun t103 => (if t103 = true then (some (decide ((l0_2.length : Int) ≤ 40))) else (some false))) else (some false)) = some r := H
    have A33 := Aside0.mk A330
    clear A330
    by_cases c34 : t102 = true
    ·
     subst c34
     have H1 : ((impl_in.f a0_1 1 10).bind fun t103 => (if t103 = true then (some (decide ((l0_2.length : Int) ≤ 40))) else (some false))) = some r := by rw [if_pos rfl] at H; exact H
     clear H
     have H := H1
     clear H1
     replace H := Option.bind_eq_some_iff.mp H
     obtain ⟨t103, A350, H⟩ := H
     replace H : (if t103 = true then (some (decide ((l0_2.length : Int) ≤ 40))) else (some false)) = some r := H
     have A35 := Aside0.mk A350
     clear A350
     by_cases c36 : t103 = true
     ·
      subst c36
      have H1 : (some (decide ((l0_2.length : Int) ≤ 40))) = some r := by rw [if_pos rfl] at H; exact H
      clear H
      have H := H1
      clear H1
      obtain rfl := Option.some.inj H
      obtain ⟨hcz37_0, hcz37_1, hcz37_2⟩ := ck3 BK101.out
      obtain ⟨hfz37_0, hfz37_1, hfz37_2⟩ := fz3 BK101.out
      go_wp2_with (first | ((with_reducible refine gate_callee (f := 38) rfl ?_); refine goesL_ (some 50) rfl rfl Try.func38 (by kernel_rfl) rfl #[.int .i64 a0_0, .int .i64 1, .int .i64 100000] rfl (by (try simp only [am_]); first | done | rfl) ?_; (with_reducible refine (impl_in.calls a0_0 1 100000 true _ A33.out).mono ?_); rintro e w' ⟨rfl, ⟨nd, rfl⟩⟩; refine ⟨_, rfl, ?_⟩) | (go_at_call 38; (with_reducible refine (impl_in.calls a0_1 1 10 true _ A35.out).mono ?_); rintro e w' ⟨rfl, ⟨nd, rfl⟩⟩))
      go_ret
      exact ⟨by first | rfl | (simp [errW_none, errW_some] <;> rfl) | (simp [*, errW_none, errW_some] <;> rfl), by repeat with_reducible first | exact bl HB.out | refine below_set ?_ GE101.out | refine bq ?_⟩
     ·
      replace c36 := Bool.eq_false_iff.mpr c36
      subst c36
      have H1 : (some false) = some r := by rw [if_neg (show ¬ (false = true) by decide)] at H; exact H
      clear H
      have H := H1
      clear H1
      obtain rfl := Option.some.inj H
      obtain ⟨hcz38_0, hcz38_1, hcz38_2⟩ := ck3 BK101.out
      obtain ⟨hfz38_0, hfz38_1, hfz38_2⟩ := fz3 BK101.out
      go_wp2_with (first | ((with_reducible refine gate_callee (f := 38) rfl ?_); refine goesL_ (some 50) rfl rfl Try.func38 (by kernel_rfl) rfl #[.int .i64 a0_0, .int .i64 1, .int .i64 100000] rfl (by (try simp only [am_]); first | done | rfl) ?_; (with_reducible refine (impl_in.calls a0_0 1 100000 true _ A33.out).mono ?_); rintro e w' ⟨rfl, ⟨nd, rfl⟩⟩; refine ⟨_, rfl, ?_⟩) | (go_at_call 38; (with_reducible refine (impl_in.calls a0_1 1 10 false _ A35.out).mono ?_); rintro e w' ⟨rfl, ⟨nd, rfl⟩⟩))
      go_ret
      exact ⟨by first | rfl | (simp [errW_none, errW_some] <;> rfl) | (simp [*, errW_none, errW_some] <;> rfl), by repeat with_reducible first | exact bl HB.out | refine below_set ?_ GE101.out | refine bq ?_⟩
    ·
     replace c34 := Bool.eq_false_iff.mpr c34
     subst c34
     have H1 : (some false) = some r := by rw [if_neg (show ¬ (false = true) by decide)] at H; exact H
     clear H
     have H := H1
     clear H1
     obtain rfl := Option.some.inj H
     obtain ⟨hcz39_0, hcz39_1, hcz39_2⟩ := ck3 BK101.out
     obtain ⟨hfz39_0, hfz39_1, hfz39_2⟩ := fz3 BK101.out
     go_wp2_with (first | ((with_reducible refine gate_callee (f := 38) rfl ?_); refine goesL_ (some 50) rfl rfl Try.func38 (by kernel_rfl) rfl #[.int .i64 a0_0, .int .i64 1, .int .i64 100000] rfl (by (try simp only [am_]); first | done | rfl) ?_; (with_reducible refine (impl_in.calls a0_0 1 100000 false _ A33.out).mono ?_); rintro e w' ⟨rfl, ⟨nd, rfl⟩⟩; refine ⟨_, rfl, ?_⟩))
     go_ret
     exact ⟨by first | rfl | (simp [errW_none, errW_some] <;> rfl) | (simp [*, errW_none, errW_some] <;> rfl), by repeat with_reducible first | exact bl HB.out | refine below_set ?_ GE101.out | refine bq ?_⟩

/-! ### impl_isTick: function 41 -/
def impl_isTick.f (a0 : Int) : Option (Bool) := (impl_in.f a0 0 100000000).bind fun t108 => (some t108)
set_option maxHeartbeats 8000000 in
set_option maxRecDepth 100000 in
theorem impl_isTick.calls (a0 : Int) (r : Bool) (w : World) (h : impl_isTick.f a0 = some r) :
  Calls Try.prog 41 #[.int .i64 a0] w fun e w' => e = .returned (.bool r) ∧ Drawn0 w w' := by
 have H : ((impl_in.f a0 0 100000000).bind fun t108 => (some t108)) = some r := h
 clear h
 replace H := Option.bind_eq_some_iff.mp H
 obtain ⟨t108, A20, H⟩ := H
 replace H : (some t108) = some r := H
 have A2 := Aside0.mk A20
 clear A20
 obtain rfl := Option.some.inj H
 go_enter Try.func41, Try.ntmps41
 go_wp2_with (first | ((with_reducible refine gate_callee (f := 38) rfl ?_); refine goesL_ (some 4) rfl rfl Try.func38 (by kernel_rfl) rfl #[.int .i64 a0, .int .i64 0, .int .i64 100000000] rfl (by (try simp only [am_]); first | done | rfl) ?_; (with_reducible refine (impl_in.calls a0 0 100000000 t108 _ A2.out).mono ?_); rintro e w' ⟨rfl, ⟨nd, rfl⟩⟩; refine ⟨_, rfl, ?_⟩))
 go_ret
 exact ⟨by first | rfl | (simp; done) | (simp [*]; done), by repeat (first | exact Drawn0.refl _ | apply Drawn0.step)⟩

/-! ### impl_owner: function 42 -/
def impl_owner.l0 : Nat → Int → List (S62) → Int → Int → Option (Int)
 | 0, _, _, _, _ => none
 | k + 1, x1, x12, x13, x14 => if x14 < x13 then (if 0 ≤ x14 then (if x14 < (x12.length : Int) then (if x1 ≥ ((rd_T62 x12 x14).f1) then (if x1 < (wrap64 (((rd_T62 x12 x14).f1) + ((rd_T62 x12 x14).f2))) then (some ((rd_T62 x12 x14).f0)) else (impl_owner.l0 k x1 x12 x13 (wrap64 (x14 + 1)))) else (impl_owner.l0 k x1 x12 x13 (wrap64 (x14 + 1)))) else (none)) else (none)) else (some (-1))
def impl_owner.f (k : Nat) (a0_0 : Int) (a0_1 : Int) (l0_2 : List (S62)) (a1 : Int) : Option (Int) := if a0_0 = 0 then (none) else (impl_owner.l0 k (Int.tmod a1 a0_0) l0_2 (l0_2.length : Int) 0)
theorem impl_owner.mono_l : ∀ k, (∀ y0 y1 y2 y3, LeO (impl_owner.l0 k y0 y1 y2 y3) (impl_owner.l0 (k + 1) y0 y1 y2 y3))
 | 0 => fun _ _ _ _ r h => by simp [impl_owner.l0] at h
 | k + 1 => by
  have ih0 := impl_owner.mono_l k
  ·
   intro y0 y1 y2 y3
   unfold impl_owner.l0
   repeat' first
   | (with_reducible exact ih0 _ _ _ _)
   | (with_reducible exact LeO.refl _)
   | (with_reducible exact LeO.none _)
   | (with_reducible refine LeO.ite ?_ ?_)
   | (with_reducible refine LeO.bind ?_ (fun _ => ?_))
   | exact ih0 _ _ _ _
   | exact LeO.none _
   | refine LeO.ite ?_ ?_
   | refine LeO.bind ?_ (fun _ => ?_)
theorem impl_owner.mono : ∀ a0 a1 a2 a3 k, LeO (impl_owner.f k a0 a1 a2 a3) (impl_owner.f (k + 1) a0 a1 a2 a3) := by
 intro a0 a1 a2 a3 k
 have ih0 := impl_owner.mono_l k
 unfold impl_owner.f
 repeat' first
   | (with_reducible exact ih0 _ _ _ _)
   | (with_reducible exact LeO.refl _)
   | (with_reducible exact LeO.none _)
   | (with_reducible refine LeO.ite ?_ ?_)
   | (with_reducible refine LeO.bind ?_ (fun _ => ?_))
   | exact ih0 _ _ _ _
   | exact LeO.none _
   | refine LeO.ite ?_ ?_
   | refine LeO.bind ?_ (fun _ => ?_)
set_option maxHeartbeats 8000000 in
set_option maxRecDepth 100000 in
theorem impl_owner.calls (k : Nat) (a0_0 : Int) (a0_1 : Int) (A0_2 : Option Addr) (c0_2 : Nat) (l0_2 : List (S62)) (a1 : Int) (r : Int) (w : World) (hr0_2 : Kd.C k62 w A0_2 l0_2.length l0_2) (hc0_2 : l0_2.length ≤ c0_2) (h : impl_owner.f k a0_0 a0_1 l0_2 a1 = some r) :
  Calls Try.prog 42 #[.agg #[.int .i64 a0_0, .int .i64 a0_1, .slice A0_2 l0_2.length c0_2], .int .i64 a1] w fun e w' => e = .returned (.int .i64 r) ∧ Below w.heap.size w w' := by
 have hu29 := Try.underlying29
 have hu62 := Try.underlying62
 have HR0_2 := Aside0.mk hr0_2
 have HC0_2 := Aside0.mk hc0_2
 clear hr0_2 hc0_2
 have HB := Aside0.mk (Below.refl w.heap.size w)
 have H : (if a0_0 = 0 then (none) else (impl_owner.l0 k (Int.tmod a1 a0_0) l0_2 (l0_2.length : Int) 0)) = some r := h
 clear h
 by_cases c3 : a0_0 = 0
 ·
  rw [if_pos c3] at H
  exact absurd H (by simp)
 ·
  rw [if_neg c3] at H
  have c3b0 : (a0_0 == 0) = false := beq_eq_false_iff_ne.mpr c3
  have c3b1 : (a0_0 != 0) = true := bne_iff_ne.mpr c3
  have H' := Aside0.mk H
  clear H
  go_enter Try.func42, Try.ntmps42
  go_wp2_with (first | ((with_reducible refine gate_dst (N := 2) rfl ?_); refine box_event ?hg (N := 2) ?hd (cs := #[.int .i64 a0_0, .int .i64 a0_1, .slice A0_2 l0_2.length c0_2]) (t := 29) ?hr ?_; (case hd => rfl); (case hg => rfl); (case hr => first | (go_simp; done) | (go_simp; rfl)); intro gb109 hg w4 hbox hb; have BK109 := Aside0.mk (hbox); have GW109 := Aside0.mk ((by rw [hg]; exact (below_size (bl HB.out)) : w.heap.size ≤ gb109)); have GE109 := GW109; replace HB := Aside0.mk (below_step (bl HB.out) hb); clear hb hbox hg; obtain ⟨hcz5_0, hcz5_1, hcz5_2⟩ := ck3 BK109.out; obtain ⟨hfz5_0, hfz5_1, hfz5_2⟩ := fz3 BK109.out))
  go_loopg [14] k (fun kq v14 w' => ∃ (x14_1 : Int), v14 = .int .i64 x14_1 ∧ Aside0 (impl_owner.l0 kq (Int.tmod a1 a0_0) l0_2 (l0_2.length : Int) x14_1 = some r) ∧ Aside0 (kq ≤ k) ∧ Aside0 (w'.heap[gb109]? = some (.cells #[.int .i64 a0_0, .int .i64 a0_1, (.slice A0_2 l0_2.length c0_2)] 29 (0, 0))) ∧ Aside0 (Below w.heap.size w w'))
  case atStart => exact ⟨(0), (by first | rfl | (simp; done) | (simp [*]; done)), H', ⟨Nat.le_refl _⟩, ⟨bk BK109.out⟩, ⟨by repeat with_reducible first | exact bl HB.out | refine below_set ?_ GE109.out | refine bq ?_⟩⟩
  case round =>
   clear H'
   try clear p2
   try clear c3
   try clear c3b0
   try clear c3b1
   try clear c4
   try clear hcz5_0 hcz5_1 hcz5_2 hfz5_0 hfz5_1 hfz5_2
   (try clear BK109); obtain ⟨x14_1, rfl, HA, HK1, BK109, HB⟩ := hrel
   cases gk with
   | zero => exact absurd HA.out (by simp [impl_owner.l0])
   | succ k1 =>
    have H := HA.out
    clear HA
    simp only [impl_owner.l0] at H
    by_cases c6 : x14_1 < (l0_2.length : Int)
    ·
     rw [if_pos c6] at H
     have c6b0 : decide (x14_1 < (l0_2.length : Int)) = true := decide_eq_true c6
     clear c6
     by_cases c7 : 0 ≤ x14_1
     ·
      rw [if_pos c7] at H
      have c7b0 : decide (0 ≤ x14_1) = true := decide_eq_true c7
      clear c7
      by_cases c8 : x14_1 < (l0_2.length : Int)
      ·
       rw [if_pos c8] at H
       have c8b0 : decide (x14_1 < (l0_2.length : Int)) = true := decide_eq_true c8
       clear c8
       by_cases c9 : (Int.tmod a1 a0_0) ≥ ((rd_T62 l0_2 x14_1).f1)
       ·
        rw [if_pos c9] at H
        have c9b0 : decide (((rd_T62 l0_2 x14_1).f1) ≤ (Int.tmod a1 a0_0)) = true := decide_eq_true c9
        clear c9
        by_cases c10 : (Int.tmod a1 a0_0) < (wrap64 (((rd_T62 l0_2 x14_1).f1) + ((rd_T62 l0_2 x14_1).f2)))
        ·
         rw [if_pos c10] at H
         have c10b0 : decide ((Int.tmod a1 a0_0) < (wrap64 (((rd_T62 l0_2 x14_1).f1) + ((rd_T62 l0_2 x14_1).f2)))) = true := decide_eq_true c10
         clear c10
         obtain rfl := Option.some.inj H
         have p110 : 0 ≤ (x14_1 : Int) := of_decide_eq_true (by first | (with_reducible assumption) | assumption)
         have q110 : x14_1 < (l0_2.length : Int) := of_decide_eq_true (by first | (with_reducible assumption) | assumption)
         obtain ⟨ad110, e110, hx110_0, hx110_1, hx110_2⟩ := at_T62 HR0_2.out x14_1 p110 q110
         cases e110
         replace hx110_0 := bc HB.out hx110_0
         replace hx110_1 := bc HB.out hx110_1
         replace hx110_2 := bc HB.out hx110_2
         replace p110 := eq_true p110
         replace q110 := eq_true q110
         go_wp2_with (first | ((with_reducible refine gate_dst (N := 6) rfl ?_); refine box_event ?hg (N := 6) ?hd (cs := #[.int .i64 0, .int .i64 0, .int .i64 0]) (t := 62) ?hr ?_; (case hd => rfl); (case hg => rfl); (case hr => first | (go_simp; done) | (go_simp; rfl)); intro gb111 hg w11 hbox hb; have BK111 := Aside0.mk (hbox); have GW111 := Aside0.mk ((by rw [hg]; exact (below_size (by repeat with_reducible first | exact bl HB.out | refine below_set ?_ GE109.out | refine bq ?_)) : w.heap.size ≤ gb111)); have GE111 := GW111; replace HB := Aside0.mk (below_step (by repeat with_reducible first | exact bl HB.out | refine below_set ?_ GE109.out | refine bq ?_) hb); have NB109_111 := nb_ hg BK109.out; have NB111_109 := Aside0.mk NB109_111.out.symm; replace BK109 := Aside0.mk (blk_below (bk BK109.out) hb); clear hb hbox hg; have hnb12 := NB111_109.out; have hnc12 := NB109_111.out; obtain ⟨hcz13_0, hcz13_1, hcz13_2⟩ := ck3 BK111.out; obtain ⟨hfz13_0, hfz13_1, hfz13_2⟩ := fz3 BK111.out))
         go_ret
         exact ⟨by first | rfl | (simp [errW_none, errW_some] <;> rfl) | (simp [*, errW_none, errW_some] <;> rfl), by repeat with_reducible first | exact bl HB.out | refine below_set ?_ GE109.out | refine below_set ?_ GE111.out | refine bq ?_⟩
        ·
         rw [if_neg c10] at H
         have c10b0 : decide ((Int.tmod a1 a0_0) < (wrap64 (((rd_T62 l0_2 x14_1).f1) + ((rd_T62 l0_2 x14_1).f2)))) = false := decide_eq_false c10
         clear c10
         have H' := Aside0.mk H
         clear H
         have p110 : 0 ≤ (x14_1 : Int) := of_decide_eq_true (by first | (with_reducible assumption) | assumption)
         have q110 : x14_1 < (l0_2.length : Int) := of_decide_eq_true (by first | (with_reducible assumption) | assumption)
         obtain ⟨ad110, e110, hx110_0, hx110_1, hx110_2⟩ := at_T62 HR0_2.out x14_1 p110 q110
         cases e110
         replace hx110_0 := bc HB.out hx110_0
         replace hx110_1 := bc HB.out hx110_1
         replace hx110_2 := bc HB.out hx110_2
         replace p110 := eq_true p110
         replace q110 := eq_true q110
         go_wp2_with (first | ((with_reducible refine gate_dst (N := 6) rfl ?_); refine box_event ?hg (N := 6) ?hd (cs := #[.int .i64 0, .int .i64 0, .int .i64 0]) (t := 62) ?hr ?_; (case hd => rfl); (case hg => rfl); (case hr => first | (go_simp; done) | (go_simp; rfl)); intro gb111 hg w14 hbox hb; have BK111 := Aside0.mk (hbox); have GW111 := Aside0.mk ((by rw [hg]; exact (below_size (by repeat with_reducible first | exact bl HB.out | refine below_set ?_ GE109.out | refine bq ?_)) : w.heap.size ≤ gb111)); have GE111 := GW111; replace HB := Aside0.mk (below_step (by repeat with_reducible first | exact bl HB.out | refine below_set ?_ GE109.out | refine bq ?_) hb); have NB109_111 := nb_ hg BK109.out; have NB111_109 := Aside0.mk NB109_111.out.symm; replace BK109 := Aside0.mk (blk_below (bk BK109.out) hb); clear hb hbox hg; have hnb15 := NB111_109.out; have hnc15 := NB109_111.out; obtain ⟨hcz16_0, hcz16_1, hcz16_2⟩ := ck3 BK111.out; obtain ⟨hfz16_0, hfz16_1, hfz16_2⟩ := fz3 BK111.out))
         go_roundg k1
         case measure => have := HK1.out; omega
         case rel => exact ⟨(wrap64 (x14_1 + 1)), (by first | rfl | (simp; done) | (simp [*]; done)), H', ⟨by have := HK1.out; omega⟩, ⟨by (repeat refine bk1 ?_); refine blk_far ?_ NB109_111.out _; (repeat refine bk1 ?_); refine blk_far ?_ NB109_111.out _; (repeat refine bk1 ?_); refine blk_far ?_ NB109_111.out _; (repeat refine bk1 ?_); exact BK109.out⟩, ⟨by repeat with_reducible first | exact bl HB.out | refine below_set ?_ GE109.out | refine below_set ?_ GE111.out | refine bq ?_⟩⟩
       ·
        rw [if_neg c9] at H
        have c9b0 : decide (((rd_T62 l0_2 x14_1).f1) ≤ (Int.tmod a1 a0_0)) = false := decide_eq_false c9
        clear c9
        have H' := Aside0.mk H
        clear H
        have p110 : 0 ≤ (x14_1 : Int) := of_decide_eq_true (by first | (with_reducible assumption) | assumption)
        have q110 : x14_1 < (l0_2.length : Int) := of_decide_eq_true (by first | (with_reducible assumption) | assumption)
        obtain ⟨ad110, e110, hx110_0, hx110_1, hx110_2⟩ := at_T62 HR0_2.out x14_1 p110 q110
        cases e110
        replace hx110_0 := bc HB.out hx110_0
        replace hx110_1 := bc HB.out hx110_1
        replace hx110_2 := bc HB.out hx110_2
        replace p110 := eq_true p110
        replace q110 := eq_true q110
        go_wp2_with (first | ((with_reducible refine gate_dst (N := 6) rfl ?_); refine box_event ?hg (N := 6) ?hd (cs := #[.int .i64 0, .int .i64 0, .int .i64 0]) (t := 62) ?hr ?_; (case hd => rfl); (case hg => rfl); (case hr => first | (go_simp; done) | (go_simp; rfl)); intro gb111 hg w17 hbox hb; have BK111 := Aside0.mk (hbox); have GW111 := Aside0.mk ((by rw [hg]; exact (below_size (by repeat with_reducible first | exact bl HB.out | refine below_set ?_ GE109.out | refine bq ?_)) : w.heap.size ≤ gb111)); have GE111 := GW111; replace HB := Aside0.mk (below_step (by repeat with_reducible first | exact bl HB.out | refine below_set ?_ GE109.out | refine bq ?_) hb); have NB109_111 := nb_ hg BK109.out; have NB111_109 := Aside0.mk NB109_111.out.symm; replace BK109 := Aside0.mk (blk_below (bk BK109.out) hb); clear hb hbox hg; have hnb18 := NB111_109.out; have hnc18 := NB109_111.out; obtain ⟨hcz19_0, hcz19_1, hcz19_2⟩ := ck3 BK111.out; obtain ⟨hfz19_0, hfz19_1, hfz19_2⟩ := fz3 BK111.out))
        go_roundg k1
        case measure => have := HK1.out; omega
        case rel => exact ⟨(wrap64 (x14_1 + 1)), (by first | rfl | (simp; done) | (simp [*]; done)), H', ⟨by have := HK1.out; omega⟩, ⟨by (repeat refine bk1 ?_); refine blk_far ?_ NB109_111.out _; (repeat refine bk1 ?_); refine blk_far ?_ NB109_111.out _; (repeat refine bk1 ?_); refine blk_far ?_ NB109_111.out _; (repeat refine bk1 ?_); exact BK109.out⟩, ⟨by repeat with_reducible first | exact bl HB.out | refine below_set ?_ GE109.out | refine below_set ?_ GE111.out | refine bq ?_⟩⟩
      ·
       rw [if_neg c8] at H
       exact absurd H (by simp)
     ·
      rw [if_neg c7] at H
      exact absurd H (by simp)
    ·
     rw [if_neg c6] at H
     have c6b0 : decide (x14_1 < (l0_2.length : Int)) = false := decide_eq_false c6
     clear c6
     obtain rfl := Option.some.inj H
     go_wp2
     go_ret
     exact ⟨by first | rfl | (simp [errW_none, errW_some] <;> rfl) | (simp [*, errW_none, errW_some] <;> rfl), by repeat with_reducible first | exact bl HB.out | refine below_set ?_ GE109.out | refine bq ?_⟩

/-! ### impl_Owner: function 15 -/
def impl_Owner.f (k : Nat) (a0_0 : Int) (a0_1 : Int) (l0_2 : List (S62)) (a1 : Int) : Option (Int × Bool) := (impl_PlanOk.f k a0_0 a0_1 l0_2).bind fun t113 => (if t113 = true then ((impl_isTick.f a1).bind fun t114 => (if t114 = true then ((impl_owner.f k a0_0 a0_1 l0_2 a1).bind fun t115 => (some (t115, true))) else (some ((-1), false)))) else (some ((-1), false)))
theorem impl_Owner.mono : ∀ a0 a1 a2 a3 k, LeO (impl_Owner.f k a0 a1 a2 a3) (impl_Owner.f (k + 1) a0 a1 a2 a3) := by
 intro a0 a1 a2 a3 k
 unfold impl_Owner.f
 repeat' first
   | (with_reducible exact impl_PlanOk.mono _ _ _ _)
   | (with_reducible exact impl_owner.mono _ _ _ _ _)
   | (with_reducible exact LeO.refl _)
   | (with_reducible exact LeO.none _)
   | (with_reducible refine LeO.ite ?_ ?_)
   | (with_reducible refine LeO.bind ?_ (fun _ => ?_))
   | exact impl_PlanOk.mono _ _ _ _
   | exact impl_owner.mono _ _ _ _ _
   | exact LeO.none _
   | refine LeO.ite ?_ ?_
   | refine LeO.bind ?_ (fun _ => ?_)
set_option maxHeartbeats 8000000 in
set_option maxRecDepth 100000 in
theorem impl_Owner.calls (k : Nat) (a0_0 : Int) (a0_1 : Int) (A0_2 : Option Addr) (c0_2 : Nat) (l0_2 : List (S62)) (a1 : Int) (r1 : Int) (r2 : Bool) (w : World) (hr0_2 : Kd.C k62 w A0_2 l0_2.length l0_2) (hc0_2 : l0_2.length ≤ c0_2) (h : impl_Owner.f k a0_0 a0_1 l0_2 a1 = some (r1, r2)) :
  Calls Try.prog 15 #[.agg #[.int .i64 a0_0, .int .i64 a0_1, .slice A0_2 l0_2.length c0_2], .int .i64 a1] w fun e w' => e = .returned (.tuple #[.int .i64 r1, .bool r2]) ∧ Below w.heap.size w w' := by
 have hu29 := Try.underlying29
 have HR0_2 := Aside0.mk hr0_2
 have HC0_2 := Aside0.mk hc0_2
 clear hr0_2 hc0_2
 have HB := Aside0.mk (Below.refl w.heap.size w)
 have H : ((impl_PlanOk.f k a0_0 a0_1 l0_2).bind fun t113 => (if t113 = true then ((impl_isTick.f a1).bind fun t114 => (if t114 = true then ((impl_owner.f k a0_0 a0_1 l0_2 a1).bind fun t115 => (some (t115, true))) else (some ((-1), false)))) else (some ((-1), false)))) = some (r1, r2) := h
 clear h
 replace H := Option.bind_eq_some_iff.mp H
 obtain ⟨t113, A30, H⟩ := H
 replace H : (if t113 = true then ((impl_isTick.f a1).bind fun t114 => (if t114 = true then ((impl_owner.f k a0_0 a0_1 l0_2 a1).bind fun t115 => (some (t115, true))) else (some ((-1), false)))) else (some ((-1), false))) = some (r1, r2) := H
 have A3 := Aside0.mk A30
 clear A30
 by_cases c4 : t113 = true
 ·
  subst c4
  have H1 : ((impl_isTick.f a1).bind fun t114 => (if t114 = true then ((impl_owner.f k a0_0 a0_1 l0_2 a1).bind fun t115 => (some (t115, true))) else (some ((-1), false)))) = some (r1, r2) := by rw [if_pos rfl] at H; exact H
  clear H
  have H := H1
  clear H1
  replace H := Option.bind_eq_some_iff.mp H
  obtain ⟨t114, A50, H⟩ := H
  replace H : (if t114 = true then ((impl_owner.f k a0_0 a0_1 l0_2 a1).bind fun t115 => (some (t115, true))) else (some ((-1), false))) = some (r1, r2) := H
  have A5 := Aside0.mk A50
  clear A50
  by_cases c6 : t114 = true
  ·
   subst c6
   have H1 : ((impl_owner.f k a0_0 a0_1 l0_2 a1).bind fun t115 => (some (t115, true))) = some (r1, r2) := by rw [if_pos rfl] at H; exact H
   clear H
   have H := H1
   clear H1
   replace H := Option.bind_eq_some_iff.mp H
   obtain ⟨t115, A70, H⟩ := H
   replace H : (some (t115, true)) = some (r1, r2) := H
   have A7 := Aside0.mk A70
   clear A70
   simp only [Option.some.injEq, Prod.mk.injEq] at H
   obtain ⟨rfl, rfl⟩ := H
   go_enter Try.func15, Try.ntmps15
   go_wp2_with (first | ((with_reducible refine gate_dst (N := 2) rfl ?_); refine box_event ?hg (N := 2) ?hd (cs := #[.int .i64 a0_0, .int .i64 a0_1, .slice A0_2 l0_2.length c0_2]) (t := 29) ?hr ?_; (case hd => rfl); (case hg => rfl); (case hr => first | (go_simp; done) | (go_simp; rfl)); intro gb112 hg w8 hbox hb; have BK112 := Aside0.mk (hbox); have GW112 := Aside0.mk ((by rw [hg]; exact (below_size (bl HB.out)) : w.heap.size ≤ gb112)); have GE112 := GW112; replace HB := Aside0.mk (below_step (bl HB.out) hb); clear hb hbox hg; obtain ⟨hcz9_0, hcz9_1, hcz9_2⟩ := ck3 BK112.out; obtain ⟨hfz9_0, hfz9_1, hfz9_2⟩ := fz3 BK112.out) | ((with_reducible refine gate_callee (f := 12) rfl ?_); refine goesL_ (some 7) rfl rfl Try.func12 (by kernel_rfl) rfl #[.agg #[.int .i64 a0_0, .int .i64 a0_1, .slice A0_2 l0_2.length c0_2]] rfl (by (try simp only [am_]); first | done | rfl) ?_; (with_reducible refine (impl_PlanOk.calls k a0_0 a0_1 _ _ l0_2 true _ ?side1 ?side2 A3.out).mono ?_); (case side1 => exact rc (Kd.C_below HR0_2.out HB.out)); (case side2 => exact HC0_2.out); rintro e w10 ⟨rfl, hb⟩; refine ⟨_, rfl, ?_⟩; replace BK112 := Aside0.mk (blk_below (bk BK112.out) hb); replace HB := Aside0.mk (below_step (by repeat with_reducible first | exact bl HB.out | refine below_set ?_ GE112.out | refine bq ?_) hb); (try clear hb); (try clear hb2); (try clear hk); (try clear hi)) | (go_at_call 41; (with_reducible refine (impl_isTick.calls a1 true _ A5.out).mono ?_); rintro e w' ⟨rfl, ⟨nd, rfl⟩⟩; obtain ⟨hcz11_0, hcz11_1, hcz11_2⟩ := ck3 BK112.out; obtain ⟨hfz11_0, hfz11_1, hfz11_2⟩ := fz3 BK112.out) | ((with_reducible refine gate_callee (f := 42) rfl ?_); refine goesL_ (some 16) rfl rfl Try.func42 (by kernel_rfl) rfl #[.agg #[.int .i64 a0_0, .int .i64 a0_1, .slice A0_2 l0_2.length c0_2], .int .i64 a1] rfl (by (try simp only [am_]); first | done | rfl) ?_; (with_reducible refine (impl_owner.calls k a0_0 a0_1 _ _ l0_2 a1 t115 _ ?side1 ?side2 A7.out).mono ?_); (case side1 => repeat (first | exact (Kd.C_below HR0_2.out (by repeat with_reducible first | exact bl HB.out | refine below_set ?_ GE112.out | refine bq ?_)) | (with_reducible refine Kd.C_alloc ?_ _) | (with_reducible refine Kd.C_drewN ?_ _) | (with_reducible refine Kd.C_drew ?_))); (case side2 => exact HC0_2.out); rintro e w12 ⟨rfl, hb⟩; refine ⟨_, rfl, ?_⟩; replace BK112 := Aside0.mk (blk_below (bk BK112.out) hb); replace HB := Aside0.mk (below_step (by repeat with_reducible first | exact bl HB.out | refine below_set ?_ GE112.out | refine bq ?_) hb); (try clear hb); (try clear hb2); (try clear hk); (try clear hi)))
   go_ret2
   exact ⟨by first | rfl | (simp [errW_none, errW_some] <;> rfl) | (simp [*, errW_none, errW_some] <;> rfl), by repeat with_reducible first | exact bl HB.out | refine below_set ?_ GE112.out | refine bq ?_⟩
  ·
   replace c6 := Bool.eq_false_iff.mpr c6
   subst c6
   have H1 : (some ((-1), false)) = some (r1, r2) := by rw [if_neg (show ¬ (false = true) by decide)] at H; exact H
   clear H
   have H := H1
   clear H1
   simp only [Option.some.injEq, Prod.mk.injEq] at H
   obtain ⟨rfl, rfl⟩ := H
   go_enter Try.func15, Try.ntmps15
   go_wp2_with (first | ((with_reducible refine gate_dst (N := 2) rfl ?_); refine box_event ?hg (N := 2) ?hd (cs := #[.int .i64 a0_0, .int .i64 a0_1, .slice A0_2 l0_2.length c0_2]) (t := 29) ?hr ?_; (case hd => rfl); (case hg => rfl); (case hr => first | (go_simp; done) | (go_simp; rfl)); intro gb112 hg w13 hbox hb; have BK112 := Aside0.mk (hbox); have GW112 := Aside0.mk ((by rw [hg]; exact (below_size (bl HB.out)) : w.heap.size ≤ gb112)); have GE112 := GW112; replace HB := Aside0.mk (below_step (bl HB.out) hb); clear hb hbox hg; obtain ⟨hcz14_0, hcz14_1, hcz14_2⟩ := ck3 BK112.out; obtain ⟨hfz14_0, hfz14_1, hfz14_2⟩ := fz3 BK112.out) | ((with_reducible refine gate_callee (f := 12) rfl ?_); refine goesL_ (some 7) rfl rfl Try.func12 (by kernel_rfl) rfl #[.agg #[.int .i64 a0_0, .int .i64 a0_1, .slice A0_2 l0_2.length c0_2]] rfl (by (try simp only [am_]); first | done | rfl) ?_; (with_reducible refine (impl_PlanOk.calls k a0_0 a0_1 _ _ l0_2 true _ ?side1 ?side2 A3.out).mono ?_); (case side1 => exact rc (Kd.C_below HR0_2.out HB.out)); (case side2 => exact HC0_2.out); rintro e w15 ⟨rfl, hb⟩; refine ⟨_, rfl, ?_⟩; replace BK112 := Aside0.mk (blk_below (bk BK112.out) hb); replace HB := Aside0.mk (below_step (by repeat with_reducible first | exact bl HB.out | refine below_set ?_ GE112.out | refine bq ?_) hb); (try clear hb); (try clear hb2); (try clear hk); (try clear hi)) | (go_at_call 41; (with_reducible refine (impl_isTick.calls a1 false _ A5.out).mono ?_); rintro e w' ⟨rfl, ⟨nd, rfl⟩⟩))
   go_ret2
   exact ⟨by first | rfl | (simp [errW_none, errW_some] <;> rfl) | (simp [*, errW_none, errW_some] <;> rfl), by repeat with_reducible first | exact bl HB.out | refine below_set ?_ GE112.out | refine bq ?_⟩
 ·
  replace c4 := Bool.eq_false_iff.mpr c4
  subst c4
  have H1 : (some ((-1), false)) = some (r1, r2) := by rw [if_neg (show ¬ (false = true) by decide)] at H; exact H
  clear H
  have H := H1
  clear H1
  simp only [Option.some.injEq, Prod.mk.injEq] at H
  obtain ⟨rfl, rfl⟩ := H
  go_enter Try.func15, Try.ntmps15
  go_wp2_with (first | ((with_reducible refine gate_dst (N := 2) rfl ?_); refine box_event ?hg (N := 2) ?hd (cs := #[.int .i64 a0_0, .int .i64 a0_1, .slice A0_2 l0_2.length c0_2]) (t := 29) ?hr ?_; (case hd => rfl); (case hg => rfl); (case hr => first | (go_simp; done) | (go_simp; rfl)); intro gb112 hg w16 hbox hb; have BK112 := Aside0.mk (hbox); have GW112 := Aside0.mk ((by rw [hg]; exact (below_size (bl HB.out)) : w.heap.size ≤ gb112)); have GE112 := GW112; replace HB := Aside0.mk (below_step (bl HB.out) hb); clear hb hbox hg; obtain ⟨hcz17_0, hcz17_1, hcz17_2⟩ := ck3 BK112.out; obtain ⟨hfz17_0, hfz17_1, hfz17_2⟩ := fz3 BK112.out) | ((with_reducible refine gate_callee (f := 12) rfl ?_); refine goesL_ (some 7) rfl rfl Try.func12 (by kernel_rfl) rfl #[.agg #[.int .i64 a0_0, .int .i64 a0_1, .slice A0_2 l0_2.length c0_2]] rfl (by (try simp only [am_]); first | done | rfl) ?_; (with_reducible refine (impl_PlanOk.calls k a0_0 a0_1 _ _ l0_2 false _ ?side1 ?side2 A3.out).mono ?_); (case side1 => exact rc (Kd.C_below HR0_2.out HB.out)); (case side2 => exact HC0_2.out); rintro e w18 ⟨rfl, hb⟩; refine ⟨_, rfl, ?_⟩; replace BK112 := Aside0.mk (blk_below (bk BK112.out) hb); replace HB := Aside0.mk (below_step (by repeat with_reducible first | exact bl HB.out | refine below_set ?_ GE112.out | refine bq ?_) hb); (try clear hb); (try clear hb2); (try clear hk); (try clear hi)))
  go_ret2
  exact ⟨by first | rfl | (simp [errW_none, errW_some] <;> rfl) | (simp [*, errW_none, errW_some] <;> rfl), by repeat with_reducible first | exact bl HB.out | refine below_set ?_ GE112.out | refine bq ?_⟩

-- NOT PRINTED: function 60 (impl_Window_60)

-- HAND FROM
/-! ### clear(s[i:]) and s[:i], elements of any size (by hand) -/
theorem run_clear_many {P : Program} (w : World) (t e ty : TypeId) (z : Value) (ht : P.underlying t = some (.slice e)) (hv : ∀ w, (zeroValue e).run P w = .ok z w) (h1 : ∀ u ∈ z.cells.toList, u.oneCell' = true) (g o n c : Nat) (hn : 0 < n) {cur : Array Value} {et : Nat} (hh : w.heap[g]? = some (.cells cur et (0, 0))) (hfit : o + n * z.cells.size ≤ cur.size) :
    (Builtin.clear_ #[t] ty #[.slice (some ⟨g, o, none⟩) n c]).run P w = .ok (.tuple #[]) (w.setCells g o (Builtin.zeroCells z.cells n).toList) := by
  have hl : (Builtin.zeroCells z.cells n).toList.length = n * z.cells.size := by rw [Array.length_toList, size_zeroCells]
  have hst := run_storeCells_cells (P := P) g o (Builtin.zeroCells z.cells n).toList 0 w
    (fun j hj => by rw [hl] at hj; rw [blk_cell hh]; simp; omega)
    (fun j _ => blk_frozen hh _)
    (fun v hv' => by
      have : v ∈ z.cells.toList := by
        simp only [Builtin.zeroCells] at hv'
        simp at hv'
        obtain ⟨a, ha, rfl⟩ := hv'
        have hp : 0 < z.cells.size := Nat.pos_of_ne_zero (fun h0 => by rw [h0] at ha; omega)
        have hlt := Nat.mod_lt a hp
        rw [getElem!_pos z.cells _ hlt]
        simp
      exact h1 v this)
  simp only [Nat.add_zero] at hst
  obtain ⟨m, rfl⟩ : ∃ m, n = m + 1 := ⟨n - 1, by omega⟩
  simp [Builtin.clear_, run_underlying ht, hv, hst]
theorem R_clear {α : Type} {d : Kd α} {e n c g i : Nat} {w : World} {base : Nat} {ok : Nat → Prop} {xs : List α} (h : d.R e w base ok (.slice (some ⟨g, 0, none⟩) n c) xs) (hi : i ≤ xs.length) (zs : List Value) (hz : i * d.sz + zs.length ≤ c * d.sz) :
    d.R e (w.setCells g (i * d.sz) zs) base ok (.slice (some ⟨g, 0, none⟩) i c) (xs.take i) ∧ w.grownBy (w.setCells g (i * d.sz) zs) (some g) := by
  have h' := Kd.R_take h hi
  obtain ⟨s1, s2, s3, s4⟩ := setCells_same g zs (i * d.sz) w
  obtain ⟨h0, inner, ho, hr⟩ := h'
  refine ⟨⟨h0, inner, ?_, hr.imp_ (fun p cs hp => d.M_move (fun k hk => setCells_far zs _ k (fun he => hk.2 (by rw [he]; rfl))) hp)⟩, ⟨s1, s2, s3, by omega, fun k _ hk => setCells_far zs _ k (fun he => hk (by rw [he]))⟩⟩
  obtain ⟨hl, ho⟩ := ho
  refine ⟨hl, .inr ?_⟩
  rcases ho with ⟨hv, _⟩ | ⟨g', cap, cur, hv, hb, hh, hnc, hcm, hcs, ht⟩
  · cases hv
  · injection hv with hv1 hv2 hv3
    injection hv1 with hv1
    injection hv1 with hv1
    subst hv1 hv3
    obtain ⟨cur', hh', hs', ht'⟩ := setCells_row zs (i * d.sz) w cur hh (by omega)
    refine ⟨g, c, cur', by rw [← hv2], hb, hh', hnc, hcm, by omega, ?_⟩
    rw [← hv2] at ht ⊢
    rw [← ht, ht', List.take_append_of_le_length, List.take_append_of_le_length, List.take_take, Nat.min_self]
    · rw [List.length_take, Array.length_toList]; have := Nat.mul_le_mul_right d.sz hnc; omega
    · rw [List.length_append, List.length_take, Array.length_toList]; have := Nat.mul_le_mul_right d.sz hnc; omega
theorem Kd.R_frozen_ {α : Type} {d : Kd α} {e n c g : Nat} {w : World} {base : Nat} {ok : Nat → Prop} {xs : List α} (h : d.R e w base ok (.slice (some ⟨g, 0, none⟩) n c) xs) (m : Nat) : w.frozen? ⟨g, m, none⟩ = false := by
  obtain ⟨_, inner, ho, _⟩ := h
  obtain ⟨cells, hc⟩ := own_typed ho g (by simp [Value.ownBlock])
  exact blk_frozen hc _
/-! ### slices.DeleteFunc (function 44) and its slices.IndexFunc (60) with the function value 46 (by hand) -/
def FirstAt46 (q : S62 → Bool) (l : List S62) (i : Int) : Prop := (i = -1 ∧ l.any q = false) ∨ ∃ j : Nat, i = (j : Int) ∧ j < l.length ∧ (l.take j).any q = false ∧ q (rd_T62 l (j : Int)) = true
theorem rdd46 {l : List S62} {i : Nat} (h : i < l.length) : rd_T62 l (i : Int) = l[i] := by simp [rd_T62, List.getD_eq_getElem?_getD, h]
theorem anyd46 (q : S62 → Bool) {l : List S62} {i : Nat} (h : i < l.length) (hn : (l.take i).any q = false) (hb : q (rd_T62 l (i : Int)) = false) : (l.take (i + 1)).any q = false := by
  rw [List.take_succ_eq_append_getElem h, List.any_append, hn, ← rdd46 h]
  simp [hb]
theorem FirstAt46.same {q : S62 → Bool} {l : List S62} {i : Int} {j : Nat} (h : FirstAt46 q l i) (hj : j < l.length) (h1 : (l.take j).any q = false) (h2 : q (rd_T62 l (j : Int)) = true) : i = (j : Int) := by
  rcases h with ⟨rfl, h⟩ | ⟨k, rfl, hk, h3, h4⟩
  · exact absurd (List.any_eq_false.1 h _ (List.getElem_mem hj)) (by rw [← rdd46 hj, h2]; simp)
  · rcases Nat.lt_trichotomy k j with hlt | rfl | hlt
    · refine absurd (List.any_eq_false.1 h1 l[k] ?_) (by rw [← rdd46 hk, h4]; simp)
      rw [List.mem_take_iff_getElem]
      exact ⟨k, by omega, rfl⟩
    · rfl
    · refine absurd (List.any_eq_false.1 h3 l[j] ?_) (by rw [← rdd46 hj, h2]; simp)
      rw [List.mem_take_iff_getElem]
      exact ⟨j, by omega, rfl⟩
theorem FirstAt46.none {q : S62 → Bool} {l : List S62} {i : Int} (h : FirstAt46 q l i) (h1 : l.any q = false) : i = -1 := by
  rcases h with ⟨rfl, h⟩ | ⟨k, rfl, hk, h3, h4⟩
  · rfl
  · exact absurd (List.any_eq_false.1 h1 _ (List.getElem_mem hk)) (by rw [← rdd46 hk, h4]; simp)
theorem firstd46 (q : S62 → Bool) : ∀ l : List S62, l.any q = true → ∃ j : Nat, j < l.length ∧ (l.take j).any q = false ∧ q (rd_T62 l (j : Int)) = true
  | [], h => by simp at h
  | x :: l, h => by
    cases hx : q x with
    | true => exact ⟨0, by simp, by simp, by simpa [rd_T62] using hx⟩
    | false =>
      obtain ⟨j, h1, h2, h3⟩ := firstd46 q l (by simpa [hx] using h)
      refine ⟨j + 1, by simpa using h1, by simp [hx]; simpa using h2, ?_⟩
      rw [rdd46 (by simpa using h1)]
      rw [rdd46 h1] at h3
      simpa using h3
set_option maxHeartbeats 8000000 in
theorem index46 (q : S62 → Bool) (cs : Array Value) (tb : Nat) (HQ : Aside0 (∀ (x : S62) (B : Nat) (W : World), W.heap[B]? = some (.cells cs tb (0, 0)) → Calls Try.prog 46 #[.agg #[.int .i64 x.f0, .int .i64 x.f1, .int .i64 x.f2], .pointer (some ⟨B, 0, none⟩)] W fun e w' => e = .returned (.bool (q x)) ∧ Below W.heap.size W w'))
    (l : List S62) (A : Option Addr) (c : Nat) (B : Nat) (w : World) (hr : Kd.C k62 w A l.length l) (hc : l.length ≤ c) (hl : l.length ≤ 1152921504606846976) (hB : w.heap[B]? = some (.cells cs tb (0, 0))) :
    Calls Try.prog 60 #[.slice A l.length c, .func (.func 46) #[] #[.pointer (some ⟨B, 0, none⟩)]] w fun e w' => (∃ i : Int, e = .returned (.int .i64 i) ∧ FirstAt46 q l i) ∧ Below w.heap.size w w' := by
  have hu_ := Try.underlying62
  have HR := Aside0.mk hr
  have HBB := Aside0.mk hB
  have HL := Aside0.mk hl
  clear hr hB
  go_enter Try.func60, Try.ntmps60
  go_wp2
  go_loopw [8] (fun v8 wr => ∃ i : Nat, i ≤ l.length ∧ v8 = .int .i64 i ∧ Aside0 ((l.take i).any q = false) ∧ Aside0 (Below w.heap.size w wr)) (fun v8 _ => l.length - (intOf v8).toNat)
  case atStart => exact ⟨0, Nat.zero_le _, rfl, ⟨by simp⟩, ⟨Below.refl _ _⟩⟩
  case round =>
    obtain ⟨i, hi, rfl, HN, HB⟩ := hrel
    by_cases hlt : i < l.length
    · obtain ⟨ad, e0, hx0, hx1, hx2⟩ := at_T62 (Kd.C_below HR.out HB.out) (i : Int) (by omega) (by omega)
      cases e0
      simp only [Int.toNat_natCast] at hx0 hx1 hx2
      have hBr := Aside0.mk (blk_below HBB.out (Below.mono HB.out (Nat.le_refl _)))
      cases hb : q (rd_T62 l (i : Int)) with
      | true =>
        have HB1 := Aside0.mk hb
        clear hb
        go_wp2_with (first | (go_at_call 46; (with_reducible refine (HQ.out _ _ _ hBr.out).mono ?_); rw [HB1.out]; rintro e w' ⟨rfl, hb⟩))
        go_ret
        exact ⟨⟨(i : Int), rfl, .inr ⟨i, rfl, hlt, HN.out, HB1.out⟩⟩, below_step HB.out hb⟩
      | false =>
        have HB1 := Aside0.mk hb
        clear hb
        go_wp2_with (first | (go_at_call 46; (with_reducible refine (HQ.out _ _ _ hBr.out).mono ?_); rw [HB1.out]; rintro e w' ⟨rfl, hb⟩))
        go_roundw
        case rel => exact ⟨i + 1, by omega, by go_num, ⟨anyd46 _ hlt HN.out HB1.out⟩, ⟨below_step HB.out hb⟩⟩
        case measure => simp [intOf]; omega
    · obtain rfl : i = l.length := by omega
      go_wp2
      go_ret
      have hn := HN.out
      rw [List.take_length] at hn
      exact ⟨⟨-1, rfl, .inl ⟨rfl, hn⟩⟩, HB.out⟩
theorem keepd46 (q : S62 → Bool) {l xs : List S62} {i j : Nat} (hij : i < j) (hj : j < l.length) (hx : xs.length = l.length) (h1 : xs.take i = (l.take j).filter (fun x => !q x)) (h2 : xs.drop j = l.drop j) :
    rd_T62 xs (j : Int) = rd_T62 l (j : Int) ∧
    (q (rd_T62 l (j : Int)) = true → xs.take i = (l.take (j + 1)).filter (fun x => !q x)) ∧
    (q (rd_T62 l (j : Int)) = false → (xs.set i (rd_T62 l (j : Int))).take (i + 1) = (l.take (j + 1)).filter (fun x => !q x)) ∧
    xs.drop (j + 1) = l.drop (j + 1) ∧ (∀ y, (xs.set i y).drop (j + 1) = l.drop (j + 1)) := by
  have e : xs[j] = l[j] := by
    have := congrArg (fun t => t[0]?) h2
    simpa [List.getElem?_drop, hj, hx] using this
  have h3 : xs.drop (j + 1) = l.drop (j + 1) := by
    have := congrArg (List.drop 1) h2
    simpa [List.drop_drop] using this
  refine ⟨by rw [rdd46 (by omega), rdd46 hj, e], fun hq => ?_, fun hq => ?_, h3, fun y => ?_⟩
  · rw [rdd46 hj] at hq
    rw [List.take_succ_eq_append_getElem hj, List.filter_append, h1]
    simp [hq]
  · have hi : i < xs.length := by omega
    rw [rdd46 hj] at hq ⊢
    rw [List.take_succ_eq_append_getElem hj, List.filter_append, ← h1]
    rw [List.take_succ_eq_append_getElem (by simpa using hi)]
    simp [hq, List.take_set_of_le]
  · rw [List.drop_set_of_lt (by omega), h3]
def z046 : Value := .agg #[.int .i64 0, .int .i64 0, .int .i64 0]
theorem zrun46 : ∀ w, (zeroValue 62).run Try.prog w = .ok z046 w := fun w => by kernel_rfl
theorem share146 (x : S62) (a1 : Int) (B : Nat) (w : World) (hB : w.heap[B]? = some (.cells #[.int .i64 a1] 3 (0, 0))) :
    Calls Try.prog 46 #[.agg #[.int .i64 x.f0, .int .i64 x.f1, .int .i64 x.f2], .pointer (some ⟨B, 0, none⟩)] w fun e w' => e = .returned (.bool (x.f0 != a1)) ∧ Below w.heap.size w w' := by
  have hu62 := Try.underlying62
  have hc0 : w.cell? ⟨B, 0, none⟩ = some (.int .i64 a1) := (blk_cell hB 0).trans rfl
  have hlt : B < w.heap.size := blk_lt hB
  clear hB
  go_enter Try.func46, Try.ntmps46
  go_wp2
  go_ret
  exact ⟨by first | rfl | simp, by repeat (first | exact Below.refl _ _ | apply below_alloc | apply pw_below_drewN)⟩
set_option maxHeartbeats 8000000 in
set_option maxRecDepth 100000 in
theorem delete46 (q : S62 → Bool) (cs : Array Value) (tb : Nat) (htb : 62 ≠ tb) (HQ : Aside0 (∀ (x : S62) (B : Nat) (W : World), W.heap[B]? = some (.cells cs tb (0, 0)) → Calls Try.prog 46 #[.agg #[.int .i64 x.f0, .int .i64 x.f1, .int .i64 x.f2], .pointer (some ⟨B, 0, none⟩)] W fun e w' => e = .returned (.bool (q x)) ∧ Below W.heap.size W w'))
    (P0_ : Nat → Prop) (u9000_ : Value) (l0 : List S62) (w0 w : World) {B : Nat} (hfn : w.heap[B]? = some (.cells cs tb (0, 0))) (hB : Below w0.heap.size w0 w) (ho0 : Kd.R k62 62 w w0.heap.size P0_ u9000_ l0) (hl : l0.length ≤ 1152921504606846976) :
    Calls Try.prog 44 #[u9000_, .func (.func 46) #[] #[.pointer (some ⟨B, 0, none⟩)]] w fun e w' => ∃ v, e = .returned v ∧ Kd.R k62 62 w' w0.heap.size (fun k_ => (P0_ k_ ∨ w.heap.size ≤ k_)) v (l0.filter (fun x => !q x)) ∧ Below w0.heap.size w0 w' ∧ Kept w w' (fun k_ => P0_ k_) := by
  have hu_ := Try.underlying62
  have HO := Aside0.mk ho0
  have HBB := Aside0.mk hfn
  have HB := Aside0.mk hB
  have HL := Aside0.mk hl
  clear ho0 hfn hB
  cases hany : l0.any q with
  | false =>
    obtain ⟨A0, c0, rfl⟩ := Kd.R_slice HO.out
    have hfl : l0.filter (fun x => !q x) = l0 := List.filter_eq_self.2 (fun x hx => by simpa using List.any_eq_false.1 hany x hx)
    rw [hfl]
    have HA := Aside0.mk hany
    clear hany hfl
    have hrd := Kd.R_reads' HO.out
    have HI := Aside0.mk (index46 q cs tb HQ l0 A0 c0 B w hrd.2.2 hrd.2.1 HL.out HBB.out)
    clear hrd
    go_enter Try.func44, Try.ntmps44
    go_wp2_with (first | (go_at_call 60; (with_reducible refine HI.out.mono ?_); rintro e w' ⟨⟨i, rfl, hi⟩, hb⟩; obtain rfl := FirstAt46.none hi HA.out; clear hi))
    go_ret
    exact ⟨_, rfl, Kd.R_mono (Kd.R_below HO.out hb) (fun _ hk => .inl hk), below_step HB.out hb, Kept.of_below hb _⟩
  | true =>
    obtain ⟨j0, hj0, hn0, hq0⟩ := firstd46 q l0 hany
    clear hany
    obtain ⟨g, cap, rfl, hbg, hgl, ⟨cells, hcells⟩⟩ := Kd.R_form HO.out (by omega)
    have hrd := Kd.R_reads' HO.out
    have hnc : l0.length ≤ cap := hrd.2.1
    have HI := Aside0.mk (index46 q cs tb HQ l0 _ cap B w hrd.2.2 hrd.2.1 HL.out HBB.out)
    have HN0 := Aside0.mk hn0
    have HQ0 := Aside0.mk hq0
    have hgB : B ≠ g := Ne.symm (blk_ne hcells HBB.out htb)
    have hPg : P0_ g := HO.out.1 g rfl
    have hf0 : l0.take j0 = (l0.take (j0 + 1)).filter (fun x => !q x) := by
      rw [List.take_succ_eq_append_getElem hj0, List.filter_append, List.filter_eq_self.2 (fun x hx => by simpa using List.any_eq_false.1 hn0 x hx)]
      rw [rdd46 hj0] at hq0
      simp [hq0]
    have HF0 := Aside0.mk hf0
    have hne : (((j0 : Nat) : Int) == -1) = false := by simp
    have hGB := Aside0.mk hbg
    clear hrd hn0 hq0 hcells hf0 hbg
    go_enter Try.func44, Try.ntmps44
    go_wp2_with (first | (go_at_call 60; (with_reducible refine HI.out.mono ?_); rintro e w1 ⟨⟨i, rfl, hi⟩, hb⟩; obtain rfl := FirstAt46.same hi hj0 HN0.out HQ0.out; clear hi; have HB1 := Aside0.mk hb; clear hb))
    go_loopw [5, 6] (fun v5 v6 wr => ∃ (i j : Nat) (xs : List S62), v5 = .int .i64 i ∧ v6 = .int .i64 j ∧ i < j ∧ j ≤ l0.length ∧ Aside0 (xs.length = l0.length) ∧ Aside0 (xs.take i = (l0.take j).filter (fun x => !q x)) ∧ Aside0 (xs.drop j = l0.drop j) ∧ Aside0 (Kd.R k62 62 wr w0.heap.size P0_ (.slice (some ⟨g, 0, none⟩) l0.length cap) xs) ∧ Aside0 (wr.heap[B]? = some (.cells cs tb (0, 0))) ∧ Aside0 (Below w0.heap.size w0 wr) ∧ Aside0 (Kept w wr P0_)) (fun _ v6 _ => l0.length - (intOf v6).toNat)
    case atStart => exact ⟨j0, j0 + 1, l0, rfl, by go_num, by omega, by omega, ⟨rfl⟩, HF0, ⟨rfl⟩, ⟨Kd.R_below HO.out HB1.out⟩, ⟨blk_below HBB.out HB1.out⟩, ⟨below_step HB.out HB1.out⟩, ⟨Kept.of_below HB1.out _⟩⟩
    case round =>
      clear HI HF0 hne HN0 HQ0 HB1 HO HBB
      obtain ⟨i, j, xs, rfl, rfl, hij, hjl, HXL, HX1, HX2, HOr, HBr, HBe, HK⟩ := hrel
      by_cases hlt : j < l0.length
      · obtain ⟨hk0, hk1, hk2, hk3, hk4⟩ := keepd46 q hij hlt HXL.out HX1.out HX2.out
        have HK1 := Aside0.mk hk1
        have HK2 := Aside0.mk hk2
        have HK3 := Aside0.mk hk3
        have HK4 := Aside0.mk hk4
        obtain ⟨ce, hcl, hM, hcc, hfr⟩ := Kd.R_elem HOr.out z62 (j : Int) (by omega) (by omega)
        obtain rfl := k62_openM hM
        change ∀ j_ u, [.int .i64 (rd_T62 xs (j : Int)).f0, .int .i64 (rd_T62 xs (j : Int)).f1, .int .i64 (rd_T62 xs (j : Int)).f2][j_]? = some u → wr.cell? ⟨g, j * 3 + j_, none⟩ = some u at hcc
        rw [hk0] at hcc
        have hx0 : wr.cell? ⟨g, j * 3, none⟩ = some (.int .i64 (rd_T62 l0 (j : Int)).f0) := hcc 0 _ rfl
        have hx1 : wr.cell? ⟨g, j * 3 + 1, none⟩ = some (.int .i64 (rd_T62 l0 (j : Int)).f1) := hcc 1 _ rfl
        have hx2 : wr.cell? ⟨g, j * 3 + 2, none⟩ = some (.int .i64 (rd_T62 l0 (j : Int)).f2) := hcc 2 _ rfl
        have HFZ := Aside0.mk (fun (m : Nat) => Kd.R_frozen_ HOr.out m)
        have hil : i < l0.length := by omega
        clear hk1 hk2 hk3 hk4 hk0 hcl hM hcc hfr
        cases hb : q (rd_T62 l0 (j : Int)) with
        | true =>
          have HB1 := Aside0.mk hb
          clear hb
          go_wp2_with (first | (go_at_call 46; (with_reducible refine (HQ.out _ _ _ (blk_alloc HBr.out _)).mono ?_); rw [HB1.out]; rintro e w2 ⟨rfl, hb⟩; have HS := Aside0.mk (below_step (below_alloc (Below.refl _ _) _) hb); clear hb))
          go_roundw
          case rel => exact ⟨i, j + 1, xs, rfl, by go_num, by omega, by omega, HXL, ⟨HK1.out HB1.out⟩, HK3, ⟨Kd.R_below HOr.out HS.out⟩, ⟨blk_below HBr.out HS.out⟩, ⟨below_step HBe.out HS.out⟩, ⟨Kept.below HK.out HS.out⟩⟩
          case measure => simp [intOf]; omega
        | false =>
          have HB1 := Aside0.mk hb
          clear hb
          have BN := Aside0.mk (blk_new wr (.cells #[.int .i64 (rd_T62 l0 (j : Int)).f0, .int .i64 (rd_T62 l0 (j : Int)).f1, .int .i64 (rd_T62 l0 (j : Int)).f2] 62 (0, 0)))
          go_wp2_with (first
            | (go_at_call 46; (with_reducible refine (HQ.out _ _ _ (blk_alloc HBr.out _)).mono ?_); rw [HB1.out]; rintro e w2 ⟨rfl, hb⟩
               have HS := Aside0.mk (below_step (below_alloc (Below.refl _ _) _) hb)
               have BX := Aside0.mk (blk_below BN.out hb)
               clear hb
               have HO2 := Aside0.mk (Kd.R_below HOr.out HS.out)
               have hb0 : w2.cell? ⟨wr.heap.size, 0, none⟩ = some (.int .i64 (rd_T62 l0 (j : Int)).f0) := (blk_cell BX.out 0).trans rfl
               have hb1 : w2.cell? ⟨wr.heap.size, 1, none⟩ = some (.int .i64 (rd_T62 l0 (j : Int)).f1) := (blk_cell BX.out 1).trans rfl
               have hb2 : w2.cell? ⟨wr.heap.size, 2, none⟩ = some (.int .i64 (rd_T62 l0 (j : Int)).f2) := (blk_cell BX.out 2).trans rfl
               clear hx0 hx1 hx2 BN)
            | ((with_reducible refine gate_store (t := 62) (p := 33) (v := .tmp 32) rfl ?_)
               obtain ⟨ci, hcl, hM, hcc, hfr⟩ := Kd.R_elem HO2.out z62 (i : Int) (by omega) (by omega)
               obtain rfl := k62_openM hM
               refine Kd.R_store k62 w0.heap.size rfl rfl 62 (.tmp 33) (.tmp 32) rfl 62 (i : Int) 0 xs (rd_T62 l0 (j : Int)) (.agg #[.int .i64 (rd_T62 l0 (j : Int)).f0, .int .i64 (rd_T62 l0 (j : Int)).f1, .int .i64 (rd_T62 l0 (j : Int)).f2]) [.int .i64 (rd_T62 l0 (j : Int)).f0, .int .i64 (rd_T62 l0 (j : Int)).f1, .int .i64 (rd_T62 l0 (j : Int)).f2] _ P0_ (fun _ => False) rfl (by simp; rfl) rfl rfl (by rfl) (by simp [Value.oneCell']) HO2.out (by omega) (by omega) hcl hcc (Nat.le_refl 3) (k62_mkM _ _ _ _) (fun _ hk => hk.elim) (below_step HBe.out HS.out) ?_
               intro w3 ho3 hb3 hg3
               have HO3 := Aside0.mk ho3
               have HB3 := Aside0.mk hb3
               have HG3 := Aside0.mk hg3
               clear ho3 hb3 hg3 hcl hM hcc hfr))
          go_roundw
          case rel => exact ⟨i + 1, j + 1, xs.set i (rd_T62 l0 (j : Int)), by go_num, by go_num, by omega, by omega, ⟨by rw [List.length_set]; exact HXL.out⟩, ⟨HK2.out HB1.out⟩, ⟨HK4.out _⟩, HO3, ⟨blk_grown (blk_below HBr.out HS.out) HG3.out (by simpa using hgB)⟩, HB3, ⟨Kept.of_grown HG3.out (Kept.below HK.out HS.out) (fun k hk => .inl (by cases hk; exact hPg))⟩⟩
          case measure => simp [intOf]; omega
      · obtain rfl : j = l0.length := by omega
        have hfin : xs.take i = l0.filter (fun x => !q x) := by have := HX1.out; rwa [List.take_length] at this
        obtain ⟨cells, hcells⟩ := Kd.R_typed HOr.out g rfl
        have hcs : cap * 3 ≤ cells.size := by
          obtain ⟨_, inner, ho, _⟩ := HOr.out
          rcases ho.2 with ⟨hv, _⟩ | ⟨g', cap', cur, hv, hb, hh, hnc, hcm, hcs, ht⟩
          · cases hv
          · injection hv with hv1 hv2 hv3
            injection hv1 with hv1
            injection hv1 with hv1
            subst hv1 hv3
            rw [hh] at hcells
            injection hcells with hcells
            injection hcells with hcells
            subst hcells
            exact Nat.le_of_eq hcs.symm
        have hclr := fun ty => run_clear_many (P := Try.prog) wr 27 62 ty z046 Try.underlying27 zrun46 (by decide) g (i * 3) (l0.length - i) (cap - i) (by omega) hcells (by show _ + _ * 3 ≤ _; omega)
        have hRC := R_clear HOr.out (i := i) (by have := HXL.out; omega) (Builtin.zeroCells z046.cells (l0.length - i)).toList (by rw [Array.length_toList, size_zeroCells]; show i * 3 + _ * 3 ≤ cap * 3; omega)
        change k62.R 62 (wr.setCells g (i * 3) _) _ _ _ _ ∧ wr.grownBy (wr.setCells g (i * 3) _) _ at hRC
        generalize wr.setCells g (i * 3) (Builtin.zeroCells z046.cells (l0.length - i)).toList = w3 at hclr hRC
        obtain ⟨hR3, hG3⟩ := hRC
        have HR3 := Aside0.mk hR3
        have HG3 := Aside0.mk hG3
        rw [hfin] at HR3
        have hci : ¬ cap = i := by omega
        have hil : i < l0.length := by omega
        have hic : i ≤ cap := by omega
        clear hR3 hG3 hfin hcells hcs
        go_wp2
        go_ret
        exact ⟨_, rfl, Kd.R_mono HR3.out (fun _ hk => .inl hk), HBe.out.grown HG3.out HBe.out.size (fun k hk => by cases hk; exact hGB.out), Kept.of_grown HG3.out HK.out (fun k hk => .inl (by cases hk; exact hPg))⟩
def slices_DeleteFunc_Share_1.f (l0 : List S62) (a1 : Int) : Option (List S62) := if l0.length ≤ 1152921504606846976 then some (l0.filter (fun x => !(x.f0 != a1))) else none
theorem slices_DeleteFunc_Share_1.calls (P0_ : Nat → Prop) (u9000_ : Value) (l0 : List S62) (a1 : Int) (r : List S62) (w0 w : World) {B : Nat} (hfn : w.heap[B]? = some (.cells #[.int .i64 a1] 3 (0, 0))) (hB : Below w0.heap.size w0 w) (ho0 : Kd.R k62 62 w w0.heap.size P0_ u9000_ l0) (h : slices_DeleteFunc_Share_1.f l0 a1 = some r) :
    Calls Try.prog 44 #[u9000_, .func (.func 46) #[] #[.pointer (some ⟨B, 0, none⟩)]] w fun e w' => ∃ v, e = .returned v ∧ Kd.R k62 62 w' w0.heap.size (fun k_ => (P0_ k_ ∨ w.heap.size ≤ k_)) v r ∧ Below w0.heap.size w0 w' ∧ Kept w w' (fun k_ => P0_ k_) := by
  unfold slices_DeleteFunc_Share_1.f at h
  by_cases hl : l0.length ≤ 1152921504606846976
  · rw [if_pos hl] at h
    obtain rfl := Option.some.inj h
    exact delete46 (fun x => (x.f0 != a1)) _ _ (by decide) ⟨fun x B W hW => share146 x a1 B W hW⟩ P0_ u9000_ l0 w0 w hfn hB ho0 hl
  · rw [if_neg hl] at h
    exact absurd h (by simp)
-- HAND TO

/-! ### impl_Window_45: function 45 -/
def impl_Window_45.f (l0 : List (S62)) : Option ((List (S62))) := (some (([] : List (S62)) : List (S62))).bind fun y116 => (if y116.length + l0.length < 5864062014805 then (some (y116 ++ l0)) else (none))
set_option maxHeartbeats 8000000 in
set_option maxRecDepth 100000 in
theorem impl_Window_45.calls (A0 : Option Addr) (c0 : Nat) (l0 : List (S62)) (r : List (S62)) (w : World) (hr0 : Kd.C k62 w A0 l0.length l0) (hc0 : l0.length ≤ c0) (h : impl_Window_45.f l0 = some r) :
  Calls Try.prog 45 #[.slice A0 l0.length c0] w fun e w' => ∃ v0_ : Value, e = .returned (v0_) ∧ Kd.R k62 62 w' w.heap.size (fun _ => True) v0_ r ∧ Below w.heap.size w w' := by
 cases A0 with
 | none =>
  have hl : l0 = [] := by
   rcases Nat.eq_zero_or_pos l0.length with z | z
   ·
    exact List.length_eq_zero_iff.1 z
   ·
    obtain ⟨ad, e, _⟩ := hr0.2.2 z
    cases e
  subst hl
  obtain rfl : [] = r := by simpa [impl_Window_45.f] using h
  clear h hr0
  have he := fun W => Lib.run_eql_slice_nil (P := Try.prog) W 27 62 none 0 c0 0 0 Try.underlying27
  go_enter Try.func45, Try.ntmps45
  go_wp2
  go_ret
  exact ⟨_, rfl, Kd.R_nil _ _ _ _ _, Below.refl _ _⟩
 | some ad0 =>
  have HR0 := Aside0.mk hr0
  have HC0 := Aside0.mk hc0
  clear hr0 hc0
  have HB := Aside0.mk (Below.refl w.heap.size w)
  have H : ((some (([] : List (S62)) : List (S62))).bind fun y116 => (if y116.length + l0.length < 5864062014805 then (some (y116 ++ l0)) else (none))) = some r := h
  clear h
  obtain ⟨y116, hy116⟩ : ∃ y_ : List (S62), y_ = (([] : List (S62))) := ⟨_, rfl⟩
  replace H : (if y116.length + l0.length < 5864062014805 then (some (y116 ++ l0)) else (none)) = some r := by first | (rw [hy116]; with_reducible exact H) | (have H2_ := (Option.bind_some _ _).symm.trans H; rw [hy116]; with_reducible exact H2_) | (have H2_ := (Option.bind_some _ _).symm.trans H; with_reducible exact H2_) | with_reducible exact H | (rw [hy116]; exact H) | exact H
  have Ny116 := Aside0.mk hy116
  clear hy116
  by_cases c2 : y116.length + l0.length < 5864062014805
  ·
   rw [if_pos c2] at H
   have LMc2 := Aside0.mk c2
   clear c2
   obtain ⟨y119, hy119⟩ : ∃ y_ : List (S62), y_ = (y116 ++ l0) := ⟨_, rfl⟩
   replace H : (some y119) = some r := by first | (rw [hy119]; with_reducible exact H) | (have H2_ := (Option.bind_some _ _).symm.trans H; rw [hy119]; with_reducible exact H2_) | (have H2_ := (Option.bind_some _ _).symm.trans H; with_reducible exact H2_) | with_reducible exact H | (rw [hy119]; exact H) | exact H
   have Ny119 := Aside0.mk hy119
   clear hy119
   obtain rfl := Option.some.inj H
   have he := fun W => Lib.run_eql_slice_nil (P := Try.prog) W 27 62 (some ad0) l0.length c0 0 0 Try.underlying27
   go_enter Try.func45, Try.ntmps45
   go_wp2_with (first | ((with_reducible refine gate_dst (N := 5) rfl ?_); refine Kd.R_lit k62 _ 62 ?hg (N := 5) ?hd (xs := ([] : List (S62))) (inner := []) (ok := fun _ => True) (okp := fun _ => True) ?hr ?hp (fun _ hk => hk) trivial (Below.refl _ _) (Nat.le_refl _) (by simp) ?_; (case hd => rfl); (case hg => rfl); (case hr => first | (go_simp; done) | (go_simp; rfl)); (case hp => exact (Reps.none _ _)); intro v117 w3 ho4 hb hg_ hnew_; clear hg_ hnew_; (first | rw [← Ny116.out] at ho4 | (simp only [Int.reduceToNat] at ho4; rw [← Ny116.out] at ho4)); have HO118 := Aside0.mk (Kd.R_lower ho4 (below_size (bl HB.out))); replace HB := Aside0.mk (below_step (bl HB.out) hb); clear hb ho4) | ((with_reducible refine gate_builtin (b := .append) (xs := #[.tmp 5, .tmp 6]) rfl ?_); at_builtin; refine Kd.R_append_rows k62 (w0 := w) w.heap.size rfl (.tmp 5) (.tmp 6) 27 62 (.agg #[(.int .i64 0), (.int .i64 0), (.int .i64 0)]) 24 rfl Try.underlying27 info62 rfl (by decide) (by omega) v117 y116 l0 _ _ _ (fun _ => True) (fun _ => False) rfl rfl ?aO ?aR (fun _ _ h => h) (fun _ h => h.elim) ?aF ?aB ?aS ?aL ?_; (case aR => exact rc (Kd.C_below HR0.out HB.out)); (case aB => exact (bl HB.out)); (case aF => exact (fun _ _ => trivial)); (case aO => exact (rl HO118.out)); (case aS => exact (below_size (bl HB.out))); (case aL => have := LMc2.out; omega); intro v120 w5 ho hb hg hat; rw [← Ny119.out] at ho; replace HB := Aside0.mk (hb); have HO121 := Aside0.mk (ho); clear HO118; clear ho hb hg hat))
   go_ret
   exact ⟨_, by first | rfl | (simp [errW_none, errW_some] <;> rfl) | (simp [*, errW_none, errW_some] <;> rfl), by (repeat apply rl1); exact HO121.out, bl HB.out⟩
  ·
   rw [if_neg c2] at H
   exact absurd H (by simp)

end Go.Proofs.Ytlkphaahkhfgoaa.PFnWindows
