-- Written by a program of this session (wip/xprint.py) out of the translation; Lean checks it.
import Derived.Test.YtlkphaahkhfgoaaPFnExactFitWindowx0
namespace Go.Proofs.Ytlkphaahkhfgoaa.PFnExactFitWindow
open Go.RowKit Go.Proofs.YtlkphaahkhfgoaaW.PrintWords Go.Proofs.YtlkphaahkhfgoaaW.PrintLast Go.Proofs.YtlkphaahkhfgoaaW.PrintMore
attribute [local go_sem] max2_int min2_int max_two min_two max_three min_three max_four min_four   -- for this text's walks alone
set_option linter.unusedVariables false
set_option linter.unusedSimpArgs false

/-! ### impl_in: function 38 -/
def impl_in.f (a0 : Int) (a1 : Int) (a2 : Int) : Option (Bool) := if a0 ≥ a1 then (some (decide (a0 ≤ a2))) else (some false)
set_option maxHeartbeats 8000000 in
set_option maxRecDepth 100000 in
theorem impl_in.calls (a0 : Int) (a1 : Int) (a2 : Int) (r : Bool) (w : World) (h : impl_in.f a0 a1 a2 = some r) :
    Calls Try.prog 38 #[.int .i64 a0, .int .i64 a1, .int .i64 a2] w fun e w' => e = .returned (.bool r) ∧ Drawn0 w w' := by
  have H : (if a0 ≥ a1 then (some (decide (a0 ≤ a2))) else (some false)) = some r := h
  clear h
  by_cases c4 : a0 ≥ a1
  · rw [if_pos c4] at H
    have c4b0 : decide (a1 ≤ a0) = true := decide_eq_true c4
    clear c4
    obtain rfl := Option.some.inj H
    go_enter Try.func38, Try.ntmps38
    go_wp2
    go_ret
    exact ⟨by first | rfl | (simp; done) | (simp [*]; done), by repeat (first | exact Drawn0.refl _ | apply Drawn0.step)⟩
  · rw [if_neg c4] at H
    have c4b0 : decide (a1 ≤ a0) = false := decide_eq_false c4
    clear c4
    obtain rfl := Option.some.inj H
    go_enter Try.func38, Try.ntmps38
    go_wp2
    go_ret
    exact ⟨by first | rfl | (simp; done) | (simp [*]; done), by repeat (first | exact Drawn0.refl _ | apply Drawn0.step)⟩

/-! ### impl_PlanOk: function 12 -/
def impl_PlanOk.l0 : Nat → Int → List (S62) → Int → Int → Int → Int → List (S62) → Option (Bool)
  | 0, _, _, _, _, _, _, _ => none
  | k + 1, x3, x7, x8, x9, x175000, x175001, x175002 => if x9 < x8 then (if 0 ≤ x9 then (if x9 < (x7.length : Int) then ((impl_in.f ((rd_T62 x7 x9).f0) 0 (wrap64 (x175001 - 1))).bind fun t179 => (if t179 = true then ((impl_in.f ((rd_T62 x7 x9).f2) 1 10000).bind fun t180 => (if t180 = true then (if ((rd_T62 x7 x9).f1) < x3 then (some false) else (if ((rd_T62 x7 x9).f1) > (wrap64 (x175000 - ((rd_T62 x7 x9).f2))) then (some false) else (impl_PlanOk.l0 k (wrap64 (((rd_T62 x7 x9).f1) + ((rd_T62 x7 x9).f2))) x7 x8 (wrap64 (x9 + 1)) x175000 x175001 x175002))) else (some false))) else (some false))) else (none)) else (none)) else ((impl_in.f x175000 1 100000).bind fun t175 => (if t175 = true then ((impl_in.f x175001 1 10).bind fun t176 => (if t176 = true then (some (decide ((x175002.length : Int) ≤ 40))) else (some false))) else (some false)))
def impl_PlanOk.f (k : Nat) (a0_0 : Int) (a0_1 : Int) (l0_2 : List (S62)) : Option (Bool) := impl_PlanOk.l0 k 0 l0_2 (l0_2.length : Int) 0 a0_0 a0_1 l0_2
theorem impl_PlanOk.mono_l : ∀ k, (∀ y0 y1 y2 y3 y4 y5 y6, LeO (impl_PlanOk.l0 k y0 y1 y2 y3 y4 y5 y6) (impl_PlanOk.l0 (k + 1) y0 y1 y2 y3 y4 y5 y6))
  | 0 => fun _ _ _ _ _ _ _ r h => by simp [impl_PlanOk.l0] at h
  | k + 1 => by
    have ih0 := impl_PlanOk.mono_l k
    · intro y0 y1 y2 y3 y4 y5 y6
      unfold impl_PlanOk.l0
      repeat' first
      | (with_reducible exact ih0 _ _ _ _ _ _ _)
      | (with_reducible exact LeO.refl _)
      | (with_reducible exact LeO.none _)
      | (with_reducible refine LeO.ite ?_ ?_)
      | (with_reducible refine LeO.bind ?_ (fun _ => ?_))
      | exact ih0 _ _ _ _ _ _ _
      | exact LeO.none _
      | refine LeO.ite ?_ ?_
      | refine LeO.bind ?_ (fun _ => ?_)
theorem impl_PlanOk.mono : ∀ a0 a1 a2 k, LeO (impl_PlanOk.f k a0 a1 a2) (impl_PlanOk.f (k + 1) a0 a1 a2) := by
  intro a0 a1 a2 k
  have ih0 := impl_PlanOk.mono_l k
  unfold impl_PlanOk.f
  repeat' first
      | (with_reducible exact ih0 _ _ _ _ _ _ _)
      | (with_reducible exact LeO.refl _)
      | (with_reducible exact LeO.none _)
      | (with_reducible refine LeO.ite ?_ ?_)
      | (with_reducible refine LeO.bind ?_ (fun _ => ?_))
      | exact ih0 _ _ _ _ _ _ _
      | exact LeO.none _
      | refine LeO.ite ?_ ?_
      | refine LeO.bind ?_ (fun _ => ?_)
set_option maxHeartbeats 8000000 in
set_option maxRecDepth 100000 in
theorem impl_PlanOk.calls (k : Nat) (a0_0 : Int) (a0_1 : Int) (A0_2 : Option Addr) (c0_2 : Nat) (l0_2 : List (S62)) (r : Bool) (w : World) (hr0_2 : Kd.C k62 w A0_2 l0_2.length l0_2) (hc0_2 : l0_2.length ≤ c0_2) (h : impl_PlanOk.f k a0_0 a0_1 l0_2 = some r) :
    Calls Try.prog 12 #[.agg #[.int .i64 a0_0, .int .i64 a0_1, .slice A0_2 l0_2.length c0_2]] w fun e w' => e = .returned (.bool r) ∧ Below w.heap.size w w' := by
  have hu29 := Try.underlying29
  have hu62 := Try.underlying62
  have HR0_2 := Aside0.mk hr0_2
  have HC0_2 := Aside0.mk hc0_2
  clear hr0_2 hc0_2
  have HB := Aside0.mk (Below.refl w.heap.size w)
  have H : (impl_PlanOk.l0 k 0 l0_2 (l0_2.length : Int) 0 a0_0 a0_1 l0_2) = some r := h
  clear h
  have H' := Aside0.mk H
  clear H
  go_enter Try.func12, Try.ntmps12
  go_wp2_with (first | ((with_reducible refine gate_dst (N := 1) rfl ?_); (try (refine gate_guard (by rfl) ?_; dsimp only)); refine box_event ?hg (N := 1) ?hd (cs := #[.int .i64 a0_0, .int .i64 a0_1, .slice A0_2 l0_2.length c0_2]) (t := 29) ?hr ?_; (case hd => rfl); (case hg => rfl); (case hr => first | (go_simp; done) | (go_simp; rfl)); intro gb174 hg w2 hbox hb; have n0_ := Aside0.mk (below_step (by repeat (first | (with_reducible first | exact HB.out | apply below_alloc | apply pw_below_drewN | apply below_drew1) | exact HB.out)) hb); have n1_ := Aside0.mk (hbox); have n2_ := Aside0.mk ((by rw [hg]; exact (below_size (by repeat (first | (with_reducible first | exact HB.out | apply below_alloc | apply pw_below_drewN | apply below_drew1) | exact HB.out))) : w.heap.size ≤ gb174)); have n3_ := Aside0.mk ((by rw [hg]; exact (below_size (by repeat (first | (with_reducible first | exact HB.out | apply below_alloc | apply pw_below_drewN | apply below_drew1) | exact HB.out))) : w.heap.size ≤ gb174)); clear HB; have HB := n0_; have BK174 := n1_; have GW174 := n2_; have GE174 := n3_; clear n0_ n1_ n2_ n3_; clear hb hbox hg; have hcz3_0 : w2.cell? ⟨gb174, 0, none⟩ = some (.int .i64 a0_0) := (blk_cell BK174.out 0).trans rfl; have hcz3_1 : w2.cell? ⟨gb174, 1, none⟩ = some (.int .i64 a0_1) := (blk_cell BK174.out 1).trans rfl; have hcz3_2 : w2.cell? ⟨gb174, 2, none⟩ = some (.slice A0_2 l0_2.length c0_2) := (blk_cell BK174.out 2).trans rfl; have hfz3_0 := blk_frozen BK174.out 0; have hfz3_1 := blk_frozen BK174.out 1; have hfz3_2 := blk_frozen BK174.out 2))
  go_loopg [3, 9] k (fun kq v3 v9 w' => ∃ (x3_1 : Int) (x9_1 : Int), v3 = .int .i64 x3_1 ∧ v9 = .int .i64 x9_1 ∧ Aside0 (impl_PlanOk.l0 kq x3_1 l0_2 (l0_2.length : Int) x9_1 a0_0 a0_1 l0_2 = some r) ∧ Aside0 (kq ≤ k) ∧ Aside0 (w'.heap[gb174]? = some (.cells #[.int .i64 a0_0, .int .i64 a0_1, (.slice A0_2 l0_2.length c0_2)] 29 (0, 0))) ∧ Aside0 (Below w.heap.size w w'))
  case atStart => exact ⟨(0), (0), (by first | rfl | (simp; done) | (simp [*]; done)), (by first | rfl | (simp; done) | (simp [*]; done)), H', ⟨Nat.le_refl _⟩, ⟨by (with_reducible repeat (first | refine blk_drewN ?_ _ | refine blk_drew ?_ | refine blk_alloc ?_ _)); exact BK174.out⟩, ⟨by repeat (first | (with_reducible first | exact HB.out | apply below_alloc | apply pw_below_drewN | apply below_drew1 | refine below_set ?_ GE174.out) | exact HB.out)⟩⟩
  case round =>
    clear H'
    try clear c1
    try clear p2
    try clear hcz3_0
    try clear hcz3_1
    try clear hcz3_2
    try clear hfz3_0
    try clear hfz3_1
    try clear hfz3_2
    (try clear BK174); obtain ⟨x3_1, x9_1, rfl, rfl, HA, HK1, BK174, HB⟩ := hrel
    cases gk with
    | zero => exact absurd HA.out (by simp [impl_PlanOk.l0])
    | succ k1 =>
      have H := HA.out
      clear HA
      simp only [impl_PlanOk.l0] at H
      by_cases c4 : x9_1 < (l0_2.length : Int)
      · rw [if_pos c4] at H
        have c4b0 : decide (x9_1 < (l0_2.length : Int)) = true := decide_eq_true c4
        clear c4
        by_cases c5 : 0 ≤ x9_1
        · rw [if_pos c5] at H
          have c5b0 : decide (0 ≤ x9_1) = true := decide_eq_true c5
          clear c5
          by_cases c6 : x9_1 < (l0_2.length : Int)
          · rw [if_pos c6] at H
            have c6b0 : decide (x9_1 < (l0_2.length : Int)) = true := decide_eq_true c6
            clear c6
            replace H := Option.bind_eq_some_iff.mp H
            obtain ⟨t179, A70, H⟩ := H
            replace H : (if t179 = true then ((impl_in.f ((rd_T62 l0_2 x9_1).f2) 1 10000).bind fun t180 => (if t180 = true then (if ((rd_T62 l0_2 x9_1).f1) < x3_1 then (some false) else (if ((rd_T62 l0_2 x9_1).f1) > (wrap64 (a0_0 - ((rd_T62 l0_2 x9_1).f2))) then (some false) else (impl_PlanOk.l0 k1 (wrap64 (((rd_T62 l0_2 x9_1).f1) + ((rd_T62 l0_2 x9_1).f2))) l0_2 (l0_2.length : Int) (wrap64 (x9_1 + 1)) a0_0 a0_1 l0_2))) else (some false))) else (some false)) = some r := H
            have A7 := Aside0.mk A70
            clear A70
            by_cases c8 : t179 = true
            · subst c8
              have H1 : ((impl_in.f ((rd_T62 l0_2 x9_1).f2) 1 10000).bind fun t180 => (if t180 = true then (if ((rd_T62 l0_2 x9_1).f1) < x3_1 then (some false) else (if ((rd_T62 l0_2 x9_1).f1) > (wrap64 (a0_0 - ((rd_T62 l0_2 x9_1).f2))) then (some false) else (impl_PlanOk.l0 k1 (wrap64 (((rd_T62 l0_2 x9_1).f1) + ((rd_T62 l0_2 x9_1).f2))) l0_2 (l0_2.length : Int) (wrap64 (x9_1 + 1)) a0_0 a0_1 l0_2))) else (some false))) = some r := by rw [if_pos rfl] at H; exact H
              clear H
              have H := H1
              clear H1
              replace H := Option.bind_eq_some_iff.mp H
              obtain ⟨t180, A90, H⟩ := H
              replace H : (if t180 = true then (if ((rd_T62 l0_2 x9_1).f1) < x3_1 then (some false) else (if ((rd_T62 l0_2 x9_1).f1) > (wrap64 (a0_0 - ((rd_T62 l0_2 x9_1).f2))) then (some false) else (impl_PlanOk.l0 k1 (wrap64 (((rd_T62 l0_2 x9_1).f1) + ((rd_T62 l0_2 x9_1).f2))) l0_2 (l0_2.length : Int) (wrap64 (x9_1 + 1)) a0_0 a0_1 l0_2))) else (some false)) = some r := H
              have A9 := Aside0.mk A90
              clear A90
              by_cases c10 : t180 = true
              · subst c10
                have H1 : (if ((rd_T62 l0_2 x9_1).f1) < x3_1 then (some false) else (if ((rd_T62 l0_2 x9_1).f1) > (wrap64 (a0_0 - ((rd_T62 l0_2 x9_1).f2))) then (some false) else (impl_PlanOk.l0 k1 (wrap64 (((rd_T62 l0_2 x9_1).f1) + ((rd_T62 l0_2 x9_1).f2))) l0_2 (l0_2.length : Int) (wrap64 (x9_1 + 1)) a0_0 a0_1 l0_2))) = some r := by rw [if_pos rfl] at H; exact H
                clear H
                have H := H1
                clear H1
                by_cases c11 : ((rd_T62 l0_2 x9_1).f1) < x3_1
                · rw [if_pos c11] at H
                  have c11b0 : decide (((rd_T62 l0_2 x9_1).f1) < x3_1) = true := decide_eq_true c11
                  clear c11
                  obtain rfl := Option.some.inj H
                  have p177 : 0 ≤ (x9_1 : Int) := of_decide_eq_true (by first | (with_reducible assumption) | assumption)
                  have q177 : x9_1 < (l0_2.length : Int) := of_decide_eq_true (by first | (with_reducible assumption) | assumption)
                  obtain ⟨ad177, e177, hx177_0, hx177_1, hx177_2⟩ := at_T62 HR0_2.out x9_1 p177 q177
                  cases e177
                  replace hx177_0 := (HB.out.cell (World.block_lt_of_cell? w _ hx177_0)).trans hx177_0
                  replace hx177_1 := (HB.out.cell (World.block_lt_of_cell? w _ hx177_1)).trans hx177_1
                  replace hx177_2 := (HB.out.cell (World.block_lt_of_cell? w _ hx177_2)).trans hx177_2
                  replace p177 := eq_true p177
                  replace q177 := eq_true q177
                  go_wp2_with (first | ((with_reducible refine gate_dst (N := 5) rfl ?_); (try (refine gate_guard (by rfl) ?_; dsimp only)); refine box_event ?hg (N := 5) ?hd (cs := #[.int .i64 0, .int .i64 0, .int .i64 0]) (t := 62) ?hr ?_; (case hd => rfl); (case hg => rfl); (case hr => first | (go_simp; done) | (go_simp; rfl)); intro gb178 hg w12 hbox hb; have n0_ := Aside0.mk (blk_below (g := gb174) (o := .cells #[.int .i64 a0_0, .int .i64 a0_1, .slice (some ad177) l0_2.length c0_2] 29 (0, 0)) (by (with_reducible repeat (first | refine blk_drewN ?_ _ | refine blk_drew ?_ | refine blk_alloc ?_ _)); exact BK174.out) hb); have n1_ := Aside0.mk (below_step (by repeat (first | (with_reducible first | exact HB.out | apply below_alloc | apply pw_below_drewN | apply below_drew1 | refine below_set ?_ GE174.out) | exact HB.out)) hb); have n2_ := Aside0.mk (hbox); have n3_ := Aside0.mk ((by rw [hg]; exact (below_size (by repeat (first | (with_reducible first | exact HB.out | apply below_alloc | apply pw_below_drewN | apply below_drew1 | refine below_set ?_ GE174.out) | exact HB.out))) : w.heap.size ≤ gb178)); have n4_ := Aside0.mk ((by rw [hg]; exact (below_size (by repeat (first | (with_reducible first | exact HB.out | apply below_alloc | apply pw_below_drewN | apply below_drew1 | refine below_set ?_ GE174.out) | exact HB.out))) : w.heap.size ≤ gb178)); have n5_ := Aside0.mk ((by rw [hg]; exact Nat.ne_of_lt (blk_lt (g := gb174) (o := .cells #[.int .i64 a0_0, .int .i64 a0_1, .slice (some ad177) l0_2.length c0_2] 29 (0, 0)) (by (with_reducible repeat (first | refine blk_drewN ?_ _ | refine blk_drew ?_ | refine blk_alloc ?_ _)); exact BK174.out)) : gb174 ≠ gb178)); have n6_ := Aside0.mk ((by rw [hg]; exact Nat.ne_of_gt (blk_lt (g := gb174) (o := .cells #[.int .i64 a0_0, .int .i64 a0_1, .slice (some ad177) l0_2.length c0_2] 29 (0, 0)) (by (with_reducible repeat (first | refine blk_drewN ?_ _ | refine blk_drew ?_ | refine blk_alloc ?_ _)); exact BK174.out)) : gb178 ≠ gb174)); clear BK174; clear HB; have BK174 := n0_; have HB := n1_; have BK178 := n2_; have GW178 := n3_; have GE178 := n4_; have NB174_178 := n5_; have NB178_174 := n6_; clear n0_ n1_ n2_ n3_ n4_ n5_ n6_; clear hb hbox hg; have hnb13 := NB178_174.out; have hnc13 := NB174_178.out; have hcz14_0 : w12.cell? ⟨gb178, 0, none⟩ = some (.int .i64 0) := (blk_cell BK178.out 0).trans rfl; have hcz14_1 : w12.cell? ⟨gb178, 1, none⟩ = some (.int .i64 0) := (blk_cell BK178.out 1).trans rfl; have hcz14_2 : w12.cell? ⟨gb178, 2, none⟩ = some (.int .i64 0) := (blk_cell BK178.out 2).trans rfl; have hfz14_0 := blk_frozen BK178.out 0; have hfz14_1 := blk_frozen BK178.out 1; have hfz14_2 := blk_frozen BK178.out 2; have hcz15_0 : w12.cell? ⟨gb174, 0, none⟩ = some (.int .i64 a0_0) := (blk_cell BK174.out 0).trans rfl; have hcz15_1 : w12.cell? ⟨gb174, 1, none⟩ = some (.int .i64 a0_1) := (blk_cell BK174.out 1).trans rfl; have hcz15_2 : w12.cell? ⟨gb174, 2, none⟩ = some (.slice (some ad177) l0_2.length c0_2) := (blk_cell BK174.out 2).trans rfl; have hfz15_0 := blk_frozen BK174.out 0; have hfz15_1 := blk_frozen BK174.out 1; have hfz15_2 := blk_frozen BK174.out 2) | ((with_reducible refine gate_callee (f := 38) rfl ?_); refine goesL_ (some 18) rfl rfl Try.func38 (by kernel_rfl) rfl #[.int .i64 ((rd_T62 l0_2 x9_1).f0), .int .i64 0, .int .i64 (wrap64 (a0_1 - 1))] rfl (by (try simp only [List.map_toArray, List.map_cons, List.map_nil]); first | done | rfl | (simp only [List.length_drop, List.length_take]; rfl)) ?_; (with_reducible refine (impl_in.calls ((rd_T62 l0_2 x9_1).f0) 0 (wrap64 (a0_1 - 1)) true _ A7.out).mono ?_); rintro e w' ⟨rfl, ⟨nd, rfl⟩⟩; refine ⟨_, rfl, ?_⟩) | (go_at_call 38; (with_reducible refine (impl_in.calls ((rd_T62 l0_2 x9_1).f2) 1 10000 true _ A9.out).mono ?_); rintro e w' ⟨rfl, ⟨nd, rfl⟩⟩))
                  go_ret
                  exact ⟨by first | rfl | (simp [errW_none, errW_some] <;> rfl) | (simp [*, errW_none, errW_some] <;> rfl), by repeat (first | (with_reducible first | exact HB.out | apply below_alloc | apply pw_below_drewN | apply below_drew1 | refine below_set ?_ GE174.out | refine below_set ?_ GE178.out) | exact HB.out)⟩
                · rw [if_neg c11] at H
                  have c11b0 : decide (((rd_T62 l0_2 x9_1).f1) < x3_1) = false := decide_eq_false c11
                  clear c11
                  by_cases c16 : ((rd_T62 l0_2 x9_1).f1) > (wrap64 (a0_0 - ((rd_T62 l0_2 x9_1).f2)))
                  · rw [if_pos c16] at H
                    have c16b0 : decide ((wrap64 (a0_0 - ((rd_T62 l0_2 x9_1).f2))) < ((rd_T62 l0_2 x9_1).f1)) = true := decide_eq_true c16
                    clear c16
                    obtain rfl := Option.some.inj H
                    have p177 : 0 ≤ (x9_1 : Int) := of_decide_eq_true (by first | (with_reducible assumption) | assumption)
                    have q177 : x9_1 < (l0_2.length : Int) := of_decide_eq_true (by first | (with_reducible assumption) | assumption)
                    obtain ⟨ad177, e177, hx177_0, hx177_1, hx177_2⟩ := at_T62 HR0_2.out x9_1 p177 q177
                    cases e177
                    replace hx177_0 := (HB.out.cell (World.block_lt_of_cell? w _ hx177_0)).trans hx177_0
                    replace hx177_1 := (HB.out.cell (World.block_lt_of_cell? w _ hx177_1)).trans hx177_1
                    replace hx177_2 := (HB.out.cell (World.block_lt_of_cell? w _ hx177_2)).trans hx177_2
                    replace p177 := eq_true p177
                    replace q177 := eq_true q177
                    go_wp2_with (first | ((with_reducible refine gate_dst (N := 5) rfl ?_); (try (refine gate_guard (by rfl) ?_; dsimp only)); refine box_event ?hg (N := 5) ?hd (cs := #[.int .i64 0, .int .i64 0, .int .i64 0]) (t := 62) ?hr ?_; (case hd => rfl); (case hg => rfl); (case hr => first | (go_simp; done) | (go_simp; rfl)); intro gb178 hg w17 hbox hb; have n0_ := Aside0.mk (blk_below (g := gb174) (o := .cells #[.int .i64 a0_0, .int .i64 a0_1, .slice (some ad177) l0_2.length c0_2] 29 (0, 0)) (by (with_reducible repeat (first | refine blk_drewN ?_ _ | refine blk_drew ?_ | refine blk_alloc ?_ _)); exact BK174.out) hb); have n1_ := Aside0.mk (below_step (by repeat (first | (with_reducible first | exact HB.out | apply below_alloc | apply pw_below_drewN | apply below_drew1 | refine below_set ?_ GE174.out) | exact HB.out)) hb); have n2_ := Aside0.mk (hbox); have n3_ := Aside0.mk ((by rw [hg]; exact (below_size (by repeat (first | (with_reducible first | exact HB.out | apply below_alloc | apply pw_below_drewN | apply below_drew1 | refine below_set ?_ GE174.out) | exact HB.out))) : w.heap.size ≤ gb178)); have n4_ := Aside0.mk ((by rw [hg]; exact (below_size (by repeat (first | (with_reducible first | exact HB.out | apply below_alloc | apply pw_below_drewN | apply below_drew1 | refine below_set ?_ GE174.out) | exact HB.out))) : w.heap.size ≤ gb178)); have n5_ := Aside0.mk ((by rw [hg]; exact Nat.ne_of_lt (blk_lt (g := gb174) (o := .cells #[.int .i64 a0_0, .int .i64 a0_1, .slice (some ad177) l0_2.length c0_2] 29 (0, 0)) (by (with_reducible repeat (first | refine blk_drewN ?_ _ | refine blk_drew ?_ | refine blk_alloc ?_ _)); exact BK174.out)) : gb174 ≠ gb178)); have n6_ := Aside0.mk ((by rw [hg]; exact Nat.ne_of_gt (blk_lt (g := gb174) (o := .cells #[.int .i64 a0_0, .int .i64 a0_1, .slice (some ad177) l0_2.length c0_2] 29 (0, 0)) (by (with_reducible repeat (first | refine blk_drewN ?_ _ | refine blk_drew ?_ | refine blk_alloc ?_ _)); exact BK174.out)) : gb178 ≠ gb174)); clear BK174; clear HB; have BK174 := n0_; have HB := n1_; have BK178 := n2_; have GW178 := n3_; have GE178 := n4_; have NB174_178 := n5_; have NB178_174 := n6_; clear n0_ n1_ n2_ n3_ n4_ n5_ n6_; clear hb hbox hg; have hnb18 := NB178_174.out; have hnc18 := NB174_178.out; have hcz19_0 : w17.cell? ⟨gb178, 0, none⟩ = some (.int .i64 0) := (blk_cell BK178.out 0).trans rfl; have hcz19_1 : w17.cell? ⟨gb178, 1, none⟩ = some (.int .i64 0) := (blk_cell BK178.out 1).trans rfl; have hcz19_2 : w17.cell? ⟨gb178, 2, none⟩ = some (.int .i64 0) := (blk_cell BK178.out 2).trans rfl; have hfz19_0 := blk_frozen BK178.out 0; have hfz19_1 := blk_frozen BK178.out 1; have hfz19_2 := blk_frozen BK178.out 2; have hcz20_0 : w17.cell? ⟨gb174, 0, none⟩ = some (.int .i64 a0_0) := (blk_cell BK174.out 0).trans rfl; have hcz20_1 : w17.cell? ⟨gb174, 1, none⟩ = some (.int .i64 a0_1) := (blk_cell BK174.out 1).trans rfl; have hcz20_2 : w17.cell? ⟨gb174, 2, none⟩ = some (.slice (some ad177) l0_2.length c0_2) := (blk_cell BK174.out 2).trans rfl; have hfz20_0 := blk_frozen BK174.out 0; have hfz20_1 := blk_frozen BK174.out 1; have hfz20_2 := blk_frozen BK174.out 2) | ((with_reducible refine gate_callee (f := 38) rfl ?_); refine goesL_ (some 18) rfl rfl Try.func38 (by kernel_rfl) rfl #[.int .i64 ((rd_T62 l0_2 x9_1).f0), .int .i64 0, .int .i64 (wrap64 (a0_1 - 1))] rfl (by (try simp only [List.map_toArray, List.map_cons, List.map_nil]); first | done | rfl | (simp only [List.length_drop, List.length_take]; rfl)) ?_; (with_reducible refine (impl_in.calls ((rd_T62 l0_2 x9_1).f0) 0 (wrap64 (a0_1 - 1)) true _ A7.out).mono ?_); rintro e w' ⟨rfl, ⟨nd, rfl⟩⟩; refine ⟨_, rfl, ?_⟩) | (go_at_call 38; (with_reducible refine (impl_in.calls ((rd_T62 l0_2 x9_1).f2) 1 10000 true _ A9.out).mono ?_); rintro e w' ⟨rfl, ⟨nd, rfl⟩⟩))
                    go_ret
                    exact ⟨by first | rfl | (simp [errW_none, errW_some] <;> rfl) | (simp [*, errW_none, errW_some] <;> rfl), by repeat (first | (with_reducible first | exact HB.out | apply below_alloc | apply pw_below_drewN | apply below_drew1 | refine below_set ?_ GE174.out | refine below_set ?_ GE178.out) | exact HB.out)⟩
                  · rw [if_neg c16] at H
                    have c16b0 : decide ((wrap64 (a0_0 - ((rd_T62 l0_2 x9_1).f2))) < ((rd_T62 l0_2 x9_1).f1)) = false := decide_eq_false c16
                    clear c16
                    have H' := Aside0.mk H
                    clear H
                    have p177 : 0 ≤ (x9_1 : Int) := of_decide_eq_true (by first | (with_reducible assumption) | assumption)
                    have q177 : x9_1 < (l0_2.length : Int) := of_decide_eq_true (by first | (with_reducible assumption) | assumption)
                    obtain ⟨ad177, e177, hx177_0, hx177_1, hx177_2⟩ := at_T62 HR0_2.out x9_1 p177 q177
                    cases e177
                    replace hx177_0 := (HB.out.cell (World.block_lt_of_cell? w _ hx177_0)).trans hx177_0
                    replace hx177_1 := (HB.out.cell (World.block_lt_of_cell? w _ hx177_1)).trans hx177_1
                    replace hx177_2 := (HB.out.cell (World.block_lt_of_cell? w _ hx177_2)).trans hx177_2
                    replace p177 := eq_true p177
                    replace q177 := eq_true q177
                    go_wp2_with (first | ((with_reducible refine gate_dst (N := 5) rfl ?_); (try (refine gate_guard (by rfl) ?_; dsimp only)); refine box_event ?hg (N := 5) ?hd (cs := #[.int .i64 0, .int .i64 0, .int .i64 0]) (t := 62) ?hr ?_; (case hd => rfl); (case hg => rfl); (case hr => first | (go_simp; done) | (go_simp; rfl)); intro gb178 hg w21 hbox hb; have n0_ := Aside0.mk (blk_below (g := gb174) (o := .cells #[.int .i64 a0_0, .int .i64 a0_1, .slice (some ad177) l0_2.length c0_2] 29 (0, 0)) (by (with_reducible repeat (first | refine blk_drewN ?_ _ | refine blk_drew ?_ | refine blk_alloc ?_ _)); exact BK174.out) hb); have n1_ := Aside0.mk (below_step (by repeat (first | (with_reducible first | exact HB.out | apply below_alloc | apply pw_below_drewN | apply below_drew1 | refine below_set ?_ GE174.out) | exact HB.out)) hb); have n2_ := Aside0.mk (hbox); have n3_ := Aside0.mk ((by rw [hg]; exact (below_size (by repeat (first | (with_reducible first | exact HB.out | apply below_alloc | apply pw_below_drewN | apply below_drew1 | refine below_set ?_ GE174.out) | exact HB.out))) : w.heap.size ≤ gb178)); have n4_ := Aside0.mk ((by rw [hg]; exact (below_size (by repeat (first | (with_reducible first | exact HB.out | apply below_alloc | apply pw_below_drewN | apply below_drew1 | refine below_set ?_ GE174.out) | exact HB.out))) : w.heap.size ≤ gb178)); have n5_ := Aside0.mk ((by rw [hg]; exact Nat.ne_of_lt (blk_lt (g := gb174) (o := .cells #[.int .i64 a0_0, .int .i64 a0_1, .slice (some ad177) l0_2.length c0_2] 29 (0, 0)) (by (with_reducible repeat (first | refine blk_drewN ?_ _ | refine blk_drew ?_ | refine blk_alloc ?_ _)); exact BK174.out)) : gb174 ≠ gb178)); have n6_ := Aside0.mk ((by rw [hg]; exact Nat.ne_of_gt (blk_lt (g := gb174) (o := .cells #[.int .i64 a0_0, .int .i64 a0_1, .slice (some ad177) l0_2.length c0_2] 29 (0, 0)) (by (with_reducible repeat (first | refine blk_drewN ?_ _ | refine blk_drew ?_ | refine blk_alloc ?_ _)); exact BK174.out)) : gb178 ≠ gb174)); clear BK174; clear HB; have BK174 := n0_; have HB := n1_; have BK178 := n2_; have GW178 := n3_; have GE178 := n4_; have NB174_178 := n5_; have NB178_174 := n6_; clear n0_ n1_ n2_ n3_ n4_ n5_ n6_; clear hb hbox hg; have hnb22 := NB178_174.out; have hnc22 := NB174_178.out; have hcz23_0 : w21.cell? ⟨gb178, 0, none⟩ = some (.int .i64 0) := (blk_cell BK178.out 0).trans rfl; have hcz23_1 : w21.cell? ⟨gb178, 1, none⟩ = some (.int .i64 0) := (blk_cell BK178.out 1).trans rfl; have hcz23_2 : w21.cell? ⟨gb178, 2, none⟩ = some (.int .i64 0) := (blk_cell BK178.out 2).trans rfl; have hfz23_0 := blk_frozen BK178.out 0; have hfz23_1 := blk_frozen BK178.out 1; have hfz23_2 := blk_frozen BK178.out 2; have hcz24_0 : w21.cell? ⟨gb174, 0, none⟩ = some (.int .i64 a0_0) := (blk_cell BK174.out 0).trans rfl; have hcz24_1 : w21.cell? ⟨gb174, 1, none⟩ = some (.int .i64 a0_1) := (blk_cell BK174.out 1).trans rfl; have hcz24_2 : w21.cell? ⟨gb174, 2, none⟩ = some (.slice (some ad177) l0_2.length c0_2) := (blk_cell BK174.out 2).trans rfl; have hfz24_0 := blk_frozen BK174.out 0; have hfz24_1 := blk_frozen BK174.out 1; have hfz24_2 := blk_frozen BK174.out 2) | ((with_reducible refine gate_callee (f := 38) rfl ?_); refine goesL_ (some 18) rfl rfl Try.func38 (by kernel_rfl) rfl #[.int .i64 ((rd_T62 l0_2 x9_1).f0), .int .i64 0, .int .i64 (wrap64 (a0_1 - 1))] rfl (by (try simp only [List.map_toArray, List.map_cons, List.map_nil]); first | done | rfl | (simp only [List.length_drop, List.length_take]; rfl)) ?_; (with_reducible refine (impl_in.calls ((rd_T62 l0_2 x9_1).f0) 0 (wrap64 (a0_1 - 1)) true _ A7.out).mono ?_); rintro e w' ⟨rfl, ⟨nd, rfl⟩⟩; refine ⟨_, rfl, ?_⟩) | (go_at_call 38; (with_reducible refine (impl_in.calls ((rd_T62 l0_2 x9_1).f2) 1 10000 true _ A9.out).mono ?_); rintro e w' ⟨rfl, ⟨nd, rfl⟩⟩))
                    go_roundg k1
                    case measure => have := HK1.out; omega
                    case rel => exact ⟨(wrap64 (((rd_T62 l0_2 x9_1).f1) + ((rd_T62 l0_2 x9_1).f2))), (wrap64 (x9_1 + 1)), (by first | rfl | (simp; done) | (simp [*]; done)), (by first | rfl | (simp; done) | (simp [*]; done)), H', ⟨by have := HK1.out; omega⟩, ⟨by (with_reducible repeat (first | refine blk_drewN ?_ _ | refine blk_drew ?_ | refine blk_alloc ?_ _)); refine blk_far ?_ NB174_178.out _; (with_reducible repeat (first | refine blk_drewN ?_ _ | refine blk_drew ?_ | refine blk_alloc ?_ _)); refine blk_far ?_ NB174_178.out _; (with_reducible repeat (first | refine blk_drewN ?_ _ | refine blk_drew ?_ | refine blk_alloc ?_ _)); refine blk_far ?_ NB174_178.out _; (with_reducible repeat (first | refine blk_drewN ?_ _ | refine blk_drew ?_ | refine blk_alloc ?_ _)); exact BK174.out⟩, ⟨by repeat (first | (with_reducible first | exact HB.out | apply below_alloc | apply pw_below_drewN | apply below_drew1 | refine below_set ?_ GE174.out | refine below_set ?_ GE178.out) | exact HB.out)⟩⟩
              · replace c10 := Bool.eq_false_iff.mpr c10
                subst c10
                have H1 : (some false) = some r := by rw [if_neg (show ¬ (false = true) by decide)] at H; exact H
                clear H
                have H := H1
                clear H1
                obtain rfl := Option.some.inj H
                have p177 : 0 ≤ (x9_1 : Int) := of_decide_eq_true (by first | (with_reducible assumption) | assumption)
                have q177 : x9_1 < (l0_2.length : Int) := of_decide_eq_true (by first | (with_reducible assumption) | assumption)
                obtain ⟨ad177, e177, hx177_0, hx177_1, hx177_2⟩ := at_T62 HR0_2.out x9_1 p177 q177
                cases e177
                replace hx177_0 := (HB.out.cell (World.block_lt_of_cell? w _ hx177_0)).trans hx177_0
                replace hx177_1 := (HB.out.cell (World.block_lt_of_cell? w _ hx177_1)).trans hx177_1
                replace hx177_2 := (HB.out.cell (World.block_lt_of_cell? w _ hx177_2)).trans hx177_2
                replace p177 := eq_true p177
                replace q177 := eq_true q177
                go_wp2_with (first | ((with_reducible refine gate_dst (N := 5) rfl ?_); (try (refine gate_guard (by rfl) ?_; dsimp only)); refine box_event ?hg (N := 5) ?hd (cs := #[.int .i64 0, .int .i64 0, .int .i64 0]) (t := 62) ?hr ?_; (case hd => rfl); (case hg => rfl); (case hr => first | (go_simp; done) | (go_simp; rfl)); intro gb178 hg w25 hbox hb; have n0_ := Aside0.mk (blk_below (g := gb174) (o := .cells #[.int .i64 a0_0, .int .i64 a0_1, .slice (some ad177) l0_2.length c0_2] 29 (0, 0)) (by (with_reducible repeat (first | refine blk_drewN ?_ _ | refine blk_drew ?_ | refine blk_alloc ?_ _)); exact BK174.out) hb); have n1_ := Aside0.mk (below_step (by repeat (first | (with_reducible first | exact HB.out | apply below_alloc | apply pw_below_drewN | apply below_drew1 | refine below_set ?_ GE174.out) | exact HB.out)) hb); have n2_ := Aside0.mk (hbox); have n3_ := Aside0.mk ((by rw [hg]; exact (below_size (by repeat (first | (with_reducible first | exact HB.out | apply below_alloc | apply pw_below_drewN | apply below_drew1 | refine below_set ?_ GE174.out) | exact HB.out))) : w.heap.size ≤ gb178)); have n4_ := Aside0.mk ((by rw [hg]; exact (below_size (by repeat (first | (with_reducible first | exact HB.out | apply below_alloc | apply pw_below_drewN | apply below_drew1 | refine below_set ?_ GE174.out) | exact HB.out))) : w.heap.size ≤ gb178)); have n5_ := Aside0.mk ((by rw [hg]; exact Nat.ne_of_lt (blk_lt (g := gb174) (o := .cells #[.int .i64 a0_0, .int .i64 a0_1, .slice (some ad177) l0_2.length c0_2] 29 (0, 0)) (by (with_reducible repeat (first | refine blk_drewN ?_ _ | refine blk_drew ?_ | refine blk_alloc ?_ _)); exact BK174.out)) : gb174 ≠ gb178)); have n6_ := Aside0.mk ((by rw [hg]; exact Nat.ne_of_gt (blk_lt (g := gb174) (o := .cells #[.int .i64 a0_0, .int .i64 a0_1, .slice (some ad177) l0_2.length c0_2] 29 (0, 0)) (by (with_reducible repeat (first | refine blk_drewN ?_ _ | refine blk_drew ?_ | refine blk_alloc ?_ _)); exact BK174.out)) : gb178 ≠ gb174)); clear BK174; clear HB; have BK174 := n0_; have HB := n1_; have BK178 := n2_; have GW178 := n3_; have GE178 := n4_; have NB174_178 := n5_; have NB178_174 := n6_; clear n0_ n1_ n2_ n3_ n4_ n5_ n6_; clear hb hbox hg; have hnb26 := NB178_174.out; have hnc26 := NB174_178.out; have hcz27_0 : w25.cell? ⟨gb178, 0, none⟩ = some (.int .i64 0) := (blk_cell BK178.out 0).trans rfl; have hcz27_1 : w25.cell? ⟨gb178, 1, none⟩ = some (.int .i64 0) := (blk_cell BK178.out 1).trans rfl; have hcz27_2 : w25.cell? ⟨gb178, 2, none⟩ = some (.int .i64 0) := (blk_cell BK178.out 2).trans rfl; have hfz27_0 := blk_frozen BK178.out 0; have hfz27_1 := blk_frozen BK178.out 1; have hfz27_2 := blk_frozen BK178.out 2; have hcz28_0 : w25.cell? ⟨gb174, 0, none⟩ = some (.int .i64 a0_0) := (blk_cell BK174.out 0).trans rfl; have hcz28_1 : w25.cell? ⟨gb174, 1, none⟩ = some (.int .i64 a0_1) := (blk_cell BK174.out 1).trans rfl; have hcz28_2 : w25.cell? ⟨gb174, 2, none⟩ = some (.slice (some ad177) l0_2.length c0_2) := (blk_cell BK174.out 2).trans rfl; have hfz28_0 := blk_frozen BK174.out 0; have hfz28_1 := blk_frozen BK174.out 1; have hfz28_2 := blk_frozen BK174.out 2) | ((with_reducible refine gate_callee (f := 38) rfl ?_); refine goesL_ (some 18) rfl rfl Try.func38 (by kernel_rfl) rfl #[.int .i64 ((rd_T62 l0_2 x9_1).f0), .int .i64 0, .int .i64 (wrap64 (a0_1 - 1))] rfl (by (try simp only [List.map_toArray, List.map_cons, List.map_nil]); first | done | rfl | (simp only [List.length_drop, List.length_take]; rfl)) ?_; (with_reducible refine (impl_in.calls ((rd_T62 l0_2 x9_1).f0) 0 (wrap64 (a0_1 - 1)) true _ A7.out).mono ?_); rintro e w' ⟨rfl, ⟨nd, rfl⟩⟩; refine ⟨_, rfl, ?_⟩) | (go_at_call 38; (with_reducible refine (impl_in.calls ((rd_T62 l0_2 x9_1).f2) 1 10000 false _ A9.out).mono ?_); rintro e w' ⟨rfl, ⟨nd, rfl⟩⟩))
                go_ret
                exact ⟨by first | rfl | (simp [errW_none, errW_some] <;> rfl) | (simp [*, errW_none, errW_some] <;> rfl), by repeat (first | (with_reducible first | exact HB.out | apply below_alloc | apply pw_below_drewN | apply below_drew1 | refine below_set ?_ GE174.out | refine below_set ?_ GE178.out) | exact HB.out)⟩
            · replace c8 := Bool.eq_false_iff.mpr c8
              subst c8
              have H1 : (some false) = some r := by rw [if_neg (show ¬ (false = true) by decide)] at H; exact H
              clear H
              have H := H1
              clear H1
              obtain rfl := Option.some.inj H
              have p177 : 0 ≤ (x9_1 : Int) := of_decide_eq_true (by first | (with_reducible assumption) | assumption)
              have q177 : x9_1 < (l0_2.length : Int) := of_decide_eq_true (by first | (with_reducible assumption) | assumption)
              obtain ⟨ad177, e177, hx177_0, hx177_1, hx177_2⟩ := at_T62 HR0_2.out x9_1 p177 q177
              cases e177
              replace hx177_0 := (HB.out.cell (World.block_lt_of_cell? w _ hx177_0)).trans hx177_0
              replace hx177_1 := (HB.out.cell (World.block_lt_of_cell? w _ hx177_1)).trans hx177_1
              replace hx177_2 := (HB.out.cell (World.block_lt_of_cell? w _ hx177_2)).trans hx177_2
              replace p177 := eq_true p177
              replace q177 := eq_true q177
              go_wp2_with (first | ((with_reducible refine gate_dst (N := 5) rfl ?_); (try (refine gate_guard (by rfl) ?_; dsimp only)); refine box_event ?hg (N := 5) ?hd (cs := #[.int .i64 0, .int .i64 0, .int .i64 0]) (t := 62) ?hr ?_; (case hd => rfl); (case hg => rfl); (case hr => first | (go_simp; done) | (go_simp; rfl)); intro gb178 hg w29 hbox hb; have n0_ := Aside0.mk (blk_below (g := gb174) (o := .cells #[.int .i64 a0_0, .int .i64 a0_1, .slice (some ad177) l0_2.length c0_2] 29 (0, 0)) (by (with_reducible repeat (first | refine blk_drewN ?_ _ | refine blk_drew ?_ | refine blk_alloc ?_ _)); exact BK174.out) hb); have n1_ := Aside0.mk (below_step (by repeat (first | (with_reducible first | exact HB.out | apply below_alloc | apply pw_below_drewN | apply below_drew1 | refine below_set ?_ GE174.out) | exact HB.out)) hb); have n2_ := Aside0.mk (hbox); have n3_ := Aside0.mk ((by rw [hg]; exact (below_size (by repeat (first | (with_reducible first | exact HB.out | apply below_alloc | apply pw_below_drewN | apply below_drew1 | refine below_set ?_ GE174.out) | exact HB.out))) : w.heap.size ≤ gb178)); have n4_ := Aside0.mk ((by rw [hg]; exact (below_size (by repeat (first | (with_reducible first | exact HB.out | apply below_alloc | apply pw_below_drewN | apply below_drew1 | refine below_set ?_ GE174.out) | exact HB.out))) : w.heap.size ≤ gb178)); have n5_ := Aside0.mk ((by rw [hg]; exact Nat.ne_of_lt (blk_lt (g := gb174) (o := .cells #[.int .i64 a0_0, .int .i64 a0_1, .slice (some ad177) l0_2.length c0_2] 29 (0, 0)) (by (with_reducible repeat (first | refine blk_drewN ?_ _ | refine blk_drew ?_ | refine blk_alloc ?_ _)); exact BK174.out)) : gb174 ≠ gb178)); have n6_ := Aside0.mk ((by rw [hg]; exact Nat.ne_of_gt (blk_lt (g := gb174) (o := .cells #[.int .i64 a0_0, .int .i64 a0_1, .slice (some ad177) l0_2.length c0_2] 29 (0, 0)) (by (with_reducible repeat (first | refine blk_drewN ?_ _ | refine blk_drew ?_ | refine blk_alloc ?_ _)); exact BK174.out)) : gb178 ≠ gb174)); clear BK174; clear HB; have BK174 := n0_; have HB := n1_; have BK178 := n2_; have GW178 := n3_; have GE178 := n4_; have NB174_178 := n5_; have NB178_174 := n6_; clear n0_ n1_ n2_ n3_ n4_ n5_ n6_; clear hb hbox hg; have hnb30 := NB178_174.out; have hnc30 := NB174_178.out; have hcz31_0 : w29.cell? ⟨gb178, 0, none⟩ = some (.int .i64 0) := (blk_cell BK178.out 0).trans rfl; have hcz31_1 : w29.cell? ⟨gb178, 1, none⟩ = some (.int .i64 0) := (blk_cell BK178.out 1).trans rfl; have hcz31_2 : w29.cell? ⟨gb178, 2, none⟩ = some (.int .i64 0) := (blk_cell BK178.out 2).trans rfl; have hfz31_0 := blk_frozen BK178.out 0; have hfz31_1 := blk_frozen BK178.out 1; have hfz31_2 := blk_frozen BK178.out 2; have hcz32_0 : w29.cell? ⟨gb174, 0, none⟩ = some (.int .i64 a0_0) := (blk_cell BK174.out 0).trans rfl; have hcz32_1 : w29.cell? ⟨gb174, 1, none⟩ = some (.int .i64 a0_1) := (blk_cell BK174.out 1).trans rfl; have hcz32_2 : w29.cell? ⟨gb174, 2, none⟩ = some (.slice (some ad177) l0_2.length c0_2) := (blk_cell BK174.out 2).trans rfl; have hfz32_0 := blk_frozen BK174.out 0; have hfz32_1 := blk_frozen BK174.out 1; have hfz32_2 := blk_frozen BK174.out 2) | ((with_reducible refine gate_callee (f := 38) rfl ?_); refine goesL_ (some 18) rfl rfl Try.func38 (by kernel_rfl) rfl #[.int .i64 ((rd_T62 l0_2 x9_1).f0), .int .i64 0, .int .i64 (wrap64 (a0_1 - 1))] rfl (by (try simp only [List.map_toArray, List.map_cons, List.map_nil]); first | done | rfl | (simp only [List.length_drop, List.length_take]; rfl)) ?_; (with_reducible refine (impl_in.calls ((rd_T62 l0_2 x9_1).f0) 0 (wrap64 (a0_1 - 1)) false _ A7.out).mono ?_); rintro e w' ⟨rfl, ⟨nd, rfl⟩⟩; refine ⟨_, rfl, ?_⟩))
              go_ret
              exact ⟨by first | rfl | (simp [errW_none, errW_some] <;> rfl) | (simp [*, errW_none, errW_some] <;> rfl), by repeat (first | (with_reducible first | exact HB.out | apply below_alloc | apply pw_below_drewN | apply below_drew1 | refine below_set ?_ GE174.out | refine below_set ?_ GE178.out) | exact HB.out)⟩
          · rw [if_neg c6] at H
            exact absurd H (by simp)
        · rw [if_neg c5] at H
          exact absurd H (by simp)
      · rw [if_neg c4] at H
        have c4b0 : decide (x9_1 < (l0_2.length : Int)) = false := decide_eq_false c4
        clear c4
        replace H := Option.bind_eq_some_iff.mp H
        obtain ⟨t175, A330, H⟩ := H
        replace H : (if t175 = true then ((impl_in.f a0_1 1 10).bind fun t176 => (if t176 = true then (some (decide ((l0_2.length : Int) ≤ 40))) else (some false))) else (some false)) = some r := H
        have A33 := Aside0.mk A330
        clear A330
        by_cases c34 : t175 = true
        · subst c34
          have H1 : ((impl_in.f a0_1 1 10).bind fun t176 => (if t176 = true then (some (decide ((l0_2.length : Int) ≤ 40))) else (some false))) = some r := by rw [if_pos rfl] at H; exact H
          clear H
          have H := H1
          clear H1
          replace H := Option.bind_eq_some_iff.mp H
          obtain ⟨t176, A350, H⟩ := H
          replace H : (if t176 = true then (some (decide ((l0_2.length : Int) ≤ 40))) else (some false)) = some r := H
          have A35 := Aside0.mk A350
          clear A350
          by_cases c36 : t176 = true
          · subst c36
            have H1 : (some (decide ((l0_2.length : Int) ≤ 40))) = some r := by rw [if_pos rfl] at H; exact H
            clear H
            have H := H1
            clear H1
            obtain rfl := Option.some.inj H
            have hcz37_0 : wr.cell? ⟨gb174, 0, none⟩ = some (.int .i64 a0_0) := (blk_cell BK174.out 0).trans rfl
            have hcz37_1 : wr.cell? ⟨gb174, 1, none⟩ = some (.int .i64 a0_1) := (blk_cell BK174.out 1).trans rfl
            have hcz37_2 : wr.cell? ⟨gb174, 2, none⟩ = some (.slice A0_2 l0_2.length c0_2) := (blk_cell BK174.out 2).trans rfl
            have hfz37_0 := blk_frozen BK174.out 0
            have hfz37_1 := blk_frozen BK174.out 1
            have hfz37_2 := blk_frozen BK174.out 2
            go_wp2_with (first | ((with_reducible refine gate_callee (f := 38) rfl ?_); refine goesL_ (some 50) rfl rfl Try.func38 (by kernel_rfl) rfl #[.int .i64 a0_0, .int .i64 1, .int .i64 100000] rfl (by (try simp only [List.map_toArray, List.map_cons, List.map_nil]); first | done | rfl | (simp only [List.length_drop, List.length_take]; rfl)) ?_; (with_reducible refine (impl_in.calls a0_0 1 100000 true _ A33.out).mono ?_); rintro e w' ⟨rfl, ⟨nd, rfl⟩⟩; refine ⟨_, rfl, ?_⟩) | (go_at_call 38; (with_reducible refine (impl_in.calls a0_1 1 10 true _ A35.out).mono ?_); rintro e w' ⟨rfl, ⟨nd, rfl⟩⟩))
            go_ret
            exact ⟨by first | rfl | (simp [errW_none, errW_some] <;> rfl) | (simp [*, errW_none, errW_some] <;> rfl), by repeat (first | (with_reducible first | exact HB.out | apply below_alloc | apply pw_below_drewN | apply below_drew1 | refine below_set ?_ GE174.out) | exact HB.out)⟩
          · replace c36 := Bool.eq_false_iff.mpr c36
            subst c36
            have H1 : (some false) = some r := by rw [if_neg (show ¬ (false = true) by decide)] at H; exact H
            clear H
            have H := H1
            clear H1
            obtain rfl := Option.some.inj H
            have hcz38_0 : wr.cell? ⟨gb174, 0, none⟩ = some (.int .i64 a0_0) := (blk_cell BK174.out 0).trans rfl
            have hcz38_1 : wr.cell? ⟨gb174, 1, none⟩ = some (.int .i64 a0_1) := (blk_cell BK174.out 1).trans rfl
            have hcz38_2 : wr.cell? ⟨gb174, 2, none⟩ = some (.slice A0_2 l0_2.length c0_2) := (blk_cell BK174.out 2).trans rfl
            have hfz38_0 := blk_frozen BK174.out 0
            have hfz38_1 := blk_frozen BK174.out 1
            have hfz38_2 := blk_frozen BK174.out 2
            go_wp2_with (first | ((with_reducible refine gate_callee (f := 38) rfl ?_); refine goesL_ (some 50) rfl rfl Try.func38 (by kernel_rfl) rfl #[.int .i64 a0_0, .int .i64 1, .int .i64 100000] rfl (by (try simp only [List.map_toArray, List.map_cons, List.map_nil]); first | done | rfl | (simp only [List.length_drop, List.length_take]; rfl)) ?_; (with_reducible refine (impl_in.calls a0_0 1 100000 true _ A33.out).mono ?_); rintro e w' ⟨rfl, ⟨nd, rfl⟩⟩; refine ⟨_, rfl, ?_⟩) | (go_at_call 38; (with_reducible refine (impl_in.calls a0_1 1 10 false _ A35.out).mono ?_); rintro e w' ⟨rfl, ⟨nd, rfl⟩⟩))
            go_ret
            exact ⟨by first | rfl | (simp [errW_none, errW_some] <;> rfl) | (simp [*, errW_none, errW_some] <;> rfl), by repeat (first | (with_reducible first | exact HB.out | apply below_alloc | apply pw_below_drewN | apply below_drew1 | refine below_set ?_ GE174.out) | exact HB.out)⟩
        · replace c34 := Bool.eq_false_iff.mpr c34
          subst c34
          have H1 : (some false) = some r := by rw [if_neg (show ¬ (false = true) by decide)] at H; exact H
          clear H
          have H := H1
          clear H1
          obtain rfl := Option.some.inj H
          have hcz39_0 : wr.cell? ⟨gb174, 0, none⟩ = some (.int .i64 a0_0) := (blk_cell BK174.out 0).trans rfl
          have hcz39_1 : wr.cell? ⟨gb174, 1, none⟩ = some (.int .i64 a0_1) := (blk_cell BK174.out 1).trans rfl
          have hcz39_2 : wr.cell? ⟨gb174, 2, none⟩ = some (.slice A0_2 l0_2.length c0_2) := (blk_cell BK174.out 2).trans rfl
          have hfz39_0 := blk_frozen BK174.out 0
          have hfz39_1 := blk_frozen BK174.out 1
          have hfz39_2 := blk_frozen BK174.out 2
          go_wp2_with (first | ((with_reducible refine gate_callee (f := 38) rfl ?_); refine goesL_ (some 50) rfl rfl Try.func38 (by kernel_rfl) rfl #[.int .i64 a0_0, .int .i64 1, .int .i64 100000] rfl (by (try simp only [List.map_toArray, List.map_cons, List.map_nil]); first | done | rfl | (simp only [List.length_drop, List.length_take]; rfl)) ?_; (with_reducible refine (impl_in.calls a0_0 1 100000 false _ A33.out).mono ?_); rintro e w' ⟨rfl, ⟨nd, rfl⟩⟩; refine ⟨_, rfl, ?_⟩))
          go_ret
          exact ⟨by first | rfl | (simp [errW_none, errW_some] <;> rfl) | (simp [*, errW_none, errW_some] <;> rfl), by repeat (first | (with_reducible first | exact HB.out | apply below_alloc | apply pw_below_drewN | apply below_drew1 | refine below_set ?_ GE174.out) | exact HB.out)⟩

/-! ### impl_Window_45: function 45 -/
def impl_Window_45.f (l0 : List (S62)) : Option ((List (S62))) := (some (([] : List (S62)) : List (S62))).bind fun y181 => (if y181.length + l0.length < 5864062014805 then (some (y181 ++ l0)) else (none))
set_option maxHeartbeats 8000000 in
set_option maxRecDepth 100000 in
theorem impl_Window_45.calls (A0 : Option Addr) (c0 : Nat) (l0 : List (S62)) (r : List (S62)) (w : World) (hr0 : Kd.C k62 w A0 l0.length l0) (hc0 : l0.length ≤ c0) (h : impl_Window_45.f l0 = some r) :
    Calls Try.prog 45 #[.slice A0 l0.length c0] w fun e w' => ∃ v0_ : Value, e = .returned (v0_) ∧ Kd.R k62 62 w' w.heap.size (fun _ => True) v0_ r ∧ Below w.heap.size w w' := by
  cases A0 with
  | none =>
    have hl : l0 = [] := by
      rcases Nat.eq_zero_or_pos l0.length with z | z
      · exact List.length_eq_zero_iff.1 z
      · obtain ⟨ad, e, _⟩ := hr0.2.2 z
        cases e
    subst hl
    obtain rfl : [] = r := by simpa [impl_Window_45.f] using h
    clear h hr0
    have he := fun W => Lib.run_eql_slice_nil (P := Try.prog) W 27 62 none 0 c0 0 0 Try.underlying27
    go_enter Try.func45, Try.ntmps45
    go_wp2
    go_ret
    exact ⟨_, rfl, Kd.R_nil _ _ _ _ _, Below.refl _ _⟩
  | some ad0 =>
    have HR0 := Aside0.mk hr0
    have HC0 := Aside0.mk hc0
    clear hr0 hc0
    have HB := Aside0.mk (Below.refl w.heap.size w)
    have H : ((some (([] : List (S62)) : List (S62))).bind fun y181 => (if y181.length + l0.length < 5864062014805 then (some (y181 ++ l0)) else (none))) = some r := h
    clear h
    obtain ⟨y181, hy181⟩ : ∃ y_ : List (S62), y_ = (([] : List (S62))) := ⟨_, rfl⟩
    replace H : (if y181.length + l0.length < 5864062014805 then (some (y181 ++ l0)) else (none)) = some r := by first | (rw [hy181]; with_reducible exact H) | (have H2_ := (Option.bind_some _ _).symm.trans H; rw [hy181]; with_reducible exact H2_) | (have H2_ := (Option.bind_some _ _).symm.trans H; with_reducible exact H2_) | with_reducible exact H | (rw [hy181]; exact H) | exact H
    have Ny181 := Aside0.mk hy181
    clear hy181
    by_cases c2 : y181.length + l0.length < 5864062014805
    · rw [if_pos c2] at H
      have LMc2 := Aside0.mk c2
      clear c2
      obtain ⟨y184, hy184⟩ : ∃ y_ : List (S62), y_ = (y181 ++ l0) := ⟨_, rfl⟩
      replace H : (some y184) = some r := by first | (rw [hy184]; with_reducible exact H) | (have H2_ := (Option.bind_some _ _).symm.trans H; rw [hy184]; with_reducible exact H2_) | (have H2_ := (Option.bind_some _ _).symm.trans H; with_reducible exact H2_) | with_reducible exact H | (rw [hy184]; exact H) | exact H
      have Ny184 := Aside0.mk hy184
      clear hy184
      obtain rfl := Option.some.inj H
      have he := fun W => Lib.run_eql_slice_nil (P := Try.prog) W 27 62 (some ad0) l0.length c0 0 0 Try.underlying27
      go_enter Try.func45, Try.ntmps45
      go_wp2_with (first | ((with_reducible refine gate_dst (N := 5) rfl ?_); refine Kd.R_lit k62 _ 62 ?hg (N := 5) ?hd (xs := ([] : List (S62))) (inner := []) (ok := fun _ => True) (okp := fun _ => True) ?hr ?hp (fun _ hk => hk) trivial (Below.refl _ _) (Nat.le_refl _) (by simp) ?_; (case hd => rfl); (case hg => rfl); (case hr => first | (go_simp; done) | (go_simp; rfl)); (case hp => exact (Reps.none _ _)); intro v182 w3 ho4 hb hg_ hnew_; clear hg_ hnew_; (first | rw [← Ny181.out] at ho4 | (simp only [Int.reduceToNat] at ho4; rw [← Ny181.out] at ho4)); have n0_ := Aside0.mk (Kd.R_lower ho4 (below_size (by repeat (first | (with_reducible first | exact HB.out | apply below_alloc | apply pw_below_drewN | apply below_drew1) | exact HB.out)))); have n1_ := Aside0.mk (below_step (by repeat (first | (with_reducible first | exact HB.out | apply below_alloc | apply pw_below_drewN | apply below_drew1) | exact HB.out)) hb); clear HB; have HO183 := n0_; have HB := n1_; clear n0_ n1_; clear hb ho4) | ((with_reducible refine gate_builtin (b := .append) (xs := #[.tmp 5, .tmp 6]) rfl ?_); at_builtin; refine Kd.R_append_rows k62 (w0 := w) w.heap.size rfl (.tmp 5) (.tmp 6) 27 62 (.agg #[(.int .i64 0), (.int .i64 0), (.int .i64 0)]) 24 rfl Try.underlying27 info62 rfl (by decide) (by omega) v182 y181 l0 _ _ _ (fun _ => True) (fun _ => False) rfl rfl ?aO ?aR (fun _ _ h => h) (fun _ h => h.elim) ?aF ?aB ?aS ?aL ?_; (case aR => repeat (first | exact (Kd.C_below HR0.out HB.out) | (with_reducible refine Kd.C_alloc ?_ _) | (with_reducible refine Kd.C_drewN ?_ _) | (with_reducible refine Kd.C_drew ?_))); (case aB => exact (by repeat (first | (with_reducible first | exact HB.out | apply below_alloc | apply pw_below_drewN | apply below_drew1) | exact HB.out))); (case aF => exact (fun _ _ => trivial)); (case aO => exact (by (with_reducible repeat (first | apply Kd.R_alloc | apply Kd.R_drewN | apply Kd.R_drew)); exact HO183.out)); (case aS => exact (below_size (by repeat (first | (with_reducible first | exact HB.out | apply below_alloc | apply pw_below_drewN | apply below_drew1) | exact HB.out)))); (case aL => have := LMc2.out; omega); intro v185 w5 ho hb hg hat; rw [← Ny184.out] at ho; have n0_ := Aside0.mk (hb); have n1_ := Aside0.mk (ho); clear HB; clear HO183; have HB := n0_; have HO186 := n1_; clear n0_ n1_; clear ho hb hg hat))
      go_ret
      exact ⟨_, by first | rfl | (simp [errW_none, errW_some] <;> rfl) | (simp [*, errW_none, errW_some] <;> rfl), by (with_reducible repeat (first | apply Kd.R_alloc | apply Kd.R_drewN | apply Kd.R_drew)); exact HO186.out, by repeat (first | (with_reducible first | exact HB.out | apply below_alloc | apply pw_below_drewN | apply below_drew1) | exact HB.out)⟩
    · rw [if_neg c2] at H
      exact absurd H (by simp)

/-! ### impl_clonePlan: function 47 -/
def impl_clonePlan.f (a0_0 : Int) (a0_1 : Int) (l0_2 : List (S62)) : Option (Int × Int × (List (S62))) := (impl_Window_45.f l0_2).bind fun t189 => (some (a0_0, a0_1, t189))
set_option maxHeartbeats 8000000 in
set_option maxRecDepth 100000 in
theorem impl_clonePlan.calls (a0_0 : Int) (a0_1 : Int) (A0_2 : Option Addr) (c0_2 : Nat) (l0_2 : List (S62)) (r1 : Int) (r2 : Int) (r3 : List (S62)) (w : World) (hr0_2 : Kd.C k62 w A0_2 l0_2.length l0_2) (hc0_2 : l0_2.length ≤ c0_2) (h : impl_clonePlan.f a0_0 a0_1 l0_2 = some (r1, r2, r3)) :
    Calls Try.prog 47 #[.agg #[.int .i64 a0_0, .int .i64 a0_1, .slice A0_2 l0_2.length c0_2]] w fun e w' => ∃ v2_ : Value, e = .returned (.agg #[.int .i64 r1, .int .i64 r2, v2_]) ∧ Kd.R k62 62 w' w.heap.size (fun _ => True) v2_ r3 ∧ Below w.heap.size w w' := by
  have hu29 := Try.underlying29
  have HR0_2 := Aside0.mk hr0_2
  have HC0_2 := Aside0.mk hc0_2
  clear hr0_2 hc0_2
  have HB := Aside0.mk (Below.refl w.heap.size w)
  have H : ((impl_Window_45.f l0_2).bind fun t189 => (some (a0_0, a0_1, t189))) = some (r1, r2, r3) := h
  clear h
  replace H := Option.bind_eq_some_iff.mp H
  obtain ⟨t189, A20, H⟩ := H
  replace H : (some (a0_0, a0_1, t189)) = some (r1, r2, r3) := H
  have A2 := Aside0.mk A20
  clear A20
  simp only [Option.some.injEq, Prod.mk.injEq] at H
  obtain ⟨rfl, rfl, rfl⟩ := H
  go_enter Try.func47, Try.ntmps47
  go_wp2_with (first | ((with_reducible refine gate_dst (N := 1) rfl ?_); refine box_event ?hg (N := 1) ?hd (cs := #[.int .i64 a0_0, .int .i64 a0_1, .slice A0_2 l0_2.length c0_2]) (t := 29) ?hr ?_; (case hd => rfl); (case hg => rfl); (case hr => first | (go_simp; done) | (go_simp; rfl)); intro gb187 hg w3 hbox hb; have n0_ := Aside0.mk (below_step (by repeat (first | (with_reducible first | exact HB.out | apply below_alloc | apply pw_below_drewN | apply below_drew1) | exact HB.out)) hb); have n1_ := Aside0.mk (hbox); have n2_ := Aside0.mk ((by rw [hg]; exact (below_size (by repeat (first | (with_reducible first | exact HB.out | apply below_alloc | apply pw_below_drewN | apply below_drew1) | exact HB.out))) : w.heap.size ≤ gb187)); have n3_ := Aside0.mk ((by rw [hg]; exact (below_size (by repeat (first | (with_reducible first | exact HB.out | apply below_alloc | apply pw_below_drewN | apply below_drew1) | exact HB.out))) : w.heap.size ≤ gb187)); clear HB; have HB := n0_; have BK187 := n1_; have GW187 := n2_; have GE187 := n3_; clear n0_ n1_ n2_ n3_; clear hb hbox hg) | ((with_reducible refine gate_dst (N := 2) rfl ?_); refine box_event ?hg (N := 2) ?hd (cs := #[.int .i64 0, .int .i64 0, .slice none 0 0]) (t := 29) ?hr ?_; (case hd => rfl); (case hg => rfl); (case hr => first | (go_simp; done) | (go_simp; rfl)); intro gb188 hg w4 hbox hb; have n0_ := Aside0.mk (blk_below (g := gb187) (o := .cells #[.int .i64 a0_0, .int .i64 a0_1, .slice A0_2 l0_2.length c0_2] 29 (0, 0)) (by (with_reducible repeat (first | refine blk_drewN ?_ _ | refine blk_drew ?_ | refine blk_alloc ?_ _)); exact BK187.out) hb); have n1_ := Aside0.mk (below_step (by repeat (first | (with_reducible first | exact HB.out | apply below_alloc | apply pw_below_drewN | apply below_drew1 | refine below_set ?_ GE187.out) | exact HB.out)) hb); have n2_ := Aside0.mk (hbox); have n3_ := Aside0.mk ((by rw [hg]; exact (below_size (by repeat (first | (with_reducible first | exact HB.out | apply below_alloc | apply pw_below_drewN | apply below_drew1 | refine below_set ?_ GE187.out) | exact HB.out))) : w.heap.size ≤ gb188)); have n4_ := Aside0.mk ((by rw [hg]; exact (below_size (by repeat (first | (with_reducible first | exact HB.out | apply below_alloc | apply pw_below_drewN | apply below_drew1 | refine below_set ?_ GE187.out) | exact HB.out))) : w.heap.size ≤ gb188)); have n5_ := Aside0.mk ((by rw [hg]; exact Nat.ne_of_lt (blk_lt (g := gb187) (o := .cells #[.int .i64 a0_0, .int .i64 a0_1, .slice A0_2 l0_2.length c0_2] 29 (0, 0)) (by (with_reducible repeat (first | refine blk_drewN ?_ _ | refine blk_drew ?_ | refine blk_alloc ?_ _)); exact BK187.out)) : gb187 ≠ gb188)); have n6_ := Aside0.mk ((by rw [hg]; exact Nat.ne_of_gt (blk_lt (g := gb187) (o := .cells #[.int .i64 a0_0, .int .i64 a0_1, .slice A0_2 l0_2.length c0_2] 29 (0, 0)) (by (with_reducible repeat (first | refine blk_drewN ?_ _ | refine blk_drew ?_ | refine blk_alloc ?_ _)); exact BK187.out)) : gb188 ≠ gb187)); clear BK187; clear HB; have BK187 := n0_; have HB := n1_; have BK188 := n2_; have GW188 := n3_; have GE188 := n4_; have NB187_188 := n5_; have NB188_187 := n6_; clear n0_ n1_ n2_ n3_ n4_ n5_ n6_; clear hb hbox hg; have hnb5 := NB187_188.out; have hnc5 := NB188_187.out; have hcz6_0 : w4.cell? ⟨gb187, 0, none⟩ = some (.int .i64 a0_0) := (blk_cell BK187.out 0).trans rfl; have hcz6_1 : w4.cell? ⟨gb187, 1, none⟩ = some (.int .i64 a0_1) := (blk_cell BK187.out 1).trans rfl; have hcz6_2 : w4.cell? ⟨gb187, 2, none⟩ = some (.slice A0_2 l0_2.length c0_2) := (blk_cell BK187.out 2).trans rfl; have hfz6_0 := blk_frozen BK187.out 0; have hfz6_1 := blk_frozen BK187.out 1; have hfz6_2 := blk_frozen BK187.out 2) | ((with_reducible refine gate_callee (f := 45) rfl ?_); refine goesL_ (some 5) rfl rfl Try.func45 (by kernel_rfl) rfl #[.slice A0_2 l0_2.length c0_2] rfl (by (try simp only [List.map_toArray, List.map_cons, List.map_nil]); first | done | rfl | (simp only [List.length_drop, List.length_take]; rfl)) ?_; (with_reducible refine (impl_Window_45.calls _ _ l0_2 t189 _ ?side1 ?side2 A2.out).mono ?_); (case side1 => repeat (first | exact (Kd.C_below HR0_2.out HB.out) | (with_reducible refine Kd.C_alloc ?_ _) | (with_reducible refine Kd.C_drewN ?_ _) | (with_reducible refine Kd.C_drew ?_))); (case side2 => exact HC0_2.out); rintro e w7 ⟨v190, rfl, ho0, hb⟩; refine ⟨_, rfl, ?_⟩; have n0_ := Aside0.mk (Kd.R_lower ho0 (below_size (by repeat (first | (with_reducible first | exact HB.out | apply below_alloc | apply pw_below_drewN | apply below_drew1 | refine below_set ?_ GE187.out | refine below_set ?_ GE188.out) | exact HB.out)))); have n1_ := Aside0.mk (blk_below (g := gb187) (o := .cells #[.int .i64 a0_0, .int .i64 a0_1, .slice A0_2 l0_2.length c0_2] 29 (0, 0)) (by (with_reducible repeat (first | refine blk_drewN ?_ _ | refine blk_drew ?_ | refine blk_alloc ?_ _)); exact BK187.out) hb); have n2_ := Aside0.mk (blk_below (g := gb188) (o := .cells #[.int .i64 0, .int .i64 0, .slice none 0 0] 29 (0, 0)) (by (with_reducible repeat (first | refine blk_drewN ?_ _ | refine blk_drew ?_ | refine blk_alloc ?_ _)); exact BK188.out) hb); have n3_ := Aside0.mk (below_step (by repeat (first | (with_reducible first | exact HB.out | apply below_alloc | apply pw_below_drewN | apply below_drew1 | refine below_set ?_ GE187.out | refine below_set ?_ GE188.out) | exact HB.out)) hb); clear BK187; clear BK188; clear HB; have HO191 := n0_; have BK187 := n1_; have BK188 := n2_; have HB := n3_; clear n0_ n1_ n2_ n3_; (try clear hb); (try clear hb2); (try clear hk); (try clear hi); (try clear ho0); obtain ⟨Ao8, co8, eo8⟩ := Kd.R_slice HO191.out; subst eo8; have hcz9_0 : w7.cell? ⟨gb187, 0, none⟩ = some (.int .i64 a0_0) := (blk_cell BK187.out 0).trans rfl; have hcz9_1 : w7.cell? ⟨gb187, 1, none⟩ = some (.int .i64 a0_1) := (blk_cell BK187.out 1).trans rfl; have hcz9_2 : w7.cell? ⟨gb187, 2, none⟩ = some (.slice A0_2 l0_2.length c0_2) := (blk_cell BK187.out 2).trans rfl; have hfz9_0 := blk_frozen BK187.out 0; have hfz9_1 := blk_frozen BK187.out 1; have hfz9_2 := blk_frozen BK187.out 2; have hcz10_0 : w7.cell? ⟨gb188, 0, none⟩ = some (.int .i64 0) := (blk_cell BK188.out 0).trans rfl; have hcz10_1 : w7.cell? ⟨gb188, 1, none⟩ = some (.int .i64 0) := (blk_cell BK188.out 1).trans rfl; have hcz10_2 : w7.cell? ⟨gb188, 2, none⟩ = some (.slice none 0 0) := (blk_cell BK188.out 2).trans rfl; have hfz10_0 := blk_frozen BK188.out 0; have hfz10_1 := blk_frozen BK188.out 1; have hfz10_2 := blk_frozen BK188.out 2))
  refine bodyPost_ret (results_cell_row rfl _ _ gb188 29 #[.int .i64 a0_0, .int .i64 a0_1, .slice Ao8 t189.length co8] (0, 0) _ rfl (by (with_reducible repeat (first | refine blk_drewN ?_ _ | refine blk_drew ?_ | refine blk_alloc ?_ _)); refine blk_put (cs := #[.int .i64 a0_0, .int .i64 a0_1, .slice none 0 0]) ?_ 2 _ rfl; (with_reducible repeat (first | refine blk_drewN ?_ _ | refine blk_drew ?_ | refine blk_alloc ?_ _)); refine blk_put (cs := #[.int .i64 a0_0, .int .i64 0, .slice none 0 0]) ?_ 1 _ rfl; (with_reducible repeat (first | refine blk_drewN ?_ _ | refine blk_drew ?_ | refine blk_alloc ?_ _)); refine blk_put (cs := #[.int .i64 0, .int .i64 0, .slice none 0 0]) ?_ 0 _ rfl; (with_reducible repeat (first | refine blk_drewN ?_ _ | refine blk_drew ?_ | refine blk_alloc ?_ _)); refine blk_far ?_ NB188_187.out _; (with_reducible repeat (first | refine blk_drewN ?_ _ | refine blk_drew ?_ | refine blk_alloc ?_ _)); exact BK188.out) Try.underlying29 rfl (by kernel_rfl)) rfl ?_
  exact ⟨_, by first | rfl | (simp [errW_none, errW_some] <;> rfl) | (simp [*, errW_none, errW_some] <;> rfl), by (with_reducible repeat (first | apply Kd.R_alloc | apply Kd.R_drewN | apply Kd.R_drew)); exact Kd.R_mono (Kd.R_far (p := ⟨gb188, 2, none⟩) (Kd.R_far (p := ⟨gb188, 1, none⟩) (Kd.R_far (p := ⟨gb188, 0, none⟩) (Kd.R_far (p := ⟨gb187, 2, none⟩) (Kd.R_types (Kd.R_types HO191.out BK187.out (by decide)) BK188.out (by decide)) (fun _ hk => hk.1.2) (.slice Ao8 t189.length co8)) (fun _ hk => hk.2) (.int .i64 a0_0)) (fun _ hk => hk.2) (.int .i64 a0_1)) (fun _ hk => hk.2) (.slice Ao8 t189.length co8)) (fun _ hk => trivial), by repeat (first | (with_reducible first | exact HB.out | apply below_alloc | apply pw_below_drewN | apply below_drew1 | refine below_set ?_ GE187.out | refine below_set ?_ GE188.out) | exact HB.out)⟩

-- NOT PRINTED: function 61 (impl_Window_61)

/- impl_Window_67: only slices.Insert comes to it, where its contract is told by hand -/

/- impl_Window_65: only slices.Insert comes to it, where its contract is told by hand -/

/- impl_Window_62: only slices.Insert comes to it, where its contract is told by hand -/

/-! ### slices.Insert (function 48) (by hand) -/
def impl_Window_48.f (l0 : List S62) (a1 : Int) (l2 : List S62) : Option (List S62) := if 0 ≤ a1 then if a1 ≤ (l0.length : Int) then if l2.length = 1 then if l0.length ≤ 1000000 then some (l0.take a1.toNat ++ l2 ++ l0.drop a1.toNat) else none else none else none else none
def cellsS62 (l : List S62) : List Value := l.flatMap fun x => [.int .i64 x.f0, .int .i64 x.f1, .int .i64 x.f2]
theorem cellsS62_length : ∀ l : List S62, (cellsS62 l).length = l.length * 3
  | [] => rfl
  | x :: l => by simp only [cellsS62, List.flatMap_cons, List.length_append, List.length_cons, List.length_nil]; have := cellsS62_length l; unfold cellsS62 at this; omega
theorem cellsS62_append (a b : List S62) : cellsS62 (a ++ b) = cellsS62 a ++ cellsS62 b := by simp [cellsS62]
theorem cellsS62_take (l : List S62) (i : Nat) (hi : i ≤ l.length) : (cellsS62 l).take (i * 3) = cellsS62 (l.take i) := by
  conv => lhs; rw [← List.take_append_drop i l, cellsS62_append]
  rw [List.take_append_of_le_length (by rw [cellsS62_length, List.length_take]; omega), List.take_of_length_le (by rw [cellsS62_length, List.length_take]; omega)]
theorem cellsS62_drop (l : List S62) (i : Nat) (hi : i ≤ l.length) : (cellsS62 l).drop (i * 3) = cellsS62 (l.drop i) := by
  conv => lhs; rw [← List.take_append_drop i l, cellsS62_append]
  have h : (cellsS62 (l.take i)).length = i * 3 := by rw [cellsS62_length, List.length_take]; omega
  rw [← h, List.drop_left]
theorem cellsS62_one (l : List S62) : ∀ u ∈ cellsS62 l, u.oneCell' = true := by
  intro u hu
  obtain ⟨x, _, hx⟩ := List.mem_flatMap.1 hu
  simp only [List.mem_cons, List.not_mem_nil, or_false] at hx
  rcases hx with rfl | rfl | rfl <;> rfl
theorem cellsS62_reps {w : World} {base : Nat} {ok : Nat → Prop} : ∀ (l : List S62) (cs : List Value), Reps (k62.M w base ok) 3 l cs → cs = cellsS62 l
  | [], cs, h => List.eq_nil_of_length_eq_zero (by have := h.1; simpa using this)
  | x :: l, cs, h => by
    have h0 := k62_openM (h.2 0 x rfl)
    have hl := h.1
    simp only [List.length_cons] at hl
    have ih := cellsS62_reps l (cs.drop 3) ⟨by rw [List.length_drop]; omega, fun j p hj => by
      have := h.2 (j + 1) p (by simpa using hj)
      rwa [show (j + 1) * 3 = 3 + j * 3 by omega, ← List.drop_drop] at this⟩
    rw [Nat.zero_mul, List.drop_zero] at h0
    rw [← List.take_append_drop 3 cs, ih, h0]
    simp [cellsS62]
theorem reps_cellsS62 (w : World) (base : Nat) (ok : Nat → Prop) : ∀ l : List S62, Reps (k62.M w base ok) 3 l (cellsS62 l)
  | [] => Reps.none _ _
  | x :: l => by
    have ih := reps_cellsS62 w base ok l
    refine ⟨cellsS62_length _, fun j p hj => ?_⟩
    cases j with
    | zero =>
      obtain rfl : x = p := by simpa using hj
      have e : ((cellsS62 (x :: l)).drop (0 * 3)).take 3 = [.int .i64 x.f0, .int .i64 x.f1, .int .i64 x.f2] := by simp [cellsS62]
      rw [e]
      exact k62_mkM _ _ _ x
    | succ j =>
      have := ih.2 j p (by simpa using hj)
      have e : (cellsS62 (x :: l)).drop ((j + 1) * 3) = (cellsS62 l).drop (j * 3) := by
        rw [show (j + 1) * 3 = 3 + j * 3 by omega, ← List.drop_drop]
        congr 1
      rw [e]
      exact this
theorem ownS62_of {w : World} {base : Nat} {ok : Nat → Prop} {v : Value} {l : List S62} (h : Kd.R k62 62 w base ok v l) : w.ownsRow base 62 3 v l.length (cellsS62 l) := by
  obtain ⟨_, inner, ho, hr⟩ := h
  rw [← cellsS62_reps l inner hr]
  exact ho
theorem R_ownS62 {w : World} {base : Nat} {ok : Nat → Prop} {v : Value} {l : List S62} (h0 : ∀ k, v.ownBlock = some k → ok k) (h : w.ownsRow base 62 3 v l.length (cellsS62 l)) : Kd.R k62 62 w base ok v l :=
  ⟨h0, cellsS62 l, h, reps_cellsS62 _ _ _ l⟩
/-! copy, elements of any size -/
theorem run_copy_many {P : Program} (w : World) (dT sT ty elem : TypeId) (b o dLen dCap : Nat) (a : Addr) (sLen sCap sz : Nat) (cs : List Value)
    (hu : P.underlying dT = some (.slice elem)) (hs : (P.info? elem).map (·.size) = some sz) (hn : cs.length = Nat.min sLen dLen * sz)
    (hsrc : ∀ j v, cs[j]? = some v → w.cell? (a.add j) = some v) (hc : ∀ j, j < cs.length → (w.cell? ⟨b, o + j, none⟩).isSome = true) (hf : ∀ j, j < cs.length → w.frozen? ⟨b, o + j, none⟩ = false) (h1 : ∀ v ∈ cs, v.oneCell' = true) :
    (Builtin.copy_ #[dT, sT] ty #[.slice (some ⟨b, o, none⟩) dLen dCap, .slice (some a) sLen sCap]).run P w = .ok (goInt (Nat.min sLen dLen)) (w.setCells b o cs) := by
  have hl := run_loadCells_list (P := P) w a cs hsrc
  have hst := run_storeCells_cells (P := P) b o cs 0 w (by simpa using hc) (by simpa using hf) h1
  cases hq : P.info? elem with
  | none => simp [hq] at hs
  | some i =>
    have hi : i.size = sz := by simpa [hq] using hs
    simp [Builtin.copy_, run_underlying hu, Builtin.lenOf, Builtin.firstCells, sizeOf, typeInfo, hq, hi, ← hn, hl, hst]
theorem wpList_copy_runH {P : Program} (w : World) {ops : Array Oper} {rest : List Oper} {o : Oper} {a : Act} {Q : Exit → Act → World → Prop} (hgd : o.guard = none) (d s : Operand) (t t' : TypeId)
    (ho : o.op = .call { callee := .builtin .copy, args := #[d, s], argTypes := #[t, t'] }) (v u : Value) (hd : a.eval d = v) (hs : a.eval s = u) {v' : Value} {w' : World}
    (hr : ∀ ty, (Builtin.copy_ #[t, t'] ty #[v, u]).run P w = .ok v' w') (h : wpList P ops Q rest (a.put o.dst v') w') : wpList P ops Q (o :: rest) a w :=
  Kd.event_run hgd (by
    unfold execOp
    simp only [ho, resolve, invoke, builtin, Sem.run_bind, Sem.run_pure, Result.andThen_ok, List.map_toArray, List.map_cons, List.map_nil, hd, hs, hr]) h
theorem step_copy_runH {P : Program} {ops : Array Oper} {o : Oper} {a : Act} {w : World} {K : Act → World → Prop} {Q : Exit → Act → World → Prop} {E : Prop}
    (hg : o.guard = none) (d x : Operand) (dT sT : TypeId) (hop : o.op = Op.call { callee := Callee.builtin Builtin.copy, args := #[d, x], argTypes := #[dT, sT] })
    (v u : Value) (hd : a.eval d = v) (hx : a.eval x = u) {v' : Value} {w' : World} (hr : ∀ ty, (Builtin.copy_ #[dT, sT] ty #[v, u]).run P w = .ok v' w') (hK : K (a.put o.dst v') w') :
    if Region.wanted o (yielded ops a.tmps) = true then Oper.wp P o a w K Q else E := by
  have hw : Region.wanted o (yielded ops a.tmps) = true := by simp [Region.wanted, hg]
  rw [if_pos hw]
  unfold Oper.wp
  simp [execOp, hop, resolve, invoke, builtin, hd, hx, hr, Result.andThen]
  exact hK
theorem infoI62 : (Try.prog.info? 62).map (fun i => (i.zero, i.size, i.bytes)) = some (some (.agg #[.int .i64 0, .int .i64 0, .int .i64 0]), 3, 24) := by kernel_rfl
set_option maxHeartbeats 8000000 in
set_option maxRecDepth 100000 in
theorem insEnd48 (P0_ : Nat → Prop) (u : Value) (l : List S62) (x : S62) (vb vc : Nat) (w0 w : World) (hB : Below w0.heap.size w0 w) (ho0 : Kd.R k62 62 w w0.heap.size P0_ u l) (hl : l.length ≤ 1000000) (hx : ∀ j v, [.int .i64 x.f0, .int .i64 x.f1, .int .i64 x.f2][j]? = some v → w.cell? ⟨vb, j, none⟩ = some v) :
    Calls Try.prog 48 #[u, .int .i64 (l.length : Int), .slice (some ⟨vb, 0, none⟩) 1 vc] w fun e w' => ∃ v, e = .returned v ∧ Kd.R k62 62 w' w0.heap.size (fun k_ => P0_ k_ ∨ w.heap.size ≤ k_) v (l ++ [x]) ∧ Below w0.heap.size w0 w' ∧ Kept w w' P0_ := by
  obtain ⟨i0, hi, hz0, hz1, hz2⟩ := info_parts infoI62
  obtain ⟨v', w', hrun, hown, hg, _, hat⟩ := run_append_own_at w w0.heap.size 27 27 62 i0 _ 3 24 Try.underlying27 hi hz0 hz1 hz2 rfl (by decide) u l.length (cellsS62 l) (ownS62_of ho0) ⟨vb, 0, none⟩ 1 vc [.int .i64 x.f0, .int .i64 x.f1, .int .i64 x.f2] rfl
    (fun j v hj => by rw [add_plain]; exact hx j v hj) (by simp [Value.oneCell']) (by simp only [maxLen]; omega) (by omega) hB.size
  obtain ⟨A, c, rfl⟩ := Kd.R_slice ho0
  have hrd := Kd.R_reads' ho0
  have hlc : l.length ≤ c := hrd.2.1
  have H1 := Aside0.mk hown
  have H2 := Aside0.mk hg
  have H3 := Aside0.mk hat
  have H4 := Aside0.mk hrun
  have HO := Aside0.mk ho0
  have HB := Aside0.mk hB
  clear hi hz0 hz1 hz2 hown hg hat hrun ho0 hrd hx hB
  go_enter Try.func48, Try.ntmps48
  go_wp2_with (at_builtin; refine Lib.wpList_append_run _ rfl _ _ 27 27 rfl _ _ rfl rfl v' w' H4.out ?_)
  all_goals
    go_ret
    refine ⟨v', rfl, R_ownS62 (fun k hk => ?_) (by rw [List.length_append, cellsS62_append]; exact H1.out), HB.out.grown H2.out HB.out.size (fun k hk => Kd.R_base HO.out k hk), Kept.of_grown H2.out (Kept.refl _ _) (fun k hk => .inl (HO.out.1 k hk))⟩
    rcases H3.out with hat | hat
    · exact .inl (HO.out.1 k (by rw [← hat]; exact hk))
    · rw [hat] at hk; injection hk with hk; exact .inr (by omega)
theorem some_setCells (b : Nat) (vs : List Value) (o : Nat) (w : World) (h : ∀ j, j < vs.length → (w.cell? ⟨b, o + j, none⟩).isSome = true) (k : Nat) (hk : (w.cell? ⟨b, k, none⟩).isSome = true) : ((w.setCells b o vs).cell? ⟨b, k, none⟩).isSome = true := by
  by_cases hin : o ≤ k ∧ k < o + vs.length
  · have := World.cell?_setCells_in b vs o w h (k - o) (by omega)
    rw [show o + (k - o) = k by omega] at this
    rw [this]; rfl
  · rw [World.cell?_setCells_out b vs o w ⟨b, k, none⟩ (fun _ _ => by show k < o ∨ o + vs.length ≤ k; omega)]
    exact hk
set_option maxHeartbeats 8000000 in
set_option maxRecDepth 100000 in
theorem insShift48 (P0_ : Nat → Prop) (b c i : Nat) (l : List S62) (x : S62) (vb vc : Nat) (w0 w : World) (hB : Below w0.heap.size w0 w) (ho0 : Kd.R k62 62 w w0.heap.size P0_ (.slice (some ⟨b, 0, none⟩) l.length c) l) (hl : l.length ≤ 1000000) (hi : i < l.length) (hroom : l.length + 1 ≤ c)
    (hne : vb ≠ b) {curv : Array Value} (hv : w.heap[vb]? = some (.cells curv 62 (0, 0))) (hx : ∀ j v, [.int .i64 x.f0, .int .i64 x.f1, .int .i64 x.f2][j]? = some v → w.cell? ⟨vb, j, none⟩ = some v) :
    Calls Try.prog 48 #[.slice (some ⟨b, 0, none⟩) l.length c, .int .i64 (i : Int), .slice (some ⟨vb, 0, none⟩) 1 vc] w fun e w' => ∃ v, e = .returned v ∧ Kd.R k62 62 w' w0.heap.size (fun k_ => P0_ k_ ∨ w.heap.size ≤ k_) v (l.take i ++ [x] ++ l.drop i) ∧ Below w0.heap.size w0 w' ∧ Kept w w' P0_ := by
  have hown := ownS62_of ho0
  obtain ⟨g', cap, cur, he, hbb, hh, hnc, hcm, hcs, ht⟩ := hown.2.resolve_left (by rintro ⟨h, _⟩; cases h)
  injection he with he1 _ he3
  injection he1 with he1
  injection he1 with he1
  subst he1 he3
  unfold maxLen at hcm
  have hP : P0_ b := ho0.1 b rfl
  have hov : ∀ lb cb, (callFunc 61 #[.slice (some ⟨vb, 0, none⟩) 1 vc, .slice (some ⟨b, (i + 1) * 3, none⟩) lb cb]).run Try.prog w = .ok (.value (.bool false)) w := fun lb cb => by
    rw [run_callFunc_extern (fn := Try.f61) rfl (by kernel_rfl) (by kernel_rfl) (by kernel_rfl) (e := Extern.SlicesOverlaps.overlaps #[27, 27] #[4]) (by kernel_rfl),
      Lib.run_overlaps_apart w 27 4 62 Try.underlying27 3 (fun w => by kernel_rfl) ⟨vb, 0, none⟩ ⟨b, (i + 1) * 3, none⟩ 1 vc lb cb hne 62 62 curv.size cur.size (by simp [World.shape?, hv]) (by simp [World.shape?, hh]) (by omega) (blk_frozen hv _) (blk_frozen hv _)]
    rfl
  have hsz : (Try.prog.info? 62).map (·.size) = some 3 := by
    obtain ⟨i0, hi0, h0, h1, h2⟩ := info_parts infoI62
    rw [hi0]; simp [h1]
  have hdl : (cellsS62 (l.drop i)).length = (l.length - i) * 3 := by rw [cellsS62_length, List.length_drop]
  have hcell : ∀ j u, (cellsS62 l)[j]? = some u → w.cell? ⟨b, j, none⟩ = some u := fun j u hj => by
    rw [blk_cell hh, ← Array.getElem?_toList]
    rw [← ht, List.getElem?_take] at hj
    split at hj
    · exact hj
    · cases hj
  have hsome : ∀ j, j < c * 3 → (w.cell? ⟨b, j, none⟩).isSome = true := fun j hj => by rw [blk_cell hh]; simp; omega
  have hcp1 : ∀ dc sc ty, (Builtin.copy_ #[27, 27] ty #[.slice (some ⟨b, (i + 1) * 3, none⟩) (l.length - i) dc, .slice (some ⟨b, i * 3, none⟩) (l.length + 1 - i) sc]).run Try.prog w.drew = .ok (goInt ((l.length - i : Nat) : Int)) (w.drew.setCells b ((i + 1) * 3) (cellsS62 (l.drop i))) := fun dc sc ty => by
    have hm : Nat.min (l.length + 1 - i) (l.length - i) = l.length - i := by simp only [Nat.min_def]; split <;> omega
    have := run_copy_many (P := Try.prog) w.drew 27 27 ty 62 b ((i + 1) * 3) (l.length - i) dc ⟨b, i * 3, none⟩ (l.length + 1 - i) sc 3 (cellsS62 (l.drop i)) Try.underlying27 hsz (by rw [hdl, hm])
      (fun j v hj => by rw [Addr.add_lit]; refine hcell _ v ?_; rw [← cellsS62_drop l i (by omega), List.getElem?_drop] at hj; exact hj)
      (fun j hj => hsome _ (by omega)) (fun j hj => blk_frozen hh _) (cellsS62_one _)
    rw [hm] at this
    exact this
  obtain ⟨cur1, hh1, hs1, ht1⟩ := setCells_row (cellsS62 (l.drop i)) ((i + 1) * 3) w.drew cur hh (by omega)
  have hfar1 : ∀ k, k ≠ b → (w.drew.setCells b ((i + 1) * 3) (cellsS62 (l.drop i))).heap[k]? = w.heap[k]? := fun k hk => setCells_far _ _ k hk
  obtain ⟨e1, e2, e3, e4⟩ := setCells_same b (cellsS62 (l.drop i)) ((i + 1) * 3) w.drew
  generalize w.drew.setCells b ((i + 1) * 3) (cellsS62 (l.drop i)) = W1 at hcp1 hh1 hfar1 e1 e2 e3 e4
  have hv1 : W1.heap[vb]? = some (.cells curv 62 (0, 0)) := (hfar1 vb hne).trans hv
  have hcp2 : ∀ dc ty, (Builtin.copy_ #[27, 27] ty #[.slice (some ⟨b, i * 3, none⟩) (l.length + 1 - i) dc, .slice (some ⟨vb, 0, none⟩) 1 vc]).run Try.prog W1 = .ok (goInt 1) (W1.setCells b (i * 3) [.int .i64 x.f0, .int .i64 x.f1, .int .i64 x.f2]) := fun dc ty => by
    have hm : Nat.min 1 (l.length + 1 - i) = 1 := by simp only [Nat.min_def]; split <;> omega
    have := run_copy_many (P := Try.prog) W1 27 27 ty 62 b (i * 3) (l.length + 1 - i) dc ⟨vb, 0, none⟩ 1 vc 3 [.int .i64 x.f0, .int .i64 x.f1, .int .i64 x.f2] Try.underlying27 hsz (by rw [hm]; rfl)
      (fun j v hj => by
        rw [add_plain]
        have := hx j v hj
        rw [blk_cell hv] at this
        rw [blk_cell hv1]
        exact this)
      (fun j hj => by rw [blk_cell hh1]; simp only [List.length_cons, List.length_nil] at hj; simp; omega) (fun j hj => blk_frozen hh1 _) (by simp [Value.oneCell'])
    rw [hm] at this
    exact this
  obtain ⟨cur2, hh2, hs2, ht2⟩ := setCells_row [.int .i64 x.f0, .int .i64 x.f1, .int .i64 x.f2] (i * 3) W1 cur1 hh1 (by simp only [List.length_cons, List.length_nil]; omega)
  have hfar2 : ∀ k, k ≠ b → (W1.setCells b (i * 3) [.int .i64 x.f0, .int .i64 x.f1, .int .i64 x.f2]).heap[k]? = w.heap[k]? := fun k hk => (setCells_far _ _ k hk).trans (hfar1 k hk)
  obtain ⟨f1, f2, f3, f4⟩ := setCells_same b [.int .i64 x.f0, .int .i64 x.f1, .int .i64 x.f2] (i * 3) W1
  generalize W1.setCells b (i * 3) [.int .i64 x.f0, .int .i64 x.f1, .int .i64 x.f2] = W2 at hcp2 hh2 hfar2 f1 f2 f3 f4
  have hg : w.grownBy W2 (some b) := ⟨f1.trans e1, f2.trans e2, f3.trans e3, by rw [f4, e4]; exact Nat.le_refl _, fun k _ hk => hfar2 k (fun e => hk (by rw [e]))⟩
  have hfin : cur2.toList.take ((l.length + 1) * 3) = cellsS62 (l.take i ++ [x] ++ l.drop i) := by
    have hcl : cur.toList.length = c * 3 := by rw [Array.length_toList, hcs]
    have hA : cur1.toList.take (i * 3) = cellsS62 (l.take i) := by
      rw [ht1, List.append_assoc, List.take_append_of_le_length (by rw [List.length_take]; omega), List.take_take, Nat.min_eq_left (by omega), ← cellsS62_take l i (by omega), ← ht, List.take_take, Nat.min_eq_left (by omega)]
    have hD : (cur1.toList.drop (i * 3 + 3)).take ((l.length - i) * 3) = cellsS62 (l.drop i) := by
      rw [ht1, List.append_assoc, List.drop_append_of_le_length (by rw [List.length_take]; omega), List.drop_of_length_le (by rw [List.length_take]; omega), List.nil_append, ← hdl, List.take_left]
    rw [ht2, cellsS62_append, cellsS62_append, hA, List.append_assoc, List.append_assoc]
    have h1 : (cellsS62 (l.take i)).length = i * 3 := by rw [cellsS62_length, List.length_take]; omega
    rw [List.take_append, List.take_of_length_le (by omega), h1, List.take_append, List.take_of_length_le (show ([.int .i64 x.f0, .int .i64 x.f1, .int .i64 x.f2] : List Value).length ≤ _ by show 3 ≤ _; omega)]
    congr 1
    have e : (l.length + 1) * 3 - i * 3 - ([.int .i64 x.f0, .int .i64 x.f1, .int .i64 x.f2] : List Value).length = (l.length - i) * 3 := by show (l.length + 1) * 3 - i * 3 - 3 = _; omega
    rw [e]
    have e' : i * 3 + ([.int .i64 x.f0, .int .i64 x.f1, .int .i64 x.f2] : List Value).length = i * 3 + 3 := rfl
    rw [e', hD]
    rfl
  have hlen : (l.take i ++ [x] ++ l.drop i).length = l.length + 1 := by simp; omega
  have hres : W2.ownsRow w0.heap.size 62 3 (.slice (some ⟨b, 0, none⟩) (l.length + 1) c) (l.take i ++ [x] ++ l.drop i).length (cellsS62 (l.take i ++ [x] ++ l.drop i)) :=
    ⟨cellsS62_length _, .inr ⟨b, c, cur2, by rw [hlen], hbb, hh2, by omega, by unfold maxLen; omega, by omega, by rw [hlen]; exact hfin⟩⟩
  have HG := Aside0.mk hg
  have HR := Aside0.mk hres
  have HB := Aside0.mk hB
  have HC1 := Aside0.mk hcp1
  have HC2 := Aside0.mk hcp2
  have hci : ¬ c = i := by omega
  have hci1 : ¬ c = i + 1 := by omega
  have hni : ¬ ((i : Int) = (l.length : Int)) := by omega
  clear hg hres hB hcp1 hcp2 hfin hlen hh2 hh1 ht1 ht2 hs1 hs2 hfar1 hfar2 e1 e2 e3 e4 f1 f2 f3 f4 hv1 hcell hsome hdl hsz hown ht hcs hh ho0 hv hx
  go_enter Try.func48, Try.ntmps48
  go_wp2_with (simp only [hov])
  have hw1 : IntKind.i64.wrap ((i : Int) + 1) = (i : Int) + 1 := by rw [IntKind.wrap_i64]; omega
  have hb1 : (0 : Int) ≤ (i : Int) + 1 := by omega
  have htn : ((i : Int) + 1).toNat = i + 1 := by omega
  have hin : i ≤ l.length := by omega
  have hb3 : (i : Int) ≤ (l.length : Int) + 1 := by omega
  go_region_law (refine step_copy_runH rfl (.tmp 73) (.tmp 76) 27 27 rfl (.slice (some ⟨b, (i + 1) * 3, none⟩) (l.length - i) (c - (i + 1))) (.slice (some ⟨b, i * 3, none⟩) (l.length + 1 - i) (c - i)) (by simp [Act.eval, Act.put]) (by simp [Act.eval, Act.put]) (HC1.out _ _) ?_)
  go_wp2_with (with_reducible refine wpList_copy_runH _ rfl (.tmp 80) (.tmp 81) 27 27 rfl (.slice (some ⟨b, i * 3, none⟩) (l.length + 1 - i) (c - i)) (.slice (some ⟨vb, 0, none⟩) 1 vc) (by simp [Act.eval, Act.put]) (by simp [Act.eval, Act.put]) (HC2.out _) ?_)
  go_ret
  exact ⟨_, rfl, R_ownS62 (fun k hk => .inl (by injection hk with hk; subst hk; exact hP)) HR.out, HB.out.grown HG.out HB.out.size (fun k hk => by injection hk with hk; subst hk; exact hbb), Kept.of_grown HG.out (Kept.refl _ _) (fun k hk => .inl (by injection hk with hk; subst hk; exact hP))⟩
set_option maxHeartbeats 8000000 in
set_option maxRecDepth 100000 in
theorem insGrow48 (P0_ : Nat → Prop) (b c i : Nat) (l : List S62) (x : S62) (vb vc : Nat) (w0 w : World) (hB : Below w0.heap.size w0 w) (ho0 : Kd.R k62 62 w w0.heap.size P0_ (.slice (some ⟨b, 0, none⟩) l.length c) l) (hl : l.length ≤ 1000000) (hi : i < l.length) (hroom : c < l.length + 1)
    {curv : Array Value} (hv : w.heap[vb]? = some (.cells curv 62 (0, 0))) (hx : ∀ j v, [.int .i64 x.f0, .int .i64 x.f1, .int .i64 x.f2][j]? = some v → w.cell? ⟨vb, j, none⟩ = some v) :
    Calls Try.prog 48 #[.slice (some ⟨b, 0, none⟩) l.length c, .int .i64 (i : Int), .slice (some ⟨vb, 0, none⟩) 1 vc] w fun e w' => ∃ v, e = .returned v ∧ Kd.R k62 62 w' w0.heap.size (fun k_ => P0_ k_ ∨ w.heap.size ≤ k_) v (l.take i ++ [x] ++ l.drop i) ∧ Below w0.heap.size w0 w' ∧ Kept w w' P0_ := by
  have hown := ownS62_of ho0
  obtain ⟨g', cap, cur, he, hbb, hh, hnc, hcm, hcs, ht⟩ := hown.2.resolve_left (by rintro ⟨h, _⟩; cases h)
  injection he with he1 _ he3
  injection he1 with he1
  injection he1 with he1
  subst he1 he3
  have hcell : ∀ j u, (cellsS62 l)[j]? = some u → w.cell? ⟨b, j, none⟩ = some u := fun j u hj => by
    rw [blk_cell hh, ← Array.getElem?_toList]
    rw [← ht, List.getElem?_take] at hj
    split at hj
    · exact hj
    · cases hj
  obtain ⟨i0, hi0, hz0, hz1, hz2⟩ := info_parts infoI62
  have hsz : (Try.prog.info? 62).map (·.size) = some 3 := by rw [hi0]; simp [hz1]
  have hold : (Builtin.firstCells i0.size i (.slice (some ⟨b, 0, none⟩) i c)).run Try.prog w.drew = .ok (cellsS62 (l.take i)).toArray w.drew := by
    rw [hz1]
    exact run_firstCells_some w.drew 3 i ⟨b, 0, none⟩ i c (cellsS62 (l.take i)) (by rw [cellsS62_length, List.length_take]; omega) (fun j v hj => by
      rw [add_plain]
      rw [← cellsS62_take l i (by omega), List.getElem?_take] at hj
      split at hj
      · exact hcell j v hj
      · cases hj)
  have hrz : ∀ ty, (Builtin.append_ #[27, 3] ty #[.slice (some ⟨b, 0, none⟩) i c, .int .i64 ((l.length : Int) + 1 - (i : Int))]).run Try.prog w =
      .ok (.slice (some ⟨w.heap.size, 0, none⟩) (l.length + 1) (grownCap w (l.length + 1) c 62)) (w.drew.alloc (.cells ((cellsS62 (l.take i)).toArray ++ Builtin.zeroCells (Value.agg #[.int .i64 0, .int .i64 0, .int .i64 0]).cells (l.length + 1 - i) ++ Builtin.zeroCells (Value.agg #[.int .i64 0, .int .i64 0, .int .i64 0]).cells (grownCap w (l.length + 1) c 62 - (l.length + 1))) 62)) := fun ty => by
    have hik : i + (l.length + 1 - i) = l.length + 1 := by omega
    have h := Lib.run_append_grow_zeros w 27 3 ty 62 i0 _ .i64 .i64 Try.underlying27 Try.underlying3 hi0 hz0 (some ⟨b, 0, none⟩) i c (cellsS62 (l.take i)) hold (l.length + 1 - i) (by omega) (by omega) (by omega) (by omega) (by rw [hz2]; omega) (by rw [hz2, hik]; exact growslice_fits hroom (by omega))
    rw [hik] at h
    rw [show (l.length : Int) + 1 - (i : Int) = ((l.length + 1 - i : Nat) : Int) by omega]
    exact h
  have hGn : l.length + 1 ≤ grownCap w (l.length + 1) c 62 := grownCap_ge w _ _ _
  have hG63 : grownCap w (l.length + 1) c 62 ≤ 9223372036854775807 := by
    have := grownCap_le_maxLen w (l.length + 1) c 62 (by unfold maxLen; omega)
    unfold maxLen at this
    omega
  generalize grownCap w (l.length + 1) c 62 = G at hrz hGn hG63
  obtain ⟨ROW, hROW⟩ : ∃ ROW : Array Value, ROW = (cellsS62 (l.take i)).toArray ++ Builtin.zeroCells (Value.agg #[.int .i64 0, .int .i64 0, .int .i64 0]).cells (l.length + 1 - i) ++ Builtin.zeroCells (Value.agg #[.int .i64 0, .int .i64 0, .int .i64 0]).cells (G - (l.length + 1)) := ⟨_, rfl⟩
  rw [← hROW] at hrz
  have htl : (cellsS62 (l.take i)).length = i * 3 := by rw [cellsS62_length, List.length_take]; omega
  have hRs : ROW.size = G * 3 := by
    rw [hROW, Array.size_append, Array.size_append, size_zeroCells, size_zeroCells, List.size_toArray, htl]
    show i * 3 + (l.length + 1 - i) * 3 + (G - (l.length + 1)) * 3 = G * 3
    omega
  have hRt : ROW.toList.take (i * 3) = cellsS62 (l.take i) := by
    rw [hROW, Array.toList_append, Array.toList_append, List.append_assoc, ← htl, List.take_left]
  have hdl : (cellsS62 (l.drop i)).length = (l.length - i) * 3 := by rw [cellsS62_length, List.length_drop]
  have hbw : b < w.heap.size := blk_lt hh
  have hvw : vb < w.heap.size := blk_lt hv
  obtain ⟨H, hH⟩ : ∃ H, H = w.heap.size := ⟨_, rfl⟩
  have hB1 : Below w.heap.size w (w.drew.alloc (.cells ROW 62)) := below_alloc (w := w) (W := w.drew) (below_drew (Below.refl _ _)) _
  have hW1 : (w.drew.alloc (.cells ROW 62)).heap[H]? = some (.cells ROW 62 (0, 0)) := by rw [hH]; exact blk_new w.drew _
  generalize w.drew.alloc (.cells ROW 62) = W1 at hrz hB1 hW1
  rw [← hH] at hrz
  have hvW1 : W1.heap[vb]? = some (.cells curv 62 (0, 0)) := blk_below hv hB1
  have hcpA : ∀ dc ty, (Builtin.copy_ #[27, 27] ty #[.slice (some ⟨H, i * 3, none⟩) (l.length + 1 - i) dc, .slice (some ⟨vb, 0, none⟩) 1 vc]).run Try.prog W1 = .ok (goInt 1) (W1.setCells H (i * 3) [.int .i64 x.f0, .int .i64 x.f1, .int .i64 x.f2]) := fun dc ty => by
    have hm : Nat.min 1 (l.length + 1 - i) = 1 := by simp only [Nat.min_def]; split <;> omega
    have := run_copy_many (P := Try.prog) W1 27 27 ty 62 H (i * 3) (l.length + 1 - i) dc ⟨vb, 0, none⟩ 1 vc 3 [.int .i64 x.f0, .int .i64 x.f1, .int .i64 x.f2] Try.underlying27 hsz (by rw [hm]; rfl)
      (fun j v hj => by
        rw [add_plain]
        have := hx j v hj
        rw [blk_cell hv] at this
        rw [blk_cell hvW1]
        exact this)
      (fun j hj => by rw [blk_cell hW1]; simp only [List.length_cons, List.length_nil] at hj; simp; omega) (fun j hj => blk_frozen hW1 _) (by simp [Value.oneCell'])
    rw [hm] at this
    exact this
  obtain ⟨cur1, hh1, hs1, ht1⟩ := setCells_row [.int .i64 x.f0, .int .i64 x.f1, .int .i64 x.f2] (i * 3) W1 ROW hW1 (by simp only [List.length_cons, List.length_nil]; omega)
  have hfar1 : ∀ k, k ≠ H → (W1.setCells H (i * 3) [.int .i64 x.f0, .int .i64 x.f1, .int .i64 x.f2]).heap[k]? = W1.heap[k]? := fun k hk => setCells_far _ _ k hk
  obtain ⟨e1, e2, e3, e4⟩ := setCells_same H [.int .i64 x.f0, .int .i64 x.f1, .int .i64 x.f2] (i * 3) W1
  generalize W1.setCells H (i * 3) [.int .i64 x.f0, .int .i64 x.f1, .int .i64 x.f2] = W2 at hcpA hh1 hfar1 e1 e2 e3 e4
  have hbN : b ≠ H := by omega
  have hbW2 : W2.heap[b]? = some (.cells cur 62 (0, 0)) := (hfar1 b hbN).trans (blk_below hh hB1)
  have hcpB : ∀ dc sc ty, (Builtin.copy_ #[27, 27] ty #[.slice (some ⟨H, (i + 1) * 3, none⟩) (l.length - i) dc, .slice (some ⟨b, i * 3, none⟩) (l.length - i) sc]).run Try.prog W2.drew = .ok (goInt ((l.length - i : Nat) : Int)) (W2.drew.setCells H ((i + 1) * 3) (cellsS62 (l.drop i))) := fun dc sc ty => by
    have hm : Nat.min (l.length - i) (l.length - i) = l.length - i := Nat.min_self _
    have := run_copy_many (P := Try.prog) W2.drew 27 27 ty 62 H ((i + 1) * 3) (l.length - i) dc ⟨b, i * 3, none⟩ (l.length - i) sc 3 (cellsS62 (l.drop i)) Try.underlying27 hsz (by rw [hdl, hm])
      (fun j v hj => by
        rw [Addr.add_lit]
        rw [← cellsS62_drop l i (by omega), List.getElem?_drop] at hj
        have := hcell _ v hj
        rw [blk_cell hh] at this
        rw [blk_cell (w := W2.drew) hbW2]
        exact this)
      (fun j hj => by rw [blk_cell (w := W2.drew) hh1]; simp; omega) (fun j hj => blk_frozen (w := W2.drew) hh1 _) (cellsS62_one _)
    rw [hm] at this
    exact this
  obtain ⟨cur2, hh2, hs2, ht2⟩ := setCells_row (cellsS62 (l.drop i)) ((i + 1) * 3) W2.drew cur1 hh1 (by omega)
  have hfar2 : ∀ k, k ≠ H → (W2.drew.setCells H ((i + 1) * 3) (cellsS62 (l.drop i))).heap[k]? = W1.heap[k]? := fun k hk => (setCells_far _ _ k hk).trans (hfar1 k hk)
  obtain ⟨f1, f2, f3, f4⟩ := setCells_same H (cellsS62 (l.drop i)) ((i + 1) * 3) W2.drew
  generalize W2.drew.setCells H ((i + 1) * 3) (cellsS62 (l.drop i)) = W3 at hcpB hh2 hfar2 f1 f2 f3 f4
  have hBF : Below w.heap.size w W3 := ⟨f1.trans (e1.trans hB1.os), f2.trans (e2.trans hB1.tape), f3.trans (e3.trans hB1.output), by rw [f4]; exact Nat.le_trans hB1.size (Nat.le_of_eq e4.symm), fun k hk => (hfar2 k (by omega)).trans (hB1.block k hk)⟩
  have hfin : cur2.toList.take ((l.length + 1) * 3) = cellsS62 (l.take i ++ [x] ++ l.drop i) := by
    have hA : cur1.toList.take ((i + 1) * 3) = cellsS62 (l.take i) ++ [.int .i64 x.f0, .int .i64 x.f1, .int .i64 x.f2] := by
      rw [ht1, hRt, List.append_assoc, ← List.append_assoc]
      have : (cellsS62 (l.take i) ++ ([.int .i64 x.f0, .int .i64 x.f1, .int .i64 x.f2] : List Value)).length = (i + 1) * 3 := by rw [List.length_append, htl]; show i * 3 + 3 = _; omega
      rw [← this, List.take_left]
    rw [ht2, hA, cellsS62_append, cellsS62_append]
    have : (cellsS62 (l.take i) ++ ([.int .i64 x.f0, .int .i64 x.f1, .int .i64 x.f2] : List Value) ++ cellsS62 (l.drop i)).length = (l.length + 1) * 3 := by rw [List.length_append, List.length_append, htl, hdl]; show i * 3 + 3 + _ = _; omega
    rw [← this, List.take_left]
    rfl
  have hlen : (l.take i ++ [x] ++ l.drop i).length = l.length + 1 := by simp; omega
  have hres : W3.ownsRow w0.heap.size 62 3 (.slice (some ⟨H, 0, none⟩) (l.length + 1) G) (l.take i ++ [x] ++ l.drop i).length (cellsS62 (l.take i ++ [x] ++ l.drop i)) :=
    ⟨cellsS62_length _, .inr ⟨H, G, cur2, by rw [hlen], by rw [hH]; exact hB.size, hh2, by omega, by unfold maxLen; omega, by omega, by rw [hlen]; exact hfin⟩⟩
  have HG := Aside0.mk hBF
  have HR := Aside0.mk hres
  have HB := Aside0.mk hB
  have HC0 := Aside0.mk hrz
  have HC1 := Aside0.mk hcpA
  have HC2 := Aside0.mk hcpB
  have HH := Aside0.mk hH
  have hGi : ¬ G = i := by omega
  have hGi1 : ¬ G = i + 1 := by omega
  have hci : ¬ c = i := by omega
  have hni : ¬ ((i : Int) = (l.length : Int)) := by omega
  have hz3 : (c : Int) < (l.length : Int) + 1 := by omega
  clear hBF hres hB hrz hcpA hcpB hfin hlen hh2 hh1 ht1 ht2 hs1 hs2 hfar1 hfar2 e1 e2 e3 e4 f1 f2 f3 f4 hcell hdl hsz hown ht hcs hh ho0 hv hx hH hbw hvw hW1 hB1 hvW1 hbW2 htl hRt hRs hROW hold hi0 hz0 hz1 hz2 hcm
  go_enter Try.func48, Try.ntmps48
  go_wp2_with (first
    | (at_builtin; refine Lib.wpList_append_run _ rfl (.tmp 34) (.tmp 39) 27 3 rfl (.slice (some ⟨b, 0, none⟩) i c) (.int .i64 ((l.length : Int) + 1 - (i : Int))) (by simp [Act.eval, Act.put]) (by simp [Act.eval, Act.put]) _ _ (HC0.out _) ?_)
    | (with_reducible refine wpList_copy_runH _ rfl (.tmp 43) (.tmp 44) 27 27 rfl (.slice (some ⟨H, i * 3, none⟩) (l.length + 1 - i) (G - i)) (.slice (some ⟨vb, 0, none⟩) 1 vc) (by simp [Act.eval, Act.put]) (by simp [Act.eval, Act.put]) (HC1.out _) ?_))
  have hw1 : IntKind.i64.wrap ((i : Int) + 1) = (i : Int) + 1 := by rw [IntKind.wrap_i64]; omega
  have hb1 : (0 : Int) ≤ (i : Int) + 1 := by omega
  have htn : ((i : Int) + 1).toNat = i + 1 := by omega
  have hin : i ≤ l.length := by omega
  have hb3 : (i : Int) ≤ (l.length : Int) + 1 := by omega
  go_region_law (refine step_copy_runH rfl (.tmp 50) (.tmp 53) 27 27 rfl (.slice (some ⟨H, (i + 1) * 3, none⟩) (l.length - i) (G - (i + 1))) (.slice (some ⟨b, i * 3, none⟩) (l.length - i) (c - i)) (by simp [Act.eval, Act.put]) (by simp [Act.eval, Act.put]) (HC2.out _ _) ?_)
  go_wp2
  go_ret
  exact ⟨_, rfl, R_ownS62 (fun k hk => .inr (by injection hk with hk; subst hk; exact Nat.le_of_eq HH.out.symm)) HR.out, below_step HB.out HG.out, Kept.of_below HG.out _⟩
theorem impl_Window_48.calls (P0_ : Nat → Prop) (u9000_ : Value) (l0 : List S62) (a1 : Int) (P2_ : Nat → Prop) (u9002_ : Value) (l2 : List S62) (r : List S62) (w0 w : World) (hB : Below w0.heap.size w0 w) (ho0 : Kd.R k62 62 w w0.heap.size P0_ u9000_ l0) (hap0 : ∀ k_, P0_ k_ → ¬ P2_ k_) (ho2 : Kd.R k62 62 w w0.heap.size P2_ u9002_ l2) (hap2 : ∀ k_, P2_ k_ → ¬ P0_ k_) (h : impl_Window_48.f l0 a1 l2 = some r) :
    Calls Try.prog 48 #[u9000_, .int .i64 a1, u9002_] w fun e w' => ∃ v, e = .returned v ∧ Kd.R k62 62 w' w0.heap.size (fun k_ => (P0_ k_ ∨ P2_ k_) ∨ w.heap.size ≤ k_) v r ∧ Below w0.heap.size w0 w' ∧ Kept w w' (fun k_ => P0_ k_ ∨ P2_ k_) := by
  unfold impl_Window_48.f at h
  by_cases h1 : 0 ≤ a1
  · rw [if_pos h1] at h
    by_cases h2 : a1 ≤ (l0.length : Int)
    · rw [if_pos h2] at h
      by_cases h3 : l2.length = 1
      · rw [if_pos h3] at h
        by_cases h4 : l0.length ≤ 1000000
        · rw [if_pos h4] at h
          obtain rfl := Option.some.inj h
          obtain ⟨i, rfl⟩ := Int.eq_ofNat_of_zero_le h1
          obtain ⟨x, rfl⟩ := List.length_eq_one_iff.1 h3
          obtain ⟨vb, vc, rfl, hvb, hvl, curv, hv⟩ := Kd.R_form ho2 (by simp)
          have hP2 : P2_ vb := ho2.1 vb rfl
          have hx : ∀ j v, [.int .i64 x.f0, .int .i64 x.f1, .int .i64 x.f2][j]? = some v → w.cell? ⟨vb, j, none⟩ = some v := fun j v hj => by
            have := (ownS62_of ho2).cells (g := vb) rfl j v (by simpa [cellsS62] using hj)
            rwa [add_plain] at this
          rw [Int.toNat_natCast]
          have fin : ∀ {v : Value} {w' : World} {rr : List S62}, Kd.R k62 62 w' w0.heap.size (fun k_ => P0_ k_ ∨ w.heap.size ≤ k_) v rr → Kd.R k62 62 w' w0.heap.size (fun k_ => (P0_ k_ ∨ P2_ k_) ∨ w.heap.size ≤ k_) v rr := fun h => Kd.R_mono h (fun _ hk => hk.elim (fun h => .inl (.inl h)) .inr)
          by_cases h5 : i = l0.length
          · subst h5
            rw [List.take_length, List.drop_length, List.append_nil]
            exact (insEnd48 P0_ u9000_ l0 x vb vc w0 w hB ho0 h4 hx).mono fun _ _ ⟨v, e, hr, hb, hk⟩ => ⟨v, e, fin hr, hb, hk.mono (fun _ hk => .inl hk)⟩
          · obtain ⟨b, c, rfl, hbb, hbl, curb, hb⟩ := Kd.R_form ho0 (by omega)
            have hne : vb ≠ b := fun e => hap0 b (ho0.1 b rfl) (e ▸ hP2)
            by_cases h6 : l0.length + 1 ≤ c
            · exact (insShift48 P0_ b c i l0 x vb vc w0 w hB ho0 h4 (by omega) h6 hne hv hx).mono fun _ _ ⟨v, e, hr, hb, hk⟩ => ⟨v, e, fin hr, hb, hk.mono (fun _ hk => .inl hk)⟩
            · exact (insGrow48 P0_ b c i l0 x vb vc w0 w hB ho0 h4 (by omega) (by omega) hv hx).mono fun _ _ ⟨v, e, hr, hb, hk⟩ => ⟨v, e, fin hr, hb, hk.mono (fun _ hk => .inl hk)⟩
        · rw [if_neg h4] at h
          exact absurd h (by simp)
      · rw [if_neg h3] at h
        exact absurd h (by simp)
    · rw [if_neg h2] at h
      exact absurd h (by simp)
  · rw [if_neg h1] at h
    exact absurd h (by simp)

end Go.Proofs.Ytlkphaahkhfgoaa.PFnExactFitWindow
