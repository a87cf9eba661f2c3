import Derived.Test.YtdimdlifjdbgnaaGreatPFnExactRunWorkx11
namespace Go.Proofs.YtdimdlifjdbgnaaGreat.PFnExactRunWork
open Go.RowKit Go.Proofs.YtdimdlifjdbgnaaGreatW.PrintWords Go.Proofs.YtdimdlifjdbgnaaGreatW.PrintLast Go.Proofs.YtdimdlifjdbgnaaGreatW.PrintMore Go.Proofs.YtdimdlifjdbgnaaGreat.Sq
attribute [local go_sem] max2_int min2_int max_two min_two max_three min_three max_four min_four
set_option linter.unusedVariables false
set_option linter.unusedSimpArgs false

-- HAND FROM
open Go.Proofs.YtdimdlifjdbgnaaGreat.Base Go.Proofs.YtdimdlifjdbgnaaGreat.Sq
theorem impl_isDue_ev (h c d p q r : Int) : Ev (fun k => impl_isDue.f k [h, c, d] [p, q, r]) (dueB h c d p q r) := by
  have e : (([h, c, d] : List Int).length : Int) = 3 := rfl
  have e' : (([p, q, r] : List Int).length : Int) = 3 := rfl
  have w1 : wrap64 ((0 : Int) + 1) = 1 := by unfold wrap64; omega
  have w2 : wrap64 ((1 : Int) + 1) = 2 := by unfold wrap64; omega
  have w3 : wrap64 ((2 : Int) + 1) = 3 := by unfold wrap64; omega
  have r0 : rd [h, c, d] 0 = h := rfl
  have r1 : rd [h, c, d] 1 = c := rfl
  have r2 : rd [h, c, d] 2 = d := rfl
  have s0 : rd [p, q, r] 0 = p := rfl
  have s1 : rd [p, q, r] 1 = q := rfl
  have s2 : rd [p, q, r] 2 = r := rfl
  simp only [impl_isDue.f, e]
  have k3 : Ev (fun k => impl_isDue.l0 k [p, q, r] [h, c, d] 3 3) false := by
    refine ev_succ ?_
    simp only [impl_isDue.l0, if_neg (show ¬ ((3 : Int) < 3) by omega)]
    exact ev_now _
  have k2 : Ev (fun k => impl_isDue.l0 k [p, q, r] [h, c, d] 3 2) (decide (d > 0) && decide (r ≥ d)) := by
    refine ev_succ ?_
    simp only [impl_isDue.l0, e, e', if_pos (show (2 : Int) < 3 by omega), if_pos (show (0 : Int) ≤ 2 by omega), r2, s2, w3]
    by_cases x1 : d > 0
    · by_cases x2 : r ≥ d
      · simpa only [x1, x2, if_true, decide_true, Bool.and_self] using ev_now _
      · simpa only [x1, x2, if_true, if_false, decide_true, decide_false, Bool.and_false] using k3
    · simpa only [x1, if_false, decide_false, Bool.false_and] using k3
  have k1 : Ev (fun k => impl_isDue.l0 k [p, q, r] [h, c, d] 3 1) ((decide (c > 0) && decide (q ≥ c)) || (decide (d > 0) && decide (r ≥ d))) := by
    refine ev_succ ?_
    simp only [impl_isDue.l0, e, e', if_pos (show (1 : Int) < 3 by omega), if_pos (show (0 : Int) ≤ 1 by omega), r1, s1, w2]
    by_cases x1 : c > 0
    · by_cases x2 : q ≥ c
      · simpa only [x1, x2, if_true, decide_true, Bool.and_self, Bool.true_or] using ev_now _
      · simpa only [x1, x2, if_true, if_false, decide_true, decide_false, Bool.and_false, Bool.false_or] using k2
    · simpa only [x1, if_false, decide_false, Bool.false_and, Bool.false_or] using k2
  refine ev_succ ?_
  simp only [impl_isDue.l0, e, e', if_pos (show (0 : Int) < 3 by omega), if_pos (show (0 : Int) ≤ 0 by omega), r0, s0, w1]
  unfold dueB
  by_cases x1 : h > 0
  · by_cases x2 : p ≥ h
    · simpa only [x1, x2, if_true, decide_true, Bool.and_self, Bool.true_or] using ev_now _
    · simpa only [x1, x2, if_true, if_false, decide_true, decide_false, Bool.and_false, Bool.false_or] using k1
  · simpa only [x1, if_false, decide_false, Bool.false_and, Bool.false_or] using k1
theorem impl_Due19_l (n : ByteArray) (h c d p q r a1 a2 a3 : Int) : Ev (fun k => impl_Due19.j0 k [a1, a2, a3] false n h c d p q r) (dueB h c d a1 a2 a3, mx (wrap64 (h - a1)) 0, mx (wrap64 (c - a2)) 0, mx (wrap64 (d - a3)) 0, true) := by
  have e : (([h, c, d] : List Int).length : Int) = 3 := rfl
  have e' : (([a1, a2, a3] : List Int).length : Int) = 3 := rfl
  have w1 : wrap64 ((0 : Int) + 1) = 1 := by unfold wrap64; omega
  have w2 : wrap64 ((1 : Int) + 1) = 2 := by unfold wrap64; omega
  have w3 : wrap64 ((2 : Int) + 1) = 3 := by unfold wrap64; omega
  have r0 : rd [h, c, d] 0 = h := rfl
  have r1 : rd [h, c, d] 1 = c := rfl
  have r2 : rd [h, c, d] 2 = d := rfl
  have s0 : rd [a1, a2, a3] 0 = a1 := rfl
  have s1 : rd [a1, a2, a3] 1 = a2 := rfl
  have s2 : rd [a1, a2, a3] 2 = a3 := rfl
  refine ev_succ ?_
  simp only [impl_Due19.j0, impl_Task_numbers.f, Option.bind_some, Bool.false_eq_true, if_false, e]
  refine ev_succ ?_
  simp only [impl_Due19.l0, e, e', if_pos (show (0 : Int) < 3 by omega), if_pos (show (0 : Int) ≤ 0 by omega), r0, s0, w1, if_pos (show ([] : List Int).length < 17592186044416 by simp), List.nil_append]
  generalize mx (wrap64 (h - a1)) 0 = b1
  refine ev_succ ?_
  simp only [impl_Due19.l0, e, e', if_pos (show (1 : Int) < 3 by omega), if_pos (show (0 : Int) ≤ 1 by omega), r1, s1, w2, if_pos (show ([b1] : List Int).length < 17592186044416 by simp), List.cons_append, List.nil_append]
  generalize mx (wrap64 (c - a2)) 0 = b2
  refine ev_succ ?_
  simp only [impl_Due19.l0, e, e', if_pos (show (2 : Int) < 3 by omega), if_pos (show (0 : Int) ≤ 2 by omega), r2, s2, w3, if_pos (show ([b1, b2] : List Int).length < 17592186044416 by simp), List.cons_append, List.nil_append]
  generalize mx (wrap64 (d - a3)) 0 = b3
  refine ev_succ ?_
  have eb : (([b1, b2, b3] : List Int).length : Int) = 3 := rfl
  simp only [impl_Due19.l0, if_neg (show ¬ ((3 : Int) < 3) by omega), impl_Task_numbers.f, Option.bind_some, eb, if_pos (show (0 : Int) < 3 by omega), if_pos (show (1 : Int) < 3 by omega), if_pos (show (2 : Int) < 3 by omega)]
  exact (impl_isDue_ev h c d a1 a2 a3).bind (f := fun _ t => some (t, rd [b1, b2, b3] 0, rd [b1, b2, b3] 1, rd [b1, b2, b3] 2, true)) (ev_now _)
theorem impl_Due19_ev (n : ByteArray) (hn : n.size ≤ 140737488355328) (h c d p q r p' q' r' : Int) : Ev (fun k => impl_Due19.f k n h c d p q r p' q' r') (due19 n h c d p q r p' q' r') := by
  simp only [impl_Due19.f]
  refine (impl_passed_ev p q r p' q' r').bind ?_
  refine (impl_TaskOk_ev n hn h c d p q r).bind ?_
  have hno : ∀ ys, Ev (fun k => impl_Due19.j0 k ys true n h c d p q r) (false, 0, 0, 0, false) := by
    intro ys
    refine ev_succ ?_
    simpa only [impl_Due19.j0, if_true] using ev_now _
  unfold due19
  cases h1 : taskB n h c d p q r with
  | false => simpa using hno _
  | true =>
    simp only [if_true, Bool.true_and]
    refine (impl_ClockOk_ev p' q' r').bind ?_
    cases h2 : clockB p' q' r' with
    | false => simpa using hno _
    | true =>
      simp only [if_true, Bool.true_and]
      obtain ⟨-, ⟨b1, b2, b3⟩, -, b4⟩ := taskB_in h1
      have b4 := clockB_in b4
      have b5 := clockB_in h2
      simp only [w64 (n := p' - p) (by omega) (by omega), w64 (n := q' - q) (by omega) (by omega), w64 (n := r' - r) (by omega) (by omega)]
      have e : decide (mn (mn (p' - p) (q' - q)) (r' - r) ≥ 0) = behindB p q r p' q' r' := by
        unfold behindB mn
        rw [Bool.eq_iff_iff]
        simp only [Bool.and_eq_true, decide_eq_true_eq]
        repeat' split
        all_goals omega
      rw [e]
      cases h3 : behindB p q r p' q' r' with
      | false => simpa using hno _
      | true =>
        simp only [behindB, Bool.and_eq_true, decide_eq_true_eq] at h3
        have := impl_Due19_l n h c d p q r (p' - p) (q' - q) (r' - r)
        rw [w64 (n := h - (p' - p)) (by omega) (by omega), w64 (n := c - (q' - q)) (by omega) (by omega), w64 (n := d - (r' - r)) (by omega) (by omega)] at this
        simpa only [Bool.not_true, if_true, leftI] using this
set_option maxHeartbeats 4000000 in
theorem index102 (q : S88 → Bool) (G : World → Prop) (hG : Aside0 (∀ W W', G W → Below W.heap.size W W' → G W')) (B : Nat) (l : List S88) (HQ : Aside0 (∀ x ∈ l, ∀ W, G W → Calls Tryz.prog 102 #[.agg #[.string x.f0, .int .i64 x.f1, .int .i64 x.f2], .pointer (some ⟨B, 0, none⟩)] W fun e w' => e = .returned (.bool (q x)) ∧ Below W.heap.size W w')) (A : Option Addr) (c : Nat) (w : World) (hr : Kd.C k88 w A l.length l) (hc : l.length ≤ c) (hl : l.length ≤ 140737488355328) (hg : G w) :
    Calls Tryz.prog 101 #[.slice A l.length c, .func (.func 102) #[] #[.pointer (some ⟨B, 0, none⟩)]] w fun e w' => e = .returned (.int .i64 (ixOf q l)) ∧ Below w.heap.size w w' := by
  have hu_ := Tryz.underlying88
  have HR := Aside0.mk hr
  have HG := Aside0.mk hg
  clear hr hg
  go_enter Tryz.func101, Tryz.ntmps101
  go_wp2
  go_loopw [8] (fun v8 wr => ∃ i : Nat, i ≤ l.length ∧ v8 = .int .i64 i ∧ Aside0 ((l.take i).any q = false) ∧ Aside0 (G wr) ∧ Aside0 (Below w.heap.size w wr)) (fun v8 _ => l.length - (intOf v8).toNat)
  case atStart => exact ⟨0, Nat.zero_le _, rfl, ⟨by simp⟩, HG, ⟨Below.refl _ _⟩⟩
  case round =>
    clear HG
    obtain ⟨i, hi, rfl, HN, HG, HB⟩ := hrel
    by_cases hlt : i < l.length
    · obtain ⟨ad, e0, hx0, hx1, hx2⟩ := at_T88 (Kd.C_below HR.out HB.out) (i : Int) (by omega) (by omega)
      cases e0
      simp only [Int.toNat_natCast] at hx0 hx1 hx2
      have HC := Aside0.mk (HQ.out _ (List.getElem_mem hlt) wr HG.out)
      rw [← rd_at88 hlt] at HC
      cases hb : q (rd_T88 l (i : Int)) with
      | true =>
        rw [hb] at HC
        rw [rd_at88 hlt] at hb
        have HE := Aside0.mk (ixOf_at hlt HN.out hb)
        clear hb
        go_wp2_with (first | (go_at_call 102; (with_reducible refine HC.out.mono ?_); rintro e w' ⟨rfl, hb⟩))
        go_ret
        exact ⟨by rw [HE.out]; rfl, below_step HB.out hb⟩
      | false =>
        rw [hb] at HC
        rw [rd_at88 hlt] at hb
        have HE := Aside0.mk (any_step hlt HN.out hb)
        clear hb
        go_wp2_with (first | (go_at_call 102; (with_reducible refine HC.out.mono ?_); rintro e w' ⟨rfl, hb⟩))
        go_roundw
        case rel => exact ⟨i + 1, by omega, by go_num, HE, ⟨hG.out _ _ HG.out hb⟩, ⟨below_step HB.out hb⟩⟩
        case measure => simp [intOf]; omega
    · obtain rfl : i = l.length := by omega
      have hn := HN.out
      rw [List.take_length] at hn
      have HE := Aside0.mk (ixOf_none hn)
      clear hn
      go_wp2
      go_ret
      exact ⟨by rw [HE.out]; rfl, HB.out⟩
set_option maxHeartbeats 4000000 in
theorem index89 (q : S90 → Bool) (G : World → Prop) (hG : Aside0 (∀ W W', G W → Below W.heap.size W W' → G W')) (B : Nat) (l : List S90) (HQ : Aside0 (∀ x ∈ l, ∀ W, G W → Calls Tryz.prog 89 #[.agg #[.string x.f0, .int .i64 x.f1, .int .i64 x.f2], .pointer (some ⟨B, 0, none⟩)] W fun e w' => e = .returned (.bool (q x)) ∧ Below W.heap.size W w')) (A : Option Addr) (c : Nat) (w : World) (hr : Kd.C k90 w A l.length l) (hc : l.length ≤ c) (hl : l.length ≤ 140737488355328) (hg : G w) :
    Calls Tryz.prog 98 #[.slice A l.length c, .func (.func 89) #[] #[.pointer (some ⟨B, 0, none⟩)]] w fun e w' => e = .returned (.int .i64 (ixOf q l)) ∧ Below w.heap.size w w' := by
  have hu_ := Tryz.underlying90
  have HR := Aside0.mk hr
  have HG := Aside0.mk hg
  clear hr hg
  go_enter Tryz.func98, Tryz.ntmps98
  go_wp2
  go_loopw [8] (fun v8 wr => ∃ i : Nat, i ≤ l.length ∧ v8 = .int .i64 i ∧ Aside0 ((l.take i).any q = false) ∧ Aside0 (G wr) ∧ Aside0 (Below w.heap.size w wr)) (fun v8 _ => l.length - (intOf v8).toNat)
  case atStart => exact ⟨0, Nat.zero_le _, rfl, ⟨by simp⟩, HG, ⟨Below.refl _ _⟩⟩
  case round =>
    clear HG
    obtain ⟨i, hi, rfl, HN, HG, HB⟩ := hrel
    by_cases hlt : i < l.length
    · obtain ⟨ad, e0, hx0, hx1, hx2⟩ := at_T90 (Kd.C_below HR.out HB.out) (i : Int) (by omega) (by omega)
      cases e0
      simp only [Int.toNat_natCast] at hx0 hx1 hx2
      have HC := Aside0.mk (HQ.out _ (List.getElem_mem hlt) wr HG.out)
      rw [← rd_at90 hlt] at HC
      cases hb : q (rd_T90 l (i : Int)) with
      | true =>
        rw [hb] at HC
        rw [rd_at90 hlt] at hb
        have HE := Aside0.mk (ixOf_at hlt HN.out hb)
        clear hb
        go_wp2_with (first | (go_at_call 89; (with_reducible refine HC.out.mono ?_); rintro e w' ⟨rfl, hb⟩))
        go_ret
        exact ⟨by rw [HE.out]; rfl, below_step HB.out hb⟩
      | false =>
        rw [hb] at HC
        rw [rd_at90 hlt] at hb
        have HE := Aside0.mk (any_step hlt HN.out hb)
        clear hb
        go_wp2_with (first | (go_at_call 89; (with_reducible refine HC.out.mono ?_); rintro e w' ⟨rfl, hb⟩))
        go_roundw
        case rel => exact ⟨i + 1, by omega, by go_num, HE, ⟨hG.out _ _ HG.out hb⟩, ⟨below_step HB.out hb⟩⟩
        case measure => simp [intOf]; omega
    · obtain rfl : i = l.length := by omega
      have hn := HN.out
      rw [List.take_length] at hn
      have HE := Aside0.mk (ixOf_none hn)
      clear hn
      go_wp2
      go_ret
      exact ⟨by rw [HE.out]; rfl, HB.out⟩
set_option maxHeartbeats 4000000 in
theorem index91 (q : S90 → Bool) (G : World → Prop) (hG : Aside0 (∀ W W', G W → Below W.heap.size W W' → G W')) (M : Nat) (B : Nat) (l : List S90) (HQ : Aside0 (∀ x ∈ l, ∀ W, G W → Calls Tryz.prog 91 #[.agg #[.string x.f0, .int .i64 x.f1, .int .i64 x.f2], .pointer (some ⟨M, 0, none⟩), .pointer (some ⟨B, 0, none⟩)] W fun e w' => e = .returned (.bool (q x)) ∧ Below W.heap.size W w')) (A : Option Addr) (c : Nat) (w : World) (hr : Kd.C k90 w A l.length l) (hc : l.length ≤ c) (hl : l.length ≤ 140737488355328) (hg : G w) :
    Calls Tryz.prog 98 #[.slice A l.length c, .func (.func 91) #[] #[.pointer (some ⟨M, 0, none⟩), .pointer (some ⟨B, 0, none⟩)]] w fun e w' => e = .returned (.int .i64 (ixOf q l)) ∧ Below w.heap.size w w' := by
  have hu_ := Tryz.underlying90
  have HR := Aside0.mk hr
  have HG := Aside0.mk hg
  clear hr hg
  go_enter Tryz.func98, Tryz.ntmps98
  go_wp2
  go_loopw [8] (fun v8 wr => ∃ i : Nat, i ≤ l.length ∧ v8 = .int .i64 i ∧ Aside0 ((l.take i).any q = false) ∧ Aside0 (G wr) ∧ Aside0 (Below w.heap.size w wr)) (fun v8 _ => l.length - (intOf v8).toNat)
  case atStart => exact ⟨0, Nat.zero_le _, rfl, ⟨by simp⟩, HG, ⟨Below.refl _ _⟩⟩
  case round =>
    clear HG
    obtain ⟨i, hi, rfl, HN, HG, HB⟩ := hrel
    by_cases hlt : i < l.length
    · obtain ⟨ad, e0, hx0, hx1, hx2⟩ := at_T90 (Kd.C_below HR.out HB.out) (i : Int) (by omega) (by omega)
      cases e0
      simp only [Int.toNat_natCast] at hx0 hx1 hx2
      have HC := Aside0.mk (HQ.out _ (List.getElem_mem hlt) wr HG.out)
      rw [← rd_at90 hlt] at HC
      cases hb : q (rd_T90 l (i : Int)) with
      | true =>
        rw [hb] at HC
        rw [rd_at90 hlt] at hb
        have HE := Aside0.mk (ixOf_at hlt HN.out hb)
        clear hb
        go_wp2_with (first | (go_at_call 91; (with_reducible refine HC.out.mono ?_); rintro e w' ⟨rfl, hb⟩))
        go_ret
        exact ⟨by rw [HE.out]; rfl, below_step HB.out hb⟩
      | false =>
        rw [hb] at HC
        rw [rd_at90 hlt] at hb
        have HE := Aside0.mk (any_step hlt HN.out hb)
        clear hb
        go_wp2_with (first | (go_at_call 91; (with_reducible refine HC.out.mono ?_); rintro e w' ⟨rfl, hb⟩))
        go_roundw
        case rel => exact ⟨i + 1, by omega, by go_num, HE, ⟨hG.out _ _ HG.out hb⟩, ⟨below_step HB.out hb⟩⟩
        case measure => simp [intOf]; omega
    · obtain rfl : i = l.length := by omega
      have hn := HN.out
      rw [List.take_length] at hn
      have HE := Aside0.mk (ixOf_none hn)
      clear hn
      go_wp2
      go_ret
      exact ⟨by rw [HE.out]; rfl, HB.out⟩
set_option maxHeartbeats 4000000 in
theorem index92 (q : S90 → Bool) (G : World → Prop) (hG : Aside0 (∀ W W', G W → Below W.heap.size W W' → G W')) (B : Nat) (l : List S90) (HQ : Aside0 (∀ x ∈ l, ∀ W, G W → Calls Tryz.prog 92 #[.agg #[.string x.f0, .int .i64 x.f1, .int .i64 x.f2], .pointer (some ⟨B, 0, none⟩)] W fun e w' => e = .returned (.bool (q x)) ∧ Below W.heap.size W w')) (A : Option Addr) (c : Nat) (w : World) (hr : Kd.C k90 w A l.length l) (hc : l.length ≤ c) (hl : l.length ≤ 140737488355328) (hg : G w) :
    Calls Tryz.prog 98 #[.slice A l.length c, .func (.func 92) #[] #[.pointer (some ⟨B, 0, none⟩)]] w fun e w' => e = .returned (.int .i64 (ixOf q l)) ∧ Below w.heap.size w w' := by
  have hu_ := Tryz.underlying90
  have HR := Aside0.mk hr
  have HG := Aside0.mk hg
  clear hr hg
  go_enter Tryz.func98, Tryz.ntmps98
  go_wp2
  go_loopw [8] (fun v8 wr => ∃ i : Nat, i ≤ l.length ∧ v8 = .int .i64 i ∧ Aside0 ((l.take i).any q = false) ∧ Aside0 (G wr) ∧ Aside0 (Below w.heap.size w wr)) (fun v8 _ => l.length - (intOf v8).toNat)
  case atStart => exact ⟨0, Nat.zero_le _, rfl, ⟨by simp⟩, HG, ⟨Below.refl _ _⟩⟩
  case round =>
    clear HG
    obtain ⟨i, hi, rfl, HN, HG, HB⟩ := hrel
    by_cases hlt : i < l.length
    · obtain ⟨ad, e0, hx0, hx1, hx2⟩ := at_T90 (Kd.C_below HR.out HB.out) (i : Int) (by omega) (by omega)
      cases e0
      simp only [Int.toNat_natCast] at hx0 hx1 hx2
      have HC := Aside0.mk (HQ.out _ (List.getElem_mem hlt) wr HG.out)
      rw [← rd_at90 hlt] at HC
      cases hb : q (rd_T90 l (i : Int)) with
      | true =>
        rw [hb] at HC
        rw [rd_at90 hlt] at hb
        have HE := Aside0.mk (ixOf_at hlt HN.out hb)
        clear hb
        go_wp2_with (first | (go_at_call 92; (with_reducible refine HC.out.mono ?_); rintro e w' ⟨rfl, hb⟩))
        go_ret
        exact ⟨by rw [HE.out]; rfl, below_step HB.out hb⟩
      | false =>
        rw [hb] at HC
        rw [rd_at90 hlt] at hb
        have HE := Aside0.mk (any_step hlt HN.out hb)
        clear hb
        go_wp2_with (first | (go_at_call 92; (with_reducible refine HC.out.mono ?_); rintro e w' ⟨rfl, hb⟩))
        go_roundw
        case rel => exact ⟨i + 1, by omega, by go_num, HE, ⟨hG.out _ _ HG.out hb⟩, ⟨below_step HB.out hb⟩⟩
        case measure => simp [intOf]; omega
    · obtain rfl : i = l.length := by omega
      have hn := HN.out
      rw [List.take_length] at hn
      have HE := Aside0.mk (ixOf_none hn)
      clear hn
      go_wp2
      go_ret
      exact ⟨by rw [HE.out]; rfl, HB.out⟩
theorem carryAt1 (s : ByteArray) (x : S88) (B : Nat) (W : World) (hB : W.heap[B]? = some (.cells #[.string s] 9 (0, 0))) : Calls Tryz.prog 102 #[.agg #[.string x.f0, .int .i64 x.f1, .int .i64 x.f2], .pointer (some ⟨B, 0, none⟩)] W fun e w' => e = .returned (.bool (x.f0.toList == s.toList)) ∧ Below W.heap.size W w' := by
  have hu_ := Tryz.underlying88
  have hc : W.cell? ⟨B, 0, none⟩ = some (.string s) := (blk_cell hB 0).trans rfl
  have hlt : B < W.heap.size := blk_lt hB
  clear hB
  go_enter Tryz.func102, Tryz.ntmps102
  go_wp2
  go_ret
  exact ⟨by first | rfl | simp, by repeat (first | exact Below.refl _ _ | apply below_alloc | apply pw_below_drewN)⟩
theorem carryAt_t (g : Nat) (s : ByteArray) (A0 : Option Addr) (c0 : Nat) (l0 : List S86) (A1 : Option Addr) (c1 : Nat) (l1 : List S88) (A2 : Option Addr) (c2 : Nat) (l2 : List S90) (p q r : Int) (w : World) (hb : w.heap[g]? = some (.cells #[.slice A0 l0.length c0, .slice A1 l1.length c1, .slice A2 l2.length c2, .int .i64 p, .int .i64 q, .int .i64 r] 37 (0, 0))) (hr1 : Kd.C k88 w A1 l1.length l1) (hc1 : l1.length ≤ c1) (hn1 : l1.length ≤ 140737488355328) :
    Calls Tryz.prog 90 #[.pointer (some ⟨g, 0, none⟩), .string s] w fun e w' => e = .returned (.int .i64 (ixOf (fun c => c.f0.toList == s.toList) l1)) ∧ Below w.heap.size w w' := by
  have hu_ := Tryz.underlying37
  have hf1 := (ck6 hb).2.1
  have hgl := blk_lt hb
  have hmf : ∀ (fn : Fn) (first cap : Array Value) (w : World), (Instr.makeFunc fn first cap).run Tryz.prog w = .ok (.func fn first cap) w := fun _ _ _ _ => rfl
  have HI := Aside0.mk (index102 (fun c => c.f0.toList == s.toList) (fun W => W.heap[w.heap.size]? = some (.cells #[.string s] 9 (0, 0))) ⟨fun W W' h h2 => blk_below h h2⟩ _ l1 ⟨fun x _ W hW => carryAt1 s x _ W hW⟩ A1 c1 (w.alloc (.cells #[.string s] 9 (0, 0))) (Kd.C_alloc hr1 _) hc1 hn1 (blk_new _ _))
  clear hb hr1
  go_enter Tryz.func90, Tryz.ntmps90
  go_wp2_with (first | (go_at_call 101; (with_reducible refine HI.out.mono ?_); rintro e w' ⟨rfl, hb⟩))
  go_ret
  exact ⟨rfl, below_step (below_alloc (Below.refl _ _) _) hb⟩
set_option maxHeartbeats 4000000 in
set_option maxRecDepth 100000 in
theorem first89 (z : S90 → Bool) (G : World → Prop) (hG : Aside0 (∀ W W', G W → Below W.heap.size W W' → G W')) (B : Nat) (g : Nat) (A0 : Option Addr) (c0 : Nat) (l0 : List S86) (A1 : Option Addr) (c1 : Nat) (l1 : List S88) (A2 : Option Addr) (c2 : Nat) (l2 : List S90) (p q r : Int) (HQ : Aside0 (∀ x ∈ l2, ∀ W, G W → Calls Tryz.prog 89 #[.agg #[.string x.f0, .int .i64 x.f1, .int .i64 x.f2], .pointer (some ⟨B, 0, none⟩)] W fun e w' => e = .returned (.bool (z x)) ∧ Below W.heap.size W w')) (w : World) (hb : w.heap[g]? = some (.cells #[.slice A0 l0.length c0, .slice A1 l1.length c1, .slice A2 l2.length c2, .int .i64 p, .int .i64 q, .int .i64 r] 37 (0, 0))) (hr2 : Kd.C k90 w A2 l2.length l2) (hc2 : l2.length ≤ c2) (hn2 : l2.length ≤ 140737488355328) (hg : G w) :
    Calls Tryz.prog 88 #[.pointer (some ⟨g, 0, none⟩), .func (.func 89) #[] #[.pointer (some ⟨B, 0, none⟩)]] w fun e w' => e = .returned (.tuple #[.string (nameOf z l2), .bool (l2.any z)]) ∧ Below w.heap.size w w' := by
  have hu_ := Tryz.underlying37
  have hu2_ := Tryz.underlying90
  have HK := Aside0.mk hb
  have hf2 := (ck6 hb).2.2.1
  have HI := Aside0.mk (index89 z G hG B l2 HQ A2 c2 w hr2 hc2 hn2 hg)
  rcases ixOf_ways z l2 with ⟨e1, e2⟩ | ⟨i, hi, e1, e2, e3⟩
  · rw [e1] at HI
    have HE := Aside0.mk (And.intro e2 (find_no e2))
    clear e1 e2 hb hr2 hg
    go_enter Tryz.func88, Tryz.ntmps88
    go_wp2_with (first | (go_at_call 98; (with_reducible refine HI.out.mono ?_); rintro e w' ⟨rfl, hb⟩))
    go_ret2
    exact ⟨by unfold nameOf; rw [HE.out.1, HE.out.2]; rfl, hb⟩
  · rw [e1] at HI
    have HE := Aside0.mk (And.intro (any_hit hi e3) (find_at hi e2 e3))
    obtain ⟨ad, e0, hx0, hx1, hx2⟩ := at_T90 hr2 (i : Int) (by omega) (by omega)
    cases e0
    simp only [Int.toNat_natCast] at hx0 hx1 hx2
    rw [rd_at90 hi] at hx0
    have HX := Aside0.mk hx0
    clear e1 e2 e3 hb hr2 hg hx0 hx1 hx2
    go_enter Tryz.func88, Tryz.ntmps88
    go_wp2_with (first | (go_at_call 98; (with_reducible refine HI.out.mono ?_); rintro e w' ⟨rfl, hb⟩; have hf2' := (ck6 (blk_below HK.out hb)).2.2.1; have hx0 := bc hb HX.out))
    go_ret2
    exact ⟨by unfold nameOf; rw [HE.out.1, HE.out.2]; rfl, hb⟩
set_option maxHeartbeats 4000000 in
set_option maxRecDepth 100000 in
theorem first91 (z : S90 → Bool) (G : World → Prop) (hG : Aside0 (∀ W W', G W → Below W.heap.size W W' → G W')) (M : Nat) (B : Nat) (g : Nat) (A0 : Option Addr) (c0 : Nat) (l0 : List S86) (A1 : Option Addr) (c1 : Nat) (l1 : List S88) (A2 : Option Addr) (c2 : Nat) (l2 : List S90) (p q r : Int) (HQ : Aside0 (∀ x ∈ l2, ∀ W, G W → Calls Tryz.prog 91 #[.agg #[.string x.f0, .int .i64 x.f1, .int .i64 x.f2], .pointer (some ⟨M, 0, none⟩), .pointer (some ⟨B, 0, none⟩)] W fun e w' => e = .returned (.bool (z x)) ∧ Below W.heap.size W w')) (w : World) (hb : w.heap[g]? = some (.cells #[.slice A0 l0.length c0, .slice A1 l1.length c1, .slice A2 l2.length c2, .int .i64 p, .int .i64 q, .int .i64 r] 37 (0, 0))) (hr2 : Kd.C k90 w A2 l2.length l2) (hc2 : l2.length ≤ c2) (hn2 : l2.length ≤ 140737488355328) (hg : G w) :
    Calls Tryz.prog 88 #[.pointer (some ⟨g, 0, none⟩), .func (.func 91) #[] #[.pointer (some ⟨M, 0, none⟩), .pointer (some ⟨B, 0, none⟩)]] w fun e w' => e = .returned (.tuple #[.string (nameOf z l2), .bool (l2.any z)]) ∧ Below w.heap.size w w' := by
  have hu_ := Tryz.underlying37
  have hu2_ := Tryz.underlying90
  have HK := Aside0.mk hb
  have hf2 := (ck6 hb).2.2.1
  have HI := Aside0.mk (index91 z G hG M B l2 HQ A2 c2 w hr2 hc2 hn2 hg)
  rcases ixOf_ways z l2 with ⟨e1, e2⟩ | ⟨i, hi, e1, e2, e3⟩
  · rw [e1] at HI
    have HE := Aside0.mk (And.intro e2 (find_no e2))
    clear e1 e2 hb hr2 hg
    go_enter Tryz.func88, Tryz.ntmps88
    go_wp2_with (first | (go_at_call 98; (with_reducible refine HI.out.mono ?_); rintro e w' ⟨rfl, hb⟩))
    go_ret2
    exact ⟨by unfold nameOf; rw [HE.out.1, HE.out.2]; rfl, hb⟩
  · rw [e1] at HI
    have HE := Aside0.mk (And.intro (any_hit hi e3) (find_at hi e2 e3))
    obtain ⟨ad, e0, hx0, hx1, hx2⟩ := at_T90 hr2 (i : Int) (by omega) (by omega)
    cases e0
    simp only [Int.toNat_natCast] at hx0 hx1 hx2
    rw [rd_at90 hi] at hx0
    have HX := Aside0.mk hx0
    clear e1 e2 e3 hb hr2 hg hx0 hx1 hx2
    go_enter Tryz.func88, Tryz.ntmps88
    go_wp2_with (first | (go_at_call 98; (with_reducible refine HI.out.mono ?_); rintro e w' ⟨rfl, hb⟩; have hf2' := (ck6 (blk_below HK.out hb)).2.2.1; have hx0 := bc hb HX.out))
    go_ret2
    exact ⟨by unfold nameOf; rw [HE.out.1, HE.out.2]; rfl, hb⟩
set_option maxHeartbeats 4000000 in
set_option maxRecDepth 100000 in
theorem first92 (z : S90 → Bool) (G : World → Prop) (hG : Aside0 (∀ W W', G W → Below W.heap.size W W' → G W')) (B : Nat) (g : Nat) (A0 : Option Addr) (c0 : Nat) (l0 : List S86) (A1 : Option Addr) (c1 : Nat) (l1 : List S88) (A2 : Option Addr) (c2 : Nat) (l2 : List S90) (p q r : Int) (HQ : Aside0 (∀ x ∈ l2, ∀ W, G W → Calls Tryz.prog 92 #[.agg #[.string x.f0, .int .i64 x.f1, .int .i64 x.f2], .pointer (some ⟨B, 0, none⟩)] W fun e w' => e = .returned (.bool (z x)) ∧ Below W.heap.size W w')) (w : World) (hb : w.heap[g]? = some (.cells #[.slice A0 l0.length c0, .slice A1 l1.length c1, .slice A2 l2.length c2, .int .i64 p, .int .i64 q, .int .i64 r] 37 (0, 0))) (hr2 : Kd.C k90 w A2 l2.length l2) (hc2 : l2.length ≤ c2) (hn2 : l2.length ≤ 140737488355328) (hg : G w) :
    Calls Tryz.prog 88 #[.pointer (some ⟨g, 0, none⟩), .func (.func 92) #[] #[.pointer (some ⟨B, 0, none⟩)]] w fun e w' => e = .returned (.tuple #[.string (nameOf z l2), .bool (l2.any z)]) ∧ Below w.heap.size w w' := by
  have hu_ := Tryz.underlying37
  have hu2_ := Tryz.underlying90
  have HK := Aside0.mk hb
  have hf2 := (ck6 hb).2.2.1
  have HI := Aside0.mk (index92 z G hG B l2 HQ A2 c2 w hr2 hc2 hn2 hg)
  rcases ixOf_ways z l2 with ⟨e1, e2⟩ | ⟨i, hi, e1, e2, e3⟩
  · rw [e1] at HI
    have HE := Aside0.mk (And.intro e2 (find_no e2))
    clear e1 e2 hb hr2 hg
    go_enter Tryz.func88, Tryz.ntmps88
    go_wp2_with (first | (go_at_call 98; (with_reducible refine HI.out.mono ?_); rintro e w' ⟨rfl, hb⟩))
    go_ret2
    exact ⟨by unfold nameOf; rw [HE.out.1, HE.out.2]; rfl, hb⟩
  · rw [e1] at HI
    have HE := Aside0.mk (And.intro (any_hit hi e3) (find_at hi e2 e3))
    obtain ⟨ad, e0, hx0, hx1, hx2⟩ := at_T90 hr2 (i : Int) (by omega) (by omega)
    cases e0
    simp only [Int.toNat_natCast] at hx0 hx1 hx2
    rw [rd_at90 hi] at hx0
    have HX := Aside0.mk hx0
    clear e1 e2 e3 hb hr2 hg hx0 hx1 hx2
    go_enter Tryz.func88, Tryz.ntmps88
    go_wp2_with (first | (go_at_call 98; (with_reducible refine HI.out.mono ?_); rintro e w' ⟨rfl, hb⟩; have hf2' := (ck6 (blk_below HK.out hb)).2.2.1; have hx0 := bc hb HX.out))
    go_ret2
    exact ⟨by unfold nameOf; rw [HE.out.1, HE.out.2]; rfl, hb⟩
structure RelW (B g : Nat) (A0 : Option Addr) (c0 : Nat) (l0 : List S86) (A1 : Option Addr) (c1 : Nat) (l1 : List S88) (A2 : Option Addr) (c2 : Nat) (l2 : List S90) (p q r : Int) (W : World) : Prop where
  b : W.heap[B]? = some (.cells #[.pointer (some ⟨g, 0, none⟩)] 110 (0, 0))
  f : W.heap[g]? = some (.cells #[.slice A0 l0.length c0, .slice A1 l1.length c1, .slice A2 l2.length c2, .int .i64 p, .int .i64 q, .int .i64 r] 37 (0, 0))
  c : Kd.C k88 W A1 l1.length l1
theorem RelW.up {B g : Nat} {A0 : Option Addr} {c0 : Nat} {l0 : List S86} {A1 : Option Addr} {c1 : Nat} {l1 : List S88} {A2 : Option Addr} {c2 : Nat} {l2 : List S90} {p q r : Int} {W W' : World} (h : RelW B g A0 c0 l0 A1 c1 l1 A2 c2 l2 p q r W) (hb : Below W.heap.size W W') : RelW B g A0 c0 l0 A1 c1 l1 A2 c2 l2 p q r W' :=
  ⟨blk_below h.b hb, blk_below h.f hb, Kd.C_below h.c hb⟩
set_option maxHeartbeats 2000000 in
theorem rel1_t (d : S90) (B g : Nat) (A0 : Option Addr) (c0 : Nat) (l0 : List S86) (A1 : Option Addr) (c1 : Nat) (l1 : List S88) (A2 : Option Addr) (c2 : Nat) (l2 : List S90) (p q r : Int) (hc1 : l1.length ≤ c1) (hn1 : l1.length ≤ 140737488355328) (W : World) (hG : RelW B g A0 c0 l0 A1 c1 l1 A2 c2 l2 p q r W) :
    Calls Tryz.prog 89 #[.agg #[.string d.f0, .int .i64 d.f1, .int .i64 d.f2], .pointer (some ⟨B, 0, none⟩)] W fun e w' => e = .returned (.bool (rel1 l1 d)) ∧ Below W.heap.size W w' := by
  have hu_ := Tryz.underlying90
  have hcb : W.cell? ⟨B, 0, none⟩ = some (.pointer (some ⟨g, 0, none⟩)) := (blk_cell hG.b 0).trans rfl
  have hlt : B < W.heap.size := blk_lt hG.b
  have HG := Aside0.mk (hG.up (below_alloc (Below.refl _ _) (.cells #[.string d.f0, .int .i64 d.f1, .int .i64 d.f2] 90 (0, 0))))
  clear hG
  go_enter Tryz.func89, Tryz.ntmps89
  go_wp2_with (first | (go_at_call 90; (with_reducible refine (carryAt_t g d.f0 A0 c0 l0 A1 c1 l1 A2 c2 l2 p q r _ HG.out.f HG.out.c hc1 hn1).mono ?_); rintro e w' ⟨rfl, hb⟩))
  go_ret
  exact ⟨rfl, below_step (below_alloc (Below.refl _ _) _) hb⟩
theorem eCarryAt : Ent Tryz.prog 90 := fun a w => enters_ Tryz.func90 rfl rfl a w
set_option maxHeartbeats 4000000 in
set_option maxRecDepth 100000 in
theorem rel3_t (d : S90) (B g : Nat) (A0 : Option Addr) (c0 : Nat) (l0 : List S86) (A1 : Option Addr) (c1 : Nat) (l1 : List S88) (A2 : Option Addr) (c2 : Nat) (l2 : List S90) (p q r : Int) (hc1 : l1.length ≤ c1) (hn1 : l1.length ≤ 140737488355328) (hi : cix l1 d ≠ -1) (hr : 0 ≤ r ∧ r ≤ 1000000 ∧ 0 ≤ d.f2 ∧ d.f2 ≤ r) (W : World) (hG : RelW B g A0 c0 l0 A1 c1 l1 A2 c2 l2 p q r W) :
    Calls Tryz.prog 92 #[.agg #[.string d.f0, .int .i64 d.f1, .int .i64 d.f2], .pointer (some ⟨B, 0, none⟩)] W fun e w' => e = .returned (.bool (rel3 l1 r d)) ∧ Below W.heap.size W w' := by
  obtain ⟨j, hj, e1⟩ : ∃ j : Nat, j < l1.length ∧ cix l1 d = (j : Int) := by
    rcases ixOf_ways (fun c => c.f0.toList == d.f0.toList) l1 with ⟨e, _⟩ | ⟨i, h, e, _⟩
    · exact absurd e hi
    · exact ⟨i, h, e⟩
  clear hi
  have hu_ := Tryz.underlying90
  have hu2_ := Tryz.underlying88
  have hu3_ := Tryz.underlying37
  have HE := Aside0.mk e1
  obtain ⟨ad, e0, hx0, hx1, hx2⟩ := at_T88 hG.c (j : Int) (by omega) (by omega)
  cases e0
  simp only [Int.toNat_natCast] at hx2
  have hw : wrap64 (r - d.f2) = r - d.f2 := w64 (by omega) (by omega)
  have HX := Aside0.mk hx2
  have HG := Aside0.mk (hG.up (below_alloc (Below.refl _ _) (.cells #[.string d.f0, .int .i64 d.f1, .int .i64 d.f2] 90 (0, 0))))
  have HB := Aside0.mk (below_alloc (Below.refl W.heap.size W) (.cells #[.string d.f0, .int .i64 d.f1, .int .i64 d.f2] 90 (0, 0)))
  have HK := Aside0.mk (blk_new W (.cells #[.string d.f0, .int .i64 d.f1, .int .i64 d.f2] 90 (0, 0)))
  clear hx0 hx1 hx2 hG hr e1
  go_enter Tryz.func92, Tryz.ntmps92
  go_upto_region 1 with (fail)
  refine world_ (fun W1 => RelW B g A0 c0 l0 (some ad) c1 l1 A2 c2 l2 p q r W1 ∧ Below W.heap.size W W1 ∧ W1.heap[W.heap.size]? = some (.cells #[.string d.f0, .int .i64 d.f1, .int .i64 d.f2] 90 (0, 0))) ⟨HG.out, HB.out, HK.out⟩ ?_
  clear HG HB HK
  rintro W1 ⟨HG, HB, HK⟩
  replace HG := Aside0.mk HG
  replace HB := Aside0.mk HB
  replace HK := Aside0.mk HK
  have K1 := Aside0.mk (fun w' (h : Up W1 w') => ki_ (carryAt_t g d.f0 A0 c0 l0 (some ad) c1 l1 A2 c2 l2 p q r w' (HG.out.up h).f (HG.out.up h).c hc1 hn1) HE.out)
  have L := Aside0.mk (fun w' (h : Up W1 w') => (⟨ck (HG.out.up h).b 0 rfl, ck (HG.out.up h).f 1 rfl, ck (HG.out.up h).f 5 rfl, ck (blk_below HK.out h) 0 rfl, ck (blk_below HK.out h) 2 rfl, bc (below_step HB.out h) HX.out⟩ : w'.cell? ⟨B, 0, none⟩ = some (.pointer (some ⟨g, 0, none⟩)) ∧ w'.cell? ⟨g, 1, none⟩ = some (.slice (some ad) l1.length c1) ∧ w'.cell? ⟨g, 5, none⟩ = some (.int .i64 r) ∧ w'.cell? ⟨W.heap.size, 0, none⟩ = some (.string d.f0) ∧ w'.cell? ⟨W.heap.size, 2, none⟩ = some (.int .i64 d.f2) ∧ w'.cell? ⟨(ad.add (j * 3)).block, (ad.add (j * 3)).off + 2, none⟩ = some (.int .i64 (rd_T88 l1 (j : Int)).f2)))
  refine rg_ (by kernel_rfl) (by kernel_rfl) ?_
  (repeat (first | refine qn_ ?_ | refine qc_ eCarryAt K1.out ?_ | refine ql_ L.out ?_))
  refine qd_ ?_
  intro w5 hb
  try go_wp2
  go_ret
  exact ⟨by unfold rel3; rw [HE.out]; rfl, below_step HB.out hb⟩
def CntMap (W : World) (b n : Nat) (F : ByteArray → Nat) : Prop := ∃ D : DataW Unit, W.ownsMap Tryz.prog 9 (plainElem Tryz.prog 3) b n D ∧ ∀ s : ByteArray, s.size ≤ maxLen → D.atKey (.string s.data.toList) (.lit (.int .i64 0)) = .lit (.int .i64 (F s : Int))
theorem CntMap.up {W W' : World} {b n : Nat} {F : ByteArray → Nat} (h : CntMap W b n F) (hb : Below W.heap.size W W') : CntMap W' b n F := by
  obtain ⟨D, h1, h2⟩ := h
  exact ⟨D, h1.kept (grown_of_below hb none) (by simp), h2⟩
theorem zero3 (w : World) : (zeroValue 3).run Tryz.prog w = .ok (.int .i64 0) w := by kernel_rfl
theorem CntMap.look {W : World} {b n : Nat} {F : ByteArray → Nat} (h : CntMap W b n F) (s : ByteArray) (hs : s.size ≤ maxLen) : (Instr.lookup 127 (.map (some b)) (.string s) false).run Tryz.prog W = .ok (.int .i64 (F s : Int)) W := by
  obtain ⟨D, h1, h2⟩ := h
  obtain ⟨c, hc, hd, _⟩ := h1.lookup_int (Maps.string_keyed Tryz.underlying9) Tryz.underlying127 Tryz.underlying3 (zero3 W) (key := .string s) (kl := .string s.data.toList) (WideMaps.keyOf_string_mk Tryz.underlying9 hs)
  have hd := (h2 s hs).symm.trans hd
  have hd := (Lit.int.inj (DataW.lit.inj hd)).2
  rw [hc, hd]
theorem wf3 (n : Nat) (h : n < 1000000) : (Lit.int .i64 ((n : Int) + 1)).wf = true := WalkArith.wf_i64 ⟨by omega, by omega⟩
theorem CntMap.store {W : World} {b n : Nat} {F : ByteArray → Nat} (h : CntMap W b n F) (hn : n < maxLen) (s : ByteArray) (hs : s.size ≤ maxLen) (hF : F s < 1000000) :
    ∃ W', (Instr.mapUpdate 127 (.map (some b)) (.string s) (.int .i64 ((F s : Int) + 1))).run Tryz.prog W = .ok () W' ∧ CntMap W' b (n + 1) (fun t => if t.toList == s.toList then F s + 1 else F t) ∧ W.grownBy W' (some b) := by
  obtain ⟨D, h1, h2⟩ := h
  obtain ⟨W', e1, e2, e3⟩ := h1.update (Maps.string_keyed Tryz.underlying9) Tryz.underlying127 hn (key := .string s) (val := .int .i64 ((F s : Int) + 1)) (kl := .string s.data.toList) (WideMaps.keyOf_string_mk Tryz.underlying9 hs) (plainElem_int Tryz.underlying3 (wf3 (F s) hF))
  refine ⟨W', e1, ⟨_, e2, fun t ht => ?_⟩, e3⟩
  by_cases hts : t.toList = s.toList
  · dsimp only
    rw [if_pos (by simpa using hts), show t.data.toList = s.data.toList by rw [← ByteArray.toList_eq, ← ByteArray.toList_eq, hts], Maps.atKey_put_same h1.isMap (show WideAt.IsKeyLit (.string _) from trivial)]
    rfl
  · dsimp only
    rw [if_neg (by simpa using hts), Maps.atKey_put_other (by intro e; injection e with e; exact hts (by rw [ByteArray.toList_eq, ByteArray.toList_eq, e])), h2 t ht]
set_option maxHeartbeats 4000000 in
set_option maxRecDepth 100000 in
theorem rel2_t (d : S90) (M b n B g : Nat) (A0 : Option Addr) (c0 : Nat) (l0 : List S86) (A1 : Option Addr) (c1 : Nat) (l1 : List S88) (A2 : Option Addr) (c2 : Nat) (l2 : List S90) (p q r : Int) (hc1 : l1.length ≤ c1) (hn1 : l1.length ≤ 140737488355328) (hi : cix l1 d ≠ -1) (hd : d.f0.size ≤ maxLen) (W : World) (hG : RelW B g A0 c0 l0 A1 c1 l1 A2 c2 l2 p q r W) (hM : W.heap[M]? = some (.cells #[.map (some b)] 127 (0, 0))) (hC : CntMap W b n (fun s => cntOf s l2)) :
    Calls Tryz.prog 91 #[.agg #[.string d.f0, .int .i64 d.f1, .int .i64 d.f2], .pointer (some ⟨M, 0, none⟩), .pointer (some ⟨B, 0, none⟩)] W fun e w' => e = .returned (.bool (rel2 l1 l2 d)) ∧ Below W.heap.size W w' := by
  obtain ⟨j, hj, e1⟩ : ∃ j : Nat, j < l1.length ∧ cix l1 d = (j : Int) := by
    rcases ixOf_ways (fun c => c.f0.toList == d.f0.toList) l1 with ⟨e, _⟩ | ⟨i, h, e, _⟩
    · exact absurd e hi
    · exact ⟨i, h, e⟩
  clear hi
  have hu_ := Tryz.underlying90
  have hu2_ := Tryz.underlying88
  have hu3_ := Tryz.underlying37
  have HE := Aside0.mk e1
  obtain ⟨ad, e0, hx0, hx1, hx2⟩ := at_T88 hG.c (j : Int) (by omega) (by omega)
  cases e0
  simp only [Int.toNat_natCast] at hx1
  have HX := Aside0.mk hx1
  have HD := Aside0.mk hd
  have hnew := below_alloc (Below.refl W.heap.size W) (.cells #[.string d.f0, .int .i64 d.f1, .int .i64 d.f2] 90 (0, 0))
  have HF := Aside0.mk (And.intro (hG.up hnew) (And.intro hnew (And.intro (blk_new W (.cells #[.string d.f0, .int .i64 d.f1, .int .i64 d.f2] 90 (0, 0))) (And.intro (blk_below hM hnew) (hC.up hnew)))))
  clear hx0 hx1 hx2 hG e1 hM hC hnew hd
  go_enter Tryz.func91, Tryz.ntmps91
  go_upto_region 1 with (fail)
  refine world_ (fun W1 => RelW B g A0 c0 l0 (some ad) c1 l1 A2 c2 l2 p q r W1 ∧ Below W.heap.size W W1 ∧ W1.heap[W.heap.size]? = some (.cells #[.string d.f0, .int .i64 d.f1, .int .i64 d.f2] 90 (0, 0)) ∧ W1.heap[M]? = some (.cells #[.map (some b)] 127 (0, 0)) ∧ CntMap W1 b n (fun s => cntOf s l2)) HF.out ?_
  clear HF
  intro W1 HF
  replace HF := Aside0.mk HF
  have K1 := Aside0.mk (fun w' (h : Up W1 w') => ki_ (carryAt_t g d.f0 A0 c0 l0 (some ad) c1 l1 A2 c2 l2 p q r w' (HF.out.1.up h).f (HF.out.1.up h).c hc1 hn1) HE.out)
  have L := Aside0.mk (fun w' (h : Up W1 w') => (⟨ck (HF.out.1.up h).b 0 rfl, ck (HF.out.1.up h).f 1 rfl, ck (blk_below HF.out.2.2.1 h) 0 rfl, bc (below_step HF.out.2.1 h) HX.out, ck (blk_below HF.out.2.2.2.1 h) 0 rfl, (HF.out.2.2.2.2.up h).look d.f0 HD.out⟩ : w'.cell? ⟨B, 0, none⟩ = some (.pointer (some ⟨g, 0, none⟩)) ∧ w'.cell? ⟨g, 1, none⟩ = some (.slice (some ad) l1.length c1) ∧ w'.cell? ⟨W.heap.size, 0, none⟩ = some (.string d.f0) ∧ w'.cell? ⟨(ad.add (j * 3)).block, (ad.add (j * 3)).off + 1, none⟩ = some (.int .i64 (rd_T88 l1 (j : Int)).f1) ∧ w'.cell? ⟨M, 0, none⟩ = some (.map (some b)) ∧ (Instr.lookup 127 (.map (some b)) (.string d.f0) false).run Tryz.prog w' = .ok (.int .i64 (cntOf d.f0 l2 : Int)) w'))
  refine rg_ (by kernel_rfl) (by kernel_rfl) ?_
  (repeat (first | refine qn_ ?_ | refine qc_ eCarryAt K1.out ?_ | refine ql_ L.out ?_))
  refine qd_ ?_
  intro w5 hb
  try go_wp2
  go_ret
  exact ⟨by unfold rel2; rw [HE.out]; rfl, below_step HF.out.2.1 hb⟩
theorem due_t (n : ByteArray) (h c d p q r p' q' r' : Int) (hn : n.size ≤ 140737488355328) (w : World) : Calls Tryz.prog 87 #[.agg #[.string n, .int .i64 h, .int .i64 c, .int .i64 d, .int .i64 p, .int .i64 q, .int .i64 r], .agg #[.int .i64 p', .int .i64 q', .int .i64 r']] w fun e w' => e = .returned (.tuple #[.bool (due19 n h c d p q r p' q' r').1, .agg #[.int .i64 (due19 n h c d p q r p' q' r').2.1, .int .i64 (due19 n h c d p q r p' q' r').2.2.1, .int .i64 (due19 n h c d p q r p' q' r').2.2.2.1], .bool (due19 n h c d p q r p' q' r').2.2.2.2]) ∧ Below w.heap.size w w' := by
  obtain ⟨k, hk⟩ := (impl_Due19_ev n hn h c d p q r p' q' r').rounds
  exact impl_Due19.calls k n h c d p q r p' q' r' _ _ _ _ _ w hk
theorem CntMap.made (w : World) : CntMap (w.alloc (.map #[] 0)) w.heap.size 0 (fun _ => 0) := ⟨.map [], World.ownsMap_made _ _ _ _, fun _ _ => rfl⟩
theorem CntMap.same {W : World} {b n : Nat} {F F' : ByteArray → Nat} (h : CntMap W b n F) (e : ∀ s, F s = F' s) : CntMap W b n F' := by
  rw [show F' = F from funext fun s => (e s).symm]; exact h
set_option maxHeartbeats 8000000 in
set_option maxRecDepth 100000 in
theorem release_t (g : Nat) (A0 : Option Addr) (c0 : Nat) (l0 : List S86) (A1 : Option Addr) (c1 : Nat) (l1 : List S88) (A2 : Option Addr) (c2 : Nat) (l2 : List S90) (p q r : Int) (w : World) (hb : w.heap[g]? = some (.cells #[.slice A0 l0.length c0, .slice A1 l1.length c1, .slice A2 l2.length c2, .int .i64 p, .int .i64 q, .int .i64 r] 37 (0, 0))) (hr0 : Kd.C k86 w A0 l0.length l0) (hc0 : l0.length ≤ c0) (hr1 : Kd.C k88 w A1 l1.length l1) (hc1 : l1.length ≤ c1) (hr2 : Kd.C k90 w A2 l2.length l2) (hc2 : l2.length ≤ c2) (hz : FleetSz l0 l1 l2) (hok : fleetB l0 l1 l2 p q r = true) :
    Calls Tryz.prog 72 #[.pointer (some ⟨g, 0, none⟩)] w fun e w' => e = .returned (.tuple #[.int .i64 (releaseF l0 l1 l2 p q r).1, .string (releaseF l0 l1 l2 p q r).2]) ∧ Below w.heap.size w w' := by
  have hu33 := Tryz.underlying86
  have hu72 := Tryz.underlying90
  have hu56 := Tryz.underlying37
  have hu25 := Tryz.underlying35
  have HR0 := Aside0.mk hr0
  have HR2 := Aside0.mk hr2
  have HX0 := Aside0.mk hz.t
  have HX2 := Aside0.mk hz.d
  have hn0 := hz.tn
  have hn1 := hz.cn
  have hn2 := hz.dn
  have HOK := Aside0.mk (fleet_days hok)
  have hmf : ∀ (fn : Fn) (first cap : Array Value) (w : World), (Instr.makeFunc fn first cap).run Tryz.prog w = .ok (.func fn first cap) w := fun _ _ _ _ => rfl
  have hnew := below_alloc (Below.refl w.heap.size w) (.cells #[.pointer (some ⟨g, 0, none⟩)] 110 (0, 0))
  have HF := Aside0.mk (And.intro (RelW.mk (A0 := A0) (c0 := c0) (l0 := l0) (A1 := A1) (c1 := c1) (l1 := l1) (A2 := A2) (c2 := c2) (l2 := l2) (p := p) (q := q) (r := r) (blk_new w (.cells #[.pointer (some ⟨g, 0, none⟩)] 110 (0, 0))) (blk_below hb hnew) (Kd.C_below hr1 hnew)) hnew)
  have HW := Aside0.mk (And.intro hb hr1)
  clear hr0 hr1 hr2 hz hok hb hnew
  go_enter Tryz.func72, Tryz.ntmps72
  go_upto_region 1 with (fail)
  refine world_ (fun W => RelW w.heap.size g A0 c0 l0 A1 c1 l1 A2 c2 l2 p q r W ∧ Below w.heap.size w W) HF.out ?_
  clear HF
  rintro W0 ⟨HG, HB⟩
  replace HG := Aside0.mk HG
  replace HB := Aside0.mk HB
  have hb0 := ck HG.out.b 0 rfl
  obtain ⟨hf0, hf1, hf2, hf3, hf4, hf5⟩ := ck6 HG.out.f
  go_wp2
  clear hb0 hf0 hf1 hf2 hf3 hf4 hf5
  go_loopw [23] (fun v wr => ∃ i : Nat, i ≤ l0.length ∧ v = .int .i64 i ∧ Aside0 ((l0.take i).any (relT p q r) = false) ∧ Aside0 (RelW w.heap.size g A0 c0 l0 A1 c1 l1 A2 c2 l2 p q r wr) ∧ Aside0 (Below w.heap.size w wr)) (fun v _ => l0.length - (intOf v).toNat)
  case atStart => exact ⟨0, Nat.zero_le _, rfl, ⟨by simp⟩, HG, HB⟩
  case round =>
    clear HG HB
    obtain ⟨i, hi, rfl, HN, HG, HB⟩ := hrel
    by_cases hlt : i < l0.length
    · obtain ⟨ad, e0, hx0, hx1, hx2, hx3, hx4, hx5, hx6⟩ := at_T86 (Kd.C_below HR0.out HB.out) (i : Int) (by omega) (by omega)
      cases e0
      simp only [Int.toNat_natCast] at hx0 hx1 hx2 hx3 hx4 hx5 hx6
      have HZ := Aside0.mk (HX0.out _ (List.getElem_mem hlt))
      rw [← rd_at86 hlt] at HZ
      generalize hX : rd_T86 l0 (i : Int) = X at hx0 hx1 hx2 hx3 hx4 hx5 hx6 HZ
      rw [rd_at86 hlt] at hX
      have HXX := Aside0.mk hX
      clear hX
      have hnew := below_alloc (Below.refl wr.heap.size wr) (.cells #[.string X.f0, .int .i64 X.f1, .int .i64 X.f2, .int .i64 X.f3, .int .i64 X.f4.f0, .int .i64 X.f4.f1, .int .i64 X.f4.f2] 86 (0, 0))
      have HF := Aside0.mk (And.intro (blk_new wr (.cells #[.string X.f0, .int .i64 X.f1, .int .i64 X.f2, .int .i64 X.f3, .int .i64 X.f4.f0, .int .i64 X.f4.f1, .int .i64 X.f4.f2] 86 (0, 0))) (And.intro (HG.out.up hnew) (below_step HB.out hnew)))
      clear hnew
      go_upto_region 4 with (fail)
      generalize wr.heap.size = gx at HF ⊢
      refine world_ (fun W => W.heap[gx]? = some (.cells #[.string X.f0, .int .i64 X.f1, .int .i64 X.f2, .int .i64 X.f3, .int .i64 X.f4.f0, .int .i64 X.f4.f1, .int .i64 X.f4.f2] 86 (0, 0)) ∧ RelW w.heap.size g (some ad) c0 l0 A1 c1 l1 A2 c2 l2 p q r W ∧ Below w.heap.size w W) HF.out ?_
      clear HF HG HB hx0 hx1 hx2 hx3 hx4 hx5 hx6
      rintro W ⟨HK, HG, HB⟩
      replace HK := Aside0.mk HK
      replace HG := Aside0.mk HG
      replace HB := Aside0.mk HB
      have L := Aside0.mk (fun w' (h : Up W w') => (⟨ck (blk_below HK.out h) 0 rfl, ck (blk_below HK.out h) 1 rfl, ck (blk_below HK.out h) 2 rfl, ck (blk_below HK.out h) 3 rfl, ck (blk_below HK.out h) 4 rfl, ck (blk_below HK.out h) 5 rfl, ck (blk_below HK.out h) 6 rfl, ck (HG.out.up h).b 0 rfl, ck (HG.out.up h).f 3 rfl, ck (HG.out.up h).f 4 rfl, ck (HG.out.up h).f 5 rfl⟩ : w'.cell? ⟨gx, 0, none⟩ = some (.string X.f0) ∧ w'.cell? ⟨gx, 1, none⟩ = some (.int .i64 X.f1) ∧ w'.cell? ⟨gx, 2, none⟩ = some (.int .i64 X.f2) ∧ w'.cell? ⟨gx, 3, none⟩ = some (.int .i64 X.f3) ∧ w'.cell? ⟨gx, 4, none⟩ = some (.int .i64 X.f4.f0) ∧ w'.cell? ⟨gx, 5, none⟩ = some (.int .i64 X.f4.f1) ∧ w'.cell? ⟨gx, 6, none⟩ = some (.int .i64 X.f4.f2) ∧ w'.cell? ⟨w.heap.size, 0, none⟩ = some (.pointer (some ⟨g, 0, none⟩)) ∧ w'.cell? ⟨g, 3, none⟩ = some (.int .i64 p) ∧ w'.cell? ⟨g, 4, none⟩ = some (.int .i64 q) ∧ w'.cell? ⟨g, 5, none⟩ = some (.int .i64 r)))
      obtain ⟨⟨d1, d2, d3, d4, d5⟩, hD⟩ : ∃ D, due19 X.f0 X.f1 X.f2 X.f3 X.f4.f0 X.f4.f1 X.f4.f2 p q r = D := ⟨_, rfl⟩
      have K1 := Aside0.mk (fun w' => due_t X.f0 X.f1 X.f2 X.f3 X.f4.f0 X.f4.f1 X.f4.f2 p q r HZ.out w')
      rw [hD] at K1
      have HRT : Aside0 (relT p q r X = d1) := ⟨by unfold relT; rw [hD]⟩
      clear hD
      refine start_ (n := 14) (S := Up W) (ds := []) (Sq.M 0 14) (by kernel_rfl) rfl rfl (below_drew (Below.refl _ _)) (fun hS => ?_)
      generalize W.drew = W1 at hS ⊢
      refine rt_ L.out hS 0 28 (Sq.M 1 14) ?_
      refine rt_ L.out hS 1 29 (Sq.M 2 14) ?_
      refine rt_ L.out hS 2 30 (Sq.M 3 14) ?_
      refine rt_ L.out hS 3 31 (Sq.M 4 14) ?_
      refine rt_ L.out hS 4 32 (Sq.M 5 14) ?_
      refine join_ (σ := Nat) 3 (Sq.M 11 14) (fun b => [(33, .tuple #[.bool d1, .agg #[.int .i64 d2, .int .i64 d3, .int .i64 d4], .bool d5]), (27, .tuple #[.bool d1, .agg #[.int .i64 d2, .int .i64 d3, .int .i64 d4], .bool d5]), (34, .bool d1), (35, .agg #[.int .i64 d2, .int .i64 d3, .int .i64 d4]), (36, .bool d5), (7, .pointer (some ⟨b, 0, none⟩))]) (fun b w' => Up W w' ∧ w'.heap[b]? = some (.cells #[.int .i64 0, .int .i64 0, .int .i64 0] 35 (0, 0)) ∧ W.heap.size ≤ b) ?_ ?_
      rotate_left
      · intro hCont
        refine two_ (i := 5) (j := 10) (Ni := some 33) (Nj := some 7) (Sq.M 6 14) (mn_ 14 1055) rfl rfl rfl rfl (by kernel_rfl) (by decide) (by decide) (fun K hK => ?_) (fun K hK => ?_)
        · skip
          refine goes_ Tryz.func87 rfl rfl #[.agg #[.string X.f0, .int .i64 X.f1, .int .i64 X.f2, .int .i64 X.f3, .int .i64 X.f4.f0, .int .i64 X.f4.f1, .int .i64 X.f4.f2], .agg #[.int .i64 p, .int .i64 q, .int .i64 r]] (by rfl) rfl rfl (by (try simp only [am_]); first | done | rfl) ?_
          (with_reducible refine (K1.out _).mono ?_)
          rintro e w5 ⟨rfl, hb⟩
          refine ⟨_, rfl, ?_⟩
          refine hK.out _ _ (below_step hS hb) (fun hS2 => ?_)
          clear hK K
          refine norm_ (a' := ?_) ?_ ?_
          rotate_left
          · (show Act.put _ (some 33) _ = _; simp only [sp_]; rfl)
          refine ra_ 6 27 (Sq.M 7 14) ?_
          refine ra_ 7 34 (Sq.M 8 14) ?_
          refine ra_ 8 35 (Sq.M 9 14) ?_
          refine ra_ 9 36 (Sq.M 10 14) ?_
          refine one_ (i := 10) (N := some 7) (Sq.M 11 14) rfl rfl (by kernel_rfl) (by decide) (fun K hK => ?_)
          refine box_step ?hg (N := 7) ?hd (cs := #[.int .i64 0, .int .i64 0, .int .i64 0]) (t := 35) ?hr ?_; (case hd => rfl); (case hg => rfl); (case hr => first | (go_simp; done) | (go_simp; rfl))
          intro gb hg w6 hbox hb6
          refine hK.out _ _ (below_step hS2 hb6) (fun hS3 => ?_)
          clear hK K
          refine norm_ (a' := ?_) ?_ ?_
          rotate_left
          · (show Act.put _ (some 7) _ = _; simp only [sp_]; rfl)
          exact norm_ (by simp only [putAll, sp_]) (hCont gb _ ⟨hS3, hbox, by rw [hg]; exact hS2.size⟩)
        · skip
          refine box_step ?hg (N := 7) ?hd (cs := #[.int .i64 0, .int .i64 0, .int .i64 0]) (t := 35) ?hr ?_; (case hd => rfl); (case hg => rfl); (case hr => first | (go_simp; done) | (go_simp; rfl))
          intro gb hg w6 hbox hb6
          refine hK.out _ _ (below_step hS hb6) (fun hS2 => ?_)
          clear hK K
          refine norm_ (a' := ?_) ?_ ?_
          rotate_left
          · (show Act.put _ (some 7) _ = _; simp only [sp_]; rfl)
          refine one_ (i := 5) (N := some 33) (mn_ 14 1087) rfl rfl (by kernel_rfl) (by decide) (fun K hK => ?_)
          refine goes_ Tryz.func87 rfl rfl #[.agg #[.string X.f0, .int .i64 X.f1, .int .i64 X.f2, .int .i64 X.f3, .int .i64 X.f4.f0, .int .i64 X.f4.f1, .int .i64 X.f4.f2], .agg #[.int .i64 p, .int .i64 q, .int .i64 r]] (by rfl) rfl rfl (by (try simp only [am_]); first | done | rfl) ?_
          (with_reducible refine (K1.out _).mono ?_)
          rintro e w5 ⟨rfl, hb⟩
          refine ⟨_, rfl, ?_⟩
          refine hK.out _ _ (below_step hS2 hb) (fun hS3 => ?_)
          clear hK K
          refine norm_ (a' := ?_) ?_ ?_
          rotate_left
          · (show Act.put _ (some 33) _ = _; simp only [sp_]; rfl)
          refine ra_ 6 27 (mn_ 14 1151) ?_
          refine ra_ 7 34 (mn_ 14 1279) ?_
          refine ra_ 8 35 (mn_ 14 1535) ?_
          refine ra_ 9 36 (Sq.M 11 14) ?_
          exact norm_ (by simp only [putAll, sp_]) (hCont gb _ ⟨hS3, blk_below hbox hb, by rw [hg]; exact hS.size⟩)
      · rintro gb w7 ⟨hS4, HBX, hgb⟩
        refine norm_ (a' := ?_) ?_ ?_
        rotate_left
        · (simp only [putAll, sp_]; rfl)
        refine ra_ 11 6 (Sq.M 12 14) ?_
        refine join_ (σ := Unit) 1 (Sq.M 13 14) (fun _ => []) (fun _ w' => Up W w') ?_ ?_
        rotate_left
        · intro hCont
          refine one_ (i := 12) (N := none) (Sq.M 13 14) rfl rfl (by kernel_rfl) (by decide) (fun K hK => ?_)
          have hs0 : w7.cell? ⟨gb, 0, none⟩ = some (.int .i64 0) := ck HBX 0 rfl
          have hs1 : w7.cell? ⟨gb, 1, none⟩ = some (.int .i64 0) := ck HBX 1 rfl
          have hs2 : w7.cell? ⟨gb, 2, none⟩ = some (.int .i64 0) := ck HBX 2 rfl
          have hz0 := blk_frozen HBX 0
          have hz1 := blk_frozen HBX 1
          have hz2 := blk_frozen HBX 2
          refine skip_ (w1 := ?_) (by rfl) rfl ?_ ?_
          rotate_left
          · go_simp
            rfl
          refine hK.out _ _ (below_set (below_set (below_set hS4 hgb) hgb) hgb) (fun hS5 => ?_)
          clear hK K
          exact hCont () _ hS5
        rintro ⟨⟩ w8 hS5
        refine norm_ (a' := ?_) ?_ ?_
        rotate_left
        · (simp only [putAll, sp_]; rfl)
        refine ra_ 13 8 (Sq.M 14 14) ?_
        refine done_ (by kernel_rfl) ?_
        have hx0 : w8.cell? ⟨gx, 0, none⟩ = some (.string X.f0) := ck (blk_below HK.out hS5) 0 rfl
        have HG8 := Aside0.mk (HG.out.up hS5)
        have HB8 := Aside0.mk (below_step HB.out hS5)
        rw [← HXX.out] at HRT
        clear HG HB HK HBX hS4 hS5 hgb hS L K1
        cases d1 with
        | true =>
          have HE := Aside0.mk (released (cs := l1) (ds := l2) hlt HN.out HRT.out)
          rw [HXX.out] at HE
          clear HN HRT
          go_wp2
          go_quiet (fail)
          go_wp2
          go_ret2
          exact ⟨by rw [HE.out]; rfl, pw_below_drewN HB8.out _⟩
        | false =>
          have HE := Aside0.mk (any_step hlt HN.out HRT.out)
          clear HN HRT
          go_wp2
          go_roundw
          case rel => exact ⟨i + 1, by omega, by go_num, HE, HG8, HB8⟩
          case measure => simp [intOf]; omega
    · obtain rfl : i = l0.length := by omega
      have hn := HN.out
      rw [List.take_length] at hn
      have HS := Aside0.mk (not_released (cs := l1) (ds := l2) hn)
      clear hn HN
      have HF1 := Aside0.mk (first89 (rel1 l1) (RelW w.heap.size g A0 c0 l0 A1 c1 l1 A2 c2 l2 p q r) ⟨fun W W' h hb => h.up hb⟩ w.heap.size g A0 c0 l0 A1 c1 l1 A2 c2 l2 p q r ⟨fun d _ W hG => rel1_t d w.heap.size g A0 c0 l0 A1 c1 l1 A2 c2 l2 p q r hc1 hn1 W hG⟩ wr HG.out.f (Kd.C_below HR2.out HB.out) hc2 hn2 HG.out)
      have hb0 := ck HG.out.b 0 rfl
      have hmm := @run_makeMap Tryz.prog
      cases ha1 : l2.any (rel1 l1) with
      | true =>
        rw [ha1] at HF1 HS
        clear ha1
        go_wp2_with (first | (go_at_call 88; (with_reducible refine HF1.out.mono ?_); rintro e w5 ⟨rfl, hb⟩))
        go_ret2
        exact ⟨by rw [HS.out]; rfl, below_step HB.out hb⟩
      | false =>
        rw [ha1] at HF1 HS
        have HA1 := Aside0.mk ha1
        clear ha1
        go_upto_region 12 with (first | (go_at_call 88; (with_reducible refine HF1.out.mono ?_); rintro e w5 ⟨rfl, hb⟩))
        have HG5 := Aside0.mk (HG.out.up hb)
        have HB5 := Aside0.mk (below_step HB.out hb)
        have hm0 : w.heap.size < w5.heap.size := blk_lt HG5.out.b
        have n1 := below_alloc (Below.refl w5.heap.size w5) (.map #[] 0)
        have n2 := below_step n1 (below_alloc (Below.refl (w5.alloc (.map #[] 0)).heap.size (w5.alloc (.map #[] 0))) (.cells #[.map (some w5.heap.size)] 127 (0, 0)))
        have HM := Aside0.mk (And.intro (HG5.out.up n2) (And.intro (below_step HB5.out n2) (And.intro (by have := blk_new (w5.alloc (.map #[] 0)) (.cells #[.map (some w5.heap.size)] 127 (0, 0)); rwa [World.size_alloc] at this) ((CntMap.made w5).up (below_alloc (Below.refl _ _) (.cells #[.map (some w5.heap.size)] 127 (0, 0)))))) : RelW w.heap.size g A0 c0 l0 A1 c1 l1 A2 c2 l2 p q r ((w5.alloc (.map #[] 0)).alloc (.cells #[.map (some w5.heap.size)] 127 (0, 0))) ∧ Below w.heap.size w ((w5.alloc (.map #[] 0)).alloc (.cells #[.map (some w5.heap.size)] 127 (0, 0))) ∧ ((w5.alloc (.map #[] 0)).alloc (.cells #[.map (some w5.heap.size)] 127 (0, 0))).heap[w5.heap.size + 1]? = some (.cells #[.map (some w5.heap.size)] 127 (0, 0)) ∧ CntMap ((w5.alloc (.map #[] 0)).alloc (.cells #[.map (some w5.heap.size)] 127 (0, 0))) w5.heap.size 0 (fun _ => 0))
        clear HG HB HG5 HB5 hb hb0 HF1 n1 n2 hmm
        generalize w5.heap.size = mb at HM hm0 ⊢
        refine world_ (fun W => RelW w.heap.size g A0 c0 l0 A1 c1 l1 A2 c2 l2 p q r W ∧ Below w.heap.size w W ∧ W.heap[mb + 1]? = some (.cells #[.map (some mb)] 127 (0, 0)) ∧ CntMap W mb 0 (fun _ => 0)) HM.out ?_
        clear HM
        intro W6 HM
        replace HM := Aside0.mk HM
        have hb0 := ck HM.out.1.b 0 rfl
        obtain ⟨hf0, hf1, hf2, hf3, hf4, hf5⟩ := ck6 HM.out.1.f
        go_wp2
        clear hb0 hf0 hf1 hf2 hf3 hf4 hf5
        have HMB := Aside0.mk hm0
        clear hm0
        go_loopw [55] (fun v wr => ∃ k : Nat, k ≤ l2.length ∧ v = .int .i64 k ∧ Aside0 (RelW w.heap.size g A0 c0 l0 A1 c1 l1 A2 c2 l2 p q r wr ∧ Below w.heap.size w wr ∧ wr.heap[mb + 1]? = some (.cells #[.map (some mb)] 127 (0, 0)) ∧ CntMap wr mb k (fun s => cntOf s (l2.take k)))) (fun v _ => l2.length - (intOf v).toNat)
        case atStart => exact ⟨0, Nat.zero_le _, rfl, HM⟩
        case round =>
          clear HM
          obtain ⟨k, hk, rfl, HM⟩ := hrel
          by_cases hlt2 : k < l2.length
          · obtain ⟨ad2, e2, hx0, hx1, hx2⟩ := at_T90 (Kd.C_below HR2.out HM.out.2.1) (k : Int) (by omega) (by omega)
            cases e2
            simp only [Int.toNat_natCast] at hx0 hx1 hx2
            have HZ := Aside0.mk (HX2.out _ (List.getElem_mem hlt2))
            have HC := Aside0.mk (fun t => cnt_step hlt2 t)
            have hcl := Nat.le_trans (cnt_le (l2[k]).f0 (l2.take k)) (List.length_take_le _ _)
            rw [rd_at90 hlt2] at hx0 hx1 hx2
            generalize hX : l2[k] = X at hx0 hx1 hx2 HZ HC hcl
            clear hX
            generalize hcc : cntOf X.f0 (l2.take k) = c at HC hcl
            have HCC := Aside0.mk hcc
            clear hcc
            have hnew := below_alloc (Below.refl wr.heap.size wr) (.cells #[.string X.f0, .int .i64 X.f1, .int .i64 X.f2] 90 (0, 0))
            have HF := Aside0.mk (And.intro (blk_new wr (.cells #[.string X.f0, .int .i64 X.f1, .int .i64 X.f2] 90 (0, 0))) (And.intro (HM.out.1.up hnew) (And.intro (below_step HM.out.2.1 hnew) (And.intro (blk_below HM.out.2.2.1 hnew) (HM.out.2.2.2.up hnew)))))
            clear hnew
            go_upto_region 15 with (fail)
            generalize wr.heap.size = gx at HF ⊢
            refine world_ (fun W => W.heap[gx]? = some (.cells #[.string X.f0, .int .i64 X.f1, .int .i64 X.f2] 90 (0, 0)) ∧ RelW w.heap.size g A0 c0 l0 A1 c1 l1 (some ad2) c2 l2 p q r W ∧ Below w.heap.size w W ∧ W.heap[mb + 1]? = some (.cells #[.map (some mb)] 127 (0, 0)) ∧ CntMap W mb k (fun s => cntOf s (l2.take k))) HF.out ?_
            clear HF HM hx0 hx1 hx2
            intro W7 HM
            replace HM := Aside0.mk HM
            have hd0 : W7.cell? ⟨gx, 0, none⟩ = some (.string X.f0) := ck HM.out.1 0 rfl
            have hmc : W7.cell? ⟨mb + 1, 0, none⟩ = some (.map (some mb)) := ck HM.out.2.2.2.1 0 rfl
            have hzz : X.f0.size ≤ maxLen := Nat.le_trans HZ.out (by unfold maxLen; omega)
            have hl0 := HM.out.2.2.2.2.look X.f0 hzz
            (try dsimp only at hl0)
            obtain ⟨W8, hst, hC8, hg8⟩ := HM.out.2.2.2.2.store (by unfold maxLen; omega) X.f0 hzz (by (try dsimp only); rw [HCC.out]; have := HOK.out.2.1; omega)
            (try dsimp only at hst hC8)
            rw [HCC.out] at hl0 hst hC8
            have hB8 := HM.out.2.2.1.grown hg8 HM.out.2.2.1.size (fun k hk => by injection hk with hk; rw [← hk]; exact Nat.le_of_lt HMB.out)
            have HM8 := Aside0.mk (And.intro (RelW.mk (A0 := A0) (c0 := c0) (l0 := l0) (A1 := A1) (c1 := c1) (l1 := l1) (A2 := some ad2) (c2 := c2) (l2 := l2) (p := p) (q := q) (r := r) (blk_grown HM.out.2.1.b hg8 (by intro e; injection e with e; have := HMB.out; omega)) (blk_below HW.out.1 hB8) (Kd.C_below HW.out.2 hB8)) (And.intro hB8 (And.intro (blk_grown HM.out.2.2.2.1 hg8 (by intro e; injection e with e; omega)) (hC8.same (fun t => (HC.out t).symm)))))
            clear hC8 hg8 hB8 HM HC hzz HZ
            go_wp2
            go_roundw
            case rel => exact ⟨k + 1, by omega, by go_num, HM8⟩
            case measure => simp [intOf]; omega
          · obtain rfl : k = l2.length := by omega
            rw [List.take_length] at HM
            have hi0 : ∀ d ∈ l2, cix l1 d ≠ -1 := fun d hd e => by
              have := List.any_eq_false.1 HA1.out d hd
              unfold rel1 at this
              rw [e] at this
              exact this (by decide)
            have HF2 := Aside0.mk (first91 (rel2 l1 l2) (fun W => RelW w.heap.size g A0 c0 l0 A1 c1 l1 A2 c2 l2 p q r W ∧ W.heap[mb + 1]? = some (.cells #[.map (some mb)] 127 (0, 0)) ∧ CntMap W mb l2.length (fun s => cntOf s l2)) ⟨fun W W' h hb => ⟨h.1.up hb, blk_below h.2.1 hb, h.2.2.up hb⟩⟩ (mb + 1) w.heap.size g A0 c0 l0 A1 c1 l1 A2 c2 l2 p q r ⟨fun d hd W hG => rel2_t d (mb + 1) mb l2.length w.heap.size g A0 c0 l0 A1 c1 l1 A2 c2 l2 p q r hc1 hn1 (hi0 d hd) (Nat.le_trans (HX2.out d hd) (by unfold maxLen; omega)) W hG.1 hG.2.1 hG.2.2⟩ wr HM.out.1.f (Kd.C_below HR2.out HM.out.2.1) hc2 hn2 ⟨HM.out.1, HM.out.2.2⟩)
            have HI0 := Aside0.mk hi0
            clear hi0
            have hb0 := ck HM.out.1.b 0 rfl
            cases ha2 : l2.any (rel2 l1 l2) with
            | true =>
              rw [ha2] at HF2 HS
              clear ha2
              go_wp2_with (first | (go_at_call 88; (with_reducible refine HF2.out.mono ?_); rintro e w5 ⟨rfl, hb⟩))
              go_ret2
              exact ⟨by rw [HS.out]; rfl, below_step HM.out.2.1 hb⟩
            | false =>
              rw [ha2] at HF2 HS
              clear ha2
              have HF3 := Aside0.mk (fun w5 (hb : Below wr.heap.size wr w5) => first92 (rel3 l1 r) (RelW w.heap.size g A0 c0 l0 A1 c1 l1 A2 c2 l2 p q r) ⟨fun W W' h hb => h.up hb⟩ w.heap.size g A0 c0 l0 A1 c1 l1 A2 c2 l2 p q r ⟨fun d hd W hG => rel3_t d w.heap.size g A0 c0 l0 A1 c1 l1 A2 c2 l2 p q r hc1 hn1 (HI0.out d hd) ⟨HOK.out.1.1, HOK.out.1.2, HOK.out.2.2 d hd⟩ W hG⟩ w5 (HM.out.1.up hb).f (Kd.C_below HR2.out (below_step HM.out.2.1 hb)) hc2 hn2 (HM.out.1.up hb))
              cases ha3 : l2.any (rel3 l1 r) with
              | true =>
                rw [ha3] at HF3 HS
                clear ha3
                go_wp2_with (first | (go_at_call 88; (with_reducible refine HF2.out.mono ?_); rintro e w5 ⟨rfl, hb⟩; have hb1 := ck (HM.out.1.up hb).b 0 rfl) | (go_at_call 88; (with_reducible refine (HF3.out _ hb).mono ?_); rintro e w6 ⟨rfl, hb6⟩))
                go_ret2
                exact ⟨by rw [HS.out]; rfl, below_step (below_step HM.out.2.1 hb) hb6⟩
              | false =>
                rw [ha3] at HF3 HS
                clear ha3
                go_wp2_with (first | (go_at_call 88; (with_reducible refine HF2.out.mono ?_); rintro e w5 ⟨rfl, hb⟩; have hb1 := ck (HM.out.1.up hb).b 0 rfl) | (go_at_call 88; (with_reducible refine (HF3.out _ hb).mono ?_); rintro e w6 ⟨rfl, hb6⟩))
                go_ret2
                exact ⟨by rw [HS.out]; rfl, below_step (below_step HM.out.2.1 hb) hb6⟩
-- HAND TO

-- NOT PRINTED: function 73 (impl_Task_string)

-- NOT PRINTED: function 94 (impl_Defect_int)

-- NOT PRINTED: function 105 (impl_Defect_105)

/- impl_Defect_109: only slices.Insert comes to it, where its contract is told by hand -/

/- impl_Defect_108: only slices.Insert comes to it, where its contract is told by hand -/

/- impl_Defect_106: only slices.Insert comes to it, where its contract is told by hand -/

end Go.Proofs.YtdimdlifjdbgnaaGreat.PFnExactRunWork
