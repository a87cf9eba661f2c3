/- The program's Pair answers as the reference's at every argument. No condition. -/
import Derived.Test.YthdldkkkehfedaaPFnExactPairx5
import Derived.Test.YthdldkkkehfedaaBase
set_option linter.unusedVariables false
set_option linter.unusedSimpArgs false
namespace Go.Proofs.Ythdldkkkehfedaa.Pure
open Go.RowKit Go.Proofs.Ythdldkkkehfedaa.PFnExactPair Go.Proofs.Ythdldkkkehfedaa.Base Go.Proofs.YthdldkkkehfedaaW.PrintWords Go.Proofs.YthdldkkkehfedaaW.PrintLast
theorem impl_in_eq (a b c : Int) : impl_in.f a b c = some (inB a b c) := in_form a b c
theorem spec_in_eq (a b c : Int) : spec_l1In.f a b c = some (inB a b c) := in_form a b c
/-! Chapter 15: what two aircraft are told. -/
def ownB (a b c d : Int) : Bool := inB a 1 1000000 && (inB b 0 60000 && (inB c (-200) 200 && inB d 0 2))
def trackB (i h c r cl s : Int) : Bool := ownB i h c s && (inB r 0 1000000 && inB cl (-1000) 1000)
def nearB (n w : Int) : Bool := inB n 0 10000 && inB w 1 300
def ticks (i h c r cl s : Int) : Int × Bool := if trackB i h c r cl s = true ∧ cl > 0 then ((r + cl - 1) / cl, true) else (0, false)
def absI (a : Int) : Int := if a < 0 then -a else a
def apart (oh oc th tc n : Int) : Int := oh + n * oc - th - n * tc
def threat (oi oh oc os ti th tc tr tcl ts near within : Int) : Bool :=
  (ticks ti th tc tr tcl ts).2 && (ownB oi oh oc os && (decide (oi ≠ ti) && (nearB near within && (decide ((ticks ti th tc tr tcl ts).1 ≤ within) && decide (absI (apart oh oc th tc (ticks ti th tc tr tcl ts).1) < near)))))
def advise (oi oh oc os ti th tc tr tcl ts near within : Int) : Int :=
  if threat oi oh oc os ti th tc tr tcl ts near within = true then
    (if os = 0 then (if ts = 1 then 2 else if ts = 2 then 1 else
      let d := apart oh oc th tc (ticks ti th tc tr tcl ts).1
      let n := (ticks ti th tc tr tcl ts).1
      if absI (d + 100 * n) > absI (d - 100 * n) then 1
      else if absI (d + 100 * n) = absI (d - 100 * n) then (if oh > th then 1 else if oh = th then (if oi > ti then 1 else 2) else 2) else 2)
    else os) else 0
theorem ownB_in {a b c d : Int} (h : ownB a b c d = true) : (1 ≤ a ∧ a ≤ 1000000) ∧ (0 ≤ b ∧ b ≤ 60000) ∧ (-200 ≤ c ∧ c ≤ 200) ∧ 0 ≤ d ∧ d ≤ 2 := by
  simp [ownB, inB] at h
  omega
theorem trackB_in {i h c r cl s : Int} (k : trackB i h c r cl s = true) : ((1 ≤ i ∧ i ≤ 1000000) ∧ (0 ≤ h ∧ h ≤ 60000) ∧ (-200 ≤ c ∧ c ≤ 200) ∧ 0 ≤ s ∧ s ≤ 2) ∧ (0 ≤ r ∧ r ≤ 1000000) ∧ -1000 ≤ cl ∧ cl ≤ 1000 := by
  simp [trackB, ownB, inB] at k
  omega
theorem ceil_eq {r cl : Int} (hc : 0 < cl) : (r + cl - 1) / cl = if r % cl = 0 then r / cl else r / cl + 1 := by
  have h1 := Int.mul_ediv_add_emod r cl
  have h2 := Int.emod_nonneg r (show cl ≠ 0 by omega)
  have h3 := Int.emod_lt_of_pos r hc
  generalize r / cl = q at *
  generalize r % cl = m at *
  have e : r + cl - 1 = (m + cl - 1) + q * cl := by rw [Int.mul_comm q cl]; omega
  rw [e, Int.add_mul_ediv_right _ _ (by omega)]
  by_cases z : m = 0
  · rw [if_pos z, Int.ediv_eq_zero_of_lt (by omega) (by omega)]; omega
  · rw [if_neg z, show m + cl - 1 = (m - 1) + 1 * cl by omega, Int.add_mul_ediv_right _ _ (by omega), Int.ediv_eq_zero_of_lt (by omega) (by omega)]; omega
theorem ticks_in {i h c r cl s : Int} (hk : (ticks i h c r cl s).2 = true) : trackB i h c r cl s = true ∧ cl > 0 ∧ 0 ≤ (ticks i h c r cl s).1 ∧ (ticks i h c r cl s).1 ≤ 1000000 ∧ (ticks i h c r cl s).1 = (r + cl - 1) / cl := by
  unfold ticks at hk ⊢
  by_cases x : trackB i h c r cl s = true ∧ cl > 0
  · rw [if_pos x] at hk ⊢
    have hb := trackB_in x.1
    refine ⟨x.1, x.2, Int.ediv_nonneg (by omega) (by omega), ?_, rfl⟩
    show (r + cl - 1) / cl ≤ 1000000
    rw [ceil_eq x.2]
    have h1 := Int.mul_ediv_add_emod r cl
    have h2 := Int.emod_nonneg r (show cl ≠ 0 by omega)
    have h3 := Int.emod_lt_of_pos r x.2
    have h4 : r / cl ≤ r := Int.ediv_le_self _ (by omega)
    by_cases z : r % cl = 0
    · rw [if_pos z]; omega
    · rw [if_neg z]
      have : r / cl < 1000000 := by
        refine Classical.byContradiction fun hx => ?_
        have : cl * (r / cl) ≥ 1 * (r / cl) := Int.mul_le_mul_of_nonneg_right (by omega) (by omega)
        omega
      omega
  · rw [if_neg x] at hk; cases hk
theorem mul_bd {n c N C : Int} (h0 : 0 ≤ n) (hN : n ≤ N) (h1 : -C ≤ c) (h2 : c ≤ C) (hC : 0 ≤ C) : -(N * C) ≤ n * c ∧ n * c ≤ N * C := by
  have a1 : n * c ≤ n * C := Int.mul_le_mul_of_nonneg_left h2 h0
  have a2 : n * C ≤ N * C := Int.mul_le_mul_of_nonneg_right hN hC
  have a3 : n * (-C) ≤ n * c := Int.mul_le_mul_of_nonneg_left h1 h0
  rw [Int.mul_neg] at a3
  omega
/-- Nothing wraps in how far apart they are. -/
theorem apart_in {oh oc th tc n : Int} (h0 : 0 ≤ n) (hN : n ≤ 1000000) (h1 : 0 ≤ oh ∧ oh ≤ 60000) (h2 : -200 ≤ oc ∧ oc ≤ 200) (h3 : 0 ≤ th ∧ th ≤ 60000) (h4 : -200 ≤ tc ∧ tc ≤ 200) :
    wrap64 ((wrap64 ((wrap64 (oh + (wrap64 (n * oc)))) - th)) - (wrap64 (n * tc))) = apart oh oc th tc n ∧ -400060000 ≤ apart oh oc th tc n ∧ apart oh oc th tc n ≤ 400060000 := by
  have b1 := mul_bd (N := 1000000) (C := 200) h0 hN h2.1 h2.2 (by omega)
  have b2 := mul_bd (N := 1000000) (C := 200) h0 hN h4.1 h4.2 (by omega)
  unfold apart
  generalize n * oc = x at *
  generalize n * tc = y at *
  rw [w64 (n := x) (by omega) (by omega), w64 (n := y) (by omega) (by omega), w64 (n := oh + x) (by omega) (by omega), w64 (n := oh + x - th) (by omega) (by omega), w64 (by omega) (by omega)]
  omega
theorem impl_OwnOk_eq (a b c d : Int) : impl_OwnOk.f a b c d = some (ownB a b c d) := by
  simp only [impl_OwnOk.f, impl_in_eq, Option.bind_some, ownB]
  cases inB a 1 1000000 <;> cases inB b 0 60000 <;> cases inB c (-200) 200 <;> simp
theorem impl_TrackOk_eq (i h c r cl s : Int) : impl_TrackOk.f i h c r cl s = some (trackB i h c r cl s) := by
  simp only [impl_TrackOk.f, impl_OwnOk_eq, impl_in_eq, Option.bind_some, trackB]
  cases ownB i h c s <;> cases inB r 0 1000000 <;> simp
theorem impl_nearOk_eq (n w : Int) : impl_nearOk.f n w = some (nearB n w) := by
  simp only [impl_nearOk.f, impl_in_eq, Option.bind_some, nearB]
  cases inB n 0 10000 <;> simp
theorem impl_ceilOver_eq {r cl : Int} (h0 : 0 ≤ r) (h1 : r ≤ 1000000) (h2 : 0 < cl) : impl_ceilOver.f r cl = some ((r + cl - 1) / cl) := by
  have t1 : Int.tdiv (-r) cl = -(r / cl) := by rw [Int.neg_tdiv, Int.tdiv_eq_ediv_of_nonneg h0]
  have t2 : Int.tmod (-r) cl = -(r % cl) := by rw [Int.neg_tmod, Int.tmod_eq_emod_of_nonneg h0]
  have h3 := Int.emod_nonneg r (show cl ≠ 0 by omega)
  have h4 := Int.ediv_nonneg h0 (show 0 ≤ cl by omega)
  have h5 : r / cl ≤ r := Int.ediv_le_self _ h0
  have hr0 := Int.mul_ediv_add_emod r cl
  simp only [impl_ceilOver.f, impl_floorOver.f, w64 (show -9223372036854775808 ≤ -r by omega) (by omega), if_neg (show ¬ cl = 0 by omega), t1, t2, ceil_eq h2]
  by_cases z : r % cl = 0
  · rw [if_pos (by omega), if_pos z, w64 (by omega) (by omega), Option.bind_some, w64 (by omega) (by omega)]
    congr 1; omega
  · have hr : 0 < r := by
      refine Classical.byContradiction fun x => z ?_
      have : r = 0 := by omega
      rw [this]; simp
    rw [if_neg (by omega), if_neg z, if_pos (by simp; omega), w64 (n := -(r / cl)) (by omega) (by omega), w64 (by omega) (by omega), Option.bind_some, w64 (by omega) (by omega)]
    congr 1; omega
theorem impl_TicksTo_eq (i h c r cl s : Int) : impl_TicksTo.f i h c r cl s = some (ticks i h c r cl s) := by
  simp only [impl_TicksTo.f, impl_TrackOk_eq, Option.bind_some]
  unfold ticks
  by_cases x : trackB i h c r cl s = true
  · by_cases y : cl ≤ 0
    · rw [if_pos x, if_pos y, if_neg (by omega)]
    · have hb := trackB_in x
      rw [if_pos x, if_neg y, impl_ceilOver_eq (by omega) (by omega) (by omega), Option.bind_some, if_pos ⟨x, by omega⟩]
  · rw [if_neg x, if_neg (fun h => x h.1)]
theorem impl_size_eq {a : Int} (h0 : -9223372036854775807 ≤ a) (h1 : a ≤ 9223372036854775807) : impl_size.f a = some (absI a) := by
  unfold impl_size.f absI mx
  rw [w64 (by omega) (by omega)]
  congr 1
  by_cases h : a < 0
  · rw [if_pos (by omega), if_pos h]
  · rw [if_neg (by omega), if_neg h]
theorem impl_Threat_eq (oi oh oc os ti th tc tr tcl ts near within : Int) : impl_Threat.f oi oh oc os ti th tc tr tcl ts near within = some (threat oi oh oc os ti th tc tr tcl ts near within) := by
  simp only [impl_Threat.f, impl_TicksTo_eq, impl_OwnOk_eq, impl_nearOk_eq, Option.bind_some]
  unfold threat
  by_cases x : (ticks ti th tc tr tcl ts).2 = true
  · have hx := ticks_in x
    have hb := trackB_in hx.1
    by_cases y : ownB oi oh oc os = true
    · have ho := ownB_in y
      have ha := apart_in (n := (ticks ti th tc tr tcl ts).1) hx.2.2.1 hx.2.2.2.1 ho.2.1 ho.2.2.1 hb.1.2.1 hb.1.2.2.1
      simp only [x, y, if_true, ha.1]
      rw [impl_size_eq (by omega) (by omega)]
      by_cases e : oi = ti
      · simp [e]
      · cases nearB near within
        · simp [e]
        · by_cases g : (ticks ti th tc tr tcl ts).1 > within
          · simp [e, g, show ¬ (ticks ti th tc tr tcl ts).1 ≤ within by omega]
          · simp [e, g, show (ticks ti th tc tr tcl ts).1 ≤ within by omega]
    · simp [x, y]
  · simp [x]
theorem threat_in {oi oh oc os ti th tc tr tcl ts near within : Int} (h : threat oi oh oc os ti th tc tr tcl ts near within = true) : (ticks ti th tc tr tcl ts).2 = true ∧ ownB oi oh oc os = true ∧ oi ≠ ti := by
  simp [threat] at h
  exact ⟨h.1, h.2.1, h.2.2.1⟩
theorem impl_Advise_eq (oi oh oc os ti th tc tr tcl ts near within : Int) : impl_Advise.f oi oh oc os ti th tc tr tcl ts near within = some (advise oi oh oc os ti th tc tr tcl ts near within) := by
  simp only [impl_Advise.f, impl_Threat_eq, impl_TicksTo_eq, Option.bind_some]
  unfold advise
  by_cases ht : threat oi oh oc os ti th tc tr tcl ts near within = true
  · obtain ⟨x, y, e⟩ := threat_in ht
    have hx := ticks_in x
    have hb := trackB_in hx.1
    have ho := ownB_in y
    have ha := apart_in (n := (ticks ti th tc tr tcl ts).1) hx.2.2.1 hx.2.2.2.1 ho.2.1 ho.2.2.1 hb.1.2.1 hb.1.2.2.1
    simp only [ht, if_true, ha.1]
    have hn0 := hx.2.2.1
    have hn1 := hx.2.2.2.1
    generalize (ticks ti th tc tr tcl ts).1 = n at *
    rw [Int.mul_comm 100 n, w64 (n := n * 100) (by omega) (by omega), w64 (n := apart oh oc th tc n + n * 100) (by omega) (by omega), w64 (n := apart oh oc th tc n - n * 100) (by omega) (by omega), impl_size_eq (by omega) (by omega), impl_size_eq (by omega) (by omega)]
    simp only [Option.bind_some]
    repeat' split
    all_goals rfl
  · simp [ht]
theorem spec_OwnOk_eq (a b c d : Int) : spec_OwnOk.f a b c d = some (ownB a b c d) := by
  simp only [spec_OwnOk.f, spec_in_eq, Option.bind_some, ownB]
  cases inB a 1 1000000 <;> cases inB b 0 60000 <;> cases inB c (-200) 200 <;> simp
theorem spec_TrackOk_eq (i h c r cl s : Int) : spec_TrackOk.f i h c r cl s = some (trackB i h c r cl s) := by
  simp only [spec_TrackOk.f, spec_OwnOk_eq, spec_in_eq, Option.bind_some, trackB]
  cases ownB i h c s <;> cases inB r 0 1000000 <;> simp
theorem spec_TicksTo_eq (i h c r cl s : Int) : spec_TicksTo.f i h c r cl s = some (ticks i h c r cl s) := by
  simp only [spec_TicksTo.f, spec_TrackOk_eq, Option.bind_some]
  unfold ticks
  by_cases x : trackB i h c r cl s = true
  · by_cases y : cl ≤ 0
    · rw [if_pos x, if_pos y, if_neg (by omega)]
    · have hb := trackB_in x
      have h4 := Int.ediv_nonneg (show 0 ≤ r + cl - 1 by omega) (show 0 ≤ cl by omega)
      have h5 : (r + cl - 1) / cl ≤ r + cl - 1 := Int.ediv_le_self _ (by omega)
      rw [if_pos x, if_neg y, if_neg (by omega), if_pos ⟨x, by omega⟩, w64 (n := r + cl) (by omega) (by omega), w64 (n := r + cl - 1) (by omega) (by omega), Int.tdiv_eq_ediv_of_nonneg (by omega), w64 (by omega) (by omega)]
  · rw [if_neg x, if_neg (fun h => x h.1)]
theorem spec_abs_eq {a : Int} (h0 : -9223372036854775807 ≤ a) (h1 : a ≤ 9223372036854775807) : spec_l1Abs.f a = some (absI a) := by
  unfold spec_l1Abs.f absI
  by_cases h : a < 0
  · rw [if_pos h, if_pos h, w64 (by omega) (by omega)]
  · rw [if_neg h, if_neg h]
theorem spec_Threat_eq (oi oh oc os ti th tc tr tcl ts near within : Int) : spec_Threat.f oi oh oc os ti th tc tr tcl ts near within = some (threat oi oh oc os ti th tc tr tcl ts near within) := by
  simp only [spec_Threat.f, spec_TicksTo_eq, spec_OwnOk_eq, spec_in_eq, Option.bind_some]
  unfold threat nearB
  by_cases x : (ticks ti th tc tr tcl ts).2 = true
  · have hx := ticks_in x
    have hb := trackB_in hx.1
    by_cases y : ownB oi oh oc os = true
    · have ho := ownB_in y
      have ha := apart_in (n := (ticks ti th tc tr tcl ts).1) hx.2.2.1 hx.2.2.2.1 ho.2.1 ho.2.2.1 hb.1.2.1 hb.1.2.2.1
      simp only [x, y, if_true, ha.1]
      rw [spec_abs_eq (by omega) (by omega)]
      by_cases e : oi = ti
      · simp [e]
      · cases inB near 0 10000
        · simp [e]
        · cases inB within 1 300
          · simp [e]
          · by_cases g : (ticks ti th tc tr tcl ts).1 > within
            · simp [e, g, show ¬ (ticks ti th tc tr tcl ts).1 ≤ within by omega]
            · simp [e, g, show (ticks ti th tc tr tcl ts).1 ≤ within by omega]
    · simp [x, y]
  · simp [x]
theorem spec_Advise_eq (oi oh oc os ti th tc tr tcl ts near within : Int) : spec_Advise.f oi oh oc os ti th tc tr tcl ts near within = some (advise oi oh oc os ti th tc tr tcl ts near within) := by
  simp only [spec_Advise.f, spec_Threat_eq, spec_TicksTo_eq, Option.bind_some]
  unfold advise
  by_cases ht : threat oi oh oc os ti th tc tr tcl ts near within = true
  · obtain ⟨x, y, e⟩ := threat_in ht
    have hx := ticks_in x
    have hb := trackB_in hx.1
    have ho := ownB_in y
    have ha := apart_in (n := (ticks ti th tc tr tcl ts).1) hx.2.2.1 hx.2.2.2.1 ho.2.1 ho.2.2.1 hb.1.2.1 hb.1.2.2.1
    simp only [ht, if_true, ha.1]
    have hn0 := hx.2.2.1
    have hn1 := hx.2.2.2.1
    generalize (ticks ti th tc tr tcl ts).1 = n at *
    rw [w64 (n := 100 * n) (by omega) (by omega), w64 (n := apart oh oc th tc n + 100 * n) (by omega) (by omega), w64 (n := apart oh oc th tc n - 100 * n) (by omega) (by omega), spec_abs_eq (by omega) (by omega), spec_abs_eq (by omega) (by omega)]
    simp only [Option.bind_some]
    by_cases q : os = 0
    · simp only [if_pos q]
      rcases (show ts = 0 ∨ ts = 1 ∨ ts = 2 by omega) with rfl | rfl | rfl
      · simp only [if_true, if_neg (show ¬ ((0 : Int) = 1) by omega), if_neg (show ¬ ((0 : Int) = 2) by omega)]
        generalize absI (apart oh oc th tc n + 100 * n) = u
        generalize absI (apart oh oc th tc n - 100 * n) = v
        by_cases c1 : u > v
        · simp [c1]
        · by_cases c2 : v > u
          · simp [c1, c2, show ¬ u = v by omega]
          · simp [c1, c2, show u = v by omega]
            repeat' split
            all_goals rfl
      · simp [wrap64]
      · simp [wrap64]
    · simp only [if_neg q]
  · simp [ht]
/-- Two in order: the first one advises itself, then the other one. -/
def pairO (ai ah ac as_ bi bh bc bs far close near within : Int) : Int × Int :=
  let x := advise ai ah ac as_ bi bh bc far close bs near within
  (x, advise bi bh bc bs ai ah ac far close (if x = 0 then as_ else x) near within)
def pairOk (ai ah ac as_ bi bh bc bs far close near within : Int) : Bool :=
  ownB ai ah ac as_ && (ownB bi bh bc bs && (decide (ai ≠ bi) && (inB far 0 1000000 && (inB close (-1000) 1000 && nearB near within))))
def pair (ai ah ac as_ bi bh bc bs far close near within : Int) : Int × Int × Bool :=
  if pairOk ai ah ac as_ bi bh bc bs far close near within = true then
    (if bi < ai then ((pairO bi bh bc bs ai ah ac as_ far close near within).2, (pairO bi bh bc bs ai ah ac as_ far close near within).1, true)
     else ((pairO ai ah ac as_ bi bh bc bs far close near within).1, (pairO ai ah ac as_ bi bh bc bs far close near within).2, true))
  else (0, 0, false)
theorem impl_Pair_no (ai ah ac as_ bi bh bc bs far close near within : Int) : Ev (fun k => impl_Pair.j0 k far close near within true ai ah ac as_ bi bh bc bs) (0, 0, false) := by
  refine ev_succ ?_
  simp only [impl_Pair.j0, if_true]
  exact ev_now _
theorem impl_Pair_j2 (x ai ah ac as_ bi bh bc bs pi ph pc ps qi qh qc qs far close near within : Int) : Ev (fun k => impl_Pair.j2 k far close near within x ai ah ac as_ bi bh bc bs pi ph pc ps qi qh qc qs)
    (if bi < ai then (advise qi qh qc qs pi ph pc far close ps near within, x, true) else (x, advise qi qh qc qs pi ph pc far close ps near within, true)) := by
  refine ev_succ ?_
  simp only [impl_Pair.j2, impl_Own_seen.f, impl_Advise_eq, Option.bind_some]
  by_cases h : bi < ai
  · simp only [if_pos h]; exact ev_now _
  · simp only [if_neg h]; exact ev_now _
theorem impl_Pair_j1 (ai ah ac as_ bi bh bc bs pi ph pc ps qi qh qc qs far close near within : Int) : Ev (fun k => impl_Pair.j1 k far close near within ai ah ac as_ bi bh bc bs pi ph pc ps qi qh qc qs)
    (if bi < ai then ((pairO pi ph pc ps qi qh qc qs far close near within).2, (pairO pi ph pc ps qi qh qc qs far close near within).1, true) else ((pairO pi ph pc ps qi qh qc qs far close near within).1, (pairO pi ph pc ps qi qh qc qs far close near within).2, true)) := by
  refine ev_succ ?_
  simp only [impl_Pair.j1, impl_Own_seen.f, impl_Advise_eq, Option.bind_some, pairO]
  by_cases h : advise pi ph pc ps qi qh qc far close qs near within = 0
  · simp only [if_pos h]; exact impl_Pair_j2 _ _ _ _ _ _ _ _ _ _ _ _ _ _ _ _ _ _ _ _ _
  · simp only [if_neg h]; exact impl_Pair_j2 _ _ _ _ _ _ _ _ _ _ _ _ _ _ _ _ _ _ _ _ _
theorem impl_Pair_ev (ai ah ac as_ bi bh bc bs far close near within : Int) : Ev (fun k => impl_Pair.f k ai ah ac as_ bi bh bc bs far close near within) (pair ai ah ac as_ bi bh bc bs far close near within) := by
  simp only [impl_Pair.f, impl_OwnOk_eq, impl_in_eq, impl_nearOk_eq, Option.bind_some]
  unfold pair pairOk
  have hno := impl_Pair_no ai ah ac as_ bi bh bc bs far close near within
  cases ownB ai ah ac as_ with
  | false => simpa using hno
  | true =>
    cases ownB bi bh bc bs with
    | false => simpa using hno
    | true =>
      by_cases e : ai = bi
      · simpa [e] using hno
      · simp only [if_true, if_neg e, ne_eq, e, not_false_eq_true, decide_true, Bool.true_and]
        cases inB far 0 1000000 with
        | false => simpa using hno
        | true =>
          cases inB close (-1000) 1000 with
          | false => simpa using hno
          | true =>
            cases nearB near within with
            | false => simpa using hno
            | true =>
              simp only [if_true, Bool.and_self]
              refine ev_succ ?_
              simp only [impl_Pair.j0, Bool.not_true, Bool.false_eq_true, if_false]
              by_cases h : bi < ai
              · have := impl_Pair_j1 ai ah ac as_ bi bh bc bs bi bh bc bs ai ah ac as_ far close near within
                simp only [if_pos h] at this ⊢
                exact this
              · have := impl_Pair_j1 ai ah ac as_ bi bh bc bs ai ah ac as_ bi bh bc bs far close near within
                simp only [if_neg h] at this ⊢
                exact this
theorem spec_Pair_no (ai ah ac as_ bi bh bc bs far close near within : Int) : Ev (fun k => spec_Pair.j0 k far close near within true ai ah ac as_ bi bh bc bs) (0, 0, false) := by
  refine ev_succ ?_
  simp only [spec_Pair.j0, if_true]
  exact ev_now _
theorem spec_Pair_le (ai ah ac as_ bi bh bc bs far close near within : Int) (h : ¬ bi < ai) : Ev (fun k => spec_Pair.j0 k far close near within false ai ah ac as_ bi bh bc bs) ((pairO ai ah ac as_ bi bh bc bs far close near within).1, (pairO ai ah ac as_ bi bh bc bs far close near within).2, true) := by
  refine ev_succ ?_
  simp only [spec_Pair.j0, Bool.false_eq_true, if_false, if_neg (show ¬ ai > bi by omega), spec_l15Seen.f, spec_Advise_eq, Option.bind_some, pairO]
  by_cases e : advise ai ah ac as_ bi bh bc far close bs near within = 0
  · simp only [if_pos e]; exact ev_now _
  · simp only [if_neg e]; exact ev_now _
theorem spec_Pair_f (ai ah ac as_ bi bh bc bs far close near within : Int) (r : Int × Int × Bool) (h : Ev (fun k => spec_Pair.j0 k far close near within false ai ah ac as_ bi bh bc bs) r) :
    Ev (fun k => spec_Pair.f k ai ah ac as_ bi bh bc bs far close near within) (if pairOk ai ah ac as_ bi bh bc bs far close near within = true then r else (0, 0, false)) := by
  refine ev_succ ?_
  simp only [spec_Pair.f, spec_OwnOk_eq, spec_in_eq, Option.bind_some]
  unfold pairOk nearB
  have hno := spec_Pair_no ai ah ac as_ bi bh bc bs far close near within
  cases ownB ai ah ac as_ with
  | false => simpa using hno
  | true =>
    cases ownB bi bh bc bs with
    | false => simpa using hno
    | true =>
      by_cases e : ai = bi
      · simpa [e] using hno
      · simp only [if_true, if_neg e, ne_eq, e, not_false_eq_true, decide_true, Bool.true_and]
        cases inB far 0 1000000 with
        | false => simpa using hno
        | true =>
          cases inB close (-1000) 1000 with
          | false => simpa using hno
          | true =>
            cases inB near 0 10000 with
            | false => simpa using hno
            | true =>
              cases inB within 1 300 with
              | false => simpa using hno
              | true => simpa using h
theorem pairOk_comm (ai ah ac as_ bi bh bc bs far close near within : Int) : pairOk bi bh bc bs ai ah ac as_ far close near within = pairOk ai ah ac as_ bi bh bc bs far close near within := by
  unfold pairOk
  have e : decide (bi ≠ ai) = decide (ai ≠ bi) := decide_eq_decide.2 ⟨fun h => h.symm, fun h => h.symm⟩
  rw [e]
  cases ownB ai ah ac as_ <;> cases ownB bi bh bc bs <;> simp
theorem spec_Pair_ev (ai ah ac as_ bi bh bc bs far close near within : Int) : Ev (fun k => spec_Pair.f k ai ah ac as_ bi bh bc bs far close near within) (pair ai ah ac as_ bi bh bc bs far close near within) := by
  unfold pair
  by_cases h : bi < ai
  · simp only [if_pos h]
    by_cases hk : pairOk ai ah ac as_ bi bh bc bs far close near within = true
    · refine spec_Pair_f ai ah ac as_ bi bh bc bs far close near within _ ?_
      refine ev_succ ?_
      simp only [spec_Pair.j0, Bool.false_eq_true, if_false, if_pos (show ai > bi by omega)]
      have hr := spec_Pair_f bi bh bc bs ai ah ac as_ far close near within _ (spec_Pair_le bi bh bc bs ai ah ac as_ far close near within (by omega))
      rw [pairOk_comm, if_pos hk] at hr
      exact hr.bind (f := fun _ t => some (t.2.1, t.1, t.2.2)) (ev_now _)
    · have hr := spec_Pair_f ai ah ac as_ bi bh bc bs far close near within (0, 0, false) ?_
      · rw [if_neg hk] at hr ⊢; exact hr
      · refine ev_succ ?_
        simp only [spec_Pair.j0, Bool.false_eq_true, if_false, if_pos (show ai > bi by omega)]
        have hr := spec_Pair_f bi bh bc bs ai ah ac as_ far close near within _ (spec_Pair_le bi bh bc bs ai ah ac as_ far close near within (by omega))
        rw [pairOk_comm, if_neg hk] at hr
        exact hr.bind (f := fun _ t => some (t.2.1, t.1, t.2.2)) (ev_now _)
  · simp only [if_neg h]
    exact spec_Pair_f ai ah ac as_ bi bh bc bs far close near within _ (spec_Pair_le _ _ _ _ _ _ _ _ _ _ _ _ h)
theorem FnExactPair (a0_0 : Int) (a0_1 : Int) (a0_2 : Int) (a0_3 : Int) (a1_0 : Int) (a1_1 : Int) (a1_2 : Int) (a1_3 : Int) (a2 : Int) (a3 : Int) (a4 : Int) (a5 : Int) (g0 : ((Lit.int .i64 a0_0).wf = true ∧ (Lit.int .i64 a0_1).wf = true ∧ (Lit.int .i64 a0_2).wf = true ∧ (Lit.int .i64 a0_3).wf = true)) (g1 : ((Lit.int .i64 a1_0).wf = true ∧ (Lit.int .i64 a1_1).wf = true ∧ (Lit.int .i64 a1_2).wf = true ∧ (Lit.int .i64 a1_3).wf = true)) (g2 : (Lit.int .i64 a2).wf = true) (g3 : (Lit.int .i64 a3).wf = true) (g4 : (Lit.int .i64 a4).wf = true) (g5 : (Lit.int .i64 a5).wf = true) : ∃ k, laws_FnExactPair.f k a0_0 a0_1 a0_2 a0_3 a1_0 a1_1 a1_2 a1_3 a2 a3 a4 a5 = some true := by
  refine Ev.rounds ?_
  simp only [laws_FnExactPair.f, laws_toOwn.f, Option.bind_some]
  refine (spec_Pair_ev _ _ _ _ _ _ _ _ _ _ _ _).bind ?_
  refine (impl_Pair_ev _ _ _ _ _ _ _ _ _ _ _ _).bind ?_
  simp only [if_true, bne_self_eq_false, Bool.false_eq_true, if_false]
  exact ev_now _
end Go.Proofs.Ythdldkkkehfedaa.Pure
