/- Of two drawn aircraft without a sense that are advised one goes up and the other one down; seen in the other order they are told the same; a sense that was told is kept. No condition. -/
import Derived.Test.YthdldkkkehfedaaPFnSensesx5
import Derived.Test.YthdldkkkehfedaaBase
set_option linter.unusedVariables false
set_option linter.unusedSimpArgs false
namespace Go.Proofs.Ythdldkkkehfedaa.Pure
open Go.RowKit Go.Proofs.Ythdldkkkehfedaa.PFnSenses Go.Proofs.Ythdldkkkehfedaa.Base Go.Proofs.YthdldkkkehfedaaW.PrintWords Go.Proofs.YthdldkkkehfedaaW.PrintLast
theorem impl_in_eq (a b c : Int) : impl_in.f a b c = some (inB a b c) := in_form a b c
/-! Chapter 15: what two aircraft are told. -/
def ownB (a b c d : Int) : Bool := inB a 1 1000000 && (inB b 0 60000 && (inB c (-200) 200 && inB d 0 2))
def trackB (i h c r cl s : Int) : Bool := ownB i h c s && (inB r 0 1000000 && inB cl (-1000) 1000)
def nearB (n w : Int) : Bool := inB n 0 10000 && inB w 1 300
def ticks (i h c r cl s : Int) : Int × Bool := if trackB i h c r cl s = true ∧ cl > 0 then ((r + cl - 1) / cl, true) else (0, false)
def absI (a : Int) : Int := if a < 0 then -a else a
def apart (oh oc th tc n : Int) : Int := oh + n * oc - th - n * tc
def threat (oi oh oc os ti th tc tr tcl ts near within : Int) : Bool :=
  (ticks ti th tc tr tcl ts).2 && (ownB oi oh oc os && (decide (oi ≠ ti) && (nearB near within && (decide ((ticks ti th tc tr tcl ts).1 ≤ within) && decide (absI (apart oh oc th tc (ticks ti th tc tr tcl ts).1) < near)))))
def advise (oi oh oc os ti th tc tr tcl ts near within : Int) : Int :=
  if threat oi oh oc os ti th tc tr tcl ts near within = true then
    (if os = 0 then (if ts = 1 then 2 else if ts = 2 then 1 else
      let d := apart oh oc th tc (ticks ti th tc tr tcl ts).1
      let n := (ticks ti th tc tr tcl ts).1
      if absI (d + 100 * n) > absI (d - 100 * n) then 1
      else if absI (d + 100 * n) = absI (d - 100 * n) then (if oh > th then 1 else if oh = th then (if oi > ti then 1 else 2) else 2) else 2)
    else os) else 0
theorem ownB_in {a b c d : Int} (h : ownB a b c d = true) : (1 ≤ a ∧ a ≤ 1000000) ∧ (0 ≤ b ∧ b ≤ 60000) ∧ (-200 ≤ c ∧ c ≤ 200) ∧ 0 ≤ d ∧ d ≤ 2 := by
  simp [ownB, inB] at h
  omega
theorem trackB_in {i h c r cl s : Int} (k : trackB i h c r cl s = true) : ((1 ≤ i ∧ i ≤ 1000000) ∧ (0 ≤ h ∧ h ≤ 60000) ∧ (-200 ≤ c ∧ c ≤ 200) ∧ 0 ≤ s ∧ s ≤ 2) ∧ (0 ≤ r ∧ r ≤ 1000000) ∧ -1000 ≤ cl ∧ cl ≤ 1000 := by
  simp [trackB, ownB, inB] at k
  omega
theorem ceil_eq {r cl : Int} (hc : 0 < cl) : (r + cl - 1) / cl = if r % cl = 0 then r / cl else r / cl + 1 := by
  have h1 := Int.mul_ediv_add_emod r cl
  have h2 := Int.emod_nonneg r (show cl ≠ 0 by omega)
  have h3 := Int.emod_lt_of_pos r hc
  generalize r / cl = q at *
  generalize r % cl = m at *
  have e : r + cl - 1 = (m + cl - 1) + q * cl := by rw [Int.mul_comm q cl]; omega
  rw [e, Int.add_mul_ediv_right _ _ (by omega)]
  by_cases z : m = 0
  · rw [if_pos z, Int.ediv_eq_zero_of_lt (by omega) (by omega)]; omega
  · rw [if_neg z, show m + cl - 1 = (m - 1) + 1 * cl by omega, Int.add_mul_ediv_right _ _ (by omega), Int.ediv_eq_zero_of_lt (by omega) (by omega)]; omega
theorem ticks_in {i h c r cl s : Int} (hk : (ticks i h c r cl s).2 = true) : trackB i h c r cl s = true ∧ cl > 0 ∧ 0 ≤ (ticks i h c r cl s).1 ∧ (ticks i h c r cl s).1 ≤ 1000000 ∧ (ticks i h c r cl s).1 = (r + cl - 1) / cl := by
  unfold ticks at hk ⊢
  by_cases x : trackB i h c r cl s = true ∧ cl > 0
  · rw [if_pos x] at hk ⊢
    have hb := trackB_in x.1
    refine ⟨x.1, x.2, Int.ediv_nonneg (by omega) (by omega), ?_, rfl⟩
    show (r + cl - 1) / cl ≤ 1000000
    rw [ceil_eq x.2]
    have h1 := Int.mul_ediv_add_emod r cl
    have h2 := Int.emod_nonneg r (show cl ≠ 0 by omega)
    have h3 := Int.emod_lt_of_pos r x.2
    have h4 : r / cl ≤ r := Int.ediv_le_self _ (by omega)
    by_cases z : r % cl = 0
    · rw [if_pos z]; omega
    · rw [if_neg z]
      have : r / cl < 1000000 := by
        refine Classical.byContradiction fun hx => ?_
        have : cl * (r / cl) ≥ 1 * (r / cl) := Int.mul_le_mul_of_nonneg_right (by omega) (by omega)
        omega
      omega
  · rw [if_neg x] at hk; cases hk
theorem mul_bd {n c N C : Int} (h0 : 0 ≤ n) (hN : n ≤ N) (h1 : -C ≤ c) (h2 : c ≤ C) (hC : 0 ≤ C) : -(N * C) ≤ n * c ∧ n * c ≤ N * C := by
  have a1 : n * c ≤ n * C := Int.mul_le_mul_of_nonneg_left h2 h0
  have a2 : n * C ≤ N * C := Int.mul_le_mul_of_nonneg_right hN hC
  have a3 : n * (-C) ≤ n * c := Int.mul_le_mul_of_nonneg_left h1 h0
  rw [Int.mul_neg] at a3
  omega
/-- Nothing wraps in how far apart they are. -/
theorem apart_in {oh oc th tc n : Int} (h0 : 0 ≤ n) (hN : n ≤ 1000000) (h1 : 0 ≤ oh ∧ oh ≤ 60000) (h2 : -200 ≤ oc ∧ oc ≤ 200) (h3 : 0 ≤ th ∧ th ≤ 60000) (h4 : -200 ≤ tc ∧ tc ≤ 200) :
    wrap64 ((wrap64 ((wrap64 (oh + (wrap64 (n * oc)))) - th)) - (wrap64 (n * tc))) = apart oh oc th tc n ∧ -400060000 ≤ apart oh oc th tc n ∧ apart oh oc th tc n ≤ 400060000 := by
  have b1 := mul_bd (N := 1000000) (C := 200) h0 hN h2.1 h2.2 (by omega)
  have b2 := mul_bd (N := 1000000) (C := 200) h0 hN h4.1 h4.2 (by omega)
  unfold apart
  generalize n * oc = x at *
  generalize n * tc = y at *
  rw [w64 (n := x) (by omega) (by omega), w64 (n := y) (by omega) (by omega), w64 (n := oh + x) (by omega) (by omega), w64 (n := oh + x - th) (by omega) (by omega), w64 (by omega) (by omega)]
  omega
theorem impl_OwnOk_eq (a b c d : Int) : impl_OwnOk.f a b c d = some (ownB a b c d) := by
  simp only [impl_OwnOk.f, impl_in_eq, Option.bind_some, ownB]
  cases inB a 1 1000000 <;> cases inB b 0 60000 <;> cases inB c (-200) 200 <;> simp
theorem impl_TrackOk_eq (i h c r cl s : Int) : impl_TrackOk.f i h c r cl s = some (trackB i h c r cl s) := by
  simp only [impl_TrackOk.f, impl_OwnOk_eq, impl_in_eq, Option.bind_some, trackB]
  cases ownB i h c s <;> cases inB r 0 1000000 <;> simp
theorem impl_nearOk_eq (n w : Int) : impl_nearOk.f n w = some (nearB n w) := by
  simp only [impl_nearOk.f, impl_in_eq, Option.bind_some, nearB]
  cases inB n 0 10000 <;> simp
theorem impl_ceilOver_eq {r cl : Int} (h0 : 0 ≤ r) (h1 : r ≤ 1000000) (h2 : 0 < cl) : impl_ceilOver.f r cl = some ((r + cl - 1) / cl) := by
  have t1 : Int.tdiv (-r) cl = -(r / cl) := by rw [Int.neg_tdiv, Int.tdiv_eq_ediv_of_nonneg h0]
  have t2 : Int.tmod (-r) cl = -(r % cl) := by rw [Int.neg_tmod, Int.tmod_eq_emod_of_nonneg h0]
  have h3 := Int.emod_nonneg r (show cl ≠ 0 by omega)
  have h4 := Int.ediv_nonneg h0 (show 0 ≤ cl by omega)
  have h5 : r / cl ≤ r := Int.ediv_le_self _ h0
  have hr0 := Int.mul_ediv_add_emod r cl
  simp only [impl_ceilOver.f, impl_floorOver.f, w64 (show -9223372036854775808 ≤ -r by omega) (by omega), if_neg (show ¬ cl = 0 by omega), t1, t2, ceil_eq h2]
  by_cases z : r % cl = 0
  · rw [if_pos (by omega), if_pos z, w64 (by omega) (by omega), Option.bind_some, w64 (by omega) (by omega)]
    congr 1; omega
  · have hr : 0 < r := by
      refine Classical.byContradiction fun x => z ?_
      have : r = 0 := by omega
      rw [this]; simp
    rw [if_neg (by omega), if_neg z, if_pos (by simp; omega), w64 (n := -(r / cl)) (by omega) (by omega), w64 (by omega) (by omega), Option.bind_some, w64 (by omega) (by omega)]
    congr 1; omega
theorem impl_TicksTo_eq (i h c r cl s : Int) : impl_TicksTo.f i h c r cl s = some (ticks i h c r cl s) := by
  simp only [impl_TicksTo.f, impl_TrackOk_eq, Option.bind_some]
  unfold ticks
  by_cases x : trackB i h c r cl s = true
  · by_cases y : cl ≤ 0
    · rw [if_pos x, if_pos y, if_neg (by omega)]
    · have hb := trackB_in x
      rw [if_pos x, if_neg y, impl_ceilOver_eq (by omega) (by omega) (by omega), Option.bind_some, if_pos ⟨x, by omega⟩]
  · rw [if_neg x, if_neg (fun h => x h.1)]
theorem impl_size_eq {a : Int} (h0 : -9223372036854775807 ≤ a) (h1 : a ≤ 9223372036854775807) : impl_size.f a = some (absI a) := by
  unfold impl_size.f absI mx
  rw [w64 (by omega) (by omega)]
  congr 1
  by_cases h : a < 0
  · rw [if_pos (by omega), if_pos h]
  · rw [if_neg (by omega), if_neg h]
theorem impl_Threat_eq (oi oh oc os ti th tc tr tcl ts near within : Int) : impl_Threat.f oi oh oc os ti th tc tr tcl ts near within = some (threat oi oh oc os ti th tc tr tcl ts near within) := by
  simp only [impl_Threat.f, impl_TicksTo_eq, impl_OwnOk_eq, impl_nearOk_eq, Option.bind_some]
  unfold threat
  by_cases x : (ticks ti th tc tr tcl ts).2 = true
  · have hx := ticks_in x
    have hb := trackB_in hx.1
    by_cases y : ownB oi oh oc os = true
    · have ho := ownB_in y
      have ha := apart_in (n := (ticks ti th tc tr tcl ts).1) hx.2.2.1 hx.2.2.2.1 ho.2.1 ho.2.2.1 hb.1.2.1 hb.1.2.2.1
      simp only [x, y, if_true, ha.1]
      rw [impl_size_eq (by omega) (by omega)]
      by_cases e : oi = ti
      · simp [e]
      · cases nearB near within
        · simp [e]
        · by_cases g : (ticks ti th tc tr tcl ts).1 > within
          · simp [e, g, show ¬ (ticks ti th tc tr tcl ts).1 ≤ within by omega]
          · simp [e, g, show (ticks ti th tc tr tcl ts).1 ≤ within by omega]
    · simp [x, y]
  · simp [x]
theorem threat_in {oi oh oc os ti th tc tr tcl ts near within : Int} (h : threat oi oh oc os ti th tc tr tcl ts near within = true) : (ticks ti th tc tr tcl ts).2 = true ∧ ownB oi oh oc os = true ∧ oi ≠ ti := by
  simp [threat] at h
  exact ⟨h.1, h.2.1, h.2.2.1⟩
theorem impl_Advise_eq (oi oh oc os ti th tc tr tcl ts near within : Int) : impl_Advise.f oi oh oc os ti th tc tr tcl ts near within = some (advise oi oh oc os ti th tc tr tcl ts near within) := by
  simp only [impl_Advise.f, impl_Threat_eq, impl_TicksTo_eq, Option.bind_some]
  unfold advise
  by_cases ht : threat oi oh oc os ti th tc tr tcl ts near within = true
  · obtain ⟨x, y, e⟩ := threat_in ht
    have hx := ticks_in x
    have hb := trackB_in hx.1
    have ho := ownB_in y
    have ha := apart_in (n := (ticks ti th tc tr tcl ts).1) hx.2.2.1 hx.2.2.2.1 ho.2.1 ho.2.2.1 hb.1.2.1 hb.1.2.2.1
    simp only [ht, if_true, ha.1]
    have hn0 := hx.2.2.1
    have hn1 := hx.2.2.2.1
    generalize (ticks ti th tc tr tcl ts).1 = n at *
    rw [Int.mul_comm 100 n, w64 (n := n * 100) (by omega) (by omega), w64 (n := apart oh oc th tc n + n * 100) (by omega) (by omega), w64 (n := apart oh oc th tc n - n * 100) (by omega) (by omega), impl_size_eq (by omega) (by omega), impl_size_eq (by omega) (by omega)]
    simp only [Option.bind_some]
    repeat' split
    all_goals rfl
  · simp [ht]
/-- Two in order: the first one advises itself, then the other one. -/
def pairO (ai ah ac as_ bi bh bc bs far close near within : Int) : Int × Int :=
  let x := advise ai ah ac as_ bi bh bc far close bs near within
  (x, advise bi bh bc bs ai ah ac far close (if x = 0 then as_ else x) near within)
def pairOk (ai ah ac as_ bi bh bc bs far close near within : Int) : Bool :=
  ownB ai ah ac as_ && (ownB bi bh bc bs && (decide (ai ≠ bi) && (inB far 0 1000000 && (inB close (-1000) 1000 && nearB near within))))
def pair (ai ah ac as_ bi bh bc bs far close near within : Int) : Int × Int × Bool :=
  if pairOk ai ah ac as_ bi bh bc bs far close near within = true then
    (if bi < ai then ((pairO bi bh bc bs ai ah ac as_ far close near within).2, (pairO bi bh bc bs ai ah ac as_ far close near within).1, true)
     else ((pairO ai ah ac as_ bi bh bc bs far close near within).1, (pairO ai ah ac as_ bi bh bc bs far close near within).2, true))
  else (0, 0, false)
theorem impl_Pair_no (ai ah ac as_ bi bh bc bs far close near within : Int) : Ev (fun k => impl_Pair.j0 k far close near within true ai ah ac as_ bi bh bc bs) (0, 0, false) := by
  refine ev_succ ?_
  simp only [impl_Pair.j0, if_true]
  exact ev_now _
theorem impl_Pair_j2 (x ai ah ac as_ bi bh bc bs pi ph pc ps qi qh qc qs far close near within : Int) : Ev (fun k => impl_Pair.j2 k far close near within x ai ah ac as_ bi bh bc bs pi ph pc ps qi qh qc qs)
    (if bi < ai then (advise qi qh qc qs pi ph pc far close ps near within, x, true) else (x, advise qi qh qc qs pi ph pc far close ps near within, true)) := by
  refine ev_succ ?_
  simp only [impl_Pair.j2, impl_Own_seen.f, impl_Advise_eq, Option.bind_some]
  by_cases h : bi < ai
  · simp only [if_pos h]; exact ev_now _
  · simp only [if_neg h]; exact ev_now _
theorem impl_Pair_j1 (ai ah ac as_ bi bh bc bs pi ph pc ps qi qh qc qs far close near within : Int) : Ev (fun k => impl_Pair.j1 k far close near within ai ah ac as_ bi bh bc bs pi ph pc ps qi qh qc qs)
    (if bi < ai then ((pairO pi ph pc ps qi qh qc qs far close near within).2, (pairO pi ph pc ps qi qh qc qs far close near within).1, true) else ((pairO pi ph pc ps qi qh qc qs far close near within).1, (pairO pi ph pc ps qi qh qc qs far close near within).2, true)) := by
  refine ev_succ ?_
  simp only [impl_Pair.j1, impl_Own_seen.f, impl_Advise_eq, Option.bind_some, pairO]
  by_cases h : advise pi ph pc ps qi qh qc far close qs near within = 0
  · simp only [if_pos h]; exact impl_Pair_j2 _ _ _ _ _ _ _ _ _ _ _ _ _ _ _ _ _ _ _ _ _
  · simp only [if_neg h]; exact impl_Pair_j2 _ _ _ _ _ _ _ _ _ _ _ _ _ _ _ _ _ _ _ _ _
theorem impl_Pair_ev (ai ah ac as_ bi bh bc bs far close near within : Int) : Ev (fun k => impl_Pair.f k ai ah ac as_ bi bh bc bs far close near within) (pair ai ah ac as_ bi bh bc bs far close near within) := by
  simp only [impl_Pair.f, impl_OwnOk_eq, impl_in_eq, impl_nearOk_eq, Option.bind_some]
  unfold pair pairOk
  have hno := impl_Pair_no ai ah ac as_ bi bh bc bs far close near within
  cases ownB ai ah ac as_ with
  | false => simpa using hno
  | true =>
    cases ownB bi bh bc bs with
    | false => simpa using hno
    | true =>
      by_cases e : ai = bi
      · simpa [e] using hno
      · simp only [if_true, if_neg e, ne_eq, e, not_false_eq_true, decide_true, Bool.true_and]
        cases inB far 0 1000000 with
        | false => simpa using hno
        | true =>
          cases inB close (-1000) 1000 with
          | false => simpa using hno
          | true =>
            cases nearB near within with
            | false => simpa using hno
            | true =>
              simp only [if_true, Bool.and_self]
              refine ev_succ ?_
              simp only [impl_Pair.j0, Bool.not_true, Bool.false_eq_true, if_false]
              by_cases h : bi < ai
              · have := impl_Pair_j1 ai ah ac as_ bi bh bc bs bi bh bc bs ai ah ac as_ far close near within
                simp only [if_pos h] at this ⊢
                exact this
              · have := impl_Pair_j1 ai ah ac as_ bi bh bc bs ai ah ac as_ bi bh bc bs far close near within
                simp only [if_neg h] at this ⊢
                exact this
theorem rdiTrack {xs : List S35} {i : Nat} (h : i < xs.length) : rd_T35 xs (i : Int) = xs[i] := by
  simp [rd_T35, List.getD_eq_getElem?_getD, h]
/-- The nearest threat among tracks, from place i on. -/
def thr (o : Int × Int × Int × Int) (near within : Int) (t : S35) : Bool := threat o.1 o.2.1 o.2.2.1 o.2.2.2 t.f0 t.f1 t.f2 t.f3 t.f4 t.f5 near within
def tks (t : S35) : Int := (ticks t.f0 t.f1 t.f2 t.f3 t.f4 t.f5).1
def nearL (o : Int × Int × Int × Int) (near within : Int) : List S35 → Int → Int → Int → Int
  | [], best, _, _ => best
  | t :: r, best, least, i => if thr o near within t = true then (if best < 0 then nearL o near within r i (tks t) (i + 1) else if tks t < least then nearL o near within r i (tks t) (i + 1) else nearL o near within r best least (i + 1)) else nearL o near within r best least (i + 1)
def nearest (o : Int × Int × Int × Int) (l : List S35) (near within : Int) : Int × Bool :=
  if (l.length : Int) > 20 then (-1, false) else if nearL o near within l (-1) 0 0 < 0 then (-1, false) else (nearL o near within l (-1) 0 0, true)
theorem nearL_range (o : Int × Int × Int × Int) (near within : Int) : ∀ (l : List S35) (b c i : Int), 0 ≤ i → -1 ≤ b → -1 ≤ nearL o near within l b c i
  | [], b, c, i, _, h => h
  | t :: r, b, c, i, hi, h => by
    unfold nearL
    split
    · split
      · exact nearL_range o near within r _ _ _ (by omega) (by omega)
      · split
        · exact nearL_range o near within r _ _ _ (by omega) (by omega)
        · exact nearL_range o near within r _ _ _ (by omega) h
    · exact nearL_range o near within r _ _ _ (by omega) h
theorem impl_Nearest_l (o : Int × Int × Int × Int) (near within : Int) (l : List S35) (hn : l.length ≤ 140737488355328) (d : Nat) : ∀ (i : Nat) (b c : Int), i + d = l.length →
    Ev (fun k => impl_Nearest.l0 k l near within b c l (l.length : Int) (i : Int) o.1 o.2.1 o.2.2.1 o.2.2.2)
      (if (l.length : Int) > 20 then (-1, false) else if nearL o near within (l.drop i) b c (i : Int) < 0 then (-1, false) else (nearL o near within (l.drop i) b c (i : Int), true)) := by
  induction d with
  | zero =>
    intro i b c h
    refine ev_succ ?_
    simp only [impl_Nearest.l0, if_neg (show ¬ ((i : Int) < (l.length : Int)) by omega)]
    rw [List.drop_of_length_le (by omega)]
    unfold nearL
    by_cases h1 : (l.length : Int) > 20
    · simp only [if_pos h1]; exact ev_now _
    · simp only [if_neg h1]
      by_cases h2 : b < 0
      · simp only [if_pos h2]; exact ev_now _
      · simp only [if_neg h2]; exact ev_now _
  | succ d ih =>
    intro i b c h
    refine ev_succ ?_
    have hlt : i < l.length := by omega
    have e := List.drop_eq_getElem_cons hlt
    rw [e]
    simp only [impl_Nearest.l0, if_pos (show ((i : Int) < (l.length : Int)) by omega), if_pos (show (0 : Int) ≤ (i : Int) by omega), rdiTrack hlt, impl_Threat_eq, impl_TicksTo_eq, Option.bind_some, w64s i (by omega)]
    generalize l[i] = t
    unfold nearL
    simp only [show threat o.1 o.2.1 o.2.2.1 o.2.2.2 t.f0 t.f1 t.f2 t.f3 t.f4 t.f5 near within = thr o near within t from rfl, show (ticks t.f0 t.f1 t.f2 t.f3 t.f4 t.f5).1 = tks t from rfl]
    by_cases h1 : thr o near within t = true
    · simp only [if_pos h1]
      by_cases h2 : b < 0
      · simp only [if_pos h2]; exact ih (i + 1) _ _ (by omega)
      · simp only [if_neg h2]
        by_cases h3 : tks t < c
        · simp only [if_pos h3]; exact ih (i + 1) _ _ (by omega)
        · simp only [if_neg h3]; exact ih (i + 1) _ _ (by omega)
    · simp only [if_neg h1]; exact ih (i + 1) _ _ (by omega)
theorem impl_Nearest_ev (o : Int × Int × Int × Int) (l : List S35) (near within : Int) (hn : l.length ≤ 140737488355328) : Ev (fun k => impl_Nearest.f k o.1 o.2.1 o.2.2.1 o.2.2.2 l near within) (nearest o l near within) := by
  have := impl_Nearest_l o near within l hn l.length 0 (-1) 0 (by omega)
  simpa [impl_Nearest.f, nearest] using this
/-! What is drawn: a cursor over the bytes, at place i, with the number h. -/
def Cur (l : List Int) (i : Int) : Prop := l.length ≤ 1048576 ∧ 0 ≤ i ∧ i ≤ (l.length : Int)
theorem draw_new (l : List Int) (hl : l.length ≤ 1048576) : ∃ h, Ev (fun k => spec_l1New.f k l) (l, 0, h) := by
  have loop : ∀ (d : Nat) (i : Nat) (h : Int), i + d = l.length → ∃ h', Ev (fun k => spec_l1New.l0 k l h (i : Int)) (l, 0, h') := by
    intro d
    induction d with
    | zero =>
      intro i h hi
      refine ⟨h, ev_succ ?_⟩
      simp only [spec_l1New.l0, if_neg (show ¬ ((i : Int) < (l.length : Int)) by omega)]
      exact ev_now _
    | succ d ih =>
      intro i h hi
      by_cases h4 : (i : Int) < 4000
      · obtain ⟨h', hh⟩ := ih (i + 1) (Go.bits .and .i64 (wrap64 ((wrap64 ((wrap64 (h * 131)) + (wrap64 (rd l (i : Int))))) + 7)) 1073741823) (by omega)
        refine ⟨h', ev_succ ?_⟩
        simp only [spec_l1New.l0, if_pos (show ((i : Int) < (l.length : Int)) by omega), if_pos h4, if_pos (show (0 : Int) ≤ (i : Int) by omega), w64s i (by omega)]
        exact hh
      · refine ⟨h, ev_succ ?_⟩
        simp only [spec_l1New.l0, if_pos (show ((i : Int) < (l.length : Int)) by omega), if_neg h4]
        exact ev_now _
  obtain ⟨h', hh⟩ := loop l.length 0 (wrap64 (63063 + (l.length : Int))) (by omega)
  exact ⟨h', by simpa [spec_l1New.f] using hh⟩
theorem draw_byte {l : List Int} {i : Int} (h : Int) (hc : Cur l i) : ∃ v i' h', spec_l1Byte.f l i h = some (v, i', h') ∧ 0 ≤ v ∧ v ≤ 255 ∧ Cur l i' := by
  obtain ⟨h1, h2, h3⟩ := hc
  unfold spec_l1Byte.f
  by_cases e : i < (l.length : Int)
  · rw [if_pos e, if_pos h2]
    have := bits_and_le (wrap64 ((Go.bits .and .i64 (Go.bits .xor .i64 ((wrap64 ((wrap64 (h * 6364136223846793005)) + 1442695040888963407)) / 8589934592) ((wrap64 ((wrap64 (h * 6364136223846793005)) + 1442695040888963407)) / 35184372088832)) 255) + (wrap64 (rd l i)))) 255 (by omega) (by omega)
    exact ⟨_, _, _, rfl, this.1, this.2, h1, by rw [w64 (by omega) (by omega)]; omega, by rw [w64 (by omega) (by omega)]; omega⟩
  · rw [if_neg e]
    have := bits_and_le (Go.bits .xor .i64 ((wrap64 ((wrap64 (h * 6364136223846793005)) + 1442695040888963407)) / 8589934592) ((wrap64 ((wrap64 (h * 6364136223846793005)) + 1442695040888963407)) / 35184372088832)) 255 (by omega) (by omega)
    exact ⟨_, _, _, rfl, this.1, this.2, h1, h2, h3⟩
theorem draw_below {l : List Int} {i : Int} (h n : Int) (hc : Cur l i) (h0 : 0 < n) (h1 : n ≤ 1099511627776) : ∃ v i' h', spec_l1Below.f l i h n = some (v, i', h') ∧ 0 ≤ v ∧ v < n ∧ Cur l i' := by
  unfold spec_l1Below.f
  rw [if_neg (by omega)]
  by_cases e : n ≤ 256
  · obtain ⟨v, i', h', e1, v0, v1, c1⟩ := draw_byte h hc
    rw [if_pos e, e1]
    simp only [Option.bind_some, if_neg (show ¬ n = 0 by omega)]
    exact ⟨_, _, _, rfl, Int.tmod_nonneg _ v0, Int.tmod_lt_of_pos _ h0, c1⟩
  · obtain ⟨v, i', h', e1, v0, v1, c1⟩ := draw_byte h hc
    obtain ⟨v', i2, h2, e2, v2, v3, c2⟩ := draw_byte h' c1
    obtain ⟨v4, i3, h3, e3, v5, v6, c3⟩ := draw_byte h2 c2
    obtain ⟨v7, i4, h4, e4, v8, v9, c4⟩ := draw_byte h3 c3
    rw [if_neg e, e1]
    simp only [Option.bind_some, e2, e3, e4, if_neg (show ¬ n = 0 by omega)]
    refine ⟨_, _, _, rfl, ?_, Int.tmod_lt_of_pos _ h0, c4⟩
    rw [w64 (n := v * 16777216) (by omega) (by omega), w64 (n := v' * 65536) (by omega) (by omega), w64 (n := v4 * 256) (by omega) (by omega), w64 (n := v * 16777216 + v' * 65536) (by omega) (by omega), w64 (n := v * 16777216 + v' * 65536 + v4 * 256) (by omega) (by omega), w64 (by omega) (by omega)]
    exact Int.tmod_nonneg _ (by omega)
theorem draw_once {l : List Int} {i : Int} (h n : Int) (hc : Cur l i) (h0 : 0 < n) (h1 : n ≤ 1099511627776) : ∃ v i' h', spec_l1Once.f l i h n = some (v, i', h') ∧ Cur l i' := by
  obtain ⟨v, i', h', e1, _, _, c1⟩ := draw_below h n hc h0 h1
  unfold spec_l1Once.f
  rw [e1]
  exact ⟨_, _, _, rfl, c1⟩
/-- Two drawn aircraft: both right, without a sense, of unlike Ids. -/
structure Meet (x : Int × Int × Int × Int × Int × Int × Int × Int × Int × Int) : Prop where
  a : ownB x.1 x.2.1 x.2.2.1 0 = true
  sa : x.2.2.2.1 = 0
  b : ownB x.2.2.2.2.1 x.2.2.2.2.2.1 x.2.2.2.2.2.2.1 0 = true
  sb : x.2.2.2.2.2.2.2.1 = 0
  ids : x.1 ≠ x.2.2.2.2.1
  far : 0 ≤ x.2.2.2.2.2.2.2.2.1 ∧ x.2.2.2.2.2.2.2.2.1 < 3000
  close : 1 ≤ x.2.2.2.2.2.2.2.2.2 ∧ x.2.2.2.2.2.2.2.2.2 ≤ 100
theorem ownB_mk {a b c d : Int} (h1 : 1 ≤ a ∧ a ≤ 1000000) (h2 : 0 ≤ b ∧ b ≤ 60000) (h3 : -200 ≤ c ∧ c ≤ 200) (h4 : 0 ≤ d ∧ d ≤ 2) : ownB a b c d = true := by
  simp [ownB, inB]
  omega
theorem drawmeet_j {l : List Int} {i : Int} (h : Int) (hc : Cur l i) (ai ah ac bi bh bc : Int) (ha : ownB ai ah ac 0 = true) (hb : ownB bi bh bc 0 = true) (hne : ai ≠ bi) : ∃ x, Ev (fun k => spec_DrawMeet.j0 k l i h ai ah ac 0 bi bh bc 0) x ∧ Meet x := by
  obtain ⟨v, i1, h1, e1, c1⟩ := draw_once h 4 hc (by omega) (by omega)
  obtain ⟨v2, i2, h2, e2, f0, f1, c2⟩ := draw_below h1 3000 c1 (by omega) (by omega)
  obtain ⟨v3, i3, h3, e3, g0, g1, c3⟩ := draw_below h2 100 c2 (by omega) (by omega)
  have hw : wrap64 (1 + v3) = 1 + v3 := w64 (by omega) (by omega)
  have oa := ownB_in ha
  have ob := ownB_in hb
  cases v with
  | true =>
    refine ⟨(ai, ah, ac, 0, bi, ah, ac, 0, v2, 1 + v3), ev_succ ?_, ⟨ha, rfl, ownB_mk ob.1 oa.2.1 oa.2.2.1 (by omega), rfl, hne, ⟨f0, f1⟩, by simp only; omega⟩⟩
    simp only [spec_DrawMeet.j0, e1, e2, e3, Option.bind_some, if_true, hw]
    exact ev_now _
  | false =>
    refine ⟨(ai, ah, ac, 0, bi, bh, bc, 0, v2, 1 + v3), ev_succ ?_, ⟨ha, rfl, hb, rfl, hne, ⟨f0, f1⟩, by simp only; omega⟩⟩
    simp only [spec_DrawMeet.j0, e1, e2, e3, Option.bind_some, Bool.false_eq_true, if_false, hw]
    exact ev_now _
theorem drawmeet_ev (l : List Int) (hl : l.length ≤ 1048576) : ∃ x, Ev (fun k => spec_DrawMeet.f k l) x ∧ Meet x := by
  obtain ⟨h, hh⟩ := draw_new l hl
  obtain ⟨a1, i1, h1, e1, p1, q1, c1⟩ := draw_below (l := l) (i := 0) h 9 ⟨by omega, by omega, by omega⟩ (by omega) (by omega)
  obtain ⟨a2, i2, h2, e2, p2, q2, c2⟩ := draw_below h1 60 c1 (by omega) (by omega)
  obtain ⟨a3, i3, h3, e3, p3, q3, c3⟩ := draw_below h2 41 c2 (by omega) (by omega)
  obtain ⟨b1, i4, h4, e4, p4, q4, c4⟩ := draw_below h3 9 c3 (by omega) (by omega)
  obtain ⟨b2, i5, h5, e5, p5, q5, c5⟩ := draw_below h4 60 c4 (by omega) (by omega)
  obtain ⟨b3, i6, h6, e6, p6, q6, c6⟩ := draw_below h5 41 c5 (by omega) (by omega)
  obtain ⟨v, i7, h7, e7, c7⟩ := draw_once h6 2 c6 (by omega) (by omega)
  have w1 : wrap64 (1 + a1) = 1 + a1 := w64 (by omega) (by omega)
  have w2 : wrap64 (1000 + (wrap64 (a2 * 10))) = 1000 + a2 * 10 := by rw [w64 (n := a2 * 10) (by omega) (by omega), w64 (by omega) (by omega)]
  have w3 : wrap64 (a3 - 20) = a3 - 20 := w64 (by omega) (by omega)
  have w4 : wrap64 (10 + b1) = 10 + b1 := w64 (by omega) (by omega)
  have w5 : wrap64 (1000 + (wrap64 (b2 * 10))) = 1000 + b2 * 10 := by rw [w64 (n := b2 * 10) (by omega) (by omega), w64 (by omega) (by omega)]
  have w6 : wrap64 (b3 - 20) = b3 - 20 := w64 (by omega) (by omega)
  have oa : ownB (1 + a1) (1000 + a2 * 10) (a3 - 20) 0 = true := ownB_mk (by omega) (by omega) (by omega) (by omega)
  have ob : ownB (10 + b1) (1000 + b2 * 10) (b3 - 20) 0 = true := ownB_mk (by omega) (by omega) (by omega) (by omega)
  cases v with
  | true =>
    obtain ⟨x, hx, hm⟩ := drawmeet_j h7 c7 _ _ _ _ _ _ ob oa (by omega)
    refine ⟨x, ?_, hm⟩
    simp only [spec_DrawMeet.f]
    refine hh.bind ?_
    simp only [e1, e2, e3, e4, e5, e6, e7, Option.bind_some, if_true, w1, w2, w3, w4, w5, w6]
    exact hx
  | false =>
    obtain ⟨x, hx, hm⟩ := drawmeet_j h7 c7 _ _ _ _ _ _ oa ob (by omega)
    refine ⟨x, ?_, hm⟩
    simp only [spec_DrawMeet.f]
    refine hh.bind ?_
    simp only [e1, e2, e3, e4, e5, e6, e7, Option.bind_some, Bool.false_eq_true, if_false, w1, w2, w3, w4, w5, w6]
    exact hx
theorem absI_neg (x : Int) : absI (-x) = absI x := by unfold absI; split <;> split <;> omega
theorem trackB_mk {i h c r cl s : Int} (h1 : ownB i h c s = true) (h2 : 0 ≤ r ∧ r ≤ 1000000) (h3 : -1000 ≤ cl ∧ cl ≤ 1000) : trackB i h c r cl s = true := by
  simp only [trackB, h1, Bool.true_and, Bool.and_eq_true, inB_iff]
  exact ⟨h2, h3⟩
theorem ticks_mk {i h c r cl s : Int} (h1 : ownB i h c s = true) (h2 : 0 ≤ r ∧ r < 3000) (h3 : 1 ≤ cl ∧ cl ≤ 100) : ticks i h c r cl s = ((r + cl - 1) / cl, true) := by
  unfold ticks
  rw [if_pos ⟨trackB_mk h1 (by omega) (by omega), by omega⟩]
/-- What makes a threat of two that are right. -/
theorem threat_form {ai ah ac sa bi bh bc sb far close : Int} (ha : ownB ai ah ac sa = true) (hb : ownB bi bh bc sb = true) (hne : ai ≠ bi) (hf : 0 ≤ far ∧ far < 3000) (hc : 1 ≤ close ∧ close ≤ 100) :
    threat ai ah ac sa bi bh bc far close sb 600 100 = (decide ((far + close - 1) / close ≤ 100) && decide (absI (apart ah ac bh bc ((far + close - 1) / close)) < 600)) := by
  unfold threat
  rw [ticks_mk hb hf hc, ha]
  simp [hne, nearB, inB]
theorem threat_sym {ai ah ac sa sa' bi bh bc sb sb' far close : Int} (ha : ownB ai ah ac sa = true) (ha' : ownB ai ah ac sa' = true) (hb : ownB bi bh bc sb = true) (hb' : ownB bi bh bc sb' = true) (hne : ai ≠ bi) (hf : 0 ≤ far ∧ far < 3000) (hc : 1 ≤ close ∧ close ≤ 100) :
    threat ai ah ac sa bi bh bc far close sb 600 100 = threat bi bh bc sb' ai ah ac far close sa' 600 100 := by
  rw [threat_form ha hb hne hf hc, threat_form hb' ha' hne.symm hf hc]
  have e : apart bh bc ah ac ((far + close - 1) / close) = -(apart ah ac bh bc ((far + close - 1) / close)) := by unfold apart; omega
  rw [e, absI_neg]
theorem advise_no {oi oh oc os ti th tc tr tcl ts near within : Int} (h : threat oi oh oc os ti th tc tr tcl ts near within = false) : advise oi oh oc os ti th tc tr tcl ts near within = 0 := by
  unfold advise; rw [if_neg (by rw [h]; simp)]
theorem advise_two {oi oh oc ti th tc tr tcl near within : Int} (h : threat oi oh oc 0 ti th tc tr tcl 0 near within = true) : advise oi oh oc 0 ti th tc tr tcl 0 near within = 1 ∨ advise oi oh oc 0 ti th tc tr tcl 0 near within = 2 := by
  unfold advise
  rw [if_pos h, if_pos rfl, if_neg (by omega), if_neg (by omega)]
  simp only
  repeat' split
  all_goals simp
theorem advise_other {oi oh oc ti th tc tr tcl near within x : Int} (hx : x = 1 ∨ x = 2) (h : threat oi oh oc 0 ti th tc tr tcl x near within = true) : advise oi oh oc 0 ti th tc tr tcl x near within = 3 - x := by
  unfold advise
  rw [if_pos h, if_pos rfl]
  rcases hx with rfl | rfl <;> simp
theorem advise_kept {oi oh oc os ti th tc tr tcl ts near within : Int} (ho : os ≠ 0) (h : threat oi oh oc os ti th tc tr tcl ts near within = true) : advise oi oh oc os ti th tc tr tcl ts near within = os := by
  unfold advise
  rw [if_pos h, if_neg ho]
/-- Two without a sense: both advised, to unlike sides, or none. -/
theorem pairO_two {ai ah ac bi bh bc far close : Int} (ha : ownB ai ah ac 0 = true) (hb : ownB bi bh bc 0 = true) (hne : ai ≠ bi) (hf : 0 ≤ far ∧ far < 3000) (hc : 1 ≤ close ∧ close ≤ 100) :
    (threat ai ah ac 0 bi bh bc far close 0 600 100 = false ∧ pairO ai ah ac 0 bi bh bc 0 far close 600 100 = (0, 0)) ∨
    (threat ai ah ac 0 bi bh bc far close 0 600 100 = true ∧ ∃ x, (x = 1 ∨ x = 2) ∧ pairO ai ah ac 0 bi bh bc 0 far close 600 100 = (x, 3 - x)) := by
  have oa := ownB_in ha
  cases ht : threat ai ah ac 0 bi bh bc far close 0 600 100 with
  | false =>
    refine .inl ⟨rfl, ?_⟩
    unfold pairO
    simp only [advise_no ht, if_true]
    rw [advise_no (by rw [← threat_sym ha ha hb hb hne hf hc]; exact ht)]
  | true =>
    refine .inr ⟨rfl, ?_⟩
    have hx := advise_two ht
    unfold pairO
    simp only
    generalize advise ai ah ac 0 bi bh bc far close 0 600 100 = x at hx
    refine ⟨x, hx, ?_⟩
    rw [if_neg (by omega)]
    have ha' : ownB ai ah ac x = true := ownB_mk oa.1 oa.2.1 oa.2.2.1 (by omega)
    rw [advise_other hx (by rw [← threat_sym ha ha' hb hb hne hf hc]; exact ht)]
theorem nearest_one (o : Int × Int × Int × Int) (t : S35) (near within : Int) : nearest o [t] near within = if thr o near within t = true then (0, true) else (-1, false) := by
  unfold nearest nearL
  by_cases h : thr o near within t = true
  · simp [h, nearL]
  · simp [h, nearL]
theorem senses_j1 {ai ah ac bi bh bc far close x y : Int} (ha : ownB ai ah ac 0 = true) (hb : ownB bi bh bc 0 = true) (hne : ai ≠ bi) (hf : 0 ≤ far ∧ far < 3000) (hc : 1 ≤ close ∧ close ≤ 100)
    (h : (threat ai ah ac 0 bi bh bc far close 0 600 100 = false ∧ x = 0 ∧ y = 0) ∨ (threat ai ah ac 0 bi bh bc far close 0 600 100 = true ∧ (x = 1 ∨ x = 2) ∧ y = 3 - x)) :
    Ev (fun k => laws_FnSenses.j1 k x y (threat ai ah ac 0 bi bh bc far close 0 600 100) false ai ah ac 0 bi bh bc far close 0) true := by
  have oa := ownB_in ha
  refine ev_succ ?_
  rcases h with ⟨ht, rfl, rfl⟩ | ⟨ht, hx, rfl⟩
  · simp only [laws_FnSenses.j1, Bool.false_eq_true, if_false, ht]
    refine (impl_Nearest_ev (ai, ah, ac, 0) _ 600 100 (by simp)).bind ?_
    rw [nearest_one, if_neg (show ¬ (thr (ai, ah, ac, 0) 600 100 ⟨bi, bh, bc, far, close, 0⟩ = true) from fun h => by
      have h' : threat ai ah ac 0 bi bh bc far close 0 600 100 = true := h
      rw [ht] at h'
      cases h')]
    simp only [if_true, Bool.false_eq_true, if_false]
    exact ev_some (by decide)
  · simp only [laws_FnSenses.j1, Bool.false_eq_true, if_false, ht, if_true]
    have ha' : ownB ai ah ac x = true := ownB_mk oa.1 oa.2.1 oa.2.2.1 (by omega)
    have ht' : threat ai ah ac x bi bh bc far close 0 600 100 = true := by rw [threat_form ha' hb hne hf hc, ← threat_form ha hb hne hf hc]; exact ht
    refine (impl_Nearest_ev (ai, ah, ac, x) _ 600 100 (by simp)).bind ?_
    rw [nearest_one, if_pos (show thr (ai, ah, ac, x) 600 100 ⟨bi, bh, bc, far, close, 0⟩ = true from ht')]
    simp only [w64 (n := x + (3 - x)) (by omega) (by omega), if_pos (show x + (3 - x) = 3 by omega), if_neg (show ¬ x = 3 - x by omega), impl_Advise_eq, advise_kept (show x ≠ 0 by omega) ht', Option.bind_some, if_true]
    exact ev_some (by decide)
theorem FnSenses : laws_FnSenses.Pure := by
  intro l _ _ _
  refine Ev.rounds ?_
  simp only [laws_FnSenses.f, laws_big.f, Option.bind_some]
  by_cases hb : (l.length : Int) > 1048576
  · simp only [hb, decide_true, if_true]
    exact ev_now _
  · simp only [hb, decide_false, Bool.false_eq_true, if_false]
    obtain ⟨⟨ai, ah, ac, as_, bi, bh, bc, bs, far, close⟩, hd, ha, hsa, hbo, hsb, hne, hf, hc⟩ := drawmeet_ev l (by omega)
    simp only at ha hsa hbo hsb hne hf hc
    subst hsa; subst hsb
    refine hd.bind ?_
    have hok : pairOk ai ah ac 0 bi bh bc 0 far close 600 100 = true := by
      simp only [pairOk, ha, hbo, Bool.true_and, Bool.and_eq_true, decide_eq_true_eq, inB_iff, nearB]
      exact ⟨hne, by omega, by omega, by omega, by omega⟩
    have hok' : pairOk bi bh bc 0 ai ah ac 0 far close 600 100 = true := by
      simp only [pairOk, ha, hbo, Bool.true_and, Bool.and_eq_true, decide_eq_true_eq, inB_iff, nearB]
      exact ⟨hne.symm, by omega, by omega, by omega, by omega⟩
    obtain ⟨x, y, e1, e2, hxy⟩ : ∃ x y, pair ai ah ac 0 bi bh bc 0 far close 600 100 = (x, y, true) ∧ pair bi bh bc 0 ai ah ac 0 far close 600 100 = (y, x, true) ∧
        ((threat ai ah ac 0 bi bh bc far close 0 600 100 = false ∧ x = 0 ∧ y = 0) ∨ (threat ai ah ac 0 bi bh bc far close 0 600 100 = true ∧ (x = 1 ∨ x = 2) ∧ y = 3 - x)) := by
      unfold pair
      rw [if_pos hok, if_pos hok']
      by_cases h : bi < ai
      · rw [if_pos h, if_neg (show ¬ ai < bi by omega)]
        refine ⟨_, _, rfl, rfl, ?_⟩
        rw [threat_sym ha ha hbo hbo hne hf hc]
        rcases pairO_two hbo ha hne.symm hf hc with ⟨ht, e⟩ | ⟨ht, z, hz, e⟩
        · exact .inl ⟨ht, by rw [e], by rw [e]⟩
        · refine .inr ⟨ht, ?_, ?_⟩
          · rw [e]; simp only; omega
          · rw [e]; simp only; omega
      · rw [if_neg h, if_pos (show ai < bi by omega)]
        refine ⟨_, _, rfl, rfl, ?_⟩
        rcases pairO_two ha hbo hne hf hc with ⟨ht, e⟩ | ⟨ht, z, hz, e⟩
        · exact .inl ⟨ht, by rw [e], by rw [e]⟩
        · refine .inr ⟨ht, ?_, ?_⟩
          · rw [e]; exact hz
          · rw [e]
    have i1 := impl_Pair_ev ai ah ac 0 bi bh bc 0 far close 600 100
    have i2 := impl_Pair_ev bi bh bc 0 ai ah ac 0 far close 600 100
    rw [e1] at i1
    rw [e2] at i2
    refine i1.bind ?_
    refine i2.bind ?_
    simp only [if_true, impl_OwnOk_eq, ha, Option.bind_some, Bool.not_true]
    refine ev_succ ?_
    have hn0 := Int.ediv_nonneg (show 0 ≤ far + close - 1 by omega) (show 0 ≤ close by omega)
    have hm := Int.mul_ediv_add_emod (far + close - 1) close
    have hm0 := Int.emod_nonneg (far + close - 1) (show close ≠ 0 by omega)
    have hm1 := Int.emod_lt_of_pos (far + close - 1) (show 0 < close by omega)
    have hle : (far + close - 1) / close ≤ far + close - 1 := Int.ediv_le_self _ (by omega)
    simp only [laws_FnSenses.j0, Bool.false_eq_true, if_false, impl_Threat_eq, impl_TicksTo_eq, impl_TrackOk_eq, Option.bind_some, ticks_mk hbo hf hc, trackB_mk hbo (show 0 ≤ far ∧ far ≤ 1000000 by omega) (show -1000 ≤ close ∧ close ≤ 1000 by omega), if_true]
    have hj := senses_j1 (x := x) (y := y) ha hbo hne hf hc hxy
    generalize (far + close - 1) / close = n at *
    have e3 : n * close = far + close - 1 - (far + close - 1) % close := by rw [Int.mul_comm]; omega
    have e4 : (n - 1) * close = n * close - close := by rw [Int.sub_mul]; omega
    simp only [w64 (n := n * close) (by omega) (by omega), if_neg (show ¬ n * close < far by omega), w64 (n := n - 1) (by omega) (by omega), w64 (n := (n - 1) * close) (by omega) (by omega), if_neg (show ¬ (n - 1) * close ≥ far by omega)]
    exact hj
end Go.Proofs.Ythdldkkkehfedaa.Pure
