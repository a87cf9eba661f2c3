/- The program's Nearest answers as the reference's at every argument. No condition. -/
import Derived.Test.YthdldkkkehfedaaPFnExactNearestx4
import Derived.Test.YthdldkkkehfedaaBase
set_option linter.unusedVariables false
set_option linter.unusedSimpArgs false
namespace Go.Proofs.Ythdldkkkehfedaa.Pure
open Go.RowKit Go.Proofs.Ythdldkkkehfedaa.PFnExactNearest Go.Proofs.Ythdldkkkehfedaa.Base Go.Proofs.YthdldkkkehfedaaW.PrintWords Go.Proofs.YthdldkkkehfedaaW.PrintLast
theorem impl_in_eq (a b c : Int) : impl_in.f a b c = some (inB a b c) := in_form a b c
theorem spec_in_eq (a b c : Int) : spec_l1In.f a b c = some (inB a b c) := in_form a b c
/-! Chapter 15: what two aircraft are told. -/
def ownB (a b c d : Int) : Bool := inB a 1 1000000 && (inB b 0 60000 && (inB c (-200) 200 && inB d 0 2))
def trackB (i h c r cl s : Int) : Bool := ownB i h c s && (inB r 0 1000000 && inB cl (-1000) 1000)
def nearB (n w : Int) : Bool := inB n 0 10000 && inB w 1 300
def ticks (i h c r cl s : Int) : Int × Bool := if trackB i h c r cl s = true ∧ cl > 0 then ((r + cl - 1) / cl, true) else (0, false)
def absI (a : Int) : Int := if a < 0 then -a else a
def apart (oh oc th tc n : Int) : Int := oh + n * oc - th - n * tc
def threat (oi oh oc os ti th tc tr tcl ts near within : Int) : Bool :=
  (ticks ti th tc tr tcl ts).2 && (ownB oi oh oc os && (decide (oi ≠ ti) && (nearB near within && (decide ((ticks ti th tc tr tcl ts).1 ≤ within) && decide (absI (apart oh oc th tc (ticks ti th tc tr tcl ts).1) < near)))))
def advise (oi oh oc os ti th tc tr tcl ts near within : Int) : Int :=
  if threat oi oh oc os ti th tc tr tcl ts near within = true then
    (if os = 0 then (if ts = 1 then 2 else if ts = 2 then 1 else
      let d := apart oh oc th tc (ticks ti th tc tr tcl ts).1
      let n := (ticks ti th tc tr tcl ts).1
      if absI (d + 100 * n) > absI (d - 100 * n) then 1
      else if absI (d + 100 * n) = absI (d - 100 * n) then (if oh > th then 1 else if oh = th then (if oi > ti then 1 else 2) else 2) else 2)
    else os) else 0
theorem ownB_in {a b c d : Int} (h : ownB a b c d = true) : (1 ≤ a ∧ a ≤ 1000000) ∧ (0 ≤ b ∧ b ≤ 60000) ∧ (-200 ≤ c ∧ c ≤ 200) ∧ 0 ≤ d ∧ d ≤ 2 := by
  simp [ownB, inB] at h
  omega
theorem trackB_in {i h c r cl s : Int} (k : trackB i h c r cl s = true) : ((1 ≤ i ∧ i ≤ 1000000) ∧ (0 ≤ h ∧ h ≤ 60000) ∧ (-200 ≤ c ∧ c ≤ 200) ∧ 0 ≤ s ∧ s ≤ 2) ∧ (0 ≤ r ∧ r ≤ 1000000) ∧ -1000 ≤ cl ∧ cl ≤ 1000 := by
  simp [trackB, ownB, inB] at k
  omega
theorem ceil_eq {r cl : Int} (hc : 0 < cl) : (r + cl - 1) / cl = if r % cl = 0 then r / cl else r / cl + 1 := by
  have h1 := Int.mul_ediv_add_emod r cl
  have h2 := Int.emod_nonneg r (show cl ≠ 0 by omega)
  have h3 := Int.emod_lt_of_pos r hc
  generalize r / cl = q at *
  generalize r % cl = m at *
  have e : r + cl - 1 = (m + cl - 1) + q * cl := by rw [Int.mul_comm q cl]; omega
  rw [e, Int.add_mul_ediv_right _ _ (by omega)]
  by_cases z : m = 0
  · rw [if_pos z, Int.ediv_eq_zero_of_lt (by omega) (by omega)]; omega
  · rw [if_neg z, show m + cl - 1 = (m - 1) + 1 * cl by omega, Int.add_mul_ediv_right _ _ (by omega), Int.ediv_eq_zero_of_lt (by omega) (by omega)]; omega
theorem ticks_in {i h c r cl s : Int} (hk : (ticks i h c r cl s).2 = true) : trackB i h c r cl s = true ∧ cl > 0 ∧ 0 ≤ (ticks i h c r cl s).1 ∧ (ticks i h c r cl s).1 ≤ 1000000 ∧ (ticks i h c r cl s).1 = (r + cl - 1) / cl := by
  unfold ticks at hk ⊢
  by_cases x : trackB i h c r cl s = true ∧ cl > 0
  · rw [if_pos x] at hk ⊢
    have hb := trackB_in x.1
    refine ⟨x.1, x.2, Int.ediv_nonneg (by omega) (by omega), ?_, rfl⟩
    show (r + cl - 1) / cl ≤ 1000000
    rw [ceil_eq x.2]
    have h1 := Int.mul_ediv_add_emod r cl
    have h2 := Int.emod_nonneg r (show cl ≠ 0 by omega)
    have h3 := Int.emod_lt_of_pos r x.2
    have h4 : r / cl ≤ r := Int.ediv_le_self _ (by omega)
    by_cases z : r % cl = 0
    · rw [if_pos z]; omega
    · rw [if_neg z]
      have : r / cl < 1000000 := by
        refine Classical.byContradiction fun hx => ?_
        have : cl * (r / cl) ≥ 1 * (r / cl) := Int.mul_le_mul_of_nonneg_right (by omega) (by omega)
        omega
      omega
  · rw [if_neg x] at hk; cases hk
theorem mul_bd {n c N C : Int} (h0 : 0 ≤ n) (hN : n ≤ N) (h1 : -C ≤ c) (h2 : c ≤ C) (hC : 0 ≤ C) : -(N * C) ≤ n * c ∧ n * c ≤ N * C := by
  have a1 : n * c ≤ n * C := Int.mul_le_mul_of_nonneg_left h2 h0
  have a2 : n * C ≤ N * C := Int.mul_le_mul_of_nonneg_right hN hC
  have a3 : n * (-C) ≤ n * c := Int.mul_le_mul_of_nonneg_left h1 h0
  rw [Int.mul_neg] at a3
  omega
/-- Nothing wraps in how far apart they are. -/
theorem apart_in {oh oc th tc n : Int} (h0 : 0 ≤ n) (hN : n ≤ 1000000) (h1 : 0 ≤ oh ∧ oh ≤ 60000) (h2 : -200 ≤ oc ∧ oc ≤ 200) (h3 : 0 ≤ th ∧ th ≤ 60000) (h4 : -200 ≤ tc ∧ tc ≤ 200) :
    wrap64 ((wrap64 ((wrap64 (oh + (wrap64 (n * oc)))) - th)) - (wrap64 (n * tc))) = apart oh oc th tc n ∧ -400060000 ≤ apart oh oc th tc n ∧ apart oh oc th tc n ≤ 400060000 := by
  have b1 := mul_bd (N := 1000000) (C := 200) h0 hN h2.1 h2.2 (by omega)
  have b2 := mul_bd (N := 1000000) (C := 200) h0 hN h4.1 h4.2 (by omega)
  unfold apart
  generalize n * oc = x at *
  generalize n * tc = y at *
  rw [w64 (n := x) (by omega) (by omega), w64 (n := y) (by omega) (by omega), w64 (n := oh + x) (by omega) (by omega), w64 (n := oh + x - th) (by omega) (by omega), w64 (by omega) (by omega)]
  omega
theorem impl_OwnOk_eq (a b c d : Int) : impl_OwnOk.f a b c d = some (ownB a b c d) := by
  simp only [impl_OwnOk.f, impl_in_eq, Option.bind_some, ownB]
  cases inB a 1 1000000 <;> cases inB b 0 60000 <;> cases inB c (-200) 200 <;> simp
theorem impl_TrackOk_eq (i h c r cl s : Int) : impl_TrackOk.f i h c r cl s = some (trackB i h c r cl s) := by
  simp only [impl_TrackOk.f, impl_OwnOk_eq, impl_in_eq, Option.bind_some, trackB]
  cases ownB i h c s <;> cases inB r 0 1000000 <;> simp
theorem impl_nearOk_eq (n w : Int) : impl_nearOk.f n w = some (nearB n w) := by
  simp only [impl_nearOk.f, impl_in_eq, Option.bind_some, nearB]
  cases inB n 0 10000 <;> simp
theorem impl_ceilOver_eq {r cl : Int} (h0 : 0 ≤ r) (h1 : r ≤ 1000000) (h2 : 0 < cl) : impl_ceilOver.f r cl = some ((r + cl - 1) / cl) := by
  have t1 : Int.tdiv (-r) cl = -(r / cl) := by rw [Int.neg_tdiv, Int.tdiv_eq_ediv_of_nonneg h0]
  have t2 : Int.tmod (-r) cl = -(r % cl) := by rw [Int.neg_tmod, Int.tmod_eq_emod_of_nonneg h0]
  have h3 := Int.emod_nonneg r (show cl ≠ 0 by omega)
  have h4 := Int.ediv_nonneg h0 (show 0 ≤ cl by omega)
  have h5 : r / cl ≤ r := Int.ediv_le_self _ h0
  have hr0 := Int.mul_ediv_add_emod r cl
  simp only [impl_ceilOver.f, impl_floorOver.f, w64 (show -9223372036854775808 ≤ -r by omega) (by omega), if_neg (show ¬ cl = 0 by omega), t1, t2, ceil_eq h2]
  by_cases z : r % cl = 0
  · rw [if_pos (by omega), if_pos z, w64 (by omega) (by omega), Option.bind_some, w64 (by omega) (by omega)]
    congr 1; omega
  · have hr : 0 < r := by
      refine Classical.byContradiction fun x => z ?_
      have : r = 0 := by omega
      rw [this]; simp
    rw [if_neg (by omega), if_neg z, if_pos (by simp; omega), w64 (n := -(r / cl)) (by omega) (by omega), w64 (by omega) (by omega), Option.bind_some, w64 (by omega) (by omega)]
    congr 1; omega
theorem impl_TicksTo_eq (i h c r cl s : Int) : impl_TicksTo.f i h c r cl s = some (ticks i h c r cl s) := by
  simp only [impl_TicksTo.f, impl_TrackOk_eq, Option.bind_some]
  unfold ticks
  by_cases x : trackB i h c r cl s = true
  · by_cases y : cl ≤ 0
    · rw [if_pos x, if_pos y, if_neg (by omega)]
    · have hb := trackB_in x
      rw [if_pos x, if_neg y, impl_ceilOver_eq (by omega) (by omega) (by omega), Option.bind_some, if_pos ⟨x, by omega⟩]
  · rw [if_neg x, if_neg (fun h => x h.1)]
theorem impl_size_eq {a : Int} (h0 : -9223372036854775807 ≤ a) (h1 : a ≤ 9223372036854775807) : impl_size.f a = some (absI a) := by
  unfold impl_size.f absI mx
  rw [w64 (by omega) (by omega)]
  congr 1
  by_cases h : a < 0
  · rw [if_pos (by omega), if_pos h]
  · rw [if_neg (by omega), if_neg h]
theorem impl_Threat_eq (oi oh oc os ti th tc tr tcl ts near within : Int) : impl_Threat.f oi oh oc os ti th tc tr tcl ts near within = some (threat oi oh oc os ti th tc tr tcl ts near within) := by
  simp only [impl_Threat.f, impl_TicksTo_eq, impl_OwnOk_eq, impl_nearOk_eq, Option.bind_some]
  unfold threat
  by_cases x : (ticks ti th tc tr tcl ts).2 = true
  · have hx := ticks_in x
    have hb := trackB_in hx.1
    by_cases y : ownB oi oh oc os = true
    · have ho := ownB_in y
      have ha := apart_in (n := (ticks ti th tc tr tcl ts).1) hx.2.2.1 hx.2.2.2.1 ho.2.1 ho.2.2.1 hb.1.2.1 hb.1.2.2.1
      simp only [x, y, if_true, ha.1]
      rw [impl_size_eq (by omega) (by omega)]
      by_cases e : oi = ti
      · simp [e]
      · cases nearB near within
        · simp [e]
        · by_cases g : (ticks ti th tc tr tcl ts).1 > within
          · simp [e, g, show ¬ (ticks ti th tc tr tcl ts).1 ≤ within by omega]
          · simp [e, g, show (ticks ti th tc tr tcl ts).1 ≤ within by omega]
    · simp [x, y]
  · simp [x]
theorem threat_in {oi oh oc os ti th tc tr tcl ts near within : Int} (h : threat oi oh oc os ti th tc tr tcl ts near within = true) : (ticks ti th tc tr tcl ts).2 = true ∧ ownB oi oh oc os = true ∧ oi ≠ ti := by
  simp [threat] at h
  exact ⟨h.1, h.2.1, h.2.2.1⟩
theorem spec_OwnOk_eq (a b c d : Int) : spec_OwnOk.f a b c d = some (ownB a b c d) := by
  simp only [spec_OwnOk.f, spec_in_eq, Option.bind_some, ownB]
  cases inB a 1 1000000 <;> cases inB b 0 60000 <;> cases inB c (-200) 200 <;> simp
theorem spec_TrackOk_eq (i h c r cl s : Int) : spec_TrackOk.f i h c r cl s = some (trackB i h c r cl s) := by
  simp only [spec_TrackOk.f, spec_OwnOk_eq, spec_in_eq, Option.bind_some, trackB]
  cases ownB i h c s <;> cases inB r 0 1000000 <;> simp
theorem spec_TicksTo_eq (i h c r cl s : Int) : spec_TicksTo.f i h c r cl s = some (ticks i h c r cl s) := by
  simp only [spec_TicksTo.f, spec_TrackOk_eq, Option.bind_some]
  unfold ticks
  by_cases x : trackB i h c r cl s = true
  · by_cases y : cl ≤ 0
    · rw [if_pos x, if_pos y, if_neg (by omega)]
    · have hb := trackB_in x
      have h4 := Int.ediv_nonneg (show 0 ≤ r + cl - 1 by omega) (show 0 ≤ cl by omega)
      have h5 : (r + cl - 1) / cl ≤ r + cl - 1 := Int.ediv_le_self _ (by omega)
      rw [if_pos x, if_neg y, if_neg (by omega), if_pos ⟨x, by omega⟩, w64 (n := r + cl) (by omega) (by omega), w64 (n := r + cl - 1) (by omega) (by omega), Int.tdiv_eq_ediv_of_nonneg (by omega), w64 (by omega) (by omega)]
  · rw [if_neg x, if_neg (fun h => x h.1)]
theorem spec_abs_eq {a : Int} (h0 : -9223372036854775807 ≤ a) (h1 : a ≤ 9223372036854775807) : spec_l1Abs.f a = some (absI a) := by
  unfold spec_l1Abs.f absI
  by_cases h : a < 0
  · rw [if_pos h, if_pos h, w64 (by omega) (by omega)]
  · rw [if_neg h, if_neg h]
theorem spec_Threat_eq (oi oh oc os ti th tc tr tcl ts near within : Int) : spec_Threat.f oi oh oc os ti th tc tr tcl ts near within = some (threat oi oh oc os ti th tc tr tcl ts near within) := by
  simp only [spec_Threat.f, spec_TicksTo_eq, spec_OwnOk_eq, spec_in_eq, Option.bind_some]
  unfold threat nearB
  by_cases x : (ticks ti th tc tr tcl ts).2 = true
  · have hx := ticks_in x
    have hb := trackB_in hx.1
    by_cases y : ownB oi oh oc os = true
    · have ho := ownB_in y
      have ha := apart_in (n := (ticks ti th tc tr tcl ts).1) hx.2.2.1 hx.2.2.2.1 ho.2.1 ho.2.2.1 hb.1.2.1 hb.1.2.2.1
      simp only [x, y, if_true, ha.1]
      rw [spec_abs_eq (by omega) (by omega)]
      by_cases e : oi = ti
      · simp [e]
      · cases inB near 0 10000
        · simp [e]
        · cases inB within 1 300
          · simp [e]
          · by_cases g : (ticks ti th tc tr tcl ts).1 > within
            · simp [e, g, show ¬ (ticks ti th tc tr tcl ts).1 ≤ within by omega]
            · simp [e, g, show (ticks ti th tc tr tcl ts).1 ≤ within by omega]
    · simp [x, y]
  · simp [x]
theorem szTrackS_eq (xs : List S31) (left : Int) (h0 : 0 ≤ left) (h1 : left ≤ 1048576) (hn : xs.length ≤ 140737488355328) : laws_szTrackS.f xs left = some (if left - (xs.length : Int) < 0 then -1 else left - (xs.length : Int)) := by
  unfold laws_szTrackS.f
  rw [w64 (by omega) (by omega)]
  split <;> rfl
/-! The helpers over Tracks. -/
def convTrack (x : S31) : S35 := ⟨x.f0, x.f1, x.f2, x.f3, x.f4, x.f5⟩
theorem rdlTrack {xs : List S31} {i : Nat} (h : i < xs.length) : rd_T31 xs (i : Int) = xs[i] := by
  simp [rd_T31, List.getD_eq_getElem?_getD, h]
theorem rdiTrack {xs : List S35} {i : Nat} (h : i < xs.length) : rd_T35 xs (i : Int) = xs[i] := by
  simp [rd_T35, List.getD_eq_getElem?_getD, h]
theorem dropTrack {xs : List S35} {i : Nat} (h : i < xs.length) : xs.drop i = rd_T35 xs (i : Int) :: xs.drop (i + 1) := by
  rw [List.drop_eq_getElem_cons h, rdiTrack h]
theorem toTrackS_l (xs : List S31) (hn : xs.length ≤ 5864062014805) (d : Nat) : ∀ i : Nat, i + d = xs.length →
    Ev (fun k => laws_toTrackS.l0 k xs ((xs.map convTrack).take i ++ List.replicate (xs.length - i) z35) (i : Int)) (xs.map convTrack) := by
  induction d with
  | zero =>
    intro i h
    refine ev_succ ?_
    simp only [laws_toTrackS.l0, if_neg (show ¬ ((i : Int) < (xs.length : Int)) by omega)]
    exact ev_some (by rw [List.take_of_length_le (by simp; omega), show xs.length - i = 0 by omega]; simp)
  | succ d ih =>
    intro i h
    refine ev_succ ?_
    have hlt : i < xs.length := by omega
    have hl : (((xs.map convTrack).take i ++ List.replicate (xs.length - i) z35).length : Int) = (xs.length : Int) := by simp; omega
    have hs := take_setG (xs := xs) (c := convTrack) hlt z35
    simp only [laws_toTrackS.l0, if_pos (show ((i : Int) < (xs.length : Int)) by omega), if_pos (show (0 : Int) ≤ (i : Int) by omega), hl, w64s i (by omega), Int.toNat_natCast, rdlTrack hlt, laws_toTrack.f, Option.bind_some]
    rw [show ((xs.map convTrack).take i ++ List.replicate (xs.length - i) z35).set i ⟨(xs[i]).f0, (xs[i]).f1, (xs[i]).f2, (xs[i]).f3, (xs[i]).f4, (xs[i]).f5⟩ = _ from hs]
    exact ih (i + 1) (by omega)
theorem toTrackS_ev (xs : List S31) (hn : xs.length ≤ 5864062014805) : Ev (fun k => laws_toTrackS.f k xs) (xs.map convTrack) := by
  simp only [laws_toTrackS.f, if_pos (show (0 : Int) ≤ (xs.length : Int) by omega), Int.toNat_natCast, if_pos hn]
  simpa using toTrackS_l xs hn xs.length 0 (by omega)
theorem eqTrackS_l (xs : List S35) (hn : xs.length ≤ 140737488355328) (d : Nat) : ∀ i : Nat, i + d = xs.length →
    Ev (fun k => laws_eqTrackS.l0 k xs xs (i : Int)) true := by
  induction d with
  | zero =>
    intro i h
    refine ev_succ ?_
    simp only [laws_eqTrackS.l0, if_neg (show ¬ ((i : Int) < (xs.length : Int)) by omega)]
    exact ev_now _
  | succ d ih =>
    intro i h
    refine ev_succ ?_
    simp only [laws_eqTrackS.l0, if_pos (show ((i : Int) < (xs.length : Int)) by omega), if_pos (show (0 : Int) ≤ (i : Int) by omega), w64s i (by omega), laws_eqTrack.f, Option.bind_some, if_true]
    exact ih (i + 1) (by omega)
theorem eqTrackS_self (xs : List S35) (hn : xs.length ≤ 140737488355328) : Ev (fun k => laws_eqTrackS.f k xs xs) true := by
  simp only [laws_eqTrackS.f, if_true]
  simpa using eqTrackS_l xs hn xs.length 0 (by omega)
/-- The nearest threat among tracks, from place i on. -/
def thr (o : Int × Int × Int × Int) (near within : Int) (t : S35) : Bool := threat o.1 o.2.1 o.2.2.1 o.2.2.2 t.f0 t.f1 t.f2 t.f3 t.f4 t.f5 near within
def tks (t : S35) : Int := (ticks t.f0 t.f1 t.f2 t.f3 t.f4 t.f5).1
def nearL (o : Int × Int × Int × Int) (near within : Int) : List S35 → Int → Int → Int → Int
  | [], best, _, _ => best
  | t :: r, best, least, i => if thr o near within t = true then (if best < 0 then nearL o near within r i (tks t) (i + 1) else if tks t < least then nearL o near within r i (tks t) (i + 1) else nearL o near within r best least (i + 1)) else nearL o near within r best least (i + 1)
def nearest (o : Int × Int × Int × Int) (l : List S35) (near within : Int) : Int × Bool :=
  if (l.length : Int) > 20 then (-1, false) else if nearL o near within l (-1) 0 0 < 0 then (-1, false) else (nearL o near within l (-1) 0 0, true)
theorem nearL_range (o : Int × Int × Int × Int) (near within : Int) : ∀ (l : List S35) (b c i : Int), 0 ≤ i → -1 ≤ b → -1 ≤ nearL o near within l b c i
  | [], b, c, i, _, h => h
  | t :: r, b, c, i, hi, h => by
    unfold nearL
    split
    · split
      · exact nearL_range o near within r _ _ _ (by omega) (by omega)
      · split
        · exact nearL_range o near within r _ _ _ (by omega) (by omega)
        · exact nearL_range o near within r _ _ _ (by omega) h
    · exact nearL_range o near within r _ _ _ (by omega) h
theorem impl_Nearest_l (o : Int × Int × Int × Int) (near within : Int) (l : List S35) (hn : l.length ≤ 140737488355328) (d : Nat) : ∀ (i : Nat) (b c : Int), i + d = l.length →
    Ev (fun k => impl_Nearest.l0 k l near within b c l (l.length : Int) (i : Int) o.1 o.2.1 o.2.2.1 o.2.2.2)
      (if (l.length : Int) > 20 then (-1, false) else if nearL o near within (l.drop i) b c (i : Int) < 0 then (-1, false) else (nearL o near within (l.drop i) b c (i : Int), true)) := by
  induction d with
  | zero =>
    intro i b c h
    refine ev_succ ?_
    simp only [impl_Nearest.l0, if_neg (show ¬ ((i : Int) < (l.length : Int)) by omega)]
    rw [List.drop_of_length_le (by omega)]
    unfold nearL
    by_cases h1 : (l.length : Int) > 20
    · simp only [if_pos h1]; exact ev_now _
    · simp only [if_neg h1]
      by_cases h2 : b < 0
      · simp only [if_pos h2]; exact ev_now _
      · simp only [if_neg h2]; exact ev_now _
  | succ d ih =>
    intro i b c h
    refine ev_succ ?_
    have hlt : i < l.length := by omega
    have e := List.drop_eq_getElem_cons hlt
    rw [e]
    simp only [impl_Nearest.l0, if_pos (show ((i : Int) < (l.length : Int)) by omega), if_pos (show (0 : Int) ≤ (i : Int) by omega), rdiTrack hlt, impl_Threat_eq, impl_TicksTo_eq, Option.bind_some, w64s i (by omega)]
    generalize l[i] = t
    unfold nearL
    simp only [show threat o.1 o.2.1 o.2.2.1 o.2.2.2 t.f0 t.f1 t.f2 t.f3 t.f4 t.f5 near within = thr o near within t from rfl, show (ticks t.f0 t.f1 t.f2 t.f3 t.f4 t.f5).1 = tks t from rfl]
    by_cases h1 : thr o near within t = true
    · simp only [if_pos h1]
      by_cases h2 : b < 0
      · simp only [if_pos h2]; exact ih (i + 1) _ _ (by omega)
      · simp only [if_neg h2]
        by_cases h3 : tks t < c
        · simp only [if_pos h3]; exact ih (i + 1) _ _ (by omega)
        · simp only [if_neg h3]; exact ih (i + 1) _ _ (by omega)
    · simp only [if_neg h1]; exact ih (i + 1) _ _ (by omega)
theorem impl_Nearest_ev (o : Int × Int × Int × Int) (l : List S35) (near within : Int) (hn : l.length ≤ 140737488355328) : Ev (fun k => impl_Nearest.f k o.1 o.2.1 o.2.2.1 o.2.2.2 l near within) (nearest o l near within) := by
  have := impl_Nearest_l o near within l hn l.length 0 (-1) 0 (by omega)
  simpa [impl_Nearest.f, nearest] using this
theorem spec_Nearest_l (o : Int × Int × Int × Int) (near within : Int) (l : List S35) (hn : l.length ≤ 20) (d : Nat) : ∀ (i : Nat) (b c : Int), i + d = l.length →
    Ev (fun k => spec_Nearest.l0 k l near within b c (i : Int) o.1 o.2.1 o.2.2.1 o.2.2.2) (nearL o near within (l.drop i) b c (i : Int), decide (nearL o near within (l.drop i) b c (i : Int) ≥ 0)) := by
  induction d with
  | zero =>
    intro i b c h
    refine ev_succ ?_
    simp only [spec_Nearest.l0, if_neg (show ¬ ((i : Int) < (l.length : Int)) by omega)]
    rw [List.drop_of_length_le (by omega)]
    unfold nearL
    refine ev_succ ?_
    simp only [spec_Nearest.j1, Bool.false_eq_true, if_false]
    exact ev_now _
  | succ d ih =>
    intro i b c h
    refine ev_succ ?_
    have hlt : i < l.length := by omega
    have e := List.drop_eq_getElem_cons hlt
    rw [e]
    simp only [spec_Nearest.l0, if_pos (show ((i : Int) < (l.length : Int)) by omega), show decide ((l.length : Int) ≤ 20) = true from decide_eq_true (by omega)]
    refine ev_succ ?_
    simp only [spec_Nearest.j1, if_true, if_pos (show ((i : Int) < (l.length : Int)) by omega), if_pos (show (0 : Int) ≤ (i : Int) by omega), rdiTrack hlt, spec_Threat_eq, spec_TicksTo_eq, Option.bind_some, w64s i (by omega)]
    generalize l[i] = t
    unfold nearL
    simp only [show threat o.1 o.2.1 o.2.2.1 o.2.2.2 t.f0 t.f1 t.f2 t.f3 t.f4 t.f5 near within = thr o near within t from rfl, show (ticks t.f0 t.f1 t.f2 t.f3 t.f4 t.f5).1 = tks t from rfl]
    by_cases h1 : thr o near within t = true
    · simp only [if_pos h1]
      by_cases h2 : b < 0
      · simp only [if_pos h2]; exact ih (i + 1) _ _ (by omega)
      · simp only [if_neg h2]
        by_cases h3 : tks t < c
        · simp only [if_pos h3]; exact ih (i + 1) _ _ (by omega)
        · simp only [if_neg h3]; exact ih (i + 1) _ _ (by omega)
    · simp only [if_neg h1]; exact ih (i + 1) _ _ (by omega)
theorem spec_Nearest_ev (o : Int × Int × Int × Int) (l : List S35) (near within : Int) (hn : l.length ≤ 140737488355328) : Ev (fun k => spec_Nearest.f k o.1 o.2.1 o.2.2.1 o.2.2.2 l near within) (nearest o l near within) := by
  unfold nearest
  simp only [spec_Nearest.f]
  by_cases h : (l.length : Int) > 20
  · simp only [if_pos h]
    refine ev_succ ?_
    simp only [spec_Nearest.l0, if_pos (show (0 : Int) < (l.length : Int) by omega), show decide ((l.length : Int) ≤ 20) = false from decide_eq_false (by omega)]
    refine ev_succ ?_
    simp only [spec_Nearest.j1, Bool.false_eq_true, if_false]
    exact ev_some (by simp)
  · simp only [if_neg h]
    have := spec_Nearest_l o near within l (by omega) l.length 0 (-1) 0 (by omega)
    have hr := nearL_range o near within l (-1) 0 0 (by omega) (by omega)
    simp only [List.drop_zero, Int.natCast_zero] at this
    by_cases h2 : nearL o near within l (-1) 0 0 < 0
    · rw [if_pos h2]
      refine ev_val this ?_
      rw [show nearL o near within l (-1) 0 0 = -1 by omega]
      simp
    · rw [if_neg h2]
      refine ev_val this ?_
      rw [show decide (nearL o near within l (-1) 0 0 ≥ 0) = true from decide_eq_true (by omega)]
theorem FnExactNearest (a0_0 : Int) (a0_1 : Int) (a0_2 : Int) (a0_3 : Int) (l1 : List (S31)) (a2 : Int) (a3 : Int) (g0 : ((Lit.int .i64 a0_0).wf = true ∧ (Lit.int .i64 a0_1).wf = true ∧ (Lit.int .i64 a0_2).wf = true ∧ (Lit.int .i64 a0_3).wf = true)) (g1 : (l1.length * 48 ≤ 140737488351232 ∧ ∀ x ∈ l1, ((Lit.int .i64 x.f0).wf = true ∧ (Lit.int .i64 x.f1).wf = true ∧ (Lit.int .i64 x.f2).wf = true ∧ (Lit.int .i64 x.f3).wf = true ∧ (Lit.int .i64 x.f4).wf = true ∧ (Lit.int .i64 x.f5).wf = true))) (g2 : (Lit.int .i64 a2).wf = true) (g3 : (Lit.int .i64 a3).wf = true) : ∃ k, laws_FnExactNearest.f k a0_0 a0_1 a0_2 a0_3 l1 a2 a3 = some true := by
  have hn : l1.length ≤ 5864062014805 := by omega
  refine Ev.rounds ?_
  simp only [laws_FnExactNearest.f, szTrackS_eq l1 1048576 (by omega) (by omega) (by omega), Option.bind_some, laws_toOwn.f]
  by_cases hs : (1048576 : Int) - (l1.length : Int) < 0
  · simp only [if_pos hs]
    exact ev_now _
  · simp only [if_neg hs]
    refine (toTrackS_ev l1 hn).bind ?_
    refine (spec_Nearest_ev (a0_0, a0_1, a0_2, a0_3) (l1.map convTrack) a2 a3 (by simp; omega)).bind ?_
    refine (toTrackS_ev l1 hn).bind ?_
    refine (impl_Nearest_ev (a0_0, a0_1, a0_2, a0_3) (l1.map convTrack) a2 a3 (by simp; omega)).bind ?_
    simp only [if_true]
    refine ev_succ ?_
    simp only [laws_FnExactNearest.j0, bne_self_eq_false, Bool.false_eq_true, if_false]
    refine (toTrackS_ev l1 hn).bind ?_
    exact (eqTrackS_self _ (by simp; omega)).bind (f := fun _ t => if t = true then some true else some false) (ev_now _)
end Go.Proofs.Ythdldkkkehfedaa.Pure
