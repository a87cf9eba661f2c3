/- The program's Alert answers as the reference's at every argument. No condition. -/
import Derived.Test.YthdldkkkehfedaaPFnExactAlertx2
import Derived.Test.YthdldkkkehfedaaBase
set_option linter.unusedVariables false
set_option linter.unusedSimpArgs false
namespace Go.Proofs.Ythdldkkkehfedaa.Pure
open Go.RowKit Go.Proofs.Ythdldkkkehfedaa.PFnExactAlert Go.Proofs.Ythdldkkkehfedaa.Base Go.Proofs.YthdldkkkehfedaaW.PrintWords Go.Proofs.YthdldkkkehfedaaW.PrintLast
theorem impl_in_eq (a b c : Int) : impl_in.f a b c = some (inB a b c) := in_form a b c
theorem spec_in_eq (a b c : Int) : spec_l1In.f a b c = some (inB a b c) := in_form a b c
theorem impl_allIn_l (b c : Int) (xs : List Int) (hn : xs.length < 4611686018427387904) (d : Nat) : ∀ i : Nat, i + d = xs.length →
    Ev (fun k => impl_allIn.l0 k b c xs (xs.length : Int) (i : Int)) (allB (xs.drop i) b c) := by
  induction d with
  | zero =>
    intro i h
    refine ev_succ ?_
    simp only [impl_allIn.l0, if_neg (show ¬ ((i : Int) < (xs.length : Int)) by omega)]
    rw [List.drop_of_length_le (by omega)]
    exact ev_now _
  | succ d ih =>
    intro i h
    refine ev_succ ?_
    simp only [impl_allIn.l0, if_pos (show ((i : Int) < (xs.length : Int)) by omega), if_pos (show (0 : Int) ≤ (i : Int) by omega), impl_in_eq, Option.bind_some, w64s i (by omega)]
    rw [drop_rd (show i < xs.length by omega)]
    cases hb : inB (rd xs (i : Int)) b c with
    | true => simpa [allB, hb] using ih (i + 1) (by omega)
    | false => simpa [allB, hb] using ev_now false
theorem impl_allIn_ev (b c : Int) (xs : List Int) (hn : xs.length < 4611686018427387904) : Ev (fun k => impl_allIn.f k xs b c) (allB xs b c) := by
  simpa [impl_allIn.f] using impl_allIn_l b c xs hn xs.length 0 (by omega)
theorem spec_l1All_l (b c : Int) (xs : List Int) (hn : xs.length < 4611686018427387904) (d : Nat) : ∀ i : Nat, i + d = xs.length →
    Ev (fun k => spec_l1All.l0 k xs b c (i : Int)) (allB (xs.drop i) b c) := by
  induction d with
  | zero =>
    intro i h
    refine ev_succ ?_
    simp only [spec_l1All.l0, if_neg (show ¬ ((i : Int) < (xs.length : Int)) by omega)]
    rw [List.drop_of_length_le (by omega)]
    exact ev_now _
  | succ d ih =>
    intro i h
    refine ev_succ ?_
    simp only [spec_l1All.l0, if_pos (show ((i : Int) < (xs.length : Int)) by omega), if_pos (show (0 : Int) ≤ (i : Int) by omega), spec_in_eq, Option.bind_some, w64s i (by omega)]
    rw [drop_rd (show i < xs.length by omega)]
    cases hb : inB (rd xs (i : Int)) b c with
    | true => simpa [allB, hb] using ih (i + 1) (by omega)
    | false => simpa [allB, hb] using ev_now false
theorem spec_l1All_ev (b c : Int) (xs : List Int) (hn : xs.length < 4611686018427387904) : Ev (fun k => spec_l1All.f k xs b c) (allB xs b c) := by
  simpa [spec_l1All.f] using spec_l1All_l b c xs hn xs.length 0 (by omega)
theorem toIntS_l (xs : List Int) (hn : xs.length ≤ 17592186044416) (d : Nat) : ∀ i : Nat, i + d = xs.length →
    Ev (fun k => laws_toIntS.l0 k xs (xs.take i ++ List.replicate (xs.length - i) 0) (i : Int)) xs := by
  induction d with
  | zero =>
    intro i h
    refine ev_succ ?_
    simp only [laws_toIntS.l0, if_neg (show ¬ ((i : Int) < (xs.length : Int)) by omega)]
    exact ev_some (by rw [List.take_of_length_le (by omega), show xs.length - i = 0 by omega]; simp)
  | succ d ih =>
    intro i h
    refine ev_succ ?_
    have hl : ((xs.take i ++ List.replicate (xs.length - i) (0 : Int)).length : Int) = (xs.length : Int) := by simp; omega
    simp only [laws_toIntS.l0, if_pos (show ((i : Int) < (xs.length : Int)) by omega), if_pos (show (0 : Int) ≤ (i : Int) by omega), hl, w64s i (by omega), Int.toNat_natCast, take_set (show i < xs.length by omega)]
    exact ih (i + 1) (by omega)
theorem toIntS_ev (xs : List Int) (hn : xs.length ≤ 17592186044416) : Ev (fun k => laws_toIntS.f k xs) xs := by
  simp only [laws_toIntS.f, if_pos (show (0 : Int) ≤ (xs.length : Int) by omega), Int.toNat_natCast, if_pos (show xs.length ≤ 35184372088832 by omega)]
  simpa using toIntS_l xs hn xs.length 0 (by omega)
theorem eqIntS_l (xs ys : List Int) (hn : xs.length ≤ 140737488355328) (hl : ys.length = xs.length) (d : Nat) : ∀ i : Nat, i + d = xs.length →
    Ev (fun k => laws_eqIntS.l0 k xs ys (i : Int)) (decide (xs.drop i = ys.drop i)) := by
  induction d with
  | zero =>
    intro i h
    refine ev_succ ?_
    simp only [laws_eqIntS.l0, if_neg (show ¬ ((i : Int) < (xs.length : Int)) by omega)]
    exact ev_some (by rw [List.drop_of_length_le (by omega), List.drop_of_length_le (by omega)]; rfl)
  | succ d ih =>
    intro i h
    refine ev_succ ?_
    simp only [laws_eqIntS.l0, if_pos (show ((i : Int) < (xs.length : Int)) by omega), if_pos (show (0 : Int) ≤ (i : Int) by omega), hl, w64s i (by omega)]
    rw [drop_rd (show i < xs.length by omega), drop_rd (show i < ys.length by omega)]
    by_cases e : rd xs (i : Int) = rd ys (i : Int)
    · simp only [if_pos e]
      simpa [e] using ih (i + 1) (by omega)
    · simp only [if_neg e]
      exact ev_some (by simp [e])
theorem eqIntS_ev (xs ys : List Int) (hn : xs.length ≤ 140737488355328) : Ev (fun k => laws_eqIntS.f k xs ys) (decide (xs = ys)) := by
  unfold laws_eqIntS.f
  by_cases hl : ys.length = xs.length
  · simp only [if_pos (show (xs.length : Int) = (ys.length : Int) by omega)]
    simpa using eqIntS_l xs ys hn hl xs.length 0 (by omega)
  · simp only [if_neg (show ¬ (xs.length : Int) = (ys.length : Int) by omega)]
    exact ev_some (by
      have : ¬ xs = ys := fun e => hl (by rw [e])
      simp [this])
theorem eqIntS_self (xs : List Int) (hn : xs.length ≤ 140737488355328) : Ev (fun k => laws_eqIntS.f k xs xs) true := by simpa using eqIntS_ev xs xs hn
/-- The first tick that is too low, from tick i on. -/
def alertL (h c m : Int) : List Int → Int → Int × Bool
  | [], _ => (-1, false)
  | g :: r, i => if h + i * c - g < m then (i, true) else alertL h c m r (i + 1)
def alertOk (l : List Int) (h c m : Int) : Bool := decide ((l.length : Int) ≤ 200) && (allB l (-1000) 60000 && (inB h (-1000) 60000 && (inB c (-200) 200 && inB m 0 5000)))
def alert (l : List Int) (h c m : Int) : Int × Bool := if alertOk l h c m = true then alertL h c m l 0 else (-1, false)
theorem alert_wrap {i h c g : Int} (h0 : 0 ≤ i) (h1 : i ≤ 200) (hh : -1000 ≤ h ∧ h ≤ 60000) (hc : -200 ≤ c ∧ c ≤ 200) (hg : -1000 ≤ g ∧ g ≤ 60000) : wrap64 ((wrap64 (h + (wrap64 (i * c)))) - g) = h + i * c - g := by
  have b : -(200 * 200) ≤ i * c ∧ i * c ≤ 200 * 200 := by
    have a1 : i * c ≤ i * 200 := Int.mul_le_mul_of_nonneg_left hc.2 h0
    have a3 : i * (-200) ≤ i * c := Int.mul_le_mul_of_nonneg_left hc.1 h0
    omega
  generalize i * c = x at *
  rw [w64 (n := x) (by omega) (by omega), w64 (n := h + x) (by omega) (by omega), w64 (by omega) (by omega)]
theorem impl_Alert_l {h c m : Int} (l : List Int) (hl : l.length ≤ 200) (hg : ∀ g ∈ l, -1000 ≤ g ∧ g ≤ 60000) (hh : -1000 ≤ h ∧ h ≤ 60000) (hc : -200 ≤ c ∧ c ≤ 200) (d : Nat) : ∀ i : Nat, i + d = l.length →
    Ev (fun k => impl_Alert.l0 k h c m l (l.length : Int) (i : Int)) (alertL h c m (l.drop i) (i : Int)) := by
  induction d with
  | zero =>
    intro i hi
    refine ev_succ ?_
    simp only [impl_Alert.l0, if_neg (show ¬ ((i : Int) < (l.length : Int)) by omega)]
    exact ev_some (by rw [List.drop_of_length_le (by omega)]; rfl)
  | succ d ih =>
    intro i hi
    refine ev_succ ?_
    have hb := hg _ (rd_mem (xs := l) (i := (i : Int)) (by omega) (by omega))
    simp only [impl_Alert.l0, if_pos (show ((i : Int) < (l.length : Int)) by omega), if_pos (show (0 : Int) ≤ (i : Int) by omega), alert_wrap (i := (i : Int)) (by omega) (by omega) hh hc hb, w64s i (by omega)]
    rw [drop_rd (show i < l.length by omega)]
    unfold alertL
    by_cases e : h + (i : Int) * c - rd l (i : Int) < m
    · simp only [if_pos e]; exact ev_now _
    · simp only [if_neg e]; exact ih (i + 1) (by omega)
theorem impl_Alert_j1 (l : List Int) (h c m : Int) : Ev (fun k => impl_Alert.j1 k l h c m true) (-1, false) := by
  refine ev_succ ?_
  simp only [impl_Alert.j1, if_true]
  exact ev_now _
theorem impl_Alert_j0 (l : List Int) (h c m : Int) : Ev (fun k => impl_Alert.j0 k l h c m false) (-1, false) := by
  refine ev_succ ?_
  simp only [impl_Alert.j0, Bool.false_eq_true, if_false]
  exact impl_Alert_j1 l h c m
theorem impl_Alert_ev (l : List Int) (h c m : Int) (hn : l.length < 4611686018427387904) : Ev (fun k => impl_Alert.f k l h c m) (alert l h c m) := by
  simp only [impl_Alert.f, impl_in_eq, Option.bind_some]
  unfold alert alertOk
  by_cases c1 : (l.length : Int) ≤ 200
  · simp only [if_pos c1, c1, decide_true, Bool.true_and]
    refine (impl_allIn_ev (-1000) 60000 l hn).bind ?_
    cases c2 : allB l (-1000) 60000 with
    | false => simpa using impl_Alert_j0 l h c m
    | true =>
      simp only [if_true, Bool.true_and]
      cases c3 : inB h (-1000) 60000 with
      | false => simpa using impl_Alert_j0 l h c m
      | true =>
        simp only [Bool.true_and]
        refine ev_succ ?_
        simp only [impl_Alert.j0, if_true, impl_in_eq, Option.bind_some]
        cases c4 : inB c (-200) 200 with
        | false => simpa using impl_Alert_j1 l h c m
        | true =>
          simp only [if_true, Bool.true_and]
          cases c5 : inB m 0 5000 with
          | false => simpa using impl_Alert_j1 l h c m
          | true =>
            simp only [if_true]
            refine ev_succ ?_
            simp only [impl_Alert.j1, Bool.not_true, Bool.false_eq_true, if_false]
            have := impl_Alert_l (m := m) l (by omega) (allB_iff.1 c2) (inB_iff.1 c3) (inB_iff.1 c4) l.length 0 (by omega)
            simpa using this
  · simp only [if_neg c1, c1, decide_false, Bool.false_and, Bool.false_eq_true, if_false]
    exact impl_Alert_j0 l h c m
theorem spec_Alert_l {h c m : Int} (l : List Int) (hl : l.length ≤ 200) (hg : ∀ g ∈ l, -1000 ≤ g ∧ g ≤ 60000) (hh : -1000 ≤ h ∧ h ≤ 60000) (hc : -200 ≤ c ∧ c ≤ 200) (d : Nat) : ∀ i : Nat, i + d = l.length →
    Ev (fun k => spec_Alert.l0 k l h c m (i : Int)) (alertL h c m (l.drop i) (i : Int)) := by
  induction d with
  | zero =>
    intro i hi
    refine ev_succ ?_
    simp only [spec_Alert.l0, if_neg (show ¬ ((i : Int) < (l.length : Int)) by omega)]
    exact ev_some (by rw [List.drop_of_length_le (by omega)]; rfl)
  | succ d ih =>
    intro i hi
    refine ev_succ ?_
    have hb := hg _ (rd_mem (xs := l) (i := (i : Int)) (by omega) (by omega))
    simp only [spec_Alert.l0, if_pos (show ((i : Int) < (l.length : Int)) by omega), if_pos (show (0 : Int) ≤ (i : Int) by omega), alert_wrap (i := (i : Int)) (by omega) (by omega) hh hc hb, w64s i (by omega)]
    rw [drop_rd (show i < l.length by omega)]
    unfold alertL
    by_cases e : h + (i : Int) * c - rd l (i : Int) < m
    · simp only [if_pos e]; exact ev_now _
    · simp only [if_neg e]; exact ih (i + 1) (by omega)
theorem spec_Alert_j0 (l : List Int) (h c m : Int) : Ev (fun k => spec_Alert.j0 k l h c m true) (-1, false) := by
  refine ev_succ ?_
  simp only [spec_Alert.j0, if_true]
  exact ev_now _
theorem spec_Alert_ev (l : List Int) (h c m : Int) (hn : l.length < 4611686018427387904) : Ev (fun k => spec_Alert.f k l h c m) (alert l h c m) := by
  simp only [spec_Alert.f, spec_in_eq, Option.bind_some]
  unfold alert alertOk
  by_cases c1 : (l.length : Int) ≤ 200
  · simp only [if_neg (show ¬ (l.length : Int) > 200 by omega), c1, decide_true, Bool.true_and]
    refine (spec_l1All_ev (-1000) 60000 l hn).bind ?_
    cases c2 : allB l (-1000) 60000 with
    | false => simpa using spec_Alert_j0 l h c m
    | true =>
      cases c3 : inB h (-1000) 60000 with
      | false => simpa using spec_Alert_j0 l h c m
      | true =>
        cases c4 : inB c (-200) 200 with
        | false => simpa using spec_Alert_j0 l h c m
        | true =>
          cases c5 : inB m 0 5000 with
          | false => simpa using spec_Alert_j0 l h c m
          | true =>
            simp only [if_true, Bool.and_self]
            refine ev_succ ?_
            simp only [spec_Alert.j0, Bool.not_true, Bool.false_eq_true, if_false]
            have := spec_Alert_l (m := m) l (by omega) (allB_iff.1 c2) (inB_iff.1 c3) (inB_iff.1 c4) l.length 0 (by omega)
            simpa using this
  · simp only [if_pos (show (l.length : Int) > 200 by omega), c1, decide_false, Bool.false_and, Bool.false_eq_true, if_false]
    exact spec_Alert_j0 l h c m
theorem FnExactAlert : laws_FnExactAlert.Pure := by
  intro l h c m _ hn8 _ _ _ _
  have hn : l.length ≤ 17592186044416 := by omega
  refine Ev.rounds ?_
  simp only [laws_FnExactAlert.f]
  by_cases hb : (l.length : Int) > 1048576
  · simp only [if_pos hb]
    exact ev_now _
  · simp only [if_neg hb]
    refine (toIntS_ev l hn).bind ?_
    refine (spec_Alert_ev l h c m (by omega)).bind ?_
    refine (toIntS_ev l hn).bind ?_
    refine (impl_Alert_ev l h c m (by omega)).bind ?_
    simp only [if_true]
    refine ev_succ ?_
    simp only [laws_FnExactAlert.j0, bne_self_eq_false, Bool.false_eq_true, if_false]
    refine (toIntS_ev l hn).bind ?_
    exact (eqIntS_self l (by omega)).bind (f := fun _ t => if t = true then some true else some false) (ev_now _)
end Go.Proofs.Ythdldkkkehfedaa.Pure
