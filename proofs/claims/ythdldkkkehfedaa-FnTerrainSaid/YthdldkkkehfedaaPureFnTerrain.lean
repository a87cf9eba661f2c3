/- The first tick told is too low, none ahead of it is, and less margin is never sooner. No condition. -/
import Derived.Test.YthdldkkkehfedaaPFnTerrainx3
import Derived.Test.YthdldkkkehfedaaBase
set_option linter.unusedVariables false
set_option linter.unusedSimpArgs false
namespace Go.Proofs.Ythdldkkkehfedaa.Pure
open Go.RowKit Go.Proofs.Ythdldkkkehfedaa.PFnTerrain Go.Proofs.Ythdldkkkehfedaa.Base Go.Proofs.YthdldkkkehfedaaW.PrintWords Go.Proofs.YthdldkkkehfedaaW.PrintLast
theorem impl_in_eq (a b c : Int) : impl_in.f a b c = some (inB a b c) := in_form a b c
theorem spec_in_eq (a b c : Int) : spec_l1In.f a b c = some (inB a b c) := in_form a b c
theorem impl_allIn_l (b c : Int) (xs : List Int) (hn : xs.length < 4611686018427387904) (d : Nat) : ∀ i : Nat, i + d = xs.length →
    Ev (fun k => impl_allIn.l0 k b c xs (xs.length : Int) (i : Int)) (allB (xs.drop i) b c) := by
  induction d with
  | zero =>
    intro i h
    refine ev_succ ?_
    simp only [impl_allIn.l0, if_neg (show ¬ ((i : Int) < (xs.length : Int)) by omega)]
    rw [List.drop_of_length_le (by omega)]
    exact ev_now _
  | succ d ih =>
    intro i h
    refine ev_succ ?_
    simp only [impl_allIn.l0, if_pos (show ((i : Int) < (xs.length : Int)) by omega), if_pos (show (0 : Int) ≤ (i : Int) by omega), impl_in_eq, Option.bind_some, w64s i (by omega)]
    rw [drop_rd (show i < xs.length by omega)]
    cases hb : inB (rd xs (i : Int)) b c with
    | true => simpa [allB, hb] using ih (i + 1) (by omega)
    | false => simpa [allB, hb] using ev_now false
theorem impl_allIn_ev (b c : Int) (xs : List Int) (hn : xs.length < 4611686018427387904) : Ev (fun k => impl_allIn.f k xs b c) (allB xs b c) := by
  simpa [impl_allIn.f] using impl_allIn_l b c xs hn xs.length 0 (by omega)
theorem spec_l1All_l (b c : Int) (xs : List Int) (hn : xs.length < 4611686018427387904) (d : Nat) : ∀ i : Nat, i + d = xs.length →
    Ev (fun k => spec_l1All.l0 k xs b c (i : Int)) (allB (xs.drop i) b c) := by
  induction d with
  | zero =>
    intro i h
    refine ev_succ ?_
    simp only [spec_l1All.l0, if_neg (show ¬ ((i : Int) < (xs.length : Int)) by omega)]
    rw [List.drop_of_length_le (by omega)]
    exact ev_now _
  | succ d ih =>
    intro i h
    refine ev_succ ?_
    simp only [spec_l1All.l0, if_pos (show ((i : Int) < (xs.length : Int)) by omega), if_pos (show (0 : Int) ≤ (i : Int) by omega), spec_in_eq, Option.bind_some, w64s i (by omega)]
    rw [drop_rd (show i < xs.length by omega)]
    cases hb : inB (rd xs (i : Int)) b c with
    | true => simpa [allB, hb] using ih (i + 1) (by omega)
    | false => simpa [allB, hb] using ev_now false
theorem spec_l1All_ev (b c : Int) (xs : List Int) (hn : xs.length < 4611686018427387904) : Ev (fun k => spec_l1All.f k xs b c) (allB xs b c) := by
  simpa [spec_l1All.f] using spec_l1All_l b c xs hn xs.length 0 (by omega)
/-- The first tick that is too low, from tick i on. -/
def alertL (h c m : Int) : List Int → Int → Int × Bool
  | [], _ => (-1, false)
  | g :: r, i => if h + i * c - g < m then (i, true) else alertL h c m r (i + 1)
def alertOk (l : List Int) (h c m : Int) : Bool := decide ((l.length : Int) ≤ 200) && (allB l (-1000) 60000 && (inB h (-1000) 60000 && (inB c (-200) 200 && inB m 0 5000)))
def alert (l : List Int) (h c m : Int) : Int × Bool := if alertOk l h c m = true then alertL h c m l 0 else (-1, false)
theorem alert_wrap {i h c g : Int} (h0 : 0 ≤ i) (h1 : i ≤ 200) (hh : -1000 ≤ h ∧ h ≤ 60000) (hc : -200 ≤ c ∧ c ≤ 200) (hg : -1000 ≤ g ∧ g ≤ 60000) : wrap64 ((wrap64 (h + (wrap64 (i * c)))) - g) = h + i * c - g := by
  have b : -(200 * 200) ≤ i * c ∧ i * c ≤ 200 * 200 := by
    have a1 : i * c ≤ i * 200 := Int.mul_le_mul_of_nonneg_left hc.2 h0
    have a3 : i * (-200) ≤ i * c := Int.mul_le_mul_of_nonneg_left hc.1 h0
    omega
  generalize i * c = x at *
  rw [w64 (n := x) (by omega) (by omega), w64 (n := h + x) (by omega) (by omega), w64 (by omega) (by omega)]
theorem impl_Alert_l {h c m : Int} (l : List Int) (hl : l.length ≤ 200) (hg : ∀ g ∈ l, -1000 ≤ g ∧ g ≤ 60000) (hh : -1000 ≤ h ∧ h ≤ 60000) (hc : -200 ≤ c ∧ c ≤ 200) (d : Nat) : ∀ i : Nat, i + d = l.length →
    Ev (fun k => impl_Alert.l0 k h c m l (l.length : Int) (i : Int)) (alertL h c m (l.drop i) (i : Int)) := by
  induction d with
  | zero =>
    intro i hi
    refine ev_succ ?_
    simp only [impl_Alert.l0, if_neg (show ¬ ((i : Int) < (l.length : Int)) by omega)]
    exact ev_some (by rw [List.drop_of_length_le (by omega)]; rfl)
  | succ d ih =>
    intro i hi
    refine ev_succ ?_
    have hb := hg _ (rd_mem (xs := l) (i := (i : Int)) (by omega) (by omega))
    simp only [impl_Alert.l0, if_pos (show ((i : Int) < (l.length : Int)) by omega), if_pos (show (0 : Int) ≤ (i : Int) by omega), alert_wrap (i := (i : Int)) (by omega) (by omega) hh hc hb, w64s i (by omega)]
    rw [drop_rd (show i < l.length by omega)]
    unfold alertL
    by_cases e : h + (i : Int) * c - rd l (i : Int) < m
    · simp only [if_pos e]; exact ev_now _
    · simp only [if_neg e]; exact ih (i + 1) (by omega)
theorem impl_Alert_j1 (l : List Int) (h c m : Int) : Ev (fun k => impl_Alert.j1 k l h c m true) (-1, false) := by
  refine ev_succ ?_
  simp only [impl_Alert.j1, if_true]
  exact ev_now _
theorem impl_Alert_j0 (l : List Int) (h c m : Int) : Ev (fun k => impl_Alert.j0 k l h c m false) (-1, false) := by
  refine ev_succ ?_
  simp only [impl_Alert.j0, Bool.false_eq_true, if_false]
  exact impl_Alert_j1 l h c m
theorem impl_Alert_ev (l : List Int) (h c m : Int) (hn : l.length < 4611686018427387904) : Ev (fun k => impl_Alert.f k l h c m) (alert l h c m) := by
  simp only [impl_Alert.f, impl_in_eq, Option.bind_some]
  unfold alert alertOk
  by_cases c1 : (l.length : Int) ≤ 200
  · simp only [if_pos c1, c1, decide_true, Bool.true_and]
    refine (impl_allIn_ev (-1000) 60000 l hn).bind ?_
    cases c2 : allB l (-1000) 60000 with
    | false => simpa using impl_Alert_j0 l h c m
    | true =>
      simp only [if_true, Bool.true_and]
      cases c3 : inB h (-1000) 60000 with
      | false => simpa using impl_Alert_j0 l h c m
      | true =>
        simp only [Bool.true_and]
        refine ev_succ ?_
        simp only [impl_Alert.j0, if_true, impl_in_eq, Option.bind_some]
        cases c4 : inB c (-200) 200 with
        | false => simpa using impl_Alert_j1 l h c m
        | true =>
          simp only [if_true, Bool.true_and]
          cases c5 : inB m 0 5000 with
          | false => simpa using impl_Alert_j1 l h c m
          | true =>
            simp only [if_true]
            refine ev_succ ?_
            simp only [impl_Alert.j1, Bool.not_true, Bool.false_eq_true, if_false]
            have := impl_Alert_l (m := m) l (by omega) (allB_iff.1 c2) (inB_iff.1 c3) (inB_iff.1 c4) l.length 0 (by omega)
            simpa using this
  · simp only [if_neg c1, c1, decide_false, Bool.false_and, Bool.false_eq_true, if_false]
    exact impl_Alert_j0 l h c m
theorem spec_Alert_l {h c m : Int} (l : List Int) (hl : l.length ≤ 200) (hg : ∀ g ∈ l, -1000 ≤ g ∧ g ≤ 60000) (hh : -1000 ≤ h ∧ h ≤ 60000) (hc : -200 ≤ c ∧ c ≤ 200) (d : Nat) : ∀ i : Nat, i + d = l.length →
    Ev (fun k => spec_Alert.l0 k l h c m (i : Int)) (alertL h c m (l.drop i) (i : Int)) := by
  induction d with
  | zero =>
    intro i hi
    refine ev_succ ?_
    simp only [spec_Alert.l0, if_neg (show ¬ ((i : Int) < (l.length : Int)) by omega)]
    exact ev_some (by rw [List.drop_of_length_le (by omega)]; rfl)
  | succ d ih =>
    intro i hi
    refine ev_succ ?_
    have hb := hg _ (rd_mem (xs := l) (i := (i : Int)) (by omega) (by omega))
    simp only [spec_Alert.l0, if_pos (show ((i : Int) < (l.length : Int)) by omega), if_pos (show (0 : Int) ≤ (i : Int) by omega), alert_wrap (i := (i : Int)) (by omega) (by omega) hh hc hb, w64s i (by omega)]
    rw [drop_rd (show i < l.length by omega)]
    unfold alertL
    by_cases e : h + (i : Int) * c - rd l (i : Int) < m
    · simp only [if_pos e]; exact ev_now _
    · simp only [if_neg e]; exact ih (i + 1) (by omega)
theorem spec_Alert_j0 (l : List Int) (h c m : Int) : Ev (fun k => spec_Alert.j0 k l h c m true) (-1, false) := by
  refine ev_succ ?_
  simp only [spec_Alert.j0, if_true]
  exact ev_now _
theorem spec_Alert_ev (l : List Int) (h c m : Int) (hn : l.length < 4611686018427387904) : Ev (fun k => spec_Alert.f k l h c m) (alert l h c m) := by
  simp only [spec_Alert.f, spec_in_eq, Option.bind_some]
  unfold alert alertOk
  by_cases c1 : (l.length : Int) ≤ 200
  · simp only [if_neg (show ¬ (l.length : Int) > 200 by omega), c1, decide_true, Bool.true_and]
    refine (spec_l1All_ev (-1000) 60000 l hn).bind ?_
    cases c2 : allB l (-1000) 60000 with
    | false => simpa using spec_Alert_j0 l h c m
    | true =>
      cases c3 : inB h (-1000) 60000 with
      | false => simpa using spec_Alert_j0 l h c m
      | true =>
        cases c4 : inB c (-200) 200 with
        | false => simpa using spec_Alert_j0 l h c m
        | true =>
          cases c5 : inB m 0 5000 with
          | false => simpa using spec_Alert_j0 l h c m
          | true =>
            simp only [if_true, Bool.and_self]
            refine ev_succ ?_
            simp only [spec_Alert.j0, Bool.not_true, Bool.false_eq_true, if_false]
            have := spec_Alert_l (m := m) l (by omega) (allB_iff.1 c2) (inB_iff.1 c3) (inB_iff.1 c4) l.length 0 (by omega)
            simpa using this
  · simp only [if_pos (show (l.length : Int) > 200 by omega), c1, decide_false, Bool.false_and, Bool.false_eq_true, if_false]
    exact spec_Alert_j0 l h c m
/-! What is drawn: a cursor over the bytes, at place i, with the number h. -/
def Cur (l : List Int) (i : Int) : Prop := l.length ≤ 1048576 ∧ 0 ≤ i ∧ i ≤ (l.length : Int)
theorem draw_new (l : List Int) (hl : l.length ≤ 1048576) : ∃ h, Ev (fun k => spec_l1New.f k l) (l, 0, h) := by
  have loop : ∀ (d : Nat) (i : Nat) (h : Int), i + d = l.length → ∃ h', Ev (fun k => spec_l1New.l0 k l h (i : Int)) (l, 0, h') := by
    intro d
    induction d with
    | zero =>
      intro i h hi
      refine ⟨h, ev_succ ?_⟩
      simp only [spec_l1New.l0, if_neg (show ¬ ((i : Int) < (l.length : Int)) by omega)]
      exact ev_now _
    | succ d ih =>
      intro i h hi
      by_cases h4 : (i : Int) < 4000
      · obtain ⟨h', hh⟩ := ih (i + 1) (Go.bits .and .i64 (wrap64 ((wrap64 ((wrap64 (h * 131)) + (wrap64 (rd l (i : Int))))) + 7)) 1073741823) (by omega)
        refine ⟨h', ev_succ ?_⟩
        simp only [spec_l1New.l0, if_pos (show ((i : Int) < (l.length : Int)) by omega), if_pos h4, if_pos (show (0 : Int) ≤ (i : Int) by omega), w64s i (by omega)]
        exact hh
      · refine ⟨h, ev_succ ?_⟩
        simp only [spec_l1New.l0, if_pos (show ((i : Int) < (l.length : Int)) by omega), if_neg h4]
        exact ev_now _
  obtain ⟨h', hh⟩ := loop l.length 0 (wrap64 (63063 + (l.length : Int))) (by omega)
  exact ⟨h', by simpa [spec_l1New.f] using hh⟩
theorem draw_byte {l : List Int} {i : Int} (h : Int) (hc : Cur l i) : ∃ v i' h', spec_l1Byte.f l i h = some (v, i', h') ∧ 0 ≤ v ∧ v ≤ 255 ∧ Cur l i' := by
  obtain ⟨h1, h2, h3⟩ := hc
  unfold spec_l1Byte.f
  by_cases e : i < (l.length : Int)
  · rw [if_pos e, if_pos h2]
    have := bits_and_le (wrap64 ((Go.bits .and .i64 (Go.bits .xor .i64 ((wrap64 ((wrap64 (h * 6364136223846793005)) + 1442695040888963407)) / 8589934592) ((wrap64 ((wrap64 (h * 6364136223846793005)) + 1442695040888963407)) / 35184372088832)) 255) + (wrap64 (rd l i)))) 255 (by omega) (by omega)
    exact ⟨_, _, _, rfl, this.1, this.2, h1, by rw [w64 (by omega) (by omega)]; omega, by rw [w64 (by omega) (by omega)]; omega⟩
  · rw [if_neg e]
    have := bits_and_le (Go.bits .xor .i64 ((wrap64 ((wrap64 (h * 6364136223846793005)) + 1442695040888963407)) / 8589934592) ((wrap64 ((wrap64 (h * 6364136223846793005)) + 1442695040888963407)) / 35184372088832)) 255 (by omega) (by omega)
    exact ⟨_, _, _, rfl, this.1, this.2, h1, h2, h3⟩
theorem draw_below {l : List Int} {i : Int} (h n : Int) (hc : Cur l i) (h0 : 0 < n) (h1 : n ≤ 1099511627776) : ∃ v i' h', spec_l1Below.f l i h n = some (v, i', h') ∧ 0 ≤ v ∧ v < n ∧ Cur l i' := by
  unfold spec_l1Below.f
  rw [if_neg (by omega)]
  by_cases e : n ≤ 256
  · obtain ⟨v, i', h', e1, v0, v1, c1⟩ := draw_byte h hc
    rw [if_pos e, e1]
    simp only [Option.bind_some, if_neg (show ¬ n = 0 by omega)]
    exact ⟨_, _, _, rfl, Int.tmod_nonneg _ v0, Int.tmod_lt_of_pos _ h0, c1⟩
  · obtain ⟨v, i', h', e1, v0, v1, c1⟩ := draw_byte h hc
    obtain ⟨v', i2, h2, e2, v2, v3, c2⟩ := draw_byte h' c1
    obtain ⟨v4, i3, h3, e3, v5, v6, c3⟩ := draw_byte h2 c2
    obtain ⟨v7, i4, h4, e4, v8, v9, c4⟩ := draw_byte h3 c3
    rw [if_neg e, e1]
    simp only [Option.bind_some, e2, e3, e4, if_neg (show ¬ n = 0 by omega)]
    refine ⟨_, _, _, rfl, ?_, Int.tmod_lt_of_pos _ h0, c4⟩
    rw [w64 (n := v * 16777216) (by omega) (by omega), w64 (n := v' * 65536) (by omega) (by omega), w64 (n := v4 * 256) (by omega) (by omega), w64 (n := v * 16777216 + v' * 65536) (by omega) (by omega), w64 (n := v * 16777216 + v' * 65536 + v4 * 256) (by omega) (by omega), w64 (by omega) (by omega)]
    exact Int.tmod_nonneg _ (by omega)
theorem draw_pickint {l : List Int} {i : Int} (h : Int) (xs : List Int) (hc : Cur l i) (h0 : 0 < xs.length) (h1 : xs.length ≤ 1000) : ∃ v i' h', spec_l1PickInt.f l i h xs = some (v, i', h') ∧ v ∈ xs ∧ Cur l i' := by
  obtain ⟨v, i', h', e1, v0, v1, c1⟩ := draw_below h (xs.length : Int) hc (by omega) (by omega)
  unfold spec_l1PickInt.f
  rw [e1]
  simp only [Option.bind_some, if_pos v0, if_pos v1]
  exact ⟨_, _, _, rfl, rd_mem v0 v1, c1⟩
theorem drawalert_end {l : List Int} {i : Int} (h : Int) (hc : Cur l i) : ∃ a b c i' h' i2 h2 i3 h3, spec_l1Below.f l i h 400 = some (a, i', h') ∧ spec_l1Below.f l i' h' 41 = some (b, i2, h2) ∧ spec_l1PickInt.f l i2 h2 [0, 50, 100, 5000, 5001, -1] = some (c, i3, h3) ∧ (0 ≤ a ∧ a < 400) ∧ (0 ≤ b ∧ b < 41) ∧ -1 ≤ c ∧ c ≤ 5001 := by
  obtain ⟨a, i', h', e1, a0, a1, c1⟩ := draw_below h 400 hc (by omega) (by omega)
  obtain ⟨b, i2, h2, e2, b0, b1, c2⟩ := draw_below h' 41 c1 (by omega) (by omega)
  obtain ⟨c, i3, h3, e3, hm, c3⟩ := draw_pickint h2 [0, 50, 100, 5000, 5001, -1] c2 (by simp) (by simp)
  simp at hm
  exact ⟨a, b, c, i', h', i2, h2, i3, h3, e1, e2, e3, ⟨a0, a1⟩, ⟨b0, b1⟩, by omega, by omega⟩
/-- A drawn look ahead: its numbers are small. -/
def SmallAlert (x : List Int × Int × Int × Int) : Prop := x.1.length ≤ 300 ∧ (300 ≤ x.2.1 ∧ x.2.1 < 700) ∧ (-20 ≤ x.2.2.1 ∧ x.2.2.1 ≤ 20) ∧ -1 ≤ x.2.2.2 ∧ x.2.2.2 ≤ 5001
theorem drawalert_l {l : List Int} (n : Nat) : ∀ (i h : Int) (xs : List Int), Cur l i → xs.length + n ≤ 30 → ∃ x, Ev (fun k => spec_DrawAlert.l0 k xs (n : Int) l i h) x ∧ SmallAlert x := by
  induction n with
  | zero =>
    intro i h xs hc hl
    obtain ⟨v, i1, h1, e1, v0, v1, c1⟩ := draw_below h 40 hc (by omega) (by omega)
    by_cases q0 : v = 0
    · obtain ⟨p, i2, h2, e2, _, c2⟩ := draw_pickint h1 [-1001, -1000, 60000, 60001] c1 (by simp) (by simp)
      obtain ⟨a, b, c, i', h', i3, h3, i4, h4, f1, f2, f3, ha, hb, hc⟩ := drawalert_end h2 c2
      refine ⟨(xs ++ [p], 300 + a, b - 20, c), ev_succ ?_, by simp; omega, by simp only; omega, by simp only; omega, hc⟩
      simp only [spec_DrawAlert.l0, if_neg (show ¬ (((0 : Nat) : Int) > 0) by omega), e1, Option.bind_some, if_pos q0, e2, if_pos (show xs.length < 17592186044416 by omega), f1, f2, f3, w64 (show -9223372036854775808 ≤ 300 + a by omega) (by omega), w64 (show -9223372036854775808 ≤ b - 20 by omega) (by omega)]
      exact ev_now _
    by_cases q1 : v = 1
    · obtain ⟨p, i2, h2, e2, p0, p1, c2⟩ := draw_below h1 2 c1 (by omega) (by omega)
      obtain ⟨a, b, c, i', h', i3, h3, i4, h4, f1, f2, f3, ha, hb, hc⟩ := drawalert_end h2 c2
      refine ⟨(List.replicate (200 + p).toNat 0, 300 + a, b - 20, c), ev_succ ?_, by simp; omega, by simp only; omega, by simp only; omega, hc⟩
      simp only [spec_DrawAlert.l0, if_neg (show ¬ (((0 : Nat) : Int) > 0) by omega), e1, Option.bind_some, if_neg q0, if_pos q1, e2, f1, f2, f3, w64 (show -9223372036854775808 ≤ 200 + p by omega) (by omega), if_pos (show (0 : Int) ≤ 200 + p by omega), if_pos (show (200 + p).toNat ≤ 35184372088832 by omega), w64 (show -9223372036854775808 ≤ 300 + a by omega) (by omega), w64 (show -9223372036854775808 ≤ b - 20 by omega) (by omega)]
      exact ev_now _
    · obtain ⟨a, b, c, i', h', i3, h3, i4, h4, f1, f2, f3, ha, hb, hc⟩ := drawalert_end h1 c1
      refine ⟨(xs, 300 + a, b - 20, c), ev_succ ?_, by simp only; omega, by simp only; omega, by simp only; omega, hc⟩
      simp only [spec_DrawAlert.l0, if_neg (show ¬ (((0 : Nat) : Int) > 0) by omega), e1, Option.bind_some, if_neg q0, if_neg q1, f1, f2, f3, w64 (show -9223372036854775808 ≤ 300 + a by omega) (by omega), w64 (show -9223372036854775808 ≤ b - 20 by omega) (by omega)]
      exact ev_now _
  | succ n ih =>
    intro i h xs hc hl
    obtain ⟨v, i1, h1, e1, v0, v1, c1⟩ := draw_below h 400 hc (by omega) (by omega)
    obtain ⟨x, he, hx⟩ := ih i1 h1 (xs ++ [v]) c1 (by simp; omega)
    refine ⟨x, ev_succ ?_, hx⟩
    have hw : wrap64 (((n + 1 : Nat) : Int) - 1) = (n : Int) := by rw [w64 (by omega) (by omega)]; omega
    simp only [spec_DrawAlert.l0, if_pos (show (((n + 1 : Nat) : Int) > 0) by omega), e1, Option.bind_some, if_pos (show xs.length < 17592186044416 by omega), hw]
    exact he
theorem drawalert_ev (l : List Int) (hl : l.length ≤ 1048576) : ∃ x, Ev (fun k => spec_DrawAlert.f k l) x ∧ SmallAlert x := by
  obtain ⟨h, hh⟩ := draw_new l hl
  obtain ⟨v, i1, h1, e1, v0, v1, c1⟩ := draw_below (l := l) (i := 0) h 30 ⟨by omega, by omega, by omega⟩ (by omega) (by omega)
  obtain ⟨x, he, hx⟩ := drawalert_l v.toNat i1 h1 [] c1 (by simp; omega)
  refine ⟨x, ?_, hx⟩
  simp only [spec_DrawAlert.f]
  refine hh.bind ?_
  simp only [e1, Option.bind_some]
  rw [show ((v.toNat : Nat) : Int) = v by omega] at he
  exact he
theorem alertL_some {h c m : Int} : ∀ (l : List Int) (i : Int), (alertL h c m l i).2 = true → ∃ k : Nat, (alertL h c m l i).1 = i + k ∧ k < l.length ∧ h + (i + k) * c - rd l (k : Int) < m ∧ ∀ j : Nat, j < k → ¬ h + (i + j) * c - rd l (j : Int) < m
  | [], i, hk => by simp [alertL] at hk
  | g :: r, i, hk => by
    unfold alertL at hk ⊢
    by_cases e : h + i * c - g < m
    · rw [if_pos e] at hk ⊢
      exact ⟨0, by simp, by simp, by simpa [rd] using e, fun j hj => by omega⟩
    · rw [if_neg e] at hk ⊢
      obtain ⟨k, h1, h2, h3, h4⟩ := alertL_some r (i + 1) hk
      have er : ∀ q : Nat, rd (g :: r) ((q + 1 : Nat) : Int) = rd r (q : Int) := fun q => by simp [rd, List.getD_eq_getElem?_getD]
      refine ⟨k + 1, by rw [h1]; omega, by simp; omega, ?_, fun j hj => ?_⟩
      · rw [er, show i + ((k + 1 : Nat) : Int) = i + 1 + (k : Int) by omega]; exact h3
      · cases j with
        | zero => simpa [rd] using e
        | succ j => rw [er, show i + ((j + 1 : Nat) : Int) = i + 1 + (j : Int) by omega]; exact h4 j (by omega)
theorem alertL_none {h c m : Int} : ∀ (l : List Int) (i : Int), (∀ j : Nat, j < l.length → ¬ h + (i + j) * c - rd l (j : Int) < m) → (alertL h c m l i).2 = false
  | [], i, hk => rfl
  | g :: r, i, hk => by
    unfold alertL
    have e : ¬ h + i * c - g < m := by simpa [rd] using hk 0 (by simp)
    rw [if_neg e]
    refine alertL_none r (i + 1) fun j hj => ?_
    have := hk (j + 1) (by simp; omega)
    have er : rd (g :: r) ((j + 1 : Nat) : Int) = rd r (j : Int) := by simp [rd, List.getD_eq_getElem?_getD]
    rw [er, show i + ((j + 1 : Nat) : Int) = i + 1 + (j : Int) by omega] at this
    exact this
theorem alert_some {l : List Int} {h c m : Int} (hk : (alert l h c m).2 = true) : alertOk l h c m = true ∧ ∃ k : Nat, (alert l h c m).1 = k ∧ k < l.length ∧ h + k * c - rd l (k : Int) < m ∧ ∀ j : Nat, j < k → ¬ h + j * c - rd l (j : Int) < m := by
  unfold alert at hk ⊢
  by_cases e : alertOk l h c m = true
  · rw [if_pos e] at hk ⊢
    obtain ⟨k, h1, h2, h3, h4⟩ := alertL_some l 0 hk
    exact ⟨e, k, by rw [h1]; omega, h2, by simpa using h3, fun j hj => by simpa using h4 j hj⟩
  · rw [if_neg e] at hk; cases hk
theorem alert_none {l : List Int} {h c m : Int} (hk : ∀ j : Nat, j < l.length → ¬ h + j * c - rd l (j : Int) < m) : (alert l h c m).2 = false := by
  unfold alert
  by_cases e : alertOk l h c m = true
  · rw [if_pos e]
    exact alertL_none l 0 (fun j hj => by simpa using hk j hj)
  · rw [if_neg e]
theorem alert_off {l : List Int} {h c m : Int} (hk : (alert l h c m).2 = false) : (alert l h c m).1 = -1 := by
  have key : ∀ (l : List Int) (i : Int), (alertL h c m l i).2 = false → (alertL h c m l i).1 = -1 := by
    intro l
    induction l with
    | nil => intro i _; rfl
    | cons g r ih =>
      intro i hk
      unfold alertL at hk ⊢
      by_cases e : h + i * c - g < m
      · rw [if_pos e] at hk; cases hk
      · rw [if_neg e] at hk ⊢; exact ih _ hk
  unfold alert at hk ⊢
  by_cases e : alertOk l h c m = true
  · rw [if_pos e] at hk ⊢; exact key _ _ hk
  · rw [if_neg e]
theorem FnTerrain : laws_FnTerrain.Pure := by
  intro l _ _ _
  refine Ev.rounds ?_
  simp only [laws_FnTerrain.f, laws_big.f, Option.bind_some]
  by_cases hb : (l.length : Int) > 1048576
  · simp only [hb, decide_true, if_true]
    exact ev_now _
  · simp only [hb, decide_false, Bool.false_eq_true, if_false]
    obtain ⟨⟨g, h, c, m⟩, hd, hg, hh, hc, hm⟩ := drawalert_ev l (by omega)
    simp only at hg hh hc hm
    refine hd.bind ?_
    refine (impl_Alert_ev g h c m (by omega)).bind ?_
    refine (spec_Alert_ev g h c m (by omega)).bind ?_
    simp only [bne_self_eq_false, Bool.false_eq_true, if_false]
    refine (impl_Alert_ev [0, 50, 90] 100 0 20 (by simp)).bind ?_
    rw [show alert [0, 50, 90] 100 0 20 = (2, true) by decide]
    simp only [if_true, bne_self_eq_false]
    refine ev_succ ?_
    simp only [laws_FnTerrain.j0, Bool.false_eq_true, if_false]
    cases hk : (alert g h c m).2 with
    | false =>
      simp only [Bool.false_eq_true, if_false, alert_off hk]
      exact ev_some (by decide)
    | true =>
      obtain ⟨hok, k, h1, h2, h3, h4⟩ := alert_some hk
      have hok' := hok
      simp only [alertOk, Bool.and_eq_true, decide_eq_true_eq, allB_iff, inB_iff] at hok'
      obtain ⟨l1, l2, l3, l4, l5⟩ := hok'
      have hbk := l2 _ (rd_mem (xs := g) (i := (k : Int)) (by omega) (by omega))
      have hw := alert_wrap (i := (k : Int)) (by omega) (by omega) l3 l4 hbk
      simp only [if_true, h1, if_neg (show ¬ (k : Int) < 0 by omega), if_neg (show ¬ (k : Int) ≥ (g.length : Int) by omega), if_pos (show (0 : Int) ≤ (k : Int) by omega), if_pos (show (k : Int) < (g.length : Int) by omega), hw, show decide (h + (k : Int) * c - rd g (k : Int) ≥ m) = false from decide_eq_false (by omega)]
      refine ev_succ ?_
      simp only [laws_FnTerrain.j1, Bool.false_eq_true, if_false, if_pos (show (0 : Int) ≤ (k : Int) by omega), if_pos (show (k : Int) ≤ (g.length : Int) by omega), Int.toNat_natCast]
      refine (impl_Alert_ev _ h c m (by simp; omega)).bind ?_
      refine (impl_Alert_ev g h c _ (by omega)).bind ?_
      have n1 : (alert (g.take k) h c m).2 = false := by
        refine alert_none fun j hj => ?_
        have hj' : j < k := by simp at hj; omega
        have := h4 j hj'
        rw [show rd (g.take k) (j : Int) = rd g (j : Int) by simp only [rd, List.getD_eq_getElem?_getD]; rw [List.getElem?_take_of_lt (by simp; omega)]]
        exact this
      simp only [n1, Bool.false_eq_true, if_false]
      have hw2 : wrap64 (Int.tdiv m 2) = m / 2 := by rw [Int.tdiv_eq_ediv_of_nonneg (by omega), w64 (by omega) (by omega)]
      rw [hw2]
      cases hq : (alert g h c (m / 2)).2 with
      | false => simp only [Bool.false_eq_true, if_false]; exact ev_now _
      | true =>
        obtain ⟨_, k', g1, g2, g3, g4⟩ := alert_some hq
        simp only [if_true, g1]
        refine ev_some (decide_eq_true ?_)
        refine Classical.byContradiction fun hx => h4 k' (by omega) ?_
        omega
end Go.Proofs.Ythdldkkkehfedaa.Pure
