/- The program's Gap16 answers as the reference's at every argument. No condition. -/
import Derived.Test.YtcdniegjefejcaaPFnExactGap16x2
import Derived.Test.YtcdniegjefejcaaBase
set_option linter.unusedVariables false
set_option linter.unusedSimpArgs false
namespace Go.Proofs.Ytcdniegjefejcaa.Pure
open Go.RowKit Go.Proofs.Ytcdniegjefejcaa.PFnExactGap16 Go.Proofs.Ytcdniegjefejcaa.Base Go.Proofs.YtcdniegjefejcaaW.PrintWords Go.Proofs.YtcdniegjefejcaaW.PrintLast
theorem impl_in_eq (a b c : Int) : impl_in.f a b c = some (inB a b c) := in_form a b c
theorem spec_in_eq (a b c : Int) : spec_l1In.f a b c = some (inB a b c) := in_form a b c
theorem impl_allIn_l (b c : Int) (xs : List Int) (hn : xs.length < 4611686018427387904) (d : Nat) : ∀ i : Nat, i + d = xs.length →
    Ev (fun k => impl_allIn.l0 k b c xs (xs.length : Int) (i : Int)) (allB (xs.drop i) b c) := by
  induction d with
  | zero =>
    intro i h
    refine ev_succ ?_
    simp only [impl_allIn.l0, if_neg (show ¬ ((i : Int) < (xs.length : Int)) by omega)]
    rw [List.drop_of_length_le (by omega)]
    exact ev_now _
  | succ d ih =>
    intro i h
    refine ev_succ ?_
    simp only [impl_allIn.l0, if_pos (show ((i : Int) < (xs.length : Int)) by omega), if_pos (show (0 : Int) ≤ (i : Int) by omega), impl_in_eq, Option.bind_some, w64s i (by omega)]
    rw [drop_rd (show i < xs.length by omega)]
    cases hb : inB (rd xs (i : Int)) b c with
    | true => simpa [allB, hb] using ih (i + 1) (by omega)
    | false => simpa [allB, hb] using ev_now false
theorem impl_allIn_ev (b c : Int) (xs : List Int) (hn : xs.length < 4611686018427387904) : Ev (fun k => impl_allIn.f k xs b c) (allB xs b c) := by
  simpa [impl_allIn.f] using impl_allIn_l b c xs hn xs.length 0 (by omega)
theorem spec_l1All_l (b c : Int) (xs : List Int) (hn : xs.length < 4611686018427387904) (d : Nat) : ∀ i : Nat, i + d = xs.length →
    Ev (fun k => spec_l1All.l0 k xs b c (i : Int)) (allB (xs.drop i) b c) := by
  induction d with
  | zero =>
    intro i h
    refine ev_succ ?_
    simp only [spec_l1All.l0, if_neg (show ¬ ((i : Int) < (xs.length : Int)) by omega)]
    rw [List.drop_of_length_le (by omega)]
    exact ev_now _
  | succ d ih =>
    intro i h
    refine ev_succ ?_
    simp only [spec_l1All.l0, if_pos (show ((i : Int) < (xs.length : Int)) by omega), if_pos (show (0 : Int) ≤ (i : Int) by omega), spec_in_eq, Option.bind_some, w64s i (by omega)]
    rw [drop_rd (show i < xs.length by omega)]
    cases hb : inB (rd xs (i : Int)) b c with
    | true => simpa [allB, hb] using ih (i + 1) (by omega)
    | false => simpa [allB, hb] using ev_now false
theorem spec_l1All_ev (b c : Int) (xs : List Int) (hn : xs.length < 4611686018427387904) : Ev (fun k => spec_l1All.f k xs b c) (allB xs b c) := by
  simpa [spec_l1All.f] using spec_l1All_l b c xs hn xs.length 0 (by omega)
theorem toIntS_l (xs : List Int) (hn : xs.length ≤ 17592186044416) (d : Nat) : ∀ i : Nat, i + d = xs.length →
    Ev (fun k => laws_toIntS.l0 k xs (xs.take i ++ List.replicate (xs.length - i) 0) (i : Int)) xs := by
  induction d with
  | zero =>
    intro i h
    refine ev_succ ?_
    simp only [laws_toIntS.l0, if_neg (show ¬ ((i : Int) < (xs.length : Int)) by omega)]
    exact ev_some (by rw [List.take_of_length_le (by omega), show xs.length - i = 0 by omega]; simp)
  | succ d ih =>
    intro i h
    refine ev_succ ?_
    have hl : ((xs.take i ++ List.replicate (xs.length - i) (0 : Int)).length : Int) = (xs.length : Int) := by simp; omega
    simp only [laws_toIntS.l0, if_pos (show ((i : Int) < (xs.length : Int)) by omega), if_pos (show (0 : Int) ≤ (i : Int) by omega), hl, w64s i (by omega), Int.toNat_natCast, take_set (show i < xs.length by omega)]
    exact ih (i + 1) (by omega)
theorem toIntS_ev (xs : List Int) (hn : xs.length ≤ 17592186044416) : Ev (fun k => laws_toIntS.f k xs) xs := by
  simp only [laws_toIntS.f, if_pos (show (0 : Int) ≤ (xs.length : Int) by omega), Int.toNat_natCast, if_pos (show xs.length ≤ 35184372088832 by omega)]
  simpa using toIntS_l xs hn xs.length 0 (by omega)
theorem eqIntS_l (xs ys : List Int) (hn : xs.length ≤ 140737488355328) (hl : ys.length = xs.length) (d : Nat) : ∀ i : Nat, i + d = xs.length →
    Ev (fun k => laws_eqIntS.l0 k xs ys (i : Int)) (decide (xs.drop i = ys.drop i)) := by
  induction d with
  | zero =>
    intro i h
    refine ev_succ ?_
    simp only [laws_eqIntS.l0, if_neg (show ¬ ((i : Int) < (xs.length : Int)) by omega)]
    exact ev_some (by rw [List.drop_of_length_le (by omega), List.drop_of_length_le (by omega)]; rfl)
  | succ d ih =>
    intro i h
    refine ev_succ ?_
    simp only [laws_eqIntS.l0, if_pos (show ((i : Int) < (xs.length : Int)) by omega), if_pos (show (0 : Int) ≤ (i : Int) by omega), hl, w64s i (by omega)]
    rw [drop_rd (show i < xs.length by omega), drop_rd (show i < ys.length by omega)]
    by_cases e : rd xs (i : Int) = rd ys (i : Int)
    · simp only [if_pos e]
      simpa [e] using ih (i + 1) (by omega)
    · simp only [if_neg e]
      exact ev_some (by simp [e])
theorem eqIntS_ev (xs ys : List Int) (hn : xs.length ≤ 140737488355328) : Ev (fun k => laws_eqIntS.f k xs ys) (decide (xs = ys)) := by
  unfold laws_eqIntS.f
  by_cases hl : ys.length = xs.length
  · simp only [if_pos (show (xs.length : Int) = (ys.length : Int) by omega)]
    simpa using eqIntS_l xs ys hn hl xs.length 0 (by omega)
  · simp only [if_neg (show ¬ (xs.length : Int) = (ys.length : Int) by omega)]
    exact ev_some (by
      have : ¬ xs = ys := fun e => hl (by rw [e])
      simp [this])
theorem eqIntS_self (xs : List Int) (hn : xs.length ≤ 140737488355328) : Ev (fun k => laws_eqIntS.f k xs xs) true := by simpa using eqIntS_ev xs xs hn
def slotsB (l : List Int) : Bool := inB (l.length : Int) 1 40 && allB l 0 255
theorem impl_slotsOk_ev (l : List Int) (hn : l.length < 4611686018427387904) : Ev (fun k => impl_slotsOk.f k l) (slotsB l) := by
  simp only [impl_slotsOk.f, impl_in_eq, Option.bind_some]
  unfold slotsB
  cases inB (l.length : Int) 1 40 with
  | true => simpa using (impl_allIn_ev 0 255 l hn).bind (f := fun _ t => some t) (ev_now _)
  | false => simpa using ev_now false
theorem spec_l16Plan_ev (l : List Int) (hn : l.length < 4611686018427387904) : Ev (fun k => spec_l16Plan.f k l) (slotsB l) := by
  simp only [spec_l16Plan.f, spec_in_eq, Option.bind_some]
  unfold slotsB
  cases inB (l.length : Int) 1 40 with
  | true => simpa using (spec_l1All_ev 0 255 l hn).bind (f := fun _ t => some t) (ev_now _)
  | false => simpa using ev_now false
theorem slices_Index_l (a : Int) (xs : List Int) (hn : xs.length < 4611686018427387904) (d : Nat) : ∀ i : Nat, i + d = xs.length →
    ∃ r : Int, Ev (fun k => slices_Index_int_int.l0 k xs a (xs.length : Int) (i : Int)) r ∧ (0 ≤ r ↔ a ∈ xs.drop i) := by
  induction d with
  | zero =>
    intro i h
    refine ⟨-1, ev_succ ?_, ?_⟩
    · simp only [slices_Index_int_int.l0, if_neg (show ¬ ((i : Int) < (xs.length : Int)) by omega)]
      exact ev_now _
    · rw [List.drop_of_length_le (by omega)]; simp
  | succ d ih =>
    intro i h
    obtain ⟨r, hr, hm⟩ := ih (i + 1) (by omega)
    by_cases e : a = rd xs (i : Int)
    · refine ⟨i, ev_succ ?_, ?_⟩
      · simp only [slices_Index_int_int.l0, if_pos (show ((i : Int) < (xs.length : Int)) by omega), if_pos (show (0 : Int) ≤ (i : Int) by omega), if_pos e]
        exact ev_now _
      · rw [drop_rd (show i < xs.length by omega)]; simp [e]
    · refine ⟨r, ev_succ ?_, ?_⟩
      · simp only [slices_Index_int_int.l0, if_pos (show ((i : Int) < (xs.length : Int)) by omega), if_pos (show (0 : Int) ≤ (i : Int) by omega), if_neg e, w64s i (by omega)]
        exact hr
      · rw [drop_rd (show i < xs.length by omega), hm]; simp [e]
theorem slices_Contains_ev (a : Int) (xs : List Int) (hn : xs.length < 4611686018427387904) : Ev (fun k => slices_Contains_int_int.f k xs a) (decide (a ∈ xs)) := by
  obtain ⟨r, hr, hm⟩ := slices_Index_l a xs hn xs.length 0 (by omega)
  simp only [slices_Contains_int_int.f, slices_Index_int_int.f]
  refine hr.bind (ev_some ?_)
  simpa using hm
/-- Slot i (over and over) is a's. -/
def Hit (l : List Int) (a : Int) (i : Nat) : Prop := rd l ((i % l.length : Nat) : Int) = a
/-- d slots behind i comes a's next one. -/
def Nxt (l : List Int) (a : Int) (i d : Nat) : Prop := 1 ≤ d ∧ Hit l a (i + d) ∧ ∀ e, 1 ≤ e → e < d → ¬ Hit l a (i + e)
/-- The greatest way from one of a's slots to its next one. -/
def IsGap (l : List Int) (a : Int) (m : Nat) : Prop := (∀ h d, h < l.length → Hit l a h → Nxt l a h d → d ≤ m) ∧ ∃ h, h < l.length ∧ Hit l a h ∧ Nxt l a h m
theorem Nxt.one {l : List Int} {a : Int} {i d d' : Nat} (h : Nxt l a i d) (h' : Nxt l a i d') : d = d' := by
  rcases Nat.lt_trichotomy d d' with x | x | x
  · exact absurd h.2.1 (h'.2.2 d h.1 x)
  · exact x
  · exact absurd h'.2.1 (h.2.2 d' h'.1 x)
theorem IsGap.one {l : List Int} {a : Int} {m m' : Nat} (h : IsGap l a m) (h' : IsGap l a m') : m = m' := by
  obtain ⟨x, hx, hh, hn⟩ := h.2
  obtain ⟨x', hx', hh', hn'⟩ := h'.2
  have := h.1 x' m' hx' hh' hn'
  have := h'.1 x m hx hh hn
  omega
theorem Hit.around {l : List Int} {a : Int} {i : Nat} : Hit l a (i + l.length) ↔ Hit l a i := by simp [Hit]
theorem Nxt.around {l : List Int} {a : Int} {i d : Nat} : Nxt l a (i + l.length) d ↔ Nxt l a i d := by
  unfold Nxt
  have e : ∀ x, Hit l a (i + l.length + x) ↔ Hit l a (i + x) := fun x => by rw [show i + l.length + x = (i + x) + l.length by omega]; exact Hit.around
  simp only [e]
theorem Nxt.le {l : List Int} {a : Int} {i d : Nat} (hl : 0 < l.length) (hh : Hit l a i) (h : Nxt l a i d) : d ≤ l.length := by
  refine Classical.byContradiction fun x => h.2.2 l.length (by omega) (by omega) ?_
  exact Hit.around.2 hh
theorem Nxt.some {l : List Int} {a : Int} {i : Nat} (hl : 0 < l.length) (h : Hit l a i) : ∃ d, Nxt l a i d := by
  obtain ⟨d, ⟨h1, h2⟩, h3⟩ := least (p := fun d => 1 ≤ d ∧ Hit l a (i + d)) ⟨l.length, by omega, Hit.around.2 h⟩
  exact ⟨d, h1, h2, fun e x1 x2 x3 => h3 e x2 ⟨x1, x3⟩⟩
/-- What the loop over both rounds knows. -/
def GapInv (l : List Int) (a : Int) (i : Nat) (most last : Int) : Prop :=
  (last = -1 ∧ most = 0 ∧ ∀ j, j < i → ¬ Hit l a j) ∨
  ∃ L m : Nat, last = L ∧ most = m ∧ L < i ∧ m ≤ i ∧ Hit l a L ∧ (∀ j, L < j → j < i → ¬ Hit l a j) ∧ (∀ h d, h < L → Hit l a h → Nxt l a h d → d ≤ m) ∧ (m = 0 ∨ ∃ h, h < L ∧ Hit l a h ∧ Nxt l a h m)
theorem impl_Gap16_l (a : Int) (l : List Int) (hl : 0 < l.length) (hn : l.length < 1000) (ha : a ∈ l) (d : Nat) : ∀ (i : Nat) (most last : Int), i + d = 2 * l.length → GapInv l a i most last →
    ∃ m : Nat, Ev (fun k => impl_Gap16.l0 k l a most last (2 * (l.length : Int)) (i : Int)) ((m : Int), true) ∧ IsGap l a m := by
  induction d with
  | zero =>
    intro i most last h hI
    obtain ⟨p, hp, hpa⟩ := List.getElem_of_mem ha
    have hitp : Hit l a p := by simp only [Hit, Nat.mod_eq_of_lt hp]; rw [rd_nat hp, hpa]
    have hitq := Hit.around.2 hitp
    rcases hI with ⟨_, _, hno⟩ | ⟨L, m, rfl, rfl, hL, _, hhL, hno, hall, hex⟩
    · exact absurd hitp (hno p (by omega))
    · refine ⟨m, ev_succ ?_, ?_, ?_⟩
      · simp only [impl_Gap16.l0, if_neg (show ¬ ((i : Int) < 2 * (l.length : Int)) by omega)]
        exact ev_now _
      · intro h' d' h1 h2 h3
        refine hall h' d' ?_ h2 h3
        have : p + l.length ≤ L := Classical.byContradiction fun x => hno (p + l.length) (by omega) (by omega) hitq
        omega
      · have hLn : p + l.length ≤ L := Classical.byContradiction fun x => hno (p + l.length) (by omega) (by omega) hitq
        rcases hex with rfl | ⟨h', h1, h2, h3⟩
        · -- there is a next one of p, at most at p + length
          have hw : ∃ d, Nxt l a p d := by
            exact Nxt.some (by omega) hitp
          obtain ⟨d', hd'⟩ := hw
          have := hall p d' (by omega) hitp hd'
          have h1 := hd'.1
          omega
        · by_cases hlt : h' < l.length
          · exact ⟨h', hlt, h2, h3⟩
          · have e : h' = (h' - l.length) + l.length := by omega
            rw [e] at h2 h3
            exact ⟨h' - l.length, by omega, Hit.around.1 h2, Nxt.around.1 h3⟩
  | succ d ih =>
    intro i most last h hI
    have hm : Int.tmod (i : Int) (l.length : Int) = ((i % l.length : Nat) : Int) := by rw [Int.tmod_eq_emod_of_nonneg (by omega)]; omega
    have hlt := Nat.mod_lt i hl
    by_cases hit : rd l ((i % l.length : Nat) : Int) = a
    · rcases hI with ⟨rfl, rfl, hno⟩ | ⟨L, m, rfl, rfl, hL, hmi, hhL, hno, hall, hex⟩
      · obtain ⟨m', hm', hg⟩ := ih (i + 1) 0 (i : Int) (by omega) (.inr ⟨i, 0, rfl, rfl, by omega, by omega, hit, fun j h1 h2 => by omega, fun h' d' h1 h2 h3 => absurd h2 (hno h' h1), .inl rfl⟩)
        refine ⟨m', ev_succ ?_, hg⟩
        simp only [impl_Gap16.l0, if_pos (show ((i : Int) < 2 * (l.length : Int)) by omega), if_neg (show ¬ ((l.length : Int) = 0) by omega), hm, if_pos (show (0 : Int) ≤ ((i % l.length : Nat) : Int) by omega), if_pos (show ((i % l.length : Nat) : Int) < (l.length : Int) by omega), if_pos hit, if_neg (show ¬ ((-1 : Int) ≥ 0) by omega), w64s i (by omega)]
        exact hm'
      · have hnx : Nxt l a L (i - L) := ⟨by omega, by rw [show L + (i - L) = i by omega]; exact hit, fun e h1 h2 => hno _ (by omega) (by omega)⟩
        have hI' : GapInv l a (i + 1) (mx (m : Int) ((i : Int) - (L : Int))) (i : Int) := by
          refine .inr ⟨i, max m (i - L), rfl, by unfold mx; split <;> omega, by omega, by omega, hit, fun j h1 h2 => by omega, ?_, ?_⟩
          · intro h' d' h1 h2 h3
            rcases Nat.lt_trichotomy h' L with x | x | x
            · have := hall h' d' x h2 h3; omega
            · subst x; have := h3.one hnx; omega
            · exact absurd h2 (hno h' x h1)
          · rcases Nat.le_total m (i - L) with x | x
            · rw [Nat.max_eq_right x]; exact .inr ⟨L, hL, hhL, hnx⟩
            · rw [Nat.max_eq_left x]
              rcases hex with e | ⟨h', h1, h2, h3⟩
              · omega
              · exact .inr ⟨h', by omega, h2, h3⟩
        obtain ⟨m', hm', hg⟩ := ih (i + 1) _ (i : Int) (by omega) hI'
        refine ⟨m', ev_succ ?_, hg⟩
        simp only [impl_Gap16.l0, if_pos (show ((i : Int) < 2 * (l.length : Int)) by omega), if_neg (show ¬ ((l.length : Int) = 0) by omega), hm, if_pos (show (0 : Int) ≤ ((i % l.length : Nat) : Int) by omega), if_pos (show ((i % l.length : Nat) : Int) < (l.length : Int) by omega), if_pos hit, if_pos (show ((L : Int) ≥ 0) by omega), w64s i (by omega), w64 (show -9223372036854775808 ≤ (i : Int) - (L : Int) by omega) (by omega)]
        exact hm'
    · obtain ⟨m', hm', hg⟩ := ih (i + 1) most last (by omega) (by
        rcases hI with ⟨e1, e2, hno⟩ | ⟨L, m, e1, e2, hL, hmi, hhL, hno, hall, hex⟩
        · exact .inl ⟨e1, e2, fun j hj => by
            by_cases x : j = i
            · subst x; exact hit
            · exact hno j (by omega)⟩
        · exact .inr ⟨L, m, e1, e2, by omega, by omega, hhL, fun j h1 h2 => by
            by_cases x : j = i
            · subst x; exact hit
            · exact hno j h1 (by omega), hall, hex⟩)
      refine ⟨m', ev_succ ?_, hg⟩
      simp only [impl_Gap16.l0, if_pos (show ((i : Int) < 2 * (l.length : Int)) by omega), if_neg (show ¬ ((l.length : Int) = 0) by omega), hm, if_pos (show (0 : Int) ≤ ((i % l.length : Nat) : Int) by omega), if_pos (show ((i % l.length : Nat) : Int) < (l.length : Int) by omega), if_neg hit, w64s i (by omega)]
      exact hm'
theorem impl_Gap16_no (l : List Int) (a : Int) (hn : l.length < 4611686018427387904) (h : (slotsB l && !(decide (a = 0)) && decide (a ∈ l)) = false) : Ev (fun k => impl_Gap16.f k l a) (0, false) := by
  simp only [impl_Gap16.f]
  refine (impl_slotsOk_ev l hn).bind ?_
  cases hs : slotsB l with
  | false =>
    simp only [Bool.false_eq_true, if_false]
    refine ev_succ ?_
    simp only [impl_Gap16.j0, if_true]
    exact ev_now _
  | true =>
    simp only [if_true]
    by_cases h0 : a = 0
    · simp only [if_pos h0]
      refine ev_succ ?_
      simp only [impl_Gap16.j0, if_true]
      exact ev_now _
    · simp only [if_neg h0]
      refine (slices_Contains_ev a l hn).bind ?_
      have : decide (a ∈ l) = false := by simpa [hs, h0] using h
      simp only [this]
      refine ev_succ ?_
      simp only [impl_Gap16.j0, Bool.not_false, if_true]
      exact ev_now _
theorem impl_Gap16_yes (l : List Int) (a : Int) (hs : slotsB l = true) (h0 : ¬ a = 0) (ha : a ∈ l) : ∃ m : Nat, Ev (fun k => impl_Gap16.f k l a) ((m : Int), true) ∧ IsGap l a m := by
  have hlen : 1 ≤ (l.length : Int) ∧ (l.length : Int) ≤ 40 := by simp [slotsB, inB] at hs; omega
  obtain ⟨m, hm, hg⟩ := impl_Gap16_l a l (by omega) (by omega) ha (2 * l.length) 0 0 (-1) (by omega) (.inl ⟨rfl, rfl, fun j hj => by omega⟩)
  refine ⟨m, ?_, hg⟩
  simp only [impl_Gap16.f]
  refine (impl_slotsOk_ev l (by omega)).bind ?_
  simp only [hs, if_true, if_neg h0]
  refine (slices_Contains_ev a l (by omega)).bind ?_
  refine ev_succ ?_
  simp only [impl_Gap16.j0, ha, decide_true, Bool.not_true, Bool.false_eq_true, if_false, w64 (show -9223372036854775808 ≤ 2 * (l.length : Int) by omega) (show 2 * (l.length : Int) ≤ 9223372036854775807 by omega)]
  exact hm
theorem spec_l1Max_eq (a b : Int) : spec_l1Max.f a b = some (mx a b) := by
  unfold spec_l1Max.f mx
  by_cases h : a > b
  · rw [if_pos h, if_neg (by omega)]
  · rw [if_neg h]
    by_cases h' : a < b
    · rw [if_pos h']
    · rw [if_neg h', show a = b by omega]
/-- What the reference knows at its place i: the greatest way so far. -/
def GapTo (l : List Int) (a : Int) (i m : Nat) : Prop := (∀ h d, h < i → Hit l a h → Nxt l a h d → d ≤ m) ∧ (m = 0 ∨ ∃ h, h < i ∧ Hit l a h ∧ Nxt l a h m)
theorem spec_l1 (a : Int) (l : List Int) (hl : 0 < l.length) (hn : l.length < 1000) (i m D : Nat) (hi : i < l.length) (r : Int × Bool) (hD : Nxt l a i D) (hD2 : D ≤ l.length)
    (H : Ev (fun k => spec_Gap16.l0 k l a (mx (m : Int) (D : Int)) ((i + 1 : Nat) : Int)) r) (e : Nat) : ∀ d, 1 ≤ d → d + e = D → Ev (fun k => spec_Gap16.l1 k l a (m : Int) (i : Int) (d : Int)) r := by
  induction e with
  | zero =>
    intro d h1 h2
    obtain rfl : d = D := by omega
    have hw : wrap64 ((i : Int) + (d : Int)) = ((i + d : Nat) : Int) := by rw [w64 (by omega) (by omega)]; omega
    have hm : Int.tmod ((i + d : Nat) : Int) (l.length : Int) = (((i + d) % l.length : Nat) : Int) := by rw [Int.tmod_eq_emod_of_nonneg (by omega)]; omega
    have hlt := Nat.mod_lt (i + d) hl
    have hh : rd l (((i + d) % l.length : Nat) : Int) = a := hD.2.1
    refine ev_succ ?_
    simp only [spec_Gap16.l1, if_neg (show ¬ ((l.length : Int) = 0) by omega), hw, hm, if_pos (show (0 : Int) ≤ (((i + d) % l.length : Nat) : Int) by omega), if_pos (show (((i + d) % l.length : Nat) : Int) < (l.length : Int) by omega), if_pos hh, spec_l1Max_eq, Option.bind_some, w64s i (by omega)]
    exact H
  | succ e ih =>
    intro d h1 h2
    have hw : wrap64 ((i : Int) + (d : Int)) = ((i + d : Nat) : Int) := by rw [w64 (by omega) (by omega)]; omega
    have hm : Int.tmod ((i + d : Nat) : Int) (l.length : Int) = (((i + d) % l.length : Nat) : Int) := by rw [Int.tmod_eq_emod_of_nonneg (by omega)]; omega
    have hlt := Nat.mod_lt (i + d) hl
    have hh : ¬ rd l (((i + d) % l.length : Nat) : Int) = a := hD.2.2 d h1 (by omega)
    refine ev_succ ?_
    simp only [spec_Gap16.l1, if_neg (show ¬ ((l.length : Int) = 0) by omega), hw, hm, if_pos (show (0 : Int) ≤ (((i + d) % l.length : Nat) : Int) by omega), if_pos (show (((i + d) % l.length : Nat) : Int) < (l.length : Int) by omega), if_neg hh, w64s d (by omega)]
    exact ih (d + 1) (by omega) (by omega)
theorem spec_l0 (a : Int) (l : List Int) (hl : 0 < l.length) (hn : l.length < 1000) (d : Nat) : ∀ (i m : Nat), i + d = l.length → GapTo l a i m →
    ∃ m' : Nat, Ev (fun k => spec_Gap16.l0 k l a (m : Int) (i : Int)) ((m' : Int), decide ((m' : Int) > 0)) ∧ GapTo l a l.length m' := by
  induction d with
  | zero =>
    intro i m h hG
    obtain rfl : i = l.length := by omega
    refine ⟨m, ev_succ ?_, hG⟩
    simp only [spec_Gap16.l0, if_neg (show ¬ ((l.length : Int) < (l.length : Int)) by omega)]
    exact ev_now _
  | succ d ih =>
    intro i m h hG
    have hi : i % l.length = i := Nat.mod_eq_of_lt (by omega)
    by_cases hit : rd l (i : Int) = a
    · have hh : Hit l a i := by simp only [Hit, hi]; exact hit
      obtain ⟨D, hD⟩ := Nxt.some hl hh
      have hD2 := hD.le hl hh
      have hG' : GapTo l a (i + 1) (max m D) := by
        refine ⟨fun h' d' h1 h2 h3 => ?_, .inr ?_⟩
        · by_cases x : h' = i
          · subst x; have := h3.one hD; omega
          · have := hG.1 h' d' (by omega) h2 h3; omega
        · rcases Nat.le_total m D with x | x
          · rw [Nat.max_eq_right x]; exact ⟨i, by omega, hh, hD⟩
          · rw [Nat.max_eq_left x]
            rcases hG.2 with e | ⟨h', h1, h2, h3⟩
            · have := hD.1; omega
            · exact ⟨h', by omega, h2, h3⟩
      obtain ⟨m', hm', hg⟩ := ih (i + 1) _ (by omega) hG'
      refine ⟨m', ev_succ ?_, hg⟩
      simp only [spec_Gap16.l0, if_pos (show ((i : Int) < (l.length : Int)) by omega), if_pos (show (0 : Int) ≤ (i : Int) by omega), if_pos hit]
      have e : mx (m : Int) (D : Int) = ((max m D : Nat) : Int) := by unfold mx; split <;> omega
      have := spec_l1 a l hl hn i m D (by omega) _ hD hD2 (by rw [e]; exact hm') (D - 1) 1 (by omega) (by have := hD.1; omega)
      simpa using this
    · have hh : ¬ Hit l a i := by simp only [Hit, hi]; exact hit
      obtain ⟨m', hm', hg⟩ := ih (i + 1) m (by omega) ⟨fun h' d' h1 h2 h3 => hG.1 h' d' (by
          have : h' ≠ i := fun e => hh (e ▸ h2)
          omega) h2 h3, by
        rcases hG.2 with e | ⟨h', h1, h2, h3⟩
        · exact .inl e
        · exact .inr ⟨h', by omega, h2, h3⟩⟩
      refine ⟨m', ev_succ ?_, hg⟩
      simp only [spec_Gap16.l0, if_pos (show ((i : Int) < (l.length : Int)) by omega), if_pos (show (0 : Int) ≤ (i : Int) by omega), if_neg hit, w64s i (by omega)]
      exact hm'
theorem gap_same (l : List Int) (a : Int) (hn : l.length ≤ 140737488355328) : ∃ r, Ev (fun k => impl_Gap16.f k l a) r ∧ Ev (fun k => spec_Gap16.f k l a) r := by
  by_cases hs : slotsB l = true
  · have hlen : 1 ≤ (l.length : Int) ∧ (l.length : Int) ≤ 40 := by simp [slotsB, inB] at hs; omega
    by_cases h0 : a = 0
    · refine ⟨(0, false), impl_Gap16_no l a (by omega) (by simp [h0]), ?_⟩
      simp only [spec_Gap16.f]
      refine (spec_l16Plan_ev l (by omega)).bind ?_
      simp only [hs, if_true, h0, beq_self_eq_true]
      refine ev_succ ?_
      simp only [spec_Gap16.j0, if_true]
      exact ev_now _
    · obtain ⟨m', hm', hG⟩ := spec_l0 a l (by omega) (by omega) l.length 0 0 (by omega) ⟨fun _ _ h => by omega, .inl rfl⟩
      have hsp : Ev (fun k => spec_Gap16.f k l a) ((m' : Int), decide ((m' : Int) > 0)) := by
        simp only [spec_Gap16.f]
        refine (spec_l16Plan_ev l (by omega)).bind ?_
        simp only [hs, if_true, show (a == 0) = false from beq_eq_false_iff_ne.2 h0]
        refine ev_succ ?_
        simp only [spec_Gap16.j0, Bool.false_eq_true, if_false]
        simpa using hm'
      by_cases ha : a ∈ l
      · obtain ⟨m, hm, hg⟩ := impl_Gap16_yes l a hs h0 ha
        refine ⟨_, hm, ev_val hsp ?_⟩
        obtain ⟨x, hx, hh, hnx⟩ := hg.2
        have e : m' = m := by
          have h1 := hG.1 x m hx hh hnx
          rcases hG.2 with e | ⟨h', q1, q2, q3⟩
          · have := hnx.1; omega
          · have := hg.1 h' m' q1 q2 q3; omega
        subst e
        have := hnx.1
        simp; omega
      · refine ⟨(0, false), impl_Gap16_no l a (by omega) (by simp [ha]), ev_val hsp ?_⟩
        have : m' = 0 := by
          rcases hG.2 with e | ⟨h', q1, q2, q3⟩
          · exact e
          · refine absurd (show a ∈ l from ?_) ha
            have hi : h' % l.length = h' := Nat.mod_eq_of_lt q1
            have := q2
            simp only [Hit, hi] at this
            rw [← this]
            exact rd_mem (by omega) (by omega)
        simp [this]
  · have hs' : slotsB l = false := by simpa using hs
    refine ⟨(0, false), impl_Gap16_no l a (by omega) (by simp [hs']), ?_⟩
    simp only [spec_Gap16.f]
    refine (spec_l16Plan_ev l (by omega)).bind ?_
    simp only [hs', Bool.false_eq_true, if_false]
    refine ev_succ ?_
    simp only [spec_Gap16.j0, if_true]
    exact ev_now _
theorem FnExactGap16 : laws_FnExactGap16.Pure := by
  intro l a _ hn8 _ _
  have hn : l.length ≤ 17592186044416 := by omega
  obtain ⟨r, hi, hs⟩ := gap_same l a (by omega)
  refine Ev.rounds ?_
  simp only [laws_FnExactGap16.f]
  by_cases hb : (l.length : Int) > 1048576
  · simp only [if_pos hb]
    exact ev_now _
  · simp only [if_neg hb]
    refine (toIntS_ev l hn).bind ?_
    refine hs.bind ?_
    refine (toIntS_ev l hn).bind ?_
    refine hi.bind ?_
    simp only [if_true]
    refine ev_succ ?_
    simp only [laws_FnExactGap16.j0, bne_self_eq_false, Bool.false_eq_true, if_false]
    refine (toIntS_ev l hn).bind ?_
    exact (eqIntS_self l (by omega)).bind (f := fun _ t => if t = true then some true else some false) (ev_now _)
end Go.Proofs.Ytcdniegjefejcaa.Pure
