/- Every drawn plan of slots: each link has its slots again within its gap, and the plan comes over and over. No condition. -/
import Derived.Test.YtcdniegjefejcaaPFnSlotsx2
import Derived.Test.YtcdniegjefejcaaBase
set_option linter.unusedVariables false
set_option linter.unusedSimpArgs false
namespace Go.Proofs.Ytcdniegjefejcaa.Pure
open Go.RowKit Go.Proofs.Ytcdniegjefejcaa.PFnSlots Go.Proofs.Ytcdniegjefejcaa.Base Go.Proofs.YtcdniegjefejcaaW.PrintWords Go.Proofs.YtcdniegjefejcaaW.PrintLast
theorem impl_in_eq (a b c : Int) : impl_in.f a b c = some (inB a b c) := in_form a b c
theorem impl_allIn_l (b c : Int) (xs : List Int) (hn : xs.length < 4611686018427387904) (d : Nat) : ∀ i : Nat, i + d = xs.length →
    Ev (fun k => impl_allIn.l0 k b c xs (xs.length : Int) (i : Int)) (allB (xs.drop i) b c) := by
  induction d with
  | zero =>
    intro i h
    refine ev_succ ?_
    simp only [impl_allIn.l0, if_neg (show ¬ ((i : Int) < (xs.length : Int)) by omega)]
    rw [List.drop_of_length_le (by omega)]
    exact ev_now _
  | succ d ih =>
    intro i h
    refine ev_succ ?_
    simp only [impl_allIn.l0, if_pos (show ((i : Int) < (xs.length : Int)) by omega), if_pos (show (0 : Int) ≤ (i : Int) by omega), impl_in_eq, Option.bind_some, w64s i (by omega)]
    rw [drop_rd (show i < xs.length by omega)]
    cases hb : inB (rd xs (i : Int)) b c with
    | true => simpa [allB, hb] using ih (i + 1) (by omega)
    | false => simpa [allB, hb] using ev_now false
theorem impl_allIn_ev (b c : Int) (xs : List Int) (hn : xs.length < 4611686018427387904) : Ev (fun k => impl_allIn.f k xs b c) (allB xs b c) := by
  simpa [impl_allIn.f] using impl_allIn_l b c xs hn xs.length 0 (by omega)
def slotsB (l : List Int) : Bool := inB (l.length : Int) 1 40 && allB l 0 255
theorem impl_slotsOk_ev (l : List Int) (hn : l.length < 4611686018427387904) : Ev (fun k => impl_slotsOk.f k l) (slotsB l) := by
  simp only [impl_slotsOk.f, impl_in_eq, Option.bind_some]
  unfold slotsB
  cases inB (l.length : Int) 1 40 with
  | true => simpa using (impl_allIn_ev 0 255 l hn).bind (f := fun _ t => some t) (ev_now _)
  | false => simpa using ev_now false
theorem impl_isTick_eq (a : Int) : impl_isTick.f a = some (inB a 0 100000000) := by simp [impl_isTick.f, impl_in_eq]
def slotAt (l : List Int) (t : Int) : Int × Bool := if slotsB l && inB t 0 100000000 then (rd l (Int.tmod t (l.length : Int)), true) else (0, false)
theorem impl_Slot16_ev (l : List Int) (t : Int) (hn : l.length < 4611686018427387904) : Ev (fun k => impl_Slot16.f k l t) (slotAt l t) := by
  simp only [impl_Slot16.f, impl_isTick_eq, Option.bind_some]
  refine (impl_slotsOk_ev l hn).bind ?_
  unfold slotAt
  cases hs : slotsB l with
  | false => simpa using ev_now _
  | true =>
    cases ht : inB t 0 100000000 with
    | false => simpa using ev_now _
    | true =>
      have h1 : 1 ≤ (l.length : Int) := by simp [slotsB, inB] at hs; omega
      have h2 : 0 ≤ t := by simp [inB] at ht; omega
      have h3 := Int.tmod_nonneg (l.length : Int) h2
      have h4 := Int.tmod_lt_of_pos t (show 0 < (l.length : Int) by omega)
      simp only [if_true, Bool.and_true, if_neg (show ¬ ((l.length : Int) = 0) by omega), if_pos h3, if_pos h4]
      exact ev_now _
theorem slices_Index_l (a : Int) (xs : List Int) (hn : xs.length < 4611686018427387904) (d : Nat) : ∀ i : Nat, i + d = xs.length →
    ∃ r : Int, Ev (fun k => slices_Index_int_int.l0 k xs a (xs.length : Int) (i : Int)) r ∧ (0 ≤ r ↔ a ∈ xs.drop i) := by
  induction d with
  | zero =>
    intro i h
    refine ⟨-1, ev_succ ?_, ?_⟩
    · simp only [slices_Index_int_int.l0, if_neg (show ¬ ((i : Int) < (xs.length : Int)) by omega)]
      exact ev_now _
    · rw [List.drop_of_length_le (by omega)]; simp
  | succ d ih =>
    intro i h
    obtain ⟨r, hr, hm⟩ := ih (i + 1) (by omega)
    by_cases e : a = rd xs (i : Int)
    · refine ⟨i, ev_succ ?_, ?_⟩
      · simp only [slices_Index_int_int.l0, if_pos (show ((i : Int) < (xs.length : Int)) by omega), if_pos (show (0 : Int) ≤ (i : Int) by omega), if_pos e]
        exact ev_now _
      · rw [drop_rd (show i < xs.length by omega)]; simp [e]
    · refine ⟨r, ev_succ ?_, ?_⟩
      · simp only [slices_Index_int_int.l0, if_pos (show ((i : Int) < (xs.length : Int)) by omega), if_pos (show (0 : Int) ≤ (i : Int) by omega), if_neg e, w64s i (by omega)]
        exact hr
      · rw [drop_rd (show i < xs.length by omega), hm]; simp [e]
theorem slices_Contains_ev (a : Int) (xs : List Int) (hn : xs.length < 4611686018427387904) : Ev (fun k => slices_Contains_int_int.f k xs a) (decide (a ∈ xs)) := by
  obtain ⟨r, hr, hm⟩ := slices_Index_l a xs hn xs.length 0 (by omega)
  simp only [slices_Contains_int_int.f, slices_Index_int_int.f]
  refine hr.bind (ev_some ?_)
  simpa using hm
/-- Slot i (over and over) is a's. -/
def Hit (l : List Int) (a : Int) (i : Nat) : Prop := rd l ((i % l.length : Nat) : Int) = a
/-- d slots behind i comes a's next one. -/
def Nxt (l : List Int) (a : Int) (i d : Nat) : Prop := 1 ≤ d ∧ Hit l a (i + d) ∧ ∀ e, 1 ≤ e → e < d → ¬ Hit l a (i + e)
/-- The greatest way from one of a's slots to its next one. -/
def IsGap (l : List Int) (a : Int) (m : Nat) : Prop := (∀ h d, h < l.length → Hit l a h → Nxt l a h d → d ≤ m) ∧ ∃ h, h < l.length ∧ Hit l a h ∧ Nxt l a h m
theorem Nxt.one {l : List Int} {a : Int} {i d d' : Nat} (h : Nxt l a i d) (h' : Nxt l a i d') : d = d' := by
  rcases Nat.lt_trichotomy d d' with x | x | x
  · exact absurd h.2.1 (h'.2.2 d h.1 x)
  · exact x
  · exact absurd h'.2.1 (h.2.2 d' h'.1 x)
theorem IsGap.one {l : List Int} {a : Int} {m m' : Nat} (h : IsGap l a m) (h' : IsGap l a m') : m = m' := by
  obtain ⟨x, hx, hh, hn⟩ := h.2
  obtain ⟨x', hx', hh', hn'⟩ := h'.2
  have := h.1 x' m' hx' hh' hn'
  have := h'.1 x m hx hh hn
  omega
theorem Hit.around {l : List Int} {a : Int} {i : Nat} : Hit l a (i + l.length) ↔ Hit l a i := by simp [Hit]
theorem Nxt.around {l : List Int} {a : Int} {i d : Nat} : Nxt l a (i + l.length) d ↔ Nxt l a i d := by
  unfold Nxt
  have e : ∀ x, Hit l a (i + l.length + x) ↔ Hit l a (i + x) := fun x => by rw [show i + l.length + x = (i + x) + l.length by omega]; exact Hit.around
  simp only [e]
theorem Nxt.le {l : List Int} {a : Int} {i d : Nat} (hl : 0 < l.length) (hh : Hit l a i) (h : Nxt l a i d) : d ≤ l.length := by
  refine Classical.byContradiction fun x => h.2.2 l.length (by omega) (by omega) ?_
  exact Hit.around.2 hh
theorem Nxt.some {l : List Int} {a : Int} {i : Nat} (hl : 0 < l.length) (h : Hit l a i) : ∃ d, Nxt l a i d := by
  obtain ⟨d, ⟨h1, h2⟩, h3⟩ := least (p := fun d => 1 ≤ d ∧ Hit l a (i + d)) ⟨l.length, by omega, Hit.around.2 h⟩
  exact ⟨d, h1, h2, fun e x1 x2 x3 => h3 e x2 ⟨x1, x3⟩⟩
/-- What the loop over both rounds knows. -/
def GapInv (l : List Int) (a : Int) (i : Nat) (most last : Int) : Prop :=
  (last = -1 ∧ most = 0 ∧ ∀ j, j < i → ¬ Hit l a j) ∨
  ∃ L m : Nat, last = L ∧ most = m ∧ L < i ∧ m ≤ i ∧ Hit l a L ∧ (∀ j, L < j → j < i → ¬ Hit l a j) ∧ (∀ h d, h < L → Hit l a h → Nxt l a h d → d ≤ m) ∧ (m = 0 ∨ ∃ h, h < L ∧ Hit l a h ∧ Nxt l a h m)
theorem impl_Gap16_l (a : Int) (l : List Int) (hl : 0 < l.length) (hn : l.length < 1000) (ha : a ∈ l) (d : Nat) : ∀ (i : Nat) (most last : Int), i + d = 2 * l.length → GapInv l a i most last →
    ∃ m : Nat, Ev (fun k => impl_Gap16.l0 k l a most last (2 * (l.length : Int)) (i : Int)) ((m : Int), true) ∧ IsGap l a m := by
  induction d with
  | zero =>
    intro i most last h hI
    obtain ⟨p, hp, hpa⟩ := List.getElem_of_mem ha
    have hitp : Hit l a p := by simp only [Hit, Nat.mod_eq_of_lt hp]; rw [rd_nat hp, hpa]
    have hitq := Hit.around.2 hitp
    rcases hI with ⟨_, _, hno⟩ | ⟨L, m, rfl, rfl, hL, _, hhL, hno, hall, hex⟩
    · exact absurd hitp (hno p (by omega))
    · refine ⟨m, ev_succ ?_, ?_, ?_⟩
      · simp only [impl_Gap16.l0, if_neg (show ¬ ((i : Int) < 2 * (l.length : Int)) by omega)]
        exact ev_now _
      · intro h' d' h1 h2 h3
        refine hall h' d' ?_ h2 h3
        have : p + l.length ≤ L := Classical.byContradiction fun x => hno (p + l.length) (by omega) (by omega) hitq
        omega
      · have hLn : p + l.length ≤ L := Classical.byContradiction fun x => hno (p + l.length) (by omega) (by omega) hitq
        rcases hex with rfl | ⟨h', h1, h2, h3⟩
        · -- there is a next one of p, at most at p + length
          have hw : ∃ d, Nxt l a p d := by
            exact Nxt.some (by omega) hitp
          obtain ⟨d', hd'⟩ := hw
          have := hall p d' (by omega) hitp hd'
          have h1 := hd'.1
          omega
        · by_cases hlt : h' < l.length
          · exact ⟨h', hlt, h2, h3⟩
          · have e : h' = (h' - l.length) + l.length := by omega
            rw [e] at h2 h3
            exact ⟨h' - l.length, by omega, Hit.around.1 h2, Nxt.around.1 h3⟩
  | succ d ih =>
    intro i most last h hI
    have hm : Int.tmod (i : Int) (l.length : Int) = ((i % l.length : Nat) : Int) := by rw [Int.tmod_eq_emod_of_nonneg (by omega)]; omega
    have hlt := Nat.mod_lt i hl
    by_cases hit : rd l ((i % l.length : Nat) : Int) = a
    · rcases hI with ⟨rfl, rfl, hno⟩ | ⟨L, m, rfl, rfl, hL, hmi, hhL, hno, hall, hex⟩
      · obtain ⟨m', hm', hg⟩ := ih (i + 1) 0 (i : Int) (by omega) (.inr ⟨i, 0, rfl, rfl, by omega, by omega, hit, fun j h1 h2 => by omega, fun h' d' h1 h2 h3 => absurd h2 (hno h' h1), .inl rfl⟩)
        refine ⟨m', ev_succ ?_, hg⟩
        simp only [impl_Gap16.l0, if_pos (show ((i : Int) < 2 * (l.length : Int)) by omega), if_neg (show ¬ ((l.length : Int) = 0) by omega), hm, if_pos (show (0 : Int) ≤ ((i % l.length : Nat) : Int) by omega), if_pos (show ((i % l.length : Nat) : Int) < (l.length : Int) by omega), if_pos hit, if_neg (show ¬ ((-1 : Int) ≥ 0) by omega), w64s i (by omega)]
        exact hm'
      · have hnx : Nxt l a L (i - L) := ⟨by omega, by rw [show L + (i - L) = i by omega]; exact hit, fun e h1 h2 => hno _ (by omega) (by omega)⟩
        have hI' : GapInv l a (i + 1) (mx (m : Int) ((i : Int) - (L : Int))) (i : Int) := by
          refine .inr ⟨i, max m (i - L), rfl, by unfold mx; split <;> omega, by omega, by omega, hit, fun j h1 h2 => by omega, ?_, ?_⟩
          · intro h' d' h1 h2 h3
            rcases Nat.lt_trichotomy h' L with x | x | x
            · have := hall h' d' x h2 h3; omega
            · subst x; have := h3.one hnx; omega
            · exact absurd h2 (hno h' x h1)
          · rcases Nat.le_total m (i - L) with x | x
            · rw [Nat.max_eq_right x]; exact .inr ⟨L, hL, hhL, hnx⟩
            · rw [Nat.max_eq_left x]
              rcases hex with e | ⟨h', h1, h2, h3⟩
              · omega
              · exact .inr ⟨h', by omega, h2, h3⟩
        obtain ⟨m', hm', hg⟩ := ih (i + 1) _ (i : Int) (by omega) hI'
        refine ⟨m', ev_succ ?_, hg⟩
        simp only [impl_Gap16.l0, if_pos (show ((i : Int) < 2 * (l.length : Int)) by omega), if_neg (show ¬ ((l.length : Int) = 0) by omega), hm, if_pos (show (0 : Int) ≤ ((i % l.length : Nat) : Int) by omega), if_pos (show ((i % l.length : Nat) : Int) < (l.length : Int) by omega), if_pos hit, if_pos (show ((L : Int) ≥ 0) by omega), w64s i (by omega), w64 (show -9223372036854775808 ≤ (i : Int) - (L : Int) by omega) (by omega)]
        exact hm'
    · obtain ⟨m', hm', hg⟩ := ih (i + 1) most last (by omega) (by
        rcases hI with ⟨e1, e2, hno⟩ | ⟨L, m, e1, e2, hL, hmi, hhL, hno, hall, hex⟩
        · exact .inl ⟨e1, e2, fun j hj => by
            by_cases x : j = i
            · subst x; exact hit
            · exact hno j (by omega)⟩
        · exact .inr ⟨L, m, e1, e2, by omega, by omega, hhL, fun j h1 h2 => by
            by_cases x : j = i
            · subst x; exact hit
            · exact hno j h1 (by omega), hall, hex⟩)
      refine ⟨m', ev_succ ?_, hg⟩
      simp only [impl_Gap16.l0, if_pos (show ((i : Int) < 2 * (l.length : Int)) by omega), if_neg (show ¬ ((l.length : Int) = 0) by omega), hm, if_pos (show (0 : Int) ≤ ((i % l.length : Nat) : Int) by omega), if_pos (show ((i % l.length : Nat) : Int) < (l.length : Int) by omega), if_neg hit, w64s i (by omega)]
      exact hm'
theorem impl_Gap16_no (l : List Int) (a : Int) (hn : l.length < 4611686018427387904) (h : (slotsB l && !(decide (a = 0)) && decide (a ∈ l)) = false) : Ev (fun k => impl_Gap16.f k l a) (0, false) := by
  simp only [impl_Gap16.f]
  refine (impl_slotsOk_ev l hn).bind ?_
  cases hs : slotsB l with
  | false =>
    simp only [Bool.false_eq_true, if_false]
    refine ev_succ ?_
    simp only [impl_Gap16.j0, if_true]
    exact ev_now _
  | true =>
    simp only [if_true]
    by_cases h0 : a = 0
    · simp only [if_pos h0]
      refine ev_succ ?_
      simp only [impl_Gap16.j0, if_true]
      exact ev_now _
    · simp only [if_neg h0]
      refine (slices_Contains_ev a l hn).bind ?_
      have : decide (a ∈ l) = false := by simpa [hs, h0] using h
      simp only [this]
      refine ev_succ ?_
      simp only [impl_Gap16.j0, Bool.not_false, if_true]
      exact ev_now _
theorem impl_Gap16_yes (l : List Int) (a : Int) (hs : slotsB l = true) (h0 : ¬ a = 0) (ha : a ∈ l) : ∃ m : Nat, Ev (fun k => impl_Gap16.f k l a) ((m : Int), true) ∧ IsGap l a m := by
  have hlen : 1 ≤ (l.length : Int) ∧ (l.length : Int) ≤ 40 := by simp [slotsB, inB] at hs; omega
  obtain ⟨m, hm, hg⟩ := impl_Gap16_l a l (by omega) (by omega) ha (2 * l.length) 0 0 (-1) (by omega) (.inl ⟨rfl, rfl, fun j hj => by omega⟩)
  refine ⟨m, ?_, hg⟩
  simp only [impl_Gap16.f]
  refine (impl_slotsOk_ev l (by omega)).bind ?_
  simp only [hs, if_true, if_neg h0]
  refine (slices_Contains_ev a l (by omega)).bind ?_
  refine ev_succ ?_
  simp only [impl_Gap16.j0, ha, decide_true, Bool.not_true, Bool.false_eq_true, if_false, w64 (show -9223372036854775808 ≤ 2 * (l.length : Int) by omega) (show 2 * (l.length : Int) ≤ 9223372036854775807 by omega)]
  exact hm
theorem at_ev (l : List Int) (hw : ∀ x ∈ l, 0 ≤ x ∧ x ≤ 255) (hn : l.length ≤ 1048576) (i : Int) (h0 : 0 ≤ i) (h1 : i ≤ 1000) : ∃ v, laws_at.f l i = some v ∧ 0 ≤ v ∧ v ≤ 255 := by
  unfold laws_at.f
  by_cases h : i < (l.length : Int)
  · have := hw _ (rd_mem h0 h)
    refine ⟨rd l i, ?_, this.1, this.2⟩
    rw [if_pos h, if_pos h0, w64 (by omega) (by omega)]
  · refine ⟨_, by rw [if_neg h], ?_, ?_⟩
    · rw [w64 (n := i * 7) (by omega) (by omega), w64 (by omega) (by omega)]
      have := Int.tmod_nonneg 256 (show 0 ≤ i * 7 + (l.length : Int) by omega)
      omega
    · rw [w64 (n := i * 7) (by omega) (by omega), w64 (by omega) (by omega)]
      have := Int.tmod_lt_of_pos (i * 7 + (l.length : Int)) (show (0 : Int) < 256 by omega)
      omega
theorem slots_l1 (p : List Int) (hp : slotsB p = true) (h9 : ∀ x ∈ p, 1 ≤ x ∧ x ≤ 3) (t : Nat) (ht : t ≤ 2000) (a : Int) (g : Nat) (hg : g ≤ 40) (d : Nat) : ∀ (i : Nat) (seen : Bool), i + d = g + 1 → (seen = true ∨ ∃ e, i ≤ e ∧ e ≤ g ∧ Hit p a (t + e)) →
    Ev (fun k => laws_FnSlots.l1 k p (t : Int) a (g : Int) seen (i : Int)) true := by
  have hlen : 1 ≤ (p.length : Int) ∧ (p.length : Int) ≤ 40 := by simp [slotsB, inB] at hp; omega
  induction d with
  | zero =>
    intro i seen h hs
    refine ev_succ ?_
    simp only [laws_FnSlots.l1, if_neg (show ¬ ((i : Int) ≤ (g : Int)) by omega)]
    refine (impl_Gap16_no p 9 (by omega) ?_).bind ?_
    · have : ¬ (9 : Int) ∈ p := fun h => by have := h9 9 h; omega
      simp [this]
    · rcases hs with rfl | ⟨e, h1, h2, _⟩
      · exact ev_now _
      · omega
  | succ d ih =>
    intro i seen h hs
    refine ev_succ ?_
    have hw : wrap64 ((t : Int) + (i : Int)) = ((t + i : Nat) : Int) := by rw [w64 (by omega) (by omega)]; omega
    simp only [laws_FnSlots.l1, if_pos (show ((i : Int) ≤ (g : Int)) by omega), hw, w64s i (by omega)]
    refine (impl_Slot16_ev p _ (by omega)).bind ?_
    cases seen with
    | true => exact ih (i + 1) true (by omega) (.inl rfl)
    | false =>
      simp only [Bool.false_eq_true, if_false]
      refine ih (i + 1) _ (by omega) ?_
      have hin : inB ((t + i : Nat) : Int) 0 100000000 = true := by rw [inB_iff]; omega
      have hm : Int.tmod ((t + i : Nat) : Int) (p.length : Int) = (((t + i) % p.length : Nat) : Int) := by rw [Int.tmod_eq_emod_of_nonneg (by omega)]; omega
      rcases hs with hs | ⟨e, h1, h2, h3⟩
      · cases hs
      · by_cases x : e = i
        · subst x
          left
          have e1 : (slotAt p ((t + e : Nat) : Int)).1 = rd p (((t + e) % p.length : Nat) : Int) := by simp only [slotAt, hp, hin, Bool.and_self, if_true, hm]
          rw [e1]
          exact beq_iff_eq.2 h3
        · exact .inr ⟨e, by omega, h2, h3⟩
theorem slots_tail (code : List Int) (hw : ∀ x ∈ code, 0 ≤ x ∧ x ≤ 255) (hn : code.length ≤ 1048576) (p : List Int) (hl : 1 ≤ p.length ∧ p.length ≤ 20) (h9 : ∀ x ∈ p, 1 ≤ x ∧ x ≤ 3) (n : Int) (hx : laws_at.f code 0 = some n) (he : wrap64 (1 + Int.tmod n 20) = (p.length : Int)) :
    Ev (fun k => laws_FnSlots.l0 k code p (p.length : Int)) true := by
  have hp : slotsB p = true := by
    simp only [slotsB, Bool.and_eq_true, inB_iff, allB_iff]
    exact ⟨by omega, fun x hx => by have := h9 x hx; omega⟩
  obtain ⟨v, hv, v0, v1⟩ := at_ev code hw hn 30 (by omega) (by omega)
  obtain ⟨t, ht⟩ : ∃ t : Nat, v * 7 = (t : Int) := ⟨(v * 7).toNat, by omega⟩
  refine ev_succ ?_
  have w1 : wrap64 (v * 7) = (t : Int) := by rw [w64 (by omega) (by omega)]; omega
  have w2 : wrap64 ((t : Int) + (p.length : Int)) = ((t + p.length : Nat) : Int) := by rw [w64 (by omega) (by omega)]; omega
  simp only [laws_FnSlots.l0, hx, Option.bind_some, he, if_neg (show ¬ ((p.length : Int) < (p.length : Int)) by omega), hv, w1, w2]
  have hin1 : inB (t : Int) 0 100000000 = true := by rw [inB_iff]; omega
  have hin2 : inB ((t + p.length : Nat) : Int) 0 100000000 = true := by rw [inB_iff]; omega
  have hm : Int.tmod (t : Int) (p.length : Int) = ((t % p.length : Nat) : Int) := by rw [Int.tmod_eq_emod_of_nonneg (by omega)]; omega
  have hm2 : Int.tmod ((t + p.length : Nat) : Int) (p.length : Int) = ((t % p.length : Nat) : Int) := by rw [Int.tmod_eq_emod_of_nonneg (by omega), show ((t + p.length : Nat) : Int) = (t : Int) + (p.length : Int) by omega, Int.add_emod_right]; omega
  have hlt := Nat.mod_lt t (show 0 < p.length by omega)
  refine (impl_Slot16_ev p _ (by omega)).bind ?_
  refine (impl_Slot16_ev p _ (by omega)).bind ?_
  simp only [slotAt, hp, hin1, hin2, Bool.and_self, if_true, hm, hm2, if_neg (show ¬ ((p.length : Int) = 0) by omega), if_pos (show (0 : Int) ≤ ((t % p.length : Nat) : Int) by omega), if_pos (show ((t % p.length : Nat) : Int) < (p.length : Int) by omega)]
  refine ev_succ ?_
  simp only [laws_FnSlots.j1, bne_self_eq_false, Bool.false_eq_true, if_false]
  have hmem : rd p ((t % p.length : Nat) : Int) ∈ p := rd_mem (by omega) (by omega)
  have hb := h9 _ hmem
  obtain ⟨m, hm', hg⟩ := impl_Gap16_yes p _ hp (show ¬ rd p ((t % p.length : Nat) : Int) = 0 by omega) hmem
  refine hm'.bind ?_
  have hit0 : Hit p (rd p ((t % p.length : Nat) : Int)) (t % p.length) := by simp [Hit]
  obtain ⟨h', q1, q2, q3⟩ := hg.2
  have m1 := q3.1
  have m2 := q3.le (by omega) q2
  simp only [if_true, if_neg (show ¬ ((m : Int) < 1) by omega)]
  refine ev_succ ?_
  simp only [laws_FnSlots.j2, show decide ((m : Int) > (p.length : Int)) = false from decide_eq_false (by omega), Bool.false_eq_true, if_false]
  refine slots_l1 p hp h9 t (by omega) _ m (by omega) m 1 false (by omega) (.inr ?_)
  obtain ⟨d', hd⟩ := Nxt.some (show 0 < p.length by omega) hit0
  have hle := hg.1 _ _ hlt hit0 hd
  refine ⟨d', hd.1, hle, ?_⟩
  have := hd.2.1
  simp only [Hit] at this ⊢
  rw [Nat.mod_add_mod] at this
  exact this
theorem slots_l0 (code : List Int) (hw : ∀ x ∈ code, 0 ≤ x ∧ x ≤ 255) (hn : code.length ≤ 1048576) (n : Int) (hx : laws_at.f code 0 = some n) (h0 : 0 ≤ n) (d : Nat) : ∀ (p : List Int), (p.length : Int) + d = 1 + Int.tmod n 20 → (∀ x ∈ p, 1 ≤ x ∧ x ≤ 3) →
    Ev (fun k => laws_FnSlots.l0 k code p (p.length : Int)) true := by
  have hb := Int.tmod_nonneg 20 h0
  have hb' := Int.tmod_lt_of_pos n (show (0 : Int) < 20 by omega)
  have hwr : wrap64 (1 + Int.tmod n 20) = 1 + Int.tmod n 20 := w64 (by omega) (by omega)
  induction d with
  | zero =>
    intro p h h9
    exact slots_tail code hw hn p (by omega) h9 n hx (by omega)
  | succ d ih =>
    intro p h h9
    refine ev_succ ?_
    obtain ⟨v, hv, v0, v1⟩ := at_ev code hw hn ((p.length : Int) + 1) (by omega) (by omega)
    have c0 := Int.tmod_nonneg 3 v0
    have c1 := Int.tmod_lt_of_pos v (show (0 : Int) < 3 by omega)
    simp only [laws_FnSlots.l0, hx, Option.bind_some, hwr, if_pos (show (p.length : Int) < 1 + Int.tmod n 20 by omega), w64 (show -9223372036854775808 ≤ (p.length : Int) + 1 by omega) (show (p.length : Int) + 1 ≤ 9223372036854775807 by omega), hv, if_pos (show p.length < 17592186044416 by omega), w64 (show -9223372036854775808 ≤ 1 + Int.tmod v 3 by omega) (show 1 + Int.tmod v 3 ≤ 9223372036854775807 by omega)]
    have := ih (p ++ [1 + Int.tmod v 3]) (by simp; omega) (by
      intro x hx
      rcases List.mem_append.1 hx with hx | hx
      · exact h9 x hx
      · rw [List.mem_singleton.1 hx]; omega)
    simpa using this
theorem FnSlots : laws_FnSlots.Pure := by
  intro code _ _ hw
  have hw' : ∀ x ∈ code, 0 ≤ x ∧ x ≤ 255 := fun x hx => wf_u8 (hw x hx)
  refine Ev.rounds ?_
  simp only [laws_FnSlots.f, laws_big.f, Option.bind_some]
  by_cases hb : (code.length : Int) > 1048576
  · simp only [hb, decide_true, if_true]
    exact ev_now _
  · simp only [hb, decide_false, Bool.false_eq_true, if_false]
    obtain ⟨v, hv, v0, v1⟩ := at_ev code hw' (by omega) 0 (by omega) (by omega)
    have c0 := Int.tmod_nonneg 20 v0
    exact slots_l0 code hw' (by omega) v hv v0 (1 + Int.tmod v 20).toNat [] (by simp; omega) (by simp)
end Go.Proofs.Ytcdniegjefejcaa.Pure
