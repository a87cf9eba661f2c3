/- The program's Slot16 answers as the reference's at every argument. No condition. -/
import Derived.Test.YtcdniegjefejcaaPFnExactSlot16x2
import Derived.Test.YtcdniegjefejcaaBase
set_option linter.unusedVariables false
set_option linter.unusedSimpArgs false
namespace Go.Proofs.Ytcdniegjefejcaa.Pure
open Go.RowKit Go.Proofs.Ytcdniegjefejcaa.PFnExactSlot16 Go.Proofs.Ytcdniegjefejcaa.Base Go.Proofs.YtcdniegjefejcaaW.PrintWords Go.Proofs.YtcdniegjefejcaaW.PrintLast
theorem impl_in_eq (a b c : Int) : impl_in.f a b c = some (inB a b c) := in_form a b c
theorem spec_in_eq (a b c : Int) : spec_l1In.f a b c = some (inB a b c) := in_form a b c
theorem impl_allIn_l (b c : Int) (xs : List Int) (hn : xs.length < 4611686018427387904) (d : Nat) : ∀ i : Nat, i + d = xs.length →
    Ev (fun k => impl_allIn.l0 k b c xs (xs.length : Int) (i : Int)) (allB (xs.drop i) b c) := by
  induction d with
  | zero =>
    intro i h
    refine ev_succ ?_
    simp only [impl_allIn.l0, if_neg (show ¬ ((i : Int) < (xs.length : Int)) by omega)]
    rw [List.drop_of_length_le (by omega)]
    exact ev_now _
  | succ d ih =>
    intro i h
    refine ev_succ ?_
    simp only [impl_allIn.l0, if_pos (show ((i : Int) < (xs.length : Int)) by omega), if_pos (show (0 : Int) ≤ (i : Int) by omega), impl_in_eq, Option.bind_some, w64s i (by omega)]
    rw [drop_rd (show i < xs.length by omega)]
    cases hb : inB (rd xs (i : Int)) b c with
    | true => simpa [allB, hb] using ih (i + 1) (by omega)
    | false => simpa [allB, hb] using ev_now false
theorem impl_allIn_ev (b c : Int) (xs : List Int) (hn : xs.length < 4611686018427387904) : Ev (fun k => impl_allIn.f k xs b c) (allB xs b c) := by
  simpa [impl_allIn.f] using impl_allIn_l b c xs hn xs.length 0 (by omega)
theorem spec_l1All_l (b c : Int) (xs : List Int) (hn : xs.length < 4611686018427387904) (d : Nat) : ∀ i : Nat, i + d = xs.length →
    Ev (fun k => spec_l1All.l0 k xs b c (i : Int)) (allB (xs.drop i) b c) := by
  induction d with
  | zero =>
    intro i h
    refine ev_succ ?_
    simp only [spec_l1All.l0, if_neg (show ¬ ((i : Int) < (xs.length : Int)) by omega)]
    rw [List.drop_of_length_le (by omega)]
    exact ev_now _
  | succ d ih =>
    intro i h
    refine ev_succ ?_
    simp only [spec_l1All.l0, if_pos (show ((i : Int) < (xs.length : Int)) by omega), if_pos (show (0 : Int) ≤ (i : Int) by omega), spec_in_eq, Option.bind_some, w64s i (by omega)]
    rw [drop_rd (show i < xs.length by omega)]
    cases hb : inB (rd xs (i : Int)) b c with
    | true => simpa [allB, hb] using ih (i + 1) (by omega)
    | false => simpa [allB, hb] using ev_now false
theorem spec_l1All_ev (b c : Int) (xs : List Int) (hn : xs.length < 4611686018427387904) : Ev (fun k => spec_l1All.f k xs b c) (allB xs b c) := by
  simpa [spec_l1All.f] using spec_l1All_l b c xs hn xs.length 0 (by omega)
theorem toIntS_l (xs : List Int) (hn : xs.length ≤ 17592186044416) (d : Nat) : ∀ i : Nat, i + d = xs.length →
    Ev (fun k => laws_toIntS.l0 k xs (xs.take i ++ List.replicate (xs.length - i) 0) (i : Int)) xs := by
  induction d with
  | zero =>
    intro i h
    refine ev_succ ?_
    simp only [laws_toIntS.l0, if_neg (show ¬ ((i : Int) < (xs.length : Int)) by omega)]
    exact ev_some (by rw [List.take_of_length_le (by omega), show xs.length - i = 0 by omega]; simp)
  | succ d ih =>
    intro i h
    refine ev_succ ?_
    have hl : ((xs.take i ++ List.replicate (xs.length - i) (0 : Int)).length : Int) = (xs.length : Int) := by simp; omega
    simp only [laws_toIntS.l0, if_pos (show ((i : Int) < (xs.length : Int)) by omega), if_pos (show (0 : Int) ≤ (i : Int) by omega), hl, w64s i (by omega), Int.toNat_natCast, take_set (show i < xs.length by omega)]
    exact ih (i + 1) (by omega)
theorem toIntS_ev (xs : List Int) (hn : xs.length ≤ 17592186044416) : Ev (fun k => laws_toIntS.f k xs) xs := by
  simp only [laws_toIntS.f, if_pos (show (0 : Int) ≤ (xs.length : Int) by omega), Int.toNat_natCast, if_pos (show xs.length ≤ 35184372088832 by omega)]
  simpa using toIntS_l xs hn xs.length 0 (by omega)
theorem eqIntS_l (xs ys : List Int) (hn : xs.length ≤ 140737488355328) (hl : ys.length = xs.length) (d : Nat) : ∀ i : Nat, i + d = xs.length →
    Ev (fun k => laws_eqIntS.l0 k xs ys (i : Int)) (decide (xs.drop i = ys.drop i)) := by
  induction d with
  | zero =>
    intro i h
    refine ev_succ ?_
    simp only [laws_eqIntS.l0, if_neg (show ¬ ((i : Int) < (xs.length : Int)) by omega)]
    exact ev_some (by rw [List.drop_of_length_le (by omega), List.drop_of_length_le (by omega)]; rfl)
  | succ d ih =>
    intro i h
    refine ev_succ ?_
    simp only [laws_eqIntS.l0, if_pos (show ((i : Int) < (xs.length : Int)) by omega), if_pos (show (0 : Int) ≤ (i : Int) by omega), hl, w64s i (by omega)]
    rw [drop_rd (show i < xs.length by omega), drop_rd (show i < ys.length by omega)]
    by_cases e : rd xs (i : Int) = rd ys (i : Int)
    · simp only [if_pos e]
      simpa [e] using ih (i + 1) (by omega)
    · simp only [if_neg e]
      exact ev_some (by simp [e])
theorem eqIntS_ev (xs ys : List Int) (hn : xs.length ≤ 140737488355328) : Ev (fun k => laws_eqIntS.f k xs ys) (decide (xs = ys)) := by
  unfold laws_eqIntS.f
  by_cases hl : ys.length = xs.length
  · simp only [if_pos (show (xs.length : Int) = (ys.length : Int) by omega)]
    simpa using eqIntS_l xs ys hn hl xs.length 0 (by omega)
  · simp only [if_neg (show ¬ (xs.length : Int) = (ys.length : Int) by omega)]
    exact ev_some (by
      have : ¬ xs = ys := fun e => hl (by rw [e])
      simp [this])
theorem eqIntS_self (xs : List Int) (hn : xs.length ≤ 140737488355328) : Ev (fun k => laws_eqIntS.f k xs xs) true := by simpa using eqIntS_ev xs xs hn
def slotsB (l : List Int) : Bool := inB (l.length : Int) 1 40 && allB l 0 255
theorem impl_slotsOk_ev (l : List Int) (hn : l.length < 4611686018427387904) : Ev (fun k => impl_slotsOk.f k l) (slotsB l) := by
  simp only [impl_slotsOk.f, impl_in_eq, Option.bind_some]
  unfold slotsB
  cases inB (l.length : Int) 1 40 with
  | true => simpa using (impl_allIn_ev 0 255 l hn).bind (f := fun _ t => some t) (ev_now _)
  | false => simpa using ev_now false
theorem impl_isTick_eq (a : Int) : impl_isTick.f a = some (inB a 0 100000000) := by simp [impl_isTick.f, impl_in_eq]
def slotAt (l : List Int) (t : Int) : Int × Bool := if slotsB l && inB t 0 100000000 then (rd l (Int.tmod t (l.length : Int)), true) else (0, false)
theorem impl_Slot16_ev (l : List Int) (t : Int) (hn : l.length < 4611686018427387904) : Ev (fun k => impl_Slot16.f k l t) (slotAt l t) := by
  simp only [impl_Slot16.f, impl_isTick_eq, Option.bind_some]
  refine (impl_slotsOk_ev l hn).bind ?_
  unfold slotAt
  cases hs : slotsB l with
  | false => simpa using ev_now _
  | true =>
    cases ht : inB t 0 100000000 with
    | false => simpa using ev_now _
    | true =>
      have h1 : 1 ≤ (l.length : Int) := by simp [slotsB, inB] at hs; omega
      have h2 : 0 ≤ t := by simp [inB] at ht; omega
      have h3 := Int.tmod_nonneg (l.length : Int) h2
      have h4 := Int.tmod_lt_of_pos t (show 0 < (l.length : Int) by omega)
      simp only [if_true, Bool.and_true, if_neg (show ¬ ((l.length : Int) = 0) by omega), if_pos h3, if_pos h4]
      exact ev_now _
theorem spec_l16Plan_ev (l : List Int) (hn : l.length < 4611686018427387904) : Ev (fun k => spec_l16Plan.f k l) (slotsB l) := by
  simp only [spec_l16Plan.f, spec_in_eq, Option.bind_some]
  unfold slotsB
  cases inB (l.length : Int) 1 40 with
  | true => simpa using (spec_l1All_ev 0 255 l hn).bind (f := fun _ t => some t) (ev_now _)
  | false => simpa using ev_now false
theorem spec_l1Tick_eq (a : Int) : spec_l1Tick.f a = some (inB a 0 100000000) := by simp [spec_l1Tick.f, spec_in_eq]
theorem spec_Slot16_ev (l : List Int) (t : Int) (hn : l.length < 4611686018427387904) : Ev (fun k => spec_Slot16.f k l t) (slotAt l t) := by
  simp only [spec_Slot16.f, spec_l1Tick_eq, Option.bind_some]
  refine (spec_l16Plan_ev l hn).bind ?_
  unfold slotAt
  cases hs : slotsB l with
  | false => simpa using ev_now _
  | true =>
    cases ht : inB t 0 100000000 with
    | false => simpa using ev_now _
    | true =>
      have h1 : 1 ≤ (l.length : Int) := by simp [slotsB, inB] at hs; omega
      have h2 : 0 ≤ t := by simp [inB] at ht; omega
      have h3 := Int.tmod_nonneg (l.length : Int) h2
      have h4 := Int.tmod_lt_of_pos t (show 0 < (l.length : Int) by omega)
      simp only [if_true, Bool.and_true, if_neg (show ¬ ((l.length : Int) = 0) by omega), if_pos h3, if_pos h4]
      exact ev_now _
theorem FnExactSlot16 : laws_FnExactSlot16.Pure := by
  intro l a _ hn8 _ _
  have hn : l.length ≤ 17592186044416 := by omega
  refine Ev.rounds ?_
  simp only [laws_FnExactSlot16.f]
  by_cases hb : (l.length : Int) > 1048576
  · simp only [if_pos hb]
    exact ev_now _
  · simp only [if_neg hb]
    refine (toIntS_ev l hn).bind ?_
    refine (spec_Slot16_ev l a (by omega)).bind ?_
    refine (toIntS_ev l hn).bind ?_
    refine (impl_Slot16_ev l a (by omega)).bind ?_
    simp only [if_true]
    refine ev_succ ?_
    simp only [laws_FnExactSlot16.j0, bne_self_eq_false, Bool.false_eq_true, if_false]
    refine (toIntS_ev l hn).bind ?_
    exact (eqIntS_self l (by omega)).bind (f := fun _ t => if t = true then some true else some false) (ev_now _)
end Go.Proofs.Ytcdniegjefejcaa.Pure
