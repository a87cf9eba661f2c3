/- The program's Accept answers as the reference's at every argument. No condition. -/
import Derived.Test.YtcdniegjefejcaaPFnExactAcceptx4
import Derived.Test.YtcdniegjefejcaaBase
set_option linter.unusedVariables false
set_option linter.unusedSimpArgs false
namespace Go.Proofs.Ytcdniegjefejcaa.Pure
open Go.RowKit Go.Proofs.Ytcdniegjefejcaa.PFnExactAccept Go.Proofs.Ytcdniegjefejcaa.Base Go.Proofs.YtcdniegjefejcaaW.PrintWords Go.Proofs.YtcdniegjefejcaaW.PrintLast
theorem impl_in_eq (a b c : Int) : impl_in.f a b c = some (inB a b c) := in_form a b c
theorem spec_in_eq (a b c : Int) : spec_l1In.f a b c = some (inB a b c) := in_form a b c
/-! The helpers of the laws over ByteS. -/
theorem szByteS_eq (xs : List Int) (left : Int) (h0 : 0 ≤ left) (h1 : left ≤ 1048576) (hn : xs.length ≤ 140737488355328) : laws_szByteS.f xs left = some (if left - (xs.length : Int) < 0 then -1 else left - (xs.length : Int)) := by
  unfold laws_szByteS.f
  rw [w64 (by omega) (by omega)]
  split <;> rfl
theorem toByteS_l (xs : List Int) (hn : xs.length ≤ 140737488355328) (d : Nat) : ∀ i : Nat, i + d = xs.length →
    Ev (fun k => laws_toByteS.l0 k xs (xs.take i ++ List.replicate (xs.length - i) 0) (i : Int)) xs := by
  induction d with
  | zero =>
    intro i h
    refine ev_succ ?_
    simp only [laws_toByteS.l0, if_neg (show ¬ ((i : Int) < (xs.length : Int)) by omega)]
    exact ev_some (by rw [List.take_of_length_le (by omega), show xs.length - i = 0 by omega]; simp)
  | succ d ih =>
    intro i h
    refine ev_succ ?_
    have hl : ((xs.take i ++ List.replicate (xs.length - i) (0 : Int)).length : Int) = (xs.length : Int) := by simp; omega
    simp only [laws_toByteS.l0, if_pos (show ((i : Int) < (xs.length : Int)) by omega), if_pos (show (0 : Int) ≤ (i : Int) by omega), hl, w64s i (by omega), Int.toNat_natCast, take_set (show i < xs.length by omega)]
    exact ih (i + 1) (by omega)
theorem toByteS_ev (xs : List Int) (hn : xs.length ≤ 140737488355328) : Ev (fun k => laws_toByteS.f k xs) xs := by
  simp only [laws_toByteS.f, if_pos (show (0 : Int) ≤ (xs.length : Int) by omega), Int.toNat_natCast, if_pos (show xs.length ≤ 281474976710656 by omega)]
  simpa using toByteS_l xs hn xs.length 0 (by omega)
theorem eqByteS_l (xs ys : List Int) (hn : xs.length ≤ 140737488355328) (hl : ys.length = xs.length) (d : Nat) : ∀ i : Nat, i + d = xs.length →
    Ev (fun k => laws_eqByteS.l0 k xs ys (i : Int)) (decide (xs.drop i = ys.drop i)) := by
  induction d with
  | zero =>
    intro i h
    refine ev_succ ?_
    simp only [laws_eqByteS.l0, if_neg (show ¬ ((i : Int) < (xs.length : Int)) by omega)]
    exact ev_some (by rw [List.drop_of_length_le (by omega), List.drop_of_length_le (by omega)]; rfl)
  | succ d ih =>
    intro i h
    refine ev_succ ?_
    simp only [laws_eqByteS.l0, if_pos (show ((i : Int) < (xs.length : Int)) by omega), if_pos (show (0 : Int) ≤ (i : Int) by omega), hl, w64s i (by omega)]
    rw [drop_rd (show i < xs.length by omega), drop_rd (show i < ys.length by omega)]
    by_cases e : rd xs (i : Int) = rd ys (i : Int)
    · simp only [if_pos e]
      simpa [e] using ih (i + 1) (by omega)
    · simp only [if_neg e]
      exact ev_some (by simp [e])
theorem eqByteS_ev (xs ys : List Int) (hn : xs.length ≤ 140737488355328) : Ev (fun k => laws_eqByteS.f k xs ys) (decide (xs = ys)) := by
  unfold laws_eqByteS.f
  by_cases hl : ys.length = xs.length
  · simp only [if_pos (show (xs.length : Int) = (ys.length : Int) by omega)]
    simpa using eqByteS_l xs ys hn hl xs.length 0 (by omega)
  · simp only [if_neg (show ¬ (xs.length : Int) = (ys.length : Int) by omega)]
    exact ev_some (by
      have : ¬ xs = ys := fun e => hl (by rw [e])
      simp [this])
theorem eqByteS_self (xs : List Int) (hn : xs.length ≤ 140737488355328) : Ev (fun k => laws_eqByteS.f k xs xs) true := by simpa using eqByteS_ev xs xs hn
/-! The helpers over Word16. -/
theorem szWord16_eq (a b : Int) (xs : List Int) (left : Int) (h0 : 0 ≤ left) (h1 : left ≤ 1048576) (hn : xs.length ≤ 140737488355328) : laws_szWord16.f a b xs left = some (if left - (xs.length : Int) < 0 then -1 else left - (xs.length : Int)) := by
  simp only [laws_szWord16.f, szByteS_eq xs left h0 h1 hn, Option.bind_some]
  by_cases h : left - (xs.length : Int) < 0 <;> simp [h]
theorem toWord16_ev (a b : Int) (xs : List Int) (hn : xs.length ≤ 140737488355328) : Ev (fun k => laws_toWord16.f k a b xs) (a, b, xs) := by
  simp only [laws_toWord16.f]
  exact (toByteS_ev xs hn).bind (f := fun _ t => some (a, b, t)) (ev_now _)
theorem eqWord16_self (a b : Int) (xs : List Int) (hn : xs.length ≤ 140737488355328) : Ev (fun k => laws_eqWord16.f k a b xs a b xs) true := by
  simp only [laws_eqWord16.f, if_true]
  exact (eqByteS_self xs hn).bind (f := fun _ t => if t = true then some true else some false) (ev_now _)
def wordB (a b : Int) (xs : List Int) : Bool := inB a 1 255 && (inB b 0 255 && decide ((xs.length : Int) ≤ 32))
theorem impl_WordOk_eq (a b : Int) (xs : List Int) : impl_WordOk.f a b xs = some (wordB a b xs) := by
  simp only [impl_WordOk.f, impl_in_eq, Option.bind_some, wordB]
  cases inB a 1 255 <;> cases inB b 0 255 <;> simp
theorem spec_WordOk_eq (a b : Int) (xs : List Int) : spec_WordOk.f a b xs = some (wordB a b xs) := by
  simp only [spec_WordOk.f, spec_in_eq, Option.bind_some, wordB]
  cases inB a 1 255 <;> cases inB b 0 255 <;> simp
def recB (a b c : Int) : Bool := inB a 1 255 && (inB b (-1) 255 && inB c 1 100)
theorem impl_ReceiverOk_eq (a b c : Int) : impl_ReceiverOk.f a b c = some (recB a b c) := by
  simp only [impl_ReceiverOk.f, impl_in_eq, Option.bind_some, recB]
  cases inB a 1 255 <;> cases inB b (-1) 255 <;> simp
/-- The taking of a word. -/
def accept (a b c u v : Int) (xs : List Int) : Int × Int × Int × Bool × Int :=
  if recB a b c = true ∧ wordB u v xs = true ∧ u = a then
    (if (if b ≥ 0 then (v - b + 256) % 256 else 0) ≥ c then (a, b, c, false, 0) else (a, (v + 1) % 256, c, true, if b ≥ 0 then (v - b + 256) % 256 else 0))
  else (a, b, c, false, 0)
theorem recB_in {a b c : Int} (h : recB a b c = true) : (1 ≤ a ∧ a ≤ 255) ∧ (-1 ≤ b ∧ b ≤ 255) ∧ 1 ≤ c ∧ c ≤ 100 := by
  simp [recB, inB] at h
  omega
theorem wordB_in {a b : Int} {xs : List Int} (h : wordB a b xs = true) : (1 ≤ a ∧ a ≤ 255) ∧ (0 ≤ b ∧ b ≤ 255) ∧ xs.length ≤ 32 := by
  simp [wordB, inB] at h
  omega
theorem spec_ReceiverOk_eq (a b c : Int) : spec_ReceiverOk.f a b c = some (recB a b c) := by
  simp only [spec_ReceiverOk.f, spec_in_eq, Option.bind_some, recB]
  cases inB a 1 255 <;> cases inB b (-1) 255 <;> simp
theorem impl_Accept_ev (a b c u v : Int) (xs : List Int) : Ev (fun k => impl_Accept.f k a b c u v xs) (accept a b c u v xs) := by
  simp only [impl_Accept.f, impl_ReceiverOk_eq, impl_WordOk_eq, Option.bind_some]
  unfold accept
  by_cases hr : recB a b c = true
  · by_cases hw : wordB u v xs = true
    · have r1 := recB_in hr
      have r2 := wordB_in hw
      simp only [hr, hw, if_true, true_and]
      refine ev_succ ?_
      by_cases e : u = a
      · have w1 : wrap64 (v + 1) = v + 1 := w64 (by omega) (by omega)
        have w2 : wrap64 (wrap64 (v - b) + 256) = v - b + 256 := by rw [w64 (n := v - b) (by omega) (by omega), w64 (by omega) (by omega)]
        have t1 : Int.tmod (v + 1) 256 = (v + 1) % 256 := Int.tmod_eq_emod_of_nonneg (by omega)
        have t2 : Int.tmod (v - b + 256) 256 = (v - b + 256) % 256 := Int.tmod_eq_emod_of_nonneg (by omega)
        simp only [impl_Accept.j0, e, bne_self_eq_false, Bool.false_eq_true, if_false, if_true, w1, w2, t1, t2]
        by_cases hb : b ≥ 0
        · simp only [if_pos hb]
          by_cases hc : (v - b + 256) % 256 ≥ c
          · simp only [if_pos hc]; exact ev_now _
          · simp only [if_neg hc]; exact ev_now _
        · simp only [if_neg hb, if_neg (show ¬ ((0 : Int) ≥ c) by omega)]; exact ev_now _
      · simp only [impl_Accept.j0, show (u != a) = true from bne_iff_ne.2 e, if_true, if_neg e]
        exact ev_now _
    · simp only [hr, hw, if_true, Bool.false_eq_true, if_false, false_and, and_false]
      refine ev_succ ?_
      simp only [impl_Accept.j0, if_true]
      exact ev_now _
  · simp only [hr, Bool.false_eq_true, if_false, false_and]
    refine ev_succ ?_
    simp only [impl_Accept.j0, if_true]
    exact ev_now _
theorem spec_Accept_ev (a b c u v : Int) (xs : List Int) : Ev (fun k => spec_Accept.f k a b c u v xs) (accept a b c u v xs) := by
  simp only [spec_Accept.f, spec_ReceiverOk_eq, spec_WordOk_eq, Option.bind_some]
  unfold accept
  by_cases hr : recB a b c = true
  · by_cases hw : wordB u v xs = true
    · have r1 := recB_in hr
      have r2 := wordB_in hw
      simp only [hr, hw, if_true, true_and]
      refine ev_succ ?_
      by_cases e : u = a
      · have w1 : wrap64 (v + 1) = v + 1 := w64 (by omega) (by omega)
        have w2 : wrap64 (wrap64 (v - b) + 256) = v - b + 256 := by rw [w64 (n := v - b) (by omega) (by omega), w64 (by omega) (by omega)]
        have t1 : Int.tmod (v + 1) 256 = (v + 1) % 256 := Int.tmod_eq_emod_of_nonneg (by omega)
        have t2 : Int.tmod (v - b + 256) 256 = (v - b + 256) % 256 := Int.tmod_eq_emod_of_nonneg (by omega)
        simp only [spec_Accept.j0, e, bne_self_eq_false, Bool.false_eq_true, if_false, if_true, w1, w2, t1, t2]
        by_cases hb : b ≥ 0
        · simp only [if_pos hb]
          by_cases hc : (v - b + 256) % 256 ≥ c
          · simp only [if_pos hc]; exact ev_now _
          · simp only [if_neg hc]; exact ev_now _
        · simp only [if_neg hb, if_neg (show ¬ ((0 : Int) ≥ c) by omega)]; exact ev_now _
      · simp only [spec_Accept.j0, show (u != a) = true from bne_iff_ne.2 e, if_true, if_neg e]
        exact ev_now _
    · simp only [hr, hw, if_true, Bool.false_eq_true, if_false, false_and, and_false]
      refine ev_succ ?_
      simp only [spec_Accept.j0, if_true]
      exact ev_now _
  · simp only [hr, Bool.false_eq_true, if_false, false_and]
    refine ev_succ ?_
    simp only [spec_Accept.j0, if_true]
    exact ev_now _
theorem FnExactAccept (a0_0 : Int) (a0_1 : Int) (a0_2 : Int) (a1_0 : Int) (a1_1 : Int) (l1_2 : List (Int)) (g0 : ((Lit.int .i64 a0_0).wf = true ∧ (Lit.int .i64 a0_1).wf = true ∧ (Lit.int .i64 a0_2).wf = true)) (g1 : ((Lit.int .i64 a1_0).wf = true ∧ (Lit.int .i64 a1_1).wf = true ∧ (l1_2.length * 1 ≤ 140737488351232 ∧ ∀ x ∈ l1_2, (Lit.int .u8 x).wf = true))) : ∃ k, laws_FnExactAccept.f k a0_0 a0_1 a0_2 a1_0 a1_1 l1_2 = some true := by
  have hn : l1_2.length ≤ 140737488355328 := by omega
  refine Ev.rounds ?_
  simp only [laws_FnExactAccept.f, szWord16_eq a1_0 a1_1 l1_2 1048576 (by omega) (by omega) hn, Option.bind_some, laws_toReceiver.f]
  by_cases hs : (1048576 : Int) - (l1_2.length : Int) < 0
  · simp only [if_pos hs]
    exact ev_now _
  · simp only [if_neg hs]
    refine (toWord16_ev a1_0 a1_1 l1_2 hn).bind ?_
    refine (spec_Accept_ev a0_0 a0_1 a0_2 a1_0 a1_1 l1_2).bind ?_
    refine (toWord16_ev a1_0 a1_1 l1_2 hn).bind ?_
    refine (impl_Accept_ev a0_0 a0_1 a0_2 a1_0 a1_1 l1_2).bind ?_
    simp only [laws_eqReceiver.f, if_true, Option.bind_some, bne_self_eq_false, Bool.false_eq_true, if_false]
    refine ev_succ ?_
    simp only [laws_FnExactAccept.j0, Bool.false_eq_true, if_false]
    refine (toWord16_ev a1_0 a1_1 l1_2 hn).bind ?_
    exact (eqWord16_self a1_0 a1_1 l1_2 hn).bind (f := fun _ t => if t = true then some true else some false) (ev_now _)
end Go.Proofs.Ytcdniegjefejcaa.Pure
