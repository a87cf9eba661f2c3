/- The program's Put16 answers as the reference's at every argument, keeps its argument, and shares no memory with it. No condition. -/
import Derived.Test.YtcdniegjefejcaaPFnExactPut16x3
import Derived.Test.YtcdniegjefejcaaBase
set_option linter.unusedVariables false
set_option linter.unusedSimpArgs false
namespace Go.Proofs.Ytcdniegjefejcaa.Pure
open Go.RowKit Go.Proofs.Ytcdniegjefejcaa.PFnExactPut16 Go.Proofs.Ytcdniegjefejcaa.Base Go.Proofs.YtcdniegjefejcaaW.PrintWords Go.Proofs.YtcdniegjefejcaaW.PrintLast
theorem impl_in_eq (a b c : Int) : impl_in.f a b c = some (inB a b c) := in_form a b c
theorem spec_in_eq (a b c : Int) : spec_l1In.f a b c = some (inB a b c) := in_form a b c
/-! The helpers of the laws over ByteS. -/
theorem szByteS_eq (xs : List Int) (left : Int) (h0 : 0 ≤ left) (h1 : left ≤ 1048576) (hn : xs.length ≤ 140737488355328) : laws_szByteS.f xs left = some (if left - (xs.length : Int) < 0 then -1 else left - (xs.length : Int)) := by
  unfold laws_szByteS.f
  rw [w64 (by omega) (by omega)]
  split <;> rfl
theorem toByteS_l (xs : List Int) (hn : xs.length ≤ 140737488355328) (d : Nat) : ∀ i : Nat, i + d = xs.length →
    Ev (fun k => laws_toByteS.l0 k xs (xs.take i ++ List.replicate (xs.length - i) 0) (i : Int)) xs := by
  induction d with
  | zero =>
    intro i h
    refine ev_succ ?_
    simp only [laws_toByteS.l0, if_neg (show ¬ ((i : Int) < (xs.length : Int)) by omega)]
    exact ev_some (by rw [List.take_of_length_le (by omega), show xs.length - i = 0 by omega]; simp)
  | succ d ih =>
    intro i h
    refine ev_succ ?_
    have hl : ((xs.take i ++ List.replicate (xs.length - i) (0 : Int)).length : Int) = (xs.length : Int) := by simp; omega
    simp only [laws_toByteS.l0, if_pos (show ((i : Int) < (xs.length : Int)) by omega), if_pos (show (0 : Int) ≤ (i : Int) by omega), hl, w64s i (by omega), Int.toNat_natCast, take_set (show i < xs.length by omega)]
    exact ih (i + 1) (by omega)
theorem toByteS_ev (xs : List Int) (hn : xs.length ≤ 140737488355328) : Ev (fun k => laws_toByteS.f k xs) xs := by
  simp only [laws_toByteS.f, if_pos (show (0 : Int) ≤ (xs.length : Int) by omega), Int.toNat_natCast, if_pos (show xs.length ≤ 281474976710656 by omega)]
  simpa using toByteS_l xs hn xs.length 0 (by omega)
theorem eqByteS_l (xs ys : List Int) (hn : xs.length ≤ 140737488355328) (hl : ys.length = xs.length) (d : Nat) : ∀ i : Nat, i + d = xs.length →
    Ev (fun k => laws_eqByteS.l0 k xs ys (i : Int)) (decide (xs.drop i = ys.drop i)) := by
  induction d with
  | zero =>
    intro i h
    refine ev_succ ?_
    simp only [laws_eqByteS.l0, if_neg (show ¬ ((i : Int) < (xs.length : Int)) by omega)]
    exact ev_some (by rw [List.drop_of_length_le (by omega), List.drop_of_length_le (by omega)]; rfl)
  | succ d ih =>
    intro i h
    refine ev_succ ?_
    simp only [laws_eqByteS.l0, if_pos (show ((i : Int) < (xs.length : Int)) by omega), if_pos (show (0 : Int) ≤ (i : Int) by omega), hl, w64s i (by omega)]
    rw [drop_rd (show i < xs.length by omega), drop_rd (show i < ys.length by omega)]
    by_cases e : rd xs (i : Int) = rd ys (i : Int)
    · simp only [if_pos e]
      simpa [e] using ih (i + 1) (by omega)
    · simp only [if_neg e]
      exact ev_some (by simp [e])
theorem eqByteS_ev (xs ys : List Int) (hn : xs.length ≤ 140737488355328) : Ev (fun k => laws_eqByteS.f k xs ys) (decide (xs = ys)) := by
  unfold laws_eqByteS.f
  by_cases hl : ys.length = xs.length
  · simp only [if_pos (show (xs.length : Int) = (ys.length : Int) by omega)]
    simpa using eqByteS_l xs ys hn hl xs.length 0 (by omega)
  · simp only [if_neg (show ¬ (xs.length : Int) = (ys.length : Int) by omega)]
    exact ev_some (by
      have : ¬ xs = ys := fun e => hl (by rw [e])
      simp [this])
theorem eqByteS_self (xs : List Int) (hn : xs.length ≤ 140737488355328) : Ev (fun k => laws_eqByteS.f k xs xs) true := by simpa using eqByteS_ev xs xs hn
theorem markByteS_l (xs : List Int) (k0 : Int) (h0 : 0 ≤ k0) (h1 : k0 ≤ 4611686018427387904) (hn : xs.length ≤ 140737488355328) (d : Nat) : ∀ i : Nat, i + d = xs.length →
    Ev (fun k => laws_markByteS.l0 k (marks (fun x => x % 256) k0 i ++ xs.drop i) (k0 + (i : Int)) (i : Int)) (k0 + (xs.length : Int), marks (fun x => x % 256) k0 xs.length) := by
  induction d with
  | zero =>
    intro i h
    refine ev_succ ?_
    have hl : ((marks (fun x => x % 256) k0 i ++ xs.drop i).length : Int) = (xs.length : Int) := by simp [marks_length]; omega
    simp only [laws_markByteS.l0, hl, if_neg (show ¬ ((i : Int) < (xs.length : Int)) by omega)]
    obtain rfl : i = xs.length := by omega
    exact ev_some (by rw [List.drop_length, List.append_nil])
  | succ d ih =>
    intro i h
    refine ev_succ ?_
    have hl : ((marks (fun x => x % 256) k0 i ++ xs.drop i).length : Int) = (xs.length : Int) := by simp [marks_length]; omega
    have hs := marks_set (g := fun x => x % 256) (k0 := k0) (show i < xs.length by omega)
    simp only [laws_markByteS.l0, hl, if_pos (show ((i : Int) < (xs.length : Int)) by omega), if_pos (show (0 : Int) ≤ (i : Int) by omega), Int.toNat_natCast, hs, w64s i (by omega), w64 (show -9223372036854775808 ≤ k0 + (i : Int) + 1 by omega) (show k0 + (i : Int) + 1 ≤ 9223372036854775807 by omega)]
    have := ih (i + 1) (by omega)
    rw [show k0 + ((i + 1 : Nat) : Int) = k0 + (i : Int) + 1 by omega] at this
    exact this
theorem markByteS_ev (xs : List Int) (k0 : Int) (h0 : 0 ≤ k0) (h1 : k0 ≤ 4611686018427387904) (hn : xs.length ≤ 140737488355328) : Ev (fun k => laws_markByteS.f k xs k0) (k0 + (xs.length : Int), marks (fun x => x % 256) k0 xs.length) := by
  have := markByteS_l xs k0 h0 h1 hn xs.length 0 (by omega)
  simpa [laws_markByteS.f, marks_nil] using this
theorem heldByteS_l (n : Nat) (k0 : Int) (h0 : 0 ≤ k0) (h1 : k0 ≤ 4611686018427387904) (hn : n ≤ 140737488355328) (d : Nat) : ∀ i : Nat, i + d = n →
    Ev (fun k => laws_heldByteS.l0 k (marks (fun x => x % 256) k0 n) (k0 + (i : Int)) (i : Int)) (k0 + (n : Int)) := by
  induction d with
  | zero =>
    intro i h
    refine ev_succ ?_
    simp only [laws_heldByteS.l0, marks_length, if_neg (show ¬ ((i : Int) < (n : Int)) by omega)]
    exact ev_some (by omega)
  | succ d ih =>
    intro i h
    refine ev_succ ?_
    simp only [laws_heldByteS.l0, marks_length, if_pos (show ((i : Int) < (n : Int)) by omega), if_pos (show (0 : Int) ≤ (i : Int) by omega), marks_rd (show i < n by omega), if_true, w64s i (by omega), w64 (show -9223372036854775808 ≤ k0 + (i : Int) + 1 by omega) (show k0 + (i : Int) + 1 ≤ 9223372036854775807 by omega)]
    have := ih (i + 1) (by omega)
    rw [show k0 + ((i + 1 : Nat) : Int) = k0 + (i : Int) + 1 by omega] at this
    exact this
theorem heldByteS_ev (n : Nat) (k0 : Int) (h0 : 0 ≤ k0) (h1 : k0 ≤ 4611686018427387904) (hn : n ≤ 140737488355328) : Ev (fun k => laws_heldByteS.f k (marks (fun x => x % 256) k0 n) k0) (k0 + (n : Int)) := by
  have := heldByteS_l n k0 h0 h1 hn n 0 (by omega)
  simpa [laws_heldByteS.f] using this
/-! The helpers over Word16. -/
theorem szWord16_eq (a b : Int) (xs : List Int) (left : Int) (h0 : 0 ≤ left) (h1 : left ≤ 1048576) (hn : xs.length ≤ 140737488355328) : laws_szWord16.f a b xs left = some (if left - (xs.length : Int) < 0 then -1 else left - (xs.length : Int)) := by
  simp only [laws_szWord16.f, szByteS_eq xs left h0 h1 hn, Option.bind_some]
  by_cases h : left - (xs.length : Int) < 0 <;> simp [h]
theorem toWord16_ev (a b : Int) (xs : List Int) (hn : xs.length ≤ 140737488355328) : Ev (fun k => laws_toWord16.f k a b xs) (a, b, xs) := by
  simp only [laws_toWord16.f]
  exact (toByteS_ev xs hn).bind (f := fun _ t => some (a, b, t)) (ev_now _)
theorem eqWord16_self (a b : Int) (xs : List Int) (hn : xs.length ≤ 140737488355328) : Ev (fun k => laws_eqWord16.f k a b xs a b xs) true := by
  simp only [laws_eqWord16.f, if_true]
  exact (eqByteS_self xs hn).bind (f := fun _ t => if t = true then some true else some false) (ev_now _)
theorem markWord16_ev (a b : Int) (xs : List Int) (k0 : Int) (h0 : 0 ≤ k0) (h1 : k0 ≤ 4611686018427387904) (hn : xs.length ≤ 140737488355328) : Ev (fun k => laws_markWord16.f k a b xs k0) (k0 + (xs.length : Int), marks (fun x => x % 256) k0 xs.length) := by
  simp only [laws_markWord16.f]
  exact (markByteS_ev xs k0 h0 h1 hn).bind (f := fun _ t => some (t.1, t.2)) (ev_now _)
def wordB (a b : Int) (xs : List Int) : Bool := inB a 1 255 && (inB b 0 255 && decide ((xs.length : Int) ≤ 32))
theorem impl_WordOk_eq (a b : Int) (xs : List Int) : impl_WordOk.f a b xs = some (wordB a b xs) := by
  simp only [impl_WordOk.f, impl_in_eq, Option.bind_some, wordB]
  cases inB a 1 255 <;> cases inB b 0 255 <;> simp
theorem spec_WordOk_eq (a b : Int) (xs : List Int) : spec_WordOk.f a b xs = some (wordB a b xs) := by
  simp only [spec_WordOk.f, spec_in_eq, Option.bind_some, wordB]
  cases inB a 1 255 <;> cases inB b 0 255 <;> simp
/-- The sum of a frame's bytes. -/
def sum16 (xs : List Int) : Int := xs.foldl (fun x b => (((x * 3) % 256) + b) % 256) 0
theorem impl_sumOf_l (xs : List Int) (hn : xs.length ≤ 140737488355328) (d : Nat) : ∀ (i : Nat) (s : Int), i + d = xs.length →
    Ev (fun k => impl_sumOf.l0 k s xs (xs.length : Int) (i : Int)) ((xs.drop i).foldl (fun x b => (((x * 3) % 256) + b) % 256) s) := by
  induction d with
  | zero =>
    intro i s h
    refine ev_succ ?_
    simp only [impl_sumOf.l0, if_neg (show ¬ ((i : Int) < (xs.length : Int)) by omega)]
    exact ev_some (by rw [List.drop_of_length_le (by omega)]; rfl)
  | succ d ih =>
    intro i s h
    refine ev_succ ?_
    simp only [impl_sumOf.l0, if_pos (show ((i : Int) < (xs.length : Int)) by omega), if_pos (show (0 : Int) ≤ (i : Int) by omega), w64s i (by omega)]
    rw [drop_rd (show i < xs.length by omega), List.foldl_cons]
    exact ih (i + 1) _ (by omega)
theorem impl_sumOf_ev (xs : List Int) (hn : xs.length ≤ 140737488355328) : Ev (fun k => impl_sumOf.f k xs) (sum16 xs) := by
  simpa [impl_sumOf.f, sum16] using impl_sumOf_l xs hn xs.length 0 0 (by omega)
def put16 (a b : Int) (xs : List Int) : List Int × Bool := if wordB a b xs = true then ([a % 256, b % 256, (xs.length : Int) % 256] ++ xs ++ [sum16 ([a % 256, b % 256, (xs.length : Int) % 256] ++ xs)], true) else ([], false)
theorem wordB_len {a b : Int} {xs : List Int} (h : wordB a b xs = true) : (1 ≤ a ∧ a ≤ 255) ∧ (0 ≤ b ∧ b ≤ 255) ∧ xs.length ≤ 32 := by
  simp [wordB, inB] at h
  omega
theorem impl_Put16_ev (a b : Int) (xs : List Int) : Ev (fun k => impl_Put16.f k a b xs) (put16 a b xs) := by
  simp only [impl_Put16.f, impl_WordOk_eq, Option.bind_some]
  unfold put16
  by_cases hw : wordB a b xs = true
  · have hl := wordB_len hw
    simp only [if_pos hw, if_pos (show ([a % 256, b % 256, (xs.length : Int) % 256] : List Int).length + xs.length < 140737488355328 by simp; omega)]
    refine (impl_sumOf_ev _ (by simp; omega)).bind ?_
    simp only [if_pos (show ([a % 256, b % 256, (xs.length : Int) % 256] ++ xs).length < 140737488355328 by simp; omega)]
    exact ev_now _
  · simp only [if_neg hw]
    exact ev_now _
theorem spec_l16Sum_l (xs : List Int) (hn : xs.length ≤ 140737488355328) (d : Nat) : ∀ (i : Nat) (s : Int), i + d = xs.length →
    Ev (fun k => spec_l16Sum.l0 k xs s (i : Int)) ((xs.drop i).foldl (fun x b => (((x * 3) % 256) + b) % 256) s) := by
  induction d with
  | zero =>
    intro i s h
    refine ev_succ ?_
    simp only [spec_l16Sum.l0, if_neg (show ¬ ((i : Int) < (xs.length : Int)) by omega)]
    exact ev_some (by rw [List.drop_of_length_le (by omega)]; rfl)
  | succ d ih =>
    intro i s h
    refine ev_succ ?_
    simp only [spec_l16Sum.l0, if_pos (show ((i : Int) < (xs.length : Int)) by omega), if_pos (show (0 : Int) ≤ (i : Int) by omega), w64s i (by omega)]
    rw [drop_rd (show i < xs.length by omega), List.foldl_cons]
    exact ih (i + 1) _ (by omega)
theorem spec_l16Sum_ev (xs : List Int) (hn : xs.length ≤ 140737488355328) : Ev (fun k => spec_l16Sum.f k xs) (sum16 xs) := by
  simpa [spec_l16Sum.f, sum16] using spec_l16Sum_l xs hn xs.length 0 0 (by omega)
theorem spec_Put16_ev (a b : Int) (xs : List Int) : Ev (fun k => spec_Put16.f k a b xs) (put16 a b xs) := by
  simp only [spec_Put16.f, spec_WordOk_eq, Option.bind_some]
  unfold put16
  by_cases hw : wordB a b xs = true
  · have hl := wordB_len hw
    simp only [if_pos hw, if_pos (show ([a % 256, b % 256, (xs.length : Int) % 256] : List Int).length + xs.length < 140737488355328 by simp; omega)]
    refine (spec_l16Sum_ev _ (by simp; omega)).bind ?_
    simp only [if_pos (show ([a % 256, b % 256, (xs.length : Int) % 256] ++ xs).length < 140737488355328 by simp; omega)]
    exact ev_now _
  · simp only [if_neg hw]
    exact ev_now _
theorem FnExactPut16 (a0_0 a0_1 : Int) (l0_2 : List Int) (h : (Lit.int .i64 a0_0).wf = true ∧ (Lit.int .i64 a0_1).wf = true ∧ l0_2.length * 1 ≤ 140737488351232 ∧ ∀ x ∈ l0_2, (Lit.int .u8 x).wf = true) : ∃ k, laws_FnExactPut16.f k a0_0 a0_1 l0_2 = some true := by
  have hn : l0_2.length ≤ 140737488355328 := by omega
  have hp : (put16 a0_0 a0_1 l0_2).1.length ≤ 140737488355328 := by
    unfold put16
    by_cases hw : wordB a0_0 a0_1 l0_2 = true
    · have := wordB_len hw
      simp [hw]; omega
    · simp [hw]
  refine Ev.rounds ?_
  simp only [laws_FnExactPut16.f, szWord16_eq a0_0 a0_1 l0_2 1048576 (by omega) (by omega) hn, Option.bind_some]
  by_cases hs : (1048576 : Int) - (l0_2.length : Int) < 0
  · simp only [if_pos hs]
    exact ev_now _
  · simp only [if_neg hs]
    refine (toWord16_ev a0_0 a0_1 l0_2 hn).bind ?_
    refine (spec_Put16_ev a0_0 a0_1 l0_2).bind ?_
    refine (toWord16_ev a0_0 a0_1 l0_2 hn).bind ?_
    refine (impl_Put16_ev a0_0 a0_1 l0_2).bind ?_
    refine (eqByteS_self _ hp).bind ?_
    simp only [if_true]
    refine ev_succ ?_
    simp only [laws_FnExactPut16.j0, bne_self_eq_false, Bool.false_eq_true, if_false]
    refine (toWord16_ev a0_0 a0_1 l0_2 hn).bind ?_
    refine (eqWord16_self a0_0 a0_1 l0_2 hn).bind ?_
    simp only [if_true]
    refine (markWord16_ev a0_0 a0_1 l0_2 1 (by omega) (by omega) hn).bind ?_
    simp only [if_neg (show ¬ ((1 : Int) + (l0_2.length : Int) < 0) by omega)]
    refine (eqByteS_self _ hp).bind ?_
    simp only [if_true]
    refine ev_succ ?_
    simp only [laws_FnExactPut16.j1, bne_self_eq_false, Bool.false_eq_true, if_false]
    refine (markByteS_ev _ 1 (by omega) (by omega) hp).bind ?_
    refine (heldByteS_ev _ 1 (by omega) (by omega) hp).bind ?_
    simp only [if_neg (show ¬ ((1 : Int) + ((put16 a0_0 a0_1 l0_2).1.length : Int) < 0) by omega), if_true]
    refine (toWord16_ev a0_0 a0_1 l0_2 hn).bind ?_
    refine (impl_Put16_ev a0_0 a0_1 l0_2).bind ?_
    refine (eqByteS_self _ hp).bind ?_
    simp only [if_true]
    refine ev_succ ?_
    simp only [laws_FnExactPut16.j2, bne_self_eq_false, Bool.false_eq_true, if_false]
    refine (heldByteS_ev _ 1 (by omega) (by omega) hp).bind ?_
    simp only [if_neg (show ¬ ((1 : Int) + ((put16 a0_0 a0_1 l0_2).1.length : Int) < 0) by omega), if_true]
    exact ev_now _
end Go.Proofs.Ytcdniegjefejcaa.Pure
