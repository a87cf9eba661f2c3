/- The program's Get16 answers as the reference's at every argument, keeps its argument, and shares no memory with it. No condition. -/
import Derived.Test.YtcdniegjefejcaaPFnExactGet16x5
import Derived.Test.YtcdniegjefejcaaBase
set_option linter.unusedVariables false
set_option linter.unusedSimpArgs false
namespace Go.Proofs.Ytcdniegjefejcaa.Pure
open Go.RowKit Go.Proofs.Ytcdniegjefejcaa.PFnExactGet16 Go.Proofs.Ytcdniegjefejcaa.Base Go.Proofs.YtcdniegjefejcaaW.PrintWords Go.Proofs.YtcdniegjefejcaaW.PrintLast
theorem toByteS_l (xs : List Int) (hn : xs.length ≤ 140737488355328) (d : Nat) : ∀ i : Nat, i + d = xs.length →
    Ev (fun k => laws_toByteS.l0 k xs (xs.take i ++ List.replicate (xs.length - i) 0) (i : Int)) xs := by
  induction d with
  | zero =>
    intro i h
    refine ev_succ ?_
    simp only [laws_toByteS.l0, if_neg (show ¬ ((i : Int) < (xs.length : Int)) by omega)]
    exact ev_some (by rw [List.take_of_length_le (by omega), show xs.length - i = 0 by omega]; simp)
  | succ d ih =>
    intro i h
    refine ev_succ ?_
    have hl : ((xs.take i ++ List.replicate (xs.length - i) (0 : Int)).length : Int) = (xs.length : Int) := by simp; omega
    simp only [laws_toByteS.l0, if_pos (show ((i : Int) < (xs.length : Int)) by omega), if_pos (show (0 : Int) ≤ (i : Int) by omega), hl, w64s i (by omega), Int.toNat_natCast, take_set (show i < xs.length by omega)]
    exact ih (i + 1) (by omega)
theorem toByteS_ev (xs : List Int) (hn : xs.length ≤ 140737488355328) : Ev (fun k => laws_toByteS.f k xs) xs := by
  simp only [laws_toByteS.f, if_pos (show (0 : Int) ≤ (xs.length : Int) by omega), Int.toNat_natCast, if_pos (show xs.length ≤ 281474976710656 by omega)]
  simpa using toByteS_l xs hn xs.length 0 (by omega)
theorem eqByteS_l (xs ys : List Int) (hn : xs.length ≤ 140737488355328) (hl : ys.length = xs.length) (d : Nat) : ∀ i : Nat, i + d = xs.length →
    Ev (fun k => laws_eqByteS.l0 k xs ys (i : Int)) (decide (xs.drop i = ys.drop i)) := by
  induction d with
  | zero =>
    intro i h
    refine ev_succ ?_
    simp only [laws_eqByteS.l0, if_neg (show ¬ ((i : Int) < (xs.length : Int)) by omega)]
    exact ev_some (by rw [List.drop_of_length_le (by omega), List.drop_of_length_le (by omega)]; rfl)
  | succ d ih =>
    intro i h
    refine ev_succ ?_
    simp only [laws_eqByteS.l0, if_pos (show ((i : Int) < (xs.length : Int)) by omega), if_pos (show (0 : Int) ≤ (i : Int) by omega), hl, w64s i (by omega)]
    rw [drop_rd (show i < xs.length by omega), drop_rd (show i < ys.length by omega)]
    by_cases e : rd xs (i : Int) = rd ys (i : Int)
    · simp only [if_pos e]
      simpa [e] using ih (i + 1) (by omega)
    · simp only [if_neg e]
      exact ev_some (by simp [e])
theorem eqByteS_ev (xs ys : List Int) (hn : xs.length ≤ 140737488355328) : Ev (fun k => laws_eqByteS.f k xs ys) (decide (xs = ys)) := by
  unfold laws_eqByteS.f
  by_cases hl : ys.length = xs.length
  · simp only [if_pos (show (xs.length : Int) = (ys.length : Int) by omega)]
    simpa using eqByteS_l xs ys hn hl xs.length 0 (by omega)
  · simp only [if_neg (show ¬ (xs.length : Int) = (ys.length : Int) by omega)]
    exact ev_some (by
      have : ¬ xs = ys := fun e => hl (by rw [e])
      simp [this])
theorem eqByteS_self (xs : List Int) (hn : xs.length ≤ 140737488355328) : Ev (fun k => laws_eqByteS.f k xs xs) true := by simpa using eqByteS_ev xs xs hn
theorem markByteS_l (xs : List Int) (k0 : Int) (h0 : 0 ≤ k0) (h1 : k0 ≤ 4611686018427387904) (hn : xs.length ≤ 140737488355328) (d : Nat) : ∀ i : Nat, i + d = xs.length →
    Ev (fun k => laws_markByteS.l0 k (marks (fun x => x % 256) k0 i ++ xs.drop i) (k0 + (i : Int)) (i : Int)) (k0 + (xs.length : Int), marks (fun x => x % 256) k0 xs.length) := by
  induction d with
  | zero =>
    intro i h
    refine ev_succ ?_
    have hl : ((marks (fun x => x % 256) k0 i ++ xs.drop i).length : Int) = (xs.length : Int) := by simp [marks_length]; omega
    simp only [laws_markByteS.l0, hl, if_neg (show ¬ ((i : Int) < (xs.length : Int)) by omega)]
    obtain rfl : i = xs.length := by omega
    exact ev_some (by rw [List.drop_length, List.append_nil])
  | succ d ih =>
    intro i h
    refine ev_succ ?_
    have hl : ((marks (fun x => x % 256) k0 i ++ xs.drop i).length : Int) = (xs.length : Int) := by simp [marks_length]; omega
    have hs := marks_set (g := fun x => x % 256) (k0 := k0) (show i < xs.length by omega)
    simp only [laws_markByteS.l0, hl, if_pos (show ((i : Int) < (xs.length : Int)) by omega), if_pos (show (0 : Int) ≤ (i : Int) by omega), Int.toNat_natCast, hs, w64s i (by omega), w64 (show -9223372036854775808 ≤ k0 + (i : Int) + 1 by omega) (show k0 + (i : Int) + 1 ≤ 9223372036854775807 by omega)]
    have := ih (i + 1) (by omega)
    rw [show k0 + ((i + 1 : Nat) : Int) = k0 + (i : Int) + 1 by omega] at this
    exact this
theorem markByteS_ev (xs : List Int) (k0 : Int) (h0 : 0 ≤ k0) (h1 : k0 ≤ 4611686018427387904) (hn : xs.length ≤ 140737488355328) : Ev (fun k => laws_markByteS.f k xs k0) (k0 + (xs.length : Int), marks (fun x => x % 256) k0 xs.length) := by
  have := markByteS_l xs k0 h0 h1 hn xs.length 0 (by omega)
  simpa [laws_markByteS.f, marks_nil] using this
theorem heldByteS_l (n : Nat) (k0 : Int) (h0 : 0 ≤ k0) (h1 : k0 ≤ 4611686018427387904) (hn : n ≤ 140737488355328) (d : Nat) : ∀ i : Nat, i + d = n →
    Ev (fun k => laws_heldByteS.l0 k (marks (fun x => x % 256) k0 n) (k0 + (i : Int)) (i : Int)) (k0 + (n : Int)) := by
  induction d with
  | zero =>
    intro i h
    refine ev_succ ?_
    simp only [laws_heldByteS.l0, marks_length, if_neg (show ¬ ((i : Int) < (n : Int)) by omega)]
    exact ev_some (by omega)
  | succ d ih =>
    intro i h
    refine ev_succ ?_
    simp only [laws_heldByteS.l0, marks_length, if_pos (show ((i : Int) < (n : Int)) by omega), if_pos (show (0 : Int) ≤ (i : Int) by omega), marks_rd (show i < n by omega), if_true, w64s i (by omega), w64 (show -9223372036854775808 ≤ k0 + (i : Int) + 1 by omega) (show k0 + (i : Int) + 1 ≤ 9223372036854775807 by omega)]
    have := ih (i + 1) (by omega)
    rw [show k0 + ((i + 1 : Nat) : Int) = k0 + (i : Int) + 1 by omega] at this
    exact this
theorem heldByteS_ev (n : Nat) (k0 : Int) (h0 : 0 ≤ k0) (h1 : k0 ≤ 4611686018427387904) (hn : n ≤ 140737488355328) : Ev (fun k => laws_heldByteS.f k (marks (fun x => x % 256) k0 n) k0) (k0 + (n : Int)) := by
  have := heldByteS_l n k0 h0 h1 hn n 0 (by omega)
  simpa [laws_heldByteS.f] using this
theorem eqWord16_self (a b : Int) (xs : List Int) (hn : xs.length ≤ 140737488355328) : Ev (fun k => laws_eqWord16.f k a b xs a b xs) true := by
  simp only [laws_eqWord16.f, if_true]
  exact (eqByteS_self xs hn).bind (f := fun _ t => if t = true then some true else some false) (ev_now _)
theorem markWord16_ev (a b : Int) (xs : List Int) (k0 : Int) (h0 : 0 ≤ k0) (h1 : k0 ≤ 4611686018427387904) (hn : xs.length ≤ 140737488355328) : Ev (fun k => laws_markWord16.f k a b xs k0) (k0 + (xs.length : Int), marks (fun x => x % 256) k0 xs.length) := by
  simp only [laws_markWord16.f]
  exact (markByteS_ev xs k0 h0 h1 hn).bind (f := fun _ t => some (t.1, t.2)) (ev_now _)
theorem heldWord16_ev (a b : Int) (n : Nat) (k0 : Int) (h0 : 0 ≤ k0) (h1 : k0 ≤ 4611686018427387904) (hn : n ≤ 140737488355328) : Ev (fun k => laws_heldWord16.f k a b (marks (fun x => x % 256) k0 n) k0) (k0 + (n : Int)) := by
  simp only [laws_heldWord16.f]
  refine (heldByteS_ev n k0 h0 h1 hn).bind ?_
  simp only [if_neg (show ¬ (k0 + (n : Int) < 0) by omega)]
  exact ev_now _
/-- The sum of a frame's bytes. -/
def sum16 (xs : List Int) : Int := xs.foldl (fun x b => (((x * 3) % 256) + b) % 256) 0
theorem impl_sumOf_l (xs : List Int) (hn : xs.length ≤ 140737488355328) (d : Nat) : ∀ (i : Nat) (s : Int), i + d = xs.length →
    Ev (fun k => impl_sumOf.l0 k s xs (xs.length : Int) (i : Int)) ((xs.drop i).foldl (fun x b => (((x * 3) % 256) + b) % 256) s) := by
  induction d with
  | zero =>
    intro i s h
    refine ev_succ ?_
    simp only [impl_sumOf.l0, if_neg (show ¬ ((i : Int) < (xs.length : Int)) by omega)]
    exact ev_some (by rw [List.drop_of_length_le (by omega)]; rfl)
  | succ d ih =>
    intro i s h
    refine ev_succ ?_
    simp only [impl_sumOf.l0, if_pos (show ((i : Int) < (xs.length : Int)) by omega), if_pos (show (0 : Int) ≤ (i : Int) by omega), w64s i (by omega)]
    rw [drop_rd (show i < xs.length by omega), List.foldl_cons]
    exact ih (i + 1) _ (by omega)
theorem impl_sumOf_ev (xs : List Int) (hn : xs.length ≤ 140737488355328) : Ev (fun k => impl_sumOf.f k xs) (sum16 xs) := by
  simpa [impl_sumOf.f, sum16] using impl_sumOf_l xs hn xs.length 0 0 (by omega)
theorem spec_l16Sum_l (xs : List Int) (hn : xs.length ≤ 140737488355328) (d : Nat) : ∀ (i : Nat) (s : Int), i + d = xs.length →
    Ev (fun k => spec_l16Sum.l0 k xs s (i : Int)) ((xs.drop i).foldl (fun x b => (((x * 3) % 256) + b) % 256) s) := by
  induction d with
  | zero =>
    intro i s h
    refine ev_succ ?_
    simp only [spec_l16Sum.l0, if_neg (show ¬ ((i : Int) < (xs.length : Int)) by omega)]
    exact ev_some (by rw [List.drop_of_length_le (by omega)]; rfl)
  | succ d ih =>
    intro i s h
    refine ev_succ ?_
    simp only [spec_l16Sum.l0, if_pos (show ((i : Int) < (xs.length : Int)) by omega), if_pos (show (0 : Int) ≤ (i : Int) by omega), w64s i (by omega)]
    rw [drop_rd (show i < xs.length by omega), List.foldl_cons]
    exact ih (i + 1) _ (by omega)
theorem spec_l16Sum_ev (xs : List Int) (hn : xs.length ≤ 140737488355328) : Ev (fun k => spec_l16Sum.f k xs) (sum16 xs) := by
  simpa [spec_l16Sum.f, sum16] using spec_l16Sum_l xs hn xs.length 0 0 (by omega)
theorem clone_eq (xs : List Int) (h : xs.length < 140737488355328) : slices_Clone_byte_byte.f xs = some xs := by
  simp [slices_Clone_byte_byte.f, h]
/-- What stands in a frame. -/
def get16 (l : List Int) : Int × Int × List Int × Int :=
  if (l.length : Int) < 4 then (0, 0, [], 1)
  else if rd l 2 > 32 then (0, 0, [], 2)
  else if (l.length : Int) < rd l 2 + 4 then (0, 0, [], 1)
  else if (l.length : Int) > rd l 2 + 4 then (0, 0, [], 2)
  else if rd l 0 = 0 then (0, 0, [], 3)
  else if rd l ((l.length : Int) - 1) = sum16 (l.take (l.length - 1)) then (rd l 0, rd l 1, (l.take (l.length - 1)).drop 3, 0)
  else (0, 0, [], 4)
theorem impl_Get16_ev (l : List Int) (hn : l.length < 140737488355328) (hw : ∀ x ∈ l, 0 ≤ x ∧ x ≤ 255) : Ev (fun k => impl_Get16.f k l) (get16 l) := by
  unfold impl_Get16.f get16
  by_cases c1 : (l.length : Int) < 4
  · simp only [if_pos c1]; exact ev_now _
  have b0 := hw _ (rd_mem (i := 0) (by omega) (show (0 : Int) < l.length by omega))
  have b1 := hw _ (rd_mem (i := 1) (by omega) (show (1 : Int) < l.length by omega))
  have b2 := hw _ (rd_mem (i := 2) (by omega) (show (2 : Int) < l.length by omega))
  have w2 : wrap64 (rd l 2) = rd l 2 := w64 (by omega) (by omega)
  have w0 : wrap64 (rd l 0) = rd l 0 := w64 (by omega) (by omega)
  have w1 : wrap64 (rd l 1) = rd l 1 := w64 (by omega) (by omega)
  have w4 : wrap64 (4 + rd l 2) = rd l 2 + 4 := by rw [w64 (by omega) (by omega)]; omega
  have wl : wrap64 ((l.length : Int) - 1) = (l.length : Int) - 1 := w64 (by omega) (by omega)
  simp only [if_neg c1, if_pos (show (2 : Int) < (l.length : Int) by omega), w2, w4, w0, w1, wl, if_pos (show (0 : Int) < (l.length : Int) by omega), if_pos (show (1 : Int) < (l.length : Int) by omega)]
  by_cases c2 : rd l 2 > 32
  · simp only [if_pos c2]; exact ev_now _
  by_cases c3 : (l.length : Int) < rd l 2 + 4
  · simp only [if_neg c2, if_pos c3]; exact ev_now _
  by_cases c4 : (l.length : Int) > rd l 2 + 4
  · simp only [if_neg c2, if_neg c3, if_pos c4]; exact ev_now _
  by_cases c5 : rd l 0 = 0
  · simp only [if_neg c2, if_neg c3, if_neg c4, if_pos c5]; exact ev_now _
  simp only [if_neg c2, if_neg c3, if_neg c4, if_neg c5, if_pos (show (0 : Int) ≤ (l.length : Int) - 1 by omega), if_pos (show (l.length : Int) - 1 < (l.length : Int) by omega), if_pos (show (l.length : Int) - 1 ≤ (l.length : Int) by omega), show ((l.length : Int) - 1).toNat = l.length - 1 by omega]
  refine (impl_sumOf_ev _ (by simp; omega)).bind ?_
  by_cases c6 : rd l ((l.length : Int) - 1) = sum16 (l.take (l.length - 1))
  · simp only [if_pos c6, if_pos (show (3 : Int) ≤ (l.length : Int) - 1 by omega), clone_eq _ (show ((l.take (l.length - 1)).drop 3).length < 140737488355328 by simp; omega), Option.bind_some]
    exact ev_now _
  · simp only [if_neg c6]; exact ev_now _
theorem spec_Get16_ev (l : List Int) (hn : l.length < 140737488355328) (hw : ∀ x ∈ l, 0 ≤ x ∧ x ≤ 255) : Ev (fun k => spec_Get16.f k l) (get16 l) := by
  unfold spec_Get16.f get16
  by_cases c1 : (l.length : Int) < 4
  · simp only [if_pos c1]; exact ev_now _
  have b0 := hw _ (rd_mem (i := 0) (by omega) (show (0 : Int) < l.length by omega))
  have b1 := hw _ (rd_mem (i := 1) (by omega) (show (1 : Int) < l.length by omega))
  have b2 := hw _ (rd_mem (i := 2) (by omega) (show (2 : Int) < l.length by omega))
  have w2 : wrap64 (rd l 2) = rd l 2 := w64 (by omega) (by omega)
  have w0 : wrap64 (rd l 0) = rd l 0 := w64 (by omega) (by omega)
  have w1 : wrap64 (rd l 1) = rd l 1 := w64 (by omega) (by omega)
  have w4 : wrap64 (rd l 2 + 4) = rd l 2 + 4 := w64 (by omega) (by omega)
  have wl : wrap64 ((l.length : Int) - 1) = (l.length : Int) - 1 := w64 (by omega) (by omega)
  simp only [if_neg c1, if_pos (show (2 : Int) < (l.length : Int) by omega), w2, w4, w0, w1, wl, if_pos (show (0 : Int) < (l.length : Int) by omega), if_pos (show (1 : Int) < (l.length : Int) by omega)]
  by_cases c2 : rd l 2 > 32
  · simp only [if_pos c2]; exact ev_now _
  by_cases c3 : (l.length : Int) < rd l 2 + 4
  · simp only [if_neg c2, if_pos c3]; exact ev_now _
  by_cases c4 : (l.length : Int) > rd l 2 + 4
  · simp only [if_neg c2, if_neg c3, if_pos c4]; exact ev_now _
  by_cases c5 : rd l 0 = 0
  · simp only [if_neg c2, if_neg c3, if_neg c4, if_pos c5]; exact ev_now _
  simp only [if_neg c2, if_neg c3, if_neg c4, if_neg c5, if_pos (show (0 : Int) ≤ (l.length : Int) - 1 by omega), if_pos (show (l.length : Int) - 1 < (l.length : Int) by omega), if_pos (show (l.length : Int) - 1 ≤ (l.length : Int) by omega), show ((l.length : Int) - 1).toNat = l.length - 1 by omega]
  refine (spec_l16Sum_ev _ (by simp; omega)).bind ?_
  by_cases c6 : rd l ((l.length : Int) - 1) = sum16 (l.take (l.length - 1))
  · have e : ([] : List Int).length + ((l.take (l.length - 1)).drop 3).length < 140737488355328 := by simp; omega
    simp only [if_pos c6, if_pos (show (3 : Int) ≤ (l.length : Int) - 1 by omega), Option.bind_some, if_pos e, List.nil_append]
    exact ev_now _
  · simp only [if_neg c6]; exact ev_now _
theorem get16_len (l : List Int) : (get16 l).2.2.1.length ≤ l.length := by
  unfold get16
  repeat' split
  all_goals simp
  all_goals omega
theorem FnExactGet16 : laws_FnExactGet16.Pure := by
  intro l _ hn1 hw
  have hn : l.length ≤ 140737488355328 := by omega
  have hw' : ∀ x ∈ l, 0 ≤ x ∧ x ≤ 255 := fun x hx => wf_u8 (hw x hx)
  have hg := get16_len l
  refine Ev.rounds ?_
  simp only [laws_FnExactGet16.f]
  by_cases hb : (l.length : Int) > 1048576
  · simp only [if_pos hb]
    exact ev_now _
  · simp only [if_neg hb]
    have hs := spec_Get16_ev l (by omega) hw'
    have hi := impl_Get16_ev l (by omega) hw'
    generalize get16 l = g at hg hs hi
    obtain ⟨a, b, xs, c⟩ := g
    simp only at hg
    refine (toByteS_ev l hn).bind ?_
    refine hs.bind ?_
    refine (toByteS_ev l hn).bind ?_
    refine hi.bind ?_
    simp only
    refine (eqWord16_self a b xs (by omega)).bind ?_
    simp only [if_true]
    refine ev_succ ?_
    simp only [laws_FnExactGet16.j0, bne_self_eq_false, Bool.false_eq_true, if_false]
    refine (toByteS_ev l hn).bind ?_
    refine (eqByteS_self l hn).bind ?_
    simp only [if_true]
    refine (markByteS_ev l 1 (by omega) (by omega) hn).bind ?_
    simp only [if_neg (show ¬ ((1 : Int) + (l.length : Int) < 0) by omega)]
    refine (eqWord16_self a b xs (by omega)).bind ?_
    simp only [if_true]
    refine ev_succ ?_
    simp only [laws_FnExactGet16.j1, bne_self_eq_false, Bool.false_eq_true, if_false]
    refine (markWord16_ev a b xs 1 (by omega) (by omega) (by omega)).bind ?_
    refine (heldWord16_ev a b xs.length 1 (by omega) (by omega) (by omega)).bind ?_
    simp only [if_neg (show ¬ ((1 : Int) + (xs.length : Int) < 0) by omega), if_true]
    refine (toByteS_ev l hn).bind ?_
    refine hi.bind ?_
    simp only
    refine (eqWord16_self a b xs (by omega)).bind ?_
    simp only [if_true]
    refine ev_succ ?_
    simp only [laws_FnExactGet16.j2, bne_self_eq_false, Bool.false_eq_true, if_false]
    refine (heldWord16_ev a b xs.length 1 (by omega) (by omega) (by omega)).bind ?_
    simp only [if_neg (show ¬ ((1 : Int) + (xs.length : Int) < 0) by omega), if_true]
    exact ev_now _
end Go.Proofs.Ytcdniegjefejcaa.Pure
