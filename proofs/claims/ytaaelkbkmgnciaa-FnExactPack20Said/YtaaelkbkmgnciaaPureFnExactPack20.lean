/- The program's Pack20 answers as the reference's at every argument. No condition. -/
import Derived.Test.YtaaelkbkmgnciaaPFnExactPack20x6
import Derived.Test.YtaaelkbkmgnciaaBase
set_option linter.unusedVariables false
set_option linter.unusedSimpArgs false
namespace Go.Proofs.Ytaaelkbkmgnciaa.Pure
open Go.RowKit Go.Proofs.Ytaaelkbkmgnciaa.PFnExactPack20 Go.Proofs.Ytaaelkbkmgnciaa.Base Go.Proofs.YtaaelkbkmgnciaaW.PrintWords Go.Proofs.YtaaelkbkmgnciaaW.PrintLast
theorem impl_in_eq (a b c : Int) : impl_in.f a b c = some (inB a b c) := in_form a b c
theorem spec_in_eq (a b c : Int) : spec_l1In.f a b c = some (inB a b c) := in_form a b c
theorem impl_allIn_l (b c : Int) (xs : List Int) (hn : xs.length < 4611686018427387904) (d : Nat) : ∀ i : Nat, i + d = xs.length →
    Ev (fun k => impl_allIn.l0 k b c xs (xs.length : Int) (i : Int)) (allB (xs.drop i) b c) := by
  induction d with
  | zero =>
    intro i h
    refine ev_succ ?_
    simp only [impl_allIn.l0, if_neg (show ¬ ((i : Int) < (xs.length : Int)) by omega)]
    rw [List.drop_of_length_le (by omega)]
    exact ev_now _
  | succ d ih =>
    intro i h
    refine ev_succ ?_
    simp only [impl_allIn.l0, if_pos (show ((i : Int) < (xs.length : Int)) by omega), if_pos (show (0 : Int) ≤ (i : Int) by omega), impl_in_eq, Option.bind_some, w64s i (by omega)]
    rw [drop_rd (show i < xs.length by omega)]
    cases hb : inB (rd xs (i : Int)) b c with
    | true => simpa [allB, hb] using ih (i + 1) (by omega)
    | false => simpa [allB, hb] using ev_now false
theorem impl_allIn_ev (b c : Int) (xs : List Int) (hn : xs.length < 4611686018427387904) : Ev (fun k => impl_allIn.f k xs b c) (allB xs b c) := by
  simpa [impl_allIn.f] using impl_allIn_l b c xs hn xs.length 0 (by omega)
theorem spec_l1All_l (b c : Int) (xs : List Int) (hn : xs.length < 4611686018427387904) (d : Nat) : ∀ i : Nat, i + d = xs.length →
    Ev (fun k => spec_l1All.l0 k xs b c (i : Int)) (allB (xs.drop i) b c) := by
  induction d with
  | zero =>
    intro i h
    refine ev_succ ?_
    simp only [spec_l1All.l0, if_neg (show ¬ ((i : Int) < (xs.length : Int)) by omega)]
    rw [List.drop_of_length_le (by omega)]
    exact ev_now _
  | succ d ih =>
    intro i h
    refine ev_succ ?_
    simp only [spec_l1All.l0, if_pos (show ((i : Int) < (xs.length : Int)) by omega), if_pos (show (0 : Int) ≤ (i : Int) by omega), spec_in_eq, Option.bind_some, w64s i (by omega)]
    rw [drop_rd (show i < xs.length by omega)]
    cases hb : inB (rd xs (i : Int)) b c with
    | true => simpa [allB, hb] using ih (i + 1) (by omega)
    | false => simpa [allB, hb] using ev_now false
theorem spec_l1All_ev (b c : Int) (xs : List Int) (hn : xs.length < 4611686018427387904) : Ev (fun k => spec_l1All.f k xs b c) (allB xs b c) := by
  simpa [spec_l1All.f] using spec_l1All_l b c xs hn xs.length 0 (by omega)
/-! The helpers of the laws over IntS. -/
theorem szIntS_eq (xs : List Int) (left : Int) (h0 : 0 ≤ left) (h1 : left ≤ 1048576) (hn : xs.length ≤ 140737488355328) : laws_szIntS.f xs left = some (if left - (xs.length : Int) < 0 then -1 else left - (xs.length : Int)) := by
  unfold laws_szIntS.f
  rw [w64 (by omega) (by omega)]
  split <;> rfl
theorem toIntS_l (xs : List Int) (hn : xs.length ≤ 17592186044416) (d : Nat) : ∀ i : Nat, i + d = xs.length →
    Ev (fun k => laws_toIntS.l0 k xs (xs.take i ++ List.replicate (xs.length - i) 0) (i : Int)) xs := by
  induction d with
  | zero =>
    intro i h
    refine ev_succ ?_
    simp only [laws_toIntS.l0, if_neg (show ¬ ((i : Int) < (xs.length : Int)) by omega)]
    exact ev_some (by rw [List.take_of_length_le (by omega), show xs.length - i = 0 by omega]; simp)
  | succ d ih =>
    intro i h
    refine ev_succ ?_
    have hl : ((xs.take i ++ List.replicate (xs.length - i) (0 : Int)).length : Int) = (xs.length : Int) := by simp; omega
    simp only [laws_toIntS.l0, if_pos (show ((i : Int) < (xs.length : Int)) by omega), if_pos (show (0 : Int) ≤ (i : Int) by omega), hl, w64s i (by omega), Int.toNat_natCast, take_set (show i < xs.length by omega)]
    exact ih (i + 1) (by omega)
theorem toIntS_ev (xs : List Int) (hn : xs.length ≤ 17592186044416) : Ev (fun k => laws_toIntS.f k xs) xs := by
  simp only [laws_toIntS.f, if_pos (show (0 : Int) ≤ (xs.length : Int) by omega), Int.toNat_natCast, if_pos (show xs.length ≤ 35184372088832 by omega)]
  simpa using toIntS_l xs hn xs.length 0 (by omega)
theorem eqIntS_l (xs ys : List Int) (hn : xs.length ≤ 140737488355328) (hl : ys.length = xs.length) (d : Nat) : ∀ i : Nat, i + d = xs.length →
    Ev (fun k => laws_eqIntS.l0 k xs ys (i : Int)) (decide (xs.drop i = ys.drop i)) := by
  induction d with
  | zero =>
    intro i h
    refine ev_succ ?_
    simp only [laws_eqIntS.l0, if_neg (show ¬ ((i : Int) < (xs.length : Int)) by omega)]
    exact ev_some (by rw [List.drop_of_length_le (by omega), List.drop_of_length_le (by omega)]; rfl)
  | succ d ih =>
    intro i h
    refine ev_succ ?_
    simp only [laws_eqIntS.l0, if_pos (show ((i : Int) < (xs.length : Int)) by omega), if_pos (show (0 : Int) ≤ (i : Int) by omega), hl, w64s i (by omega)]
    rw [drop_rd (show i < xs.length by omega), drop_rd (show i < ys.length by omega)]
    by_cases e : rd xs (i : Int) = rd ys (i : Int)
    · simp only [if_pos e]
      simpa [e] using ih (i + 1) (by omega)
    · simp only [if_neg e]
      exact ev_some (by simp [e])
theorem eqIntS_ev (xs ys : List Int) (hn : xs.length ≤ 140737488355328) : Ev (fun k => laws_eqIntS.f k xs ys) (decide (xs = ys)) := by
  unfold laws_eqIntS.f
  by_cases hl : ys.length = xs.length
  · simp only [if_pos (show (xs.length : Int) = (ys.length : Int) by omega)]
    simpa using eqIntS_l xs ys hn hl xs.length 0 (by omega)
  · simp only [if_neg (show ¬ (xs.length : Int) = (ys.length : Int) by omega)]
    exact ev_some (by
      have : ¬ xs = ys := fun e => hl (by rw [e])
      simp [this])
theorem eqIntS_self (xs : List Int) (hn : xs.length ≤ 140737488355328) : Ev (fun k => laws_eqIntS.f k xs xs) true := by simpa using eqIntS_ev xs xs hn
theorem markIntS_l (xs : List Int) (k0 : Int) (h0 : 0 ≤ k0) (h1 : k0 ≤ 4611686018427387904) (hn : xs.length ≤ 140737488355328) (d : Nat) : ∀ i : Nat, i + d = xs.length →
    Ev (fun k => laws_markIntS.l0 k (marks (fun x => x) k0 i ++ xs.drop i) (k0 + (i : Int)) (i : Int)) (k0 + (xs.length : Int), marks (fun x => x) k0 xs.length) := by
  induction d with
  | zero =>
    intro i h
    refine ev_succ ?_
    have hl : ((marks (fun x => x) k0 i ++ xs.drop i).length : Int) = (xs.length : Int) := by simp [marks_length]; omega
    simp only [laws_markIntS.l0, hl, if_neg (show ¬ ((i : Int) < (xs.length : Int)) by omega)]
    obtain rfl : i = xs.length := by omega
    exact ev_some (by rw [List.drop_length, List.append_nil])
  | succ d ih =>
    intro i h
    refine ev_succ ?_
    have hl : ((marks (fun x => x) k0 i ++ xs.drop i).length : Int) = (xs.length : Int) := by simp [marks_length]; omega
    have hs := marks_set (g := fun x => x) (k0 := k0) (show i < xs.length by omega)
    simp only [laws_markIntS.l0, hl, if_pos (show ((i : Int) < (xs.length : Int)) by omega), if_pos (show (0 : Int) ≤ (i : Int) by omega), Int.toNat_natCast, hs, w64s i (by omega), w64 (show -9223372036854775808 ≤ k0 + (i : Int) + 1 by omega) (show k0 + (i : Int) + 1 ≤ 9223372036854775807 by omega)]
    have := ih (i + 1) (by omega)
    rw [show k0 + ((i + 1 : Nat) : Int) = k0 + (i : Int) + 1 by omega] at this
    exact this
theorem markIntS_ev (xs : List Int) (k0 : Int) (h0 : 0 ≤ k0) (h1 : k0 ≤ 4611686018427387904) (hn : xs.length ≤ 140737488355328) : Ev (fun k => laws_markIntS.f k xs k0) (k0 + (xs.length : Int), marks (fun x => x) k0 xs.length) := by
  have := markIntS_l xs k0 h0 h1 hn xs.length 0 (by omega)
  simpa [laws_markIntS.f, marks_nil] using this
theorem markByteS_l (xs : List Int) (k0 : Int) (h0 : 0 ≤ k0) (h1 : k0 ≤ 4611686018427387904) (hn : xs.length ≤ 140737488355328) (d : Nat) : ∀ i : Nat, i + d = xs.length →
    Ev (fun k => laws_markByteS.l0 k (marks (fun x => x % 256) k0 i ++ xs.drop i) (k0 + (i : Int)) (i : Int)) (k0 + (xs.length : Int), marks (fun x => x % 256) k0 xs.length) := by
  induction d with
  | zero =>
    intro i h
    refine ev_succ ?_
    have hl : ((marks (fun x => x % 256) k0 i ++ xs.drop i).length : Int) = (xs.length : Int) := by simp [marks_length]; omega
    simp only [laws_markByteS.l0, hl, if_neg (show ¬ ((i : Int) < (xs.length : Int)) by omega)]
    obtain rfl : i = xs.length := by omega
    exact ev_some (by rw [List.drop_length, List.append_nil])
  | succ d ih =>
    intro i h
    refine ev_succ ?_
    have hl : ((marks (fun x => x % 256) k0 i ++ xs.drop i).length : Int) = (xs.length : Int) := by simp [marks_length]; omega
    have hs := marks_set (g := fun x => x % 256) (k0 := k0) (show i < xs.length by omega)
    simp only [laws_markByteS.l0, hl, if_pos (show ((i : Int) < (xs.length : Int)) by omega), if_pos (show (0 : Int) ≤ (i : Int) by omega), Int.toNat_natCast, hs, w64s i (by omega), w64 (show -9223372036854775808 ≤ k0 + (i : Int) + 1 by omega) (show k0 + (i : Int) + 1 ≤ 9223372036854775807 by omega)]
    have := ih (i + 1) (by omega)
    rw [show k0 + ((i + 1 : Nat) : Int) = k0 + (i : Int) + 1 by omega] at this
    exact this
theorem markByteS_ev (xs : List Int) (k0 : Int) (h0 : 0 ≤ k0) (h1 : k0 ≤ 4611686018427387904) (hn : xs.length ≤ 140737488355328) : Ev (fun k => laws_markByteS.f k xs k0) (k0 + (xs.length : Int), marks (fun x => x % 256) k0 xs.length) := by
  have := markByteS_l xs k0 h0 h1 hn xs.length 0 (by omega)
  simpa [laws_markByteS.f, marks_nil] using this
theorem heldByteS_l (n : Nat) (k0 : Int) (h0 : 0 ≤ k0) (h1 : k0 ≤ 4611686018427387904) (hn : n ≤ 140737488355328) (d : Nat) : ∀ i : Nat, i + d = n →
    Ev (fun k => laws_heldByteS.l0 k (marks (fun x => x % 256) k0 n) (k0 + (i : Int)) (i : Int)) (k0 + (n : Int)) := by
  induction d with
  | zero =>
    intro i h
    refine ev_succ ?_
    simp only [laws_heldByteS.l0, marks_length, if_neg (show ¬ ((i : Int) < (n : Int)) by omega)]
    exact ev_some (by omega)
  | succ d ih =>
    intro i h
    refine ev_succ ?_
    simp only [laws_heldByteS.l0, marks_length, if_pos (show ((i : Int) < (n : Int)) by omega), if_pos (show (0 : Int) ≤ (i : Int) by omega), marks_rd (show i < n by omega), if_true, w64s i (by omega), w64 (show -9223372036854775808 ≤ k0 + (i : Int) + 1 by omega) (show k0 + (i : Int) + 1 ≤ 9223372036854775807 by omega)]
    have := ih (i + 1) (by omega)
    rw [show k0 + ((i + 1 : Nat) : Int) = k0 + (i : Int) + 1 by omega] at this
    exact this
theorem heldByteS_ev (n : Nat) (k0 : Int) (h0 : 0 ≤ k0) (h1 : k0 ≤ 4611686018427387904) (hn : n ≤ 140737488355328) : Ev (fun k => laws_heldByteS.f k (marks (fun x => x % 256) k0 n) k0) (k0 + (n : Int)) := by
  have := heldByteS_l n k0 h0 h1 hn n 0 (by omega)
  simpa [laws_heldByteS.f] using this
theorem eqByteS_l (xs ys : List Int) (hn : xs.length ≤ 140737488355328) (hl : ys.length = xs.length) (d : Nat) : ∀ i : Nat, i + d = xs.length →
    Ev (fun k => laws_eqByteS.l0 k xs ys (i : Int)) (decide (xs.drop i = ys.drop i)) := by
  induction d with
  | zero =>
    intro i h
    refine ev_succ ?_
    simp only [laws_eqByteS.l0, if_neg (show ¬ ((i : Int) < (xs.length : Int)) by omega)]
    exact ev_some (by rw [List.drop_of_length_le (by omega), List.drop_of_length_le (by omega)]; rfl)
  | succ d ih =>
    intro i h
    refine ev_succ ?_
    simp only [laws_eqByteS.l0, if_pos (show ((i : Int) < (xs.length : Int)) by omega), if_pos (show (0 : Int) ≤ (i : Int) by omega), hl, w64s i (by omega)]
    rw [drop_rd (show i < xs.length by omega), drop_rd (show i < ys.length by omega)]
    by_cases e : rd xs (i : Int) = rd ys (i : Int)
    · simp only [if_pos e]
      simpa [e] using ih (i + 1) (by omega)
    · simp only [if_neg e]
      exact ev_some (by simp [e])
theorem eqByteS_ev (xs ys : List Int) (hn : xs.length ≤ 140737488355328) : Ev (fun k => laws_eqByteS.f k xs ys) (decide (xs = ys)) := by
  unfold laws_eqByteS.f
  by_cases hl : ys.length = xs.length
  · simp only [if_pos (show (xs.length : Int) = (ys.length : Int) by omega)]
    simpa using eqByteS_l xs ys hn hl xs.length 0 (by omega)
  · simp only [if_neg (show ¬ (xs.length : Int) = (ys.length : Int) by omega)]
    exact ev_some (by
      have : ¬ xs = ys := fun e => hl (by rw [e])
      simp [this])
theorem eqByteS_self (xs : List Int) (hn : xs.length ≤ 140737488355328) : Ev (fun k => laws_eqByteS.f k xs xs) true := by simpa using eqByteS_ev xs xs hn
/-! The helpers over slices of slices: IntSS. -/
theorem rdIntSS {xs : List (List Int)} {i : Nat} (h : i < xs.length) : rd_L1 xs (i : Int) = xs[i] := by
  simp [rd_L1, List.getD_eq_getElem?_getD, h]
theorem szIntSS_l (xs : List (List Int)) (hn : xs.length ≤ 140737488355328) (hx : ∀ x ∈ xs, x.length ≤ 140737488355328) (d : Nat) : ∀ (i : Nat) (left : Int), i + d = xs.length → 0 ≤ left → left ≤ 1048576 →
    ∃ v, Ev (fun k => laws_szIntSS.l0 k xs left (i : Int)) v ∧ (v < 0 ∨ (0 ≤ v ∧ v + (((xs.drop i).map List.length).sum : Nat) = left)) := by
  induction d with
  | zero =>
    intro i left h h0 h1
    refine ⟨left, ev_succ ?_, .inr ⟨h0, ?_⟩⟩
    · simp only [laws_szIntSS.l0, if_neg (show ¬ ((i : Int) < (xs.length : Int)) by omega)]
      exact ev_now _
    · rw [List.drop_of_length_le (by omega)]; simp
  | succ d ih =>
    intro i left h h0 h1
    have hlt : i < xs.length := by omega
    have hxi := hx _ (List.getElem_mem hlt)
    by_cases hs : left - ((xs[i]).length : Int) < 0
    · refine ⟨-1, ev_succ ?_, .inl (by omega)⟩
      simp only [laws_szIntSS.l0, if_pos (show ((i : Int) < (xs.length : Int)) by omega), if_pos (show (0 : Int) ≤ (i : Int) by omega), rdIntSS hlt, szIntS_eq _ left h0 h1 hxi, if_pos hs, Option.bind_some, if_pos (show (-1 : Int) < 0 by omega)]
      exact ev_now _
    · obtain ⟨v, hv, hr⟩ := ih (i + 1) (left - ((xs[i]).length : Int)) (by omega) (by omega) (by omega)
      refine ⟨v, ev_succ ?_, ?_⟩
      · simp only [laws_szIntSS.l0, if_pos (show ((i : Int) < (xs.length : Int)) by omega), if_pos (show (0 : Int) ≤ (i : Int) by omega), rdIntSS hlt, szIntS_eq _ left h0 h1 hxi, if_neg hs, Option.bind_some, w64s i (by omega)]
        exact hv
      · rcases hr with hr | ⟨hr0, hr⟩
        · exact .inl hr
        · refine .inr ⟨hr0, ?_⟩
          rw [List.drop_eq_getElem_cons hlt, List.map_cons, List.sum_cons]
          omega
theorem szIntSS_ev (xs : List (List Int)) (left : Int) (h0 : 0 ≤ left) (h1 : left ≤ 1048576) (hn : xs.length ≤ 140737488355328) (hx : ∀ x ∈ xs, x.length ≤ 140737488355328) :
    ∃ v, Ev (fun k => laws_szIntSS.f k xs left) v ∧ (v < 0 ∨ (0 ≤ v ∧ v + (xs.length : Int) + ((xs.map List.length).sum : Nat) = left)) := by
  simp only [laws_szIntSS.f]
  rw [w64 (by omega) (by omega)]
  by_cases hs : left - (xs.length : Int) < 0
  · simp only [if_pos hs]
    exact ⟨-1, ev_now _, .inl (by omega)⟩
  · simp only [if_neg hs]
    obtain ⟨v, hv, hr⟩ := szIntSS_l xs hn hx xs.length 0 (left - (xs.length : Int)) (by omega) (by omega) (by omega)
    refine ⟨v, hv, ?_⟩
    rcases hr with hr | ⟨hr0, hr⟩
    · exact .inl hr
    · rw [List.drop_zero] at hr
      exact .inr ⟨hr0, by omega⟩
theorem len_le_sum {xs : List (List Int)} {x : List Int} (h : x ∈ xs) : x.length ≤ (xs.map List.length).sum := by
  induction xs with
  | nil => simp at h
  | cons y ys ih =>
    rw [List.map_cons, List.sum_cons]
    rcases List.mem_cons.1 h with rfl | h
    · omega
    · have := ih h; omega
theorem toIntSS_l (xs : List (List Int)) (hn : xs.length ≤ 11728124029610) (hx : ∀ x ∈ xs, x.length ≤ 17592186044416) (d : Nat) : ∀ i : Nat, i + d = xs.length →
    Ev (fun k => laws_toIntSS.l0 k xs (xs.take i ++ List.replicate (xs.length - i) []) (i : Int)) xs := by
  induction d with
  | zero =>
    intro i h
    refine ev_succ ?_
    simp only [laws_toIntSS.l0, if_neg (show ¬ ((i : Int) < (xs.length : Int)) by omega)]
    exact ev_some (by rw [List.take_of_length_le (by omega), show xs.length - i = 0 by omega]; simp)
  | succ d ih =>
    intro i h
    refine ev_succ ?_
    have hlt : i < xs.length := by omega
    have hl : ((xs.take i ++ List.replicate (xs.length - i) ([] : List Int)).length : Int) = (xs.length : Int) := by simp; omega
    have hs := take_setG (xs := xs) (c := fun x => x) hlt ([] : List Int)
    simp only [List.map_id'] at hs
    simp only [laws_toIntSS.l0, if_pos (show ((i : Int) < (xs.length : Int)) by omega), if_pos (show (0 : Int) ≤ (i : Int) by omega), hl, w64s i (by omega), Int.toNat_natCast, rdIntSS hlt]
    refine (toIntS_ev _ (hx _ (List.getElem_mem hlt))).bind ?_
    rw [hs]
    exact ih (i + 1) (by omega)
theorem toIntSS_ev (xs : List (List Int)) (hn : xs.length ≤ 11728124029610) (hx : ∀ x ∈ xs, x.length ≤ 17592186044416) : Ev (fun k => laws_toIntSS.f k xs) xs := by
  simp only [laws_toIntSS.f, if_pos (show (0 : Int) ≤ (xs.length : Int) by omega), Int.toNat_natCast, if_pos hn]
  simpa using toIntSS_l xs hn hx xs.length 0 (by omega)
theorem eqIntSS_l (xs : List (List Int)) (hn : xs.length ≤ 140737488355328) (hx : ∀ x ∈ xs, x.length ≤ 140737488355328) (d : Nat) : ∀ i : Nat, i + d = xs.length →
    Ev (fun k => laws_eqIntSS.l0 k xs xs (i : Int)) true := by
  induction d with
  | zero =>
    intro i h
    refine ev_succ ?_
    simp only [laws_eqIntSS.l0, if_neg (show ¬ ((i : Int) < (xs.length : Int)) by omega)]
    exact ev_now _
  | succ d ih =>
    intro i h
    refine ev_succ ?_
    have hlt : i < xs.length := by omega
    simp only [laws_eqIntSS.l0, if_pos (show ((i : Int) < (xs.length : Int)) by omega), if_pos (show (0 : Int) ≤ (i : Int) by omega), w64s i (by omega), rdIntSS hlt]
    refine (eqIntS_self _ (hx _ (List.getElem_mem hlt))).bind ?_
    simp only [if_true]
    exact ih (i + 1) (by omega)
theorem eqIntSS_self (xs : List (List Int)) (hn : xs.length ≤ 140737488355328) (hx : ∀ x ∈ xs, x.length ≤ 140737488355328) : Ev (fun k => laws_eqIntSS.f k xs xs) true := by
  simp only [laws_eqIntSS.f, if_true]
  simpa using eqIntSS_l xs hn hx xs.length 0 (by omega)
theorem setGetD {xs : List (List Int)} {i : Nat} {r : List Int} (h : i < xs.length) : (xs.set i r).drop (i + 1) = xs.drop (i + 1) := by
  rw [List.drop_set_of_lt (by omega)]
theorem markIntSS_l (d : Nat) : ∀ (i : Nat) (xs : List (List Int)) (a : Int), i + d = xs.length → xs.length ≤ 140737488355328 → (∀ x ∈ xs, x.length ≤ 140737488355328) → 0 ≤ a → a + (((xs.drop i).map List.length).sum : Nat) ≤ 4611686018427387904 →
    ∃ ys, Ev (fun k => laws_markIntSS.l0 k xs a (i : Int)) (a + (((xs.drop i).map List.length).sum : Nat), ys) := by
  induction d with
  | zero =>
    intro i xs a h hn hx h0 h1
    refine ⟨xs, ev_succ ?_⟩
    simp only [laws_markIntSS.l0, if_neg (show ¬ ((i : Int) < (xs.length : Int)) by omega)]
    exact ev_some (by rw [List.drop_of_length_le (by omega)]; simp)
  | succ d ih =>
    intro i xs a h hn hx h0 h1
    have hlt : i < xs.length := by omega
    have hxi := hx _ (List.getElem_mem hlt)
    have hd : ((xs.drop i).map List.length).sum = (xs[i]).length + ((xs.drop (i + 1)).map List.length).sum := by
      rw [List.drop_eq_getElem_cons hlt, List.map_cons, List.sum_cons]
    rw [hd] at h1 ⊢
    have hs := setGetD (r := marks (fun x => x) a (xs[i]).length) hlt
    obtain ⟨ys, hy⟩ := ih (i + 1) (xs.set i (marks (fun x => x) a (xs[i]).length)) (a + ((xs[i]).length : Int)) (by rw [List.length_set]; omega) (by rw [List.length_set]; exact hn) (by
      intro x hm
      rcases List.mem_or_eq_of_mem_set hm with hm | rfl
      · exact hx x hm
      · rw [marks_length]; exact hxi) (by omega) (by rw [hs]; omega)
    rw [hs] at hy
    refine ⟨ys, ev_succ ?_⟩
    simp only [laws_markIntSS.l0, if_pos (show ((i : Int) < (xs.length : Int)) by omega), if_pos (show (0 : Int) ≤ (i : Int) by omega), rdIntSS hlt, w64s i (by omega), Int.toNat_natCast]
    refine (markIntS_ev (xs[i]) a h0 (by omega) hxi).bind ?_
    simp only
    rw [show a + (((xs[i]).length + ((xs.drop (i + 1)).map List.length).sum : Nat) : Int) = a + ((xs[i]).length : Int) + (((xs.drop (i + 1)).map List.length).sum : Nat) by omega]
    exact hy
theorem markIntSS_ev (xs : List (List Int)) (a : Int) (hn : xs.length ≤ 140737488355328) (hx : ∀ x ∈ xs, x.length ≤ 140737488355328) (h0 : 0 ≤ a) (h1 : a + ((xs.map List.length).sum : Nat) ≤ 4611686018427387904) :
    ∃ ys, Ev (fun k => laws_markIntSS.f k xs a) (a + ((xs.map List.length).sum : Nat), ys) := by
  simpa [laws_markIntSS.f] using markIntSS_l xs.length 0 xs a (by omega) hn hx h0 (by simpa using h1)
/-- A row fits its record. -/
def rowB (n : Nat) (r : List Int) : Bool := decide ((r.length : Int) = (n : Int)) && (inB (r.length : Int) 1 8 && allB r (-30000) 30000)
def recordB (rows : List (List Int)) : Bool := rows.all (rowB (rows.getD 0 []).length) && decide ((rows.length : Int) ≤ 200)
theorem recordB_in {rows : List (List Int)} (h : recordB rows = true) : rows.length ≤ 200 ∧ ∀ r ∈ rows, r.length = (rows.getD 0 []).length ∧ (1 ≤ r.length ∧ r.length ≤ 8) ∧ ∀ x ∈ r, -30000 ≤ x ∧ x ≤ 30000 := by
  simp only [recordB, Bool.and_eq_true, List.all_eq_true, decide_eq_true_eq, rowB, inB_iff, allB_iff] at h
  refine ⟨by omega, fun r hr => ?_⟩
  obtain ⟨h1, h2, h3⟩ := h.1 r hr
  exact ⟨by omega, by omega, h3⟩
theorem impl_RecordOk_l (rows : List (List Int)) (hn : rows.length ≤ 140737488355328) (hx : ∀ x ∈ rows, x.length ≤ 140737488355328) (d : Nat) : ∀ i : Nat, i + d = rows.length →
    Ev (fun k => impl_RecordOk.l0 k rows rows (rows.length : Int) (i : Int)) ((rows.drop i).all (rowB (rows.getD 0 []).length) && decide ((rows.length : Int) ≤ 200)) := by
  induction d with
  | zero =>
    intro i h
    refine ev_succ ?_
    simp only [impl_RecordOk.l0, if_neg (show ¬ ((i : Int) < (rows.length : Int)) by omega)]
    exact ev_some (by rw [List.drop_of_length_le (by omega)]; simp)
  | succ d ih =>
    intro i h
    refine ev_succ ?_
    have hlt : i < rows.length := by omega
    have hxi := hx _ (List.getElem_mem hlt)
    have e0 : rd_L1 rows 0 = rows.getD 0 [] := rfl
    rw [List.drop_eq_getElem_cons hlt, List.all_cons]
    simp only [impl_RecordOk.l0, if_pos (show ((i : Int) < (rows.length : Int)) by omega), if_pos (show (0 : Int) ≤ (i : Int) by omega), if_pos (show (0 : Int) < (rows.length : Int) by omega), rdIntSS hlt, e0, impl_in_eq, Option.bind_some, w64s i (by omega)]
    have hi := ih (i + 1) (by omega)
    generalize rows[i] = r at *
    generalize (rows.getD 0 []).length = n0 at *
    rw [show rowB n0 r = (decide ((r.length : Int) = (n0 : Int)) && (inB (r.length : Int) 1 8 && allB r (-30000) 30000)) from rfl]
    by_cases c1 : (r.length : Int) = (n0 : Int)
    · simp only [if_pos c1, decide_eq_true c1, Bool.true_and]
      cases c2 : inB (r.length : Int) 1 8 with
      | false => simpa using ev_now false
      | true =>
        simp only [if_true, Bool.true_and]
        refine (impl_allIn_ev (-30000) 30000 r (by omega)).bind ?_
        cases c3 : allB r (-30000) 30000 with
        | false => simpa using ev_now false
        | true => simpa only [if_true, Bool.true_and] using hi
    · simp only [if_neg c1, decide_eq_false c1, Bool.false_and]
      exact ev_now _
theorem impl_RecordOk_ev (rows : List (List Int)) (hn : rows.length ≤ 140737488355328) (hx : ∀ x ∈ rows, x.length ≤ 140737488355328) : Ev (fun k => impl_RecordOk.f k rows) (recordB rows) := by
  simpa [impl_RecordOk.f, recordB] using impl_RecordOk_l rows hn hx rows.length 0 (by omega)
theorem spec_RecordOk_l (rows : List (List Int)) (hn : rows.length ≤ 140737488355328) (hx : ∀ x ∈ rows, x.length ≤ 140737488355328) (d : Nat) : ∀ i : Nat, i + d = rows.length →
    Ev (fun k => spec_RecordOk.l0 k rows (i : Int)) ((rows.drop i).all (rowB (rows.getD 0 []).length) && decide ((rows.length : Int) ≤ 200)) := by
  induction d with
  | zero =>
    intro i h
    refine ev_succ ?_
    simp only [spec_RecordOk.l0, if_neg (show ¬ ((i : Int) < (rows.length : Int)) by omega)]
    exact ev_some (by rw [List.drop_of_length_le (by omega)]; simp)
  | succ d ih =>
    intro i h
    refine ev_succ ?_
    have hlt : i < rows.length := by omega
    have hxi := hx _ (List.getElem_mem hlt)
    have e0 : rd_L1 rows 0 = rows.getD 0 [] := rfl
    rw [List.drop_eq_getElem_cons hlt, List.all_cons]
    simp only [spec_RecordOk.l0, if_pos (show ((i : Int) < (rows.length : Int)) by omega), if_pos (show (0 : Int) ≤ (i : Int) by omega), if_pos (show (0 : Int) < (rows.length : Int) by omega), rdIntSS hlt, e0, spec_in_eq, Option.bind_some, w64s i (by omega)]
    have hi := ih (i + 1) (by omega)
    generalize rows[i] = r at *
    generalize (rows.getD 0 []).length = n0 at *
    rw [show rowB n0 r = (decide ((r.length : Int) = (n0 : Int)) && (inB (r.length : Int) 1 8 && allB r (-30000) 30000)) from rfl]
    by_cases c1 : (r.length : Int) = (n0 : Int)
    · simp only [if_pos c1, decide_eq_true c1, Bool.true_and]
      cases c2 : inB (r.length : Int) 1 8 with
      | false => simpa using ev_now false
      | true =>
        simp only [if_true, Bool.true_and]
        refine (spec_l1All_ev (-30000) 30000 r (by omega)).bind ?_
        cases c3 : allB r (-30000) 30000 with
        | false => simpa using ev_now false
        | true => simpa only [if_true, Bool.true_and] using hi
    · simp only [if_neg c1, decide_eq_false c1, Bool.false_and]
      exact ev_now _
theorem spec_RecordOk_ev (rows : List (List Int)) (hn : rows.length ≤ 140737488355328) (hx : ∀ x ∈ rows, x.length ≤ 140737488355328) : Ev (fun k => spec_RecordOk.f k rows) (recordB rows) := by
  simpa [spec_RecordOk.f, recordB] using spec_RecordOk_l rows hn hx rows.length 0 (by omega)
theorem rdIntSS0 {xs : List (List Int)} : rd_L1 xs 0 = xs.getD 0 [] := rfl
/-! A record packed into bytes. -/
def chg (d : Int) : List Int := if inB d (-100) 100 = true then [wrap64 (d + 100) % 256] else [255, wrap64 (d + 60000) / 65536 % 256, wrap64 (d + 60000) / 256 % 256, wrap64 (d + 60000) % 256]
theorem chg_len (d : Int) : (chg d).length ≤ 4 := by unfold chg; split <;> simp
def rowP (prev row : List Int) : Nat → Nat → List Int
  | 0, _ => []
  | d + 1, j => chg (rd row (j : Int) - rd prev (j : Int)) ++ rowP prev row d (j + 1)
theorem rowP_len (prev row : List Int) (d : Nat) : ∀ j, (rowP prev row d j).length ≤ 4 * d := by
  induction d with
  | zero => intro j; simp [rowP]
  | succ d ih =>
    intro j
    have h1 := ih (j + 1)
    have h2 := chg_len (rd row (j : Int) - rd prev (j : Int))
    unfold rowP
    rw [List.length_append]
    omega
def packP (rows : List (List Int)) (w : Nat) : Nat → Nat → List Int → List Int
  | 0, _, _ => []
  | d + 1, i, prev => rowP prev (rows.getD i []) w 0 ++ packP rows w d (i + 1) (rows.getD i [])
theorem packP_len (rows : List (List Int)) (w : Nat) (d : Nat) : ∀ i prev, (packP rows w d i prev).length ≤ 4 * w * d := by
  induction d with
  | zero => intro i p; simp [packP]
  | succ d ih =>
    intro i p
    have h1 := ih (i + 1) (rows.getD i [])
    have h2 := rowP_len p (rows.getD i []) w 0
    unfold packP
    rw [List.length_append, Nat.mul_succ]
    omega
def packBytes (rows : List (List Int)) : List Int := [((rows.getD 0 []).length : Int) % 256, (rows.length : Int) % 256] ++ packP rows (rows.getD 0 []).length rows.length 0 (List.replicate (rows.getD 0 []).length 0)
def pack20 (rows : List (List Int)) : List Int × Bool := if recordB rows = true then (if ((packBytes rows).length : Int) > 1500 then ([], false) else (packBytes rows, true)) else ([], false)
theorem pack20_len (rows : List (List Int)) : (pack20 rows).1.length ≤ 1500 := by
  unfold pack20
  split
  · split
    · simp
    · simp only; omega
  · simp
theorem rd_zeros (w : Nat) (j : Int) : rd (List.replicate w (0 : Int)) j = 0 := by
  simp only [rd, List.getD_eq_getElem?_getD, List.getElem?_replicate]
  split <;> rfl
theorem getD_rows {rows : List (List Int)} {i : Nat} (h : i < rows.length) : rows.getD i [] = rows[i] := by
  rw [List.getD_eq_getElem?_getD, List.getElem?_eq_getElem h, Option.getD_some]
def prevOf (rows : List (List Int)) (w : Nat) (i : Nat) : List Int := if i = 0 then List.replicate w 0 else rows.getD (i - 1) []
theorem rd_small {rows : List (List Int)} (h : recordB rows = true) {i : Nat} (hi : i < rows.length) {j : Nat} (hj : j < (rows[i]).length) : -30000 ≤ rd (rows[i]) (j : Int) ∧ rd (rows[i]) (j : Int) ≤ 30000 := ((recordB_in h).2 _ (List.getElem_mem hi)).2.2 _ (rd_mem (by omega) (by omega))
theorem spec_Pack20_row (rows : List (List Int)) (hb : recordB rows = true) (w : Nat) (hw : ∀ i (h : i < rows.length), (rows[i]).length = w) (i : Nat) (hi : i < rows.length) (V : List Int × Bool) (d : Nat) : ∀ (j : Nat) (acc : List Int), j + d = w → acc.length + 4 * d ≤ 100000 →
    Ev (fun k => spec_Pack20.l0 k rows (w : Int) (acc ++ rowP (prevOf rows w i) (rows.getD i []) d j) ((i + 1 : Nat) : Int)) V → Ev (fun k => spec_Pack20.l1 k rows (w : Int) acc (i : Int) (j : Int)) V := by
  have hl := (recordB_in hb).1
  have hwi := hw i hi
  have hwl : w ≤ 8 := by have := ((recordB_in hb).2 _ (List.getElem_mem hi)).2.1; omega
  induction d with
  | zero =>
    intro j acc h ha hv
    refine ev_succ ?_
    simp only [spec_Pack20.l1, if_neg (show ¬ ((j : Int) < (w : Int)) by omega), w64s i (by omega)]
    simpa only [rowP, List.append_nil] using hv
  | succ d ih =>
    intro j acc h ha hv
    have hj : j < (rows[i]).length := by omega
    have hs := rd_small hb hi hj
    rw [rowP, ← List.append_assoc, getD_rows hi] at hv
    have hc := chg_len (rd (rows[i]) (j : Int) - rd (prevOf rows w i) (j : Int))
    have hgo := ih (j + 1) (acc ++ chg (rd (rows[i]) (j : Int) - rd (prevOf rows w i) (j : Int))) (by omega) (by rw [List.length_append]; omega) (by rw [getD_rows hi]; exact hv)
    refine ev_succ ?_
    simp only [spec_Pack20.l1, if_pos (show ((j : Int) < (w : Int)) by omega), if_pos (show (0 : Int) ≤ (i : Int) by omega), if_pos (show (i : Int) < (rows.length : Int) by omega), if_pos (show (0 : Int) ≤ (j : Int) by omega), rdIntSS hi, if_pos (show (j : Int) < ((rows[i]).length : Int) by omega), spec_in_eq, Option.bind_some, w64s j (by omega)]
    by_cases h0 : (i : Int) > 0
    · obtain ⟨q, rfl⟩ : ∃ q, i = q + 1 := ⟨i - 1, by omega⟩
      have hq : q < rows.length := by omega
      have hqj : j < (rows[q]).length := by have := hw q hq; omega
      have hsq := rd_small hb hq hqj
      have hp : prevOf rows w (q + 1) = rows[q] := by simp only [prevOf, if_neg (show ¬ q + 1 = 0 by omega), Nat.add_sub_cancel, getD_rows hq]
      rw [hp] at hgo
      have e : wrap64 (((q + 1 : Nat) : Int) - 1) = (q : Int) := by rw [w64 (by omega) (by omega)]; omega
      simp only [if_pos h0, e, if_pos (show (0 : Int) ≤ (q : Int) by omega), if_pos (show (q : Int) < (rows.length : Int) by omega), rdIntSS hq, if_pos (show (j : Int) < ((rows[q]).length : Int) by omega), w64 (n := rd (rows[q + 1]) (j : Int) - rd (rows[q]) (j : Int)) (by omega) (by omega)]
      unfold chg at hgo
      cases hx : inB (rd (rows[q + 1]) (j : Int) - rd (rows[q]) (j : Int)) (-100) 100 with
      | true =>
        rw [hx, if_pos rfl] at hgo
        simp only [if_true, if_pos (show acc.length < 140737488355328 by omega)]
        exact hgo
      | false =>
        rw [hx, if_neg (by decide)] at hgo
        simp only [Bool.false_eq_true, if_false, List.length_cons, List.length_nil, if_pos (show acc.length + (0 + 1 + 1 + 1 + 1) < 140737488355328 by omega)]
        exact hgo
    · obtain rfl : i = 0 := by omega
      have hp : rd (prevOf rows w 0) (j : Int) = 0 := by simp only [prevOf, if_true, rd_zeros]
      rw [hp, Int.sub_zero] at hgo
      simp only [if_neg h0]
      unfold chg at hgo
      cases hx : inB (rd (rows[0]) (j : Int)) (-100) 100 with
      | true =>
        rw [hx, if_pos rfl] at hgo
        simp only [if_true, if_pos (show acc.length < 140737488355328 by omega)]
        exact hgo
      | false =>
        rw [hx, if_neg (by decide)] at hgo
        simp only [Bool.false_eq_true, if_false, List.length_cons, List.length_nil, if_pos (show acc.length + (0 + 1 + 1 + 1 + 1) < 140737488355328 by omega)]
        exact hgo
def packEnd (bs : List Int) : List Int × Bool := if (bs.length : Int) > 1500 then ([], false) else (bs, true)
theorem spec_Pack20_l (rows : List (List Int)) (hb : recordB rows = true) (w : Nat) (hw : ∀ i (h : i < rows.length), (rows[i]).length = w) (hw8 : w ≤ 8) (d : Nat) : ∀ (i : Nat) (acc : List Int), i + d = rows.length → acc.length + 32 * d ≤ 50000 →
    Ev (fun k => spec_Pack20.l0 k rows (w : Int) acc (i : Int)) (packEnd (acc ++ packP rows w d i (prevOf rows w i))) := by
  have hl := (recordB_in hb).1
  induction d with
  | zero =>
    intro i acc h ha
    refine ev_succ ?_
    simp only [spec_Pack20.l0, if_neg (show ¬ ((i : Int) < (rows.length : Int)) by omega), packP, List.append_nil, packEnd]
    split <;> exact ev_now _
  | succ d ih =>
    intro i acc h ha
    have hi : i < rows.length := by omega
    have hr := rowP_len (prevOf rows w i) (rows.getD i []) w 0
    have hgo := ih (i + 1) (acc ++ rowP (prevOf rows w i) (rows.getD i []) w 0) (by omega) (by rw [List.length_append]; omega)
    have hp : prevOf rows w (i + 1) = rows.getD i [] := by simp only [prevOf, if_neg (show ¬ i + 1 = 0 by omega), Nat.add_sub_cancel]
    rw [hp, List.append_assoc] at hgo
    refine ev_succ ?_
    simp only [spec_Pack20.l0, if_pos (show ((i : Int) < (rows.length : Int)) by omega)]
    exact spec_Pack20_row rows hb w hw i hi _ w 0 acc (by omega) (by omega) hgo
theorem rows_width {rows : List (List Int)} (hb : recordB rows = true) : ∀ i (h : i < rows.length), (rows[i]).length = (rows.getD 0 []).length := fun i h => ((recordB_in hb).2 _ (List.getElem_mem h)).1
theorem rows_width8 {rows : List (List Int)} (hb : recordB rows = true) : (rows.getD 0 []).length ≤ 8 := by
  by_cases h : 0 < rows.length
  · rw [getD_rows h]
    exact ((recordB_in hb).2 _ (List.getElem_mem h)).2.1.2
  · rw [List.getD_eq_getElem?_getD, List.getElem?_eq_none (by omega)]
    simp
theorem spec_Pack20_ev (rows : List (List Int)) (hn : rows.length ≤ 140737488355328) (hx : ∀ x ∈ rows, x.length ≤ 140737488355328) : Ev (fun k => spec_Pack20.f k rows) (pack20 rows) := by
  simp only [spec_Pack20.f]
  refine (spec_RecordOk_ev rows hn hx).bind ?_
  unfold pack20
  cases hb : recordB rows with
  | false => simpa using ev_now _
  | true =>
    simp only [if_true]
    have hl := (recordB_in hb).1
    have hj : Ev (fun k => spec_Pack20.j0 k rows ((rows.getD 0 []).length : Int)) (packEnd (packBytes rows)) := by
      refine ev_succ ?_
      simp only [spec_Pack20.j0]
      have := spec_Pack20_l rows hb _ (rows_width hb) (rows_width8 hb) rows.length 0 [((rows.getD 0 []).length : Int) % 256, (rows.length : Int) % 256] (by omega) (by simp; omega)
      exact this
    by_cases h0 : 0 < rows.length
    · simp only [if_pos (show (rows.length : Int) > 0 by omega), if_pos (show (0 : Int) < (rows.length : Int) by omega), rdIntSS0]
      exact hj
    · simp only [if_neg (show ¬ (rows.length : Int) > 0 by omega)]
      have e : (rows.getD 0 []).length = 0 := by rw [List.getD_eq_getElem?_getD, List.getElem?_eq_none (by omega)]; simp
      rw [e] at hj
      exact hj
theorem impl_Pack20_row (rows : List (List Int)) (hb : recordB rows = true) (w : Nat) (i : Nat) (hi : i < rows.length) (prev : List Int) (hw : (rows[i]).length = w) (hpl : prev.length = w) (hps : ∀ x ∈ prev, -30000 ≤ x ∧ x ≤ 30000) (V : List Int × Bool) (d : Nat) : ∀ (j : Nat) (acc : List Int), j + d = w → acc.length + 4 * d ≤ 100000 →
    Ev (fun k => impl_Pack20.l0 k (acc ++ rowP prev (rows[i]) d j) (rows[i]) rows (rows.length : Int) ((i + 1 : Nat) : Int)) V → Ev (fun k => impl_Pack20.l1 k acc ((rows[i]).take j ++ prev.drop j) rows (rows.length : Int) (i : Int) (rows[i]) (w : Int) (j : Int)) V := by
  have hl := (recordB_in hb).1
  have hwl : w ≤ 8 := by have := ((recordB_in hb).2 _ (List.getElem_mem hi)).2.1; omega
  induction d with
  | zero =>
    intro j acc h ha hv
    refine ev_succ ?_
    simp only [impl_Pack20.l1, if_neg (show ¬ ((j : Int) < (w : Int)) by omega), w64s i (by omega)]
    rw [List.take_of_length_le (by omega), List.drop_of_length_le (by omega), List.append_nil]
    simpa only [rowP, List.append_nil] using hv
  | succ d ih =>
    intro j acc h ha hv
    have hj : j < (rows[i]).length := by omega
    have hjp : j < prev.length := by omega
    have hs := rd_small hb hi hj
    have hs' := hps _ (rd_mem (i := (j : Int)) (by omega) (by omega))
    rw [rowP, ← List.append_assoc] at hv
    have hc := chg_len (rd (rows[i]) (j : Int) - rd prev (j : Int))
    have hgo := ih (j + 1) (acc ++ chg (rd (rows[i]) (j : Int) - rd prev (j : Int))) (by omega) (by rw [List.length_append]; omega) hv
    have hlen : ((rows[i]).take j ++ prev.drop j).length = w := by rw [List.length_append, List.length_take, List.length_drop]; omega
    have htl : ((rows[i]).take j).length = j := by rw [List.length_take]; omega
    have hrd : rd ((rows[i]).take j ++ prev.drop j) (j : Int) = rd prev (j : Int) := by
      rw [rd_nat (by omega), rd_nat hjp, List.getElem_append_right (by omega), List.getElem_drop]
      simp only [htl, Nat.sub_self, Nat.add_zero]
    have hset : ((rows[i]).take j ++ prev.drop j).set j (rd (rows[i]) (j : Int)) = (rows[i]).take (j + 1) ++ prev.drop (j + 1) := by
      rw [List.set_append, if_neg (by omega), htl, Nat.sub_self, drop_rd hjp, List.set_cons_zero, rd_nat hj, List.take_succ_eq_append_getElem hj, List.append_assoc]
      rfl
    refine ev_succ ?_
    simp only [impl_Pack20.l1, if_pos (show ((j : Int) < (w : Int)) by omega), if_pos (show (0 : Int) ≤ (j : Int) by omega), if_pos (show (j : Int) < ((rows[i]).length : Int) by omega), hlen, impl_in_eq, Option.bind_some, hrd, Int.toNat_natCast, hset, w64s j (by omega), w64 (n := rd (rows[i]) (j : Int) - rd prev (j : Int)) (by omega) (by omega)]
    unfold chg at hgo
    cases hx : inB (rd (rows[i]) (j : Int) - rd prev (j : Int)) (-100) 100 with
    | true =>
      rw [hx, if_pos rfl] at hgo
      simp only [if_true, if_pos (show acc.length < 140737488355328 by omega)]
      exact hgo
    | false =>
      rw [hx, if_neg (by decide)] at hgo
      simp only [Bool.false_eq_true, if_false, List.length_cons, List.length_nil, if_pos (show acc.length + (0 + 1 + 1 + 1 + 1) < 140737488355328 by omega)]
      exact hgo
theorem impl_Pack20_l (rows : List (List Int)) (hb : recordB rows = true) (w : Nat) (hw : ∀ i (h : i < rows.length), (rows[i]).length = w) (hw8 : w ≤ 8) (d : Nat) : ∀ (i : Nat) (acc prev : List Int), i + d = rows.length → acc.length + 32 * d ≤ 50000 → prev.length = w → (∀ x ∈ prev, -30000 ≤ x ∧ x ≤ 30000) →
    Ev (fun k => impl_Pack20.l0 k acc prev rows (rows.length : Int) (i : Int)) (packEnd (acc ++ packP rows w d i prev)) := by
  have hl := (recordB_in hb).1
  induction d with
  | zero =>
    intro i acc prev h ha _ _
    refine ev_succ ?_
    simp only [impl_Pack20.l0, if_neg (show ¬ ((i : Int) < (rows.length : Int)) by omega), packP, List.append_nil, packEnd]
    split <;> exact ev_now _
  | succ d ih =>
    intro i acc prev h ha hpl hps
    have hi : i < rows.length := by omega
    have hwi := hw i hi
    have hr := rowP_len prev (rows[i]) w 0
    have hgo := ih (i + 1) (acc ++ rowP prev (rows[i]) w 0) (rows[i]) (by omega) (by rw [List.length_append]; omega) hwi ((recordB_in hb).2 _ (List.getElem_mem hi)).2.2
    rw [List.append_assoc] at hgo
    refine ev_succ ?_
    simp only [impl_Pack20.l0, if_pos (show ((i : Int) < (rows.length : Int)) by omega), if_pos (show (0 : Int) ≤ (i : Int) by omega), rdIntSS hi, hwi]
    have := impl_Pack20_row rows hb w i hi prev hwi hpl hps _ w 0 acc (by omega) (by omega) hgo
    rw [List.take_zero, List.nil_append, List.drop_zero] at this
    unfold packP
    rw [getD_rows hi]
    exact this
theorem impl_Pack20_ev (rows : List (List Int)) (hn : rows.length ≤ 140737488355328) (hx : ∀ x ∈ rows, x.length ≤ 140737488355328) : Ev (fun k => impl_Pack20.f k rows) (pack20 rows) := by
  simp only [impl_Pack20.f]
  refine (impl_RecordOk_ev rows hn hx).bind ?_
  unfold pack20
  cases hb : recordB rows with
  | false => simpa using ev_now _
  | true =>
    simp only [if_true]
    have hl := (recordB_in hb).1
    have hw8 := rows_width8 hb
    by_cases h0 : 0 < rows.length
    · have hg := getD_rows h0
      rw [rdIntSS0]
      simp only [if_neg (show ¬ (rows.length : Int) = 0 by omega), if_pos (show (0 : Int) < (rows.length : Int) by omega)]
      simp only [if_pos (show (0 : Int) ≤ ((rows.getD 0 []).length : Int) from Int.natCast_nonneg _), Int.toNat_natCast, if_pos (show (rows.getD 0 []).length ≤ 35184372088832 by omega)]
      exact impl_Pack20_l rows hb _ (rows_width hb) hw8 rows.length 0 [((rows.getD 0 []).length : Int) % 256, (rows.length : Int) % 256] (List.replicate (rows.getD 0 []).length 0) (by omega) (by simp; omega) (by simp) (by
        intro x hx
        rw [List.eq_of_mem_replicate hx]
        omega)
    · obtain rfl : rows = [] := List.length_eq_zero_iff.1 (by omega)
      exact ev_now _
theorem FnExactPack20 (l0 : List (List (Int))) (g0 : (l0.length * 24 ≤ 140737488351232 ∧ ∀ x ∈ l0, (x.length * 8 ≤ 140737488351232 ∧ ∀ yx ∈ x, (Lit.int .i64 yx).wf = true))) : ∃ k, laws_FnExactPack20.f k l0 = some true := by
  have hn : l0.length ≤ 11728124029610 := by omega
  have hx : ∀ x ∈ l0, x.length ≤ 17592186044416 := fun x hx => by have := (g0.2 x hx).1; omega
  have hx' : ∀ x ∈ l0, x.length ≤ 140737488355328 := fun x h => by have := hx x h; omega
  refine Ev.rounds ?_
  simp only [laws_FnExactPack20.f]
  obtain ⟨v, hv, hr⟩ := szIntSS_ev l0 1048576 (by omega) (by omega) (by omega) hx'
  refine hv.bind ?_
  by_cases hs : v < 0
  · simp only [if_pos hs]
    exact ev_now _
  · simp only [if_neg hs]
    have hr := hr.resolve_left hs
    have hsp := spec_Pack20_ev l0 (by omega) hx'
    have him := impl_Pack20_ev l0 (by omega) hx'
    have hl := pack20_len l0
    generalize pack20 l0 = g at hsp him hl
    obtain ⟨xs, b⟩ := g
    simp only at hl
    obtain ⟨ys, hm⟩ := markIntSS_ev l0 1 (by omega) hx' (by omega) (by omega)
    refine (toIntSS_ev l0 hn hx).bind ?_
    refine hsp.bind ?_
    refine (toIntSS_ev l0 hn hx).bind ?_
    refine him.bind ?_
    simp only
    refine (eqByteS_self xs (by omega)).bind ?_
    simp only [if_true]
    refine ev_succ ?_
    simp only [laws_FnExactPack20.j0, bne_self_eq_false, Bool.false_eq_true, if_false]
    refine (toIntSS_ev l0 hn hx).bind ?_
    refine (eqIntSS_self l0 (by omega) hx').bind ?_
    simp only [if_true]
    refine hm.bind ?_
    simp only [if_neg (show ¬ ((1 : Int) + ((l0.map List.length).sum : Nat) < 0) by omega)]
    refine (eqByteS_self xs (by omega)).bind ?_
    simp only [if_true]
    refine ev_succ ?_
    simp only [laws_FnExactPack20.j1, bne_self_eq_false, Bool.false_eq_true, if_false]
    refine (markByteS_ev xs 1 (by omega) (by omega) (by omega)).bind ?_
    refine (heldByteS_ev xs.length 1 (by omega) (by omega) (by omega)).bind ?_
    simp only [if_neg (show ¬ ((1 : Int) + (xs.length : Int) < 0) by omega), if_true]
    refine (toIntSS_ev l0 hn hx).bind ?_
    refine him.bind ?_
    simp only
    refine (eqByteS_self xs (by omega)).bind ?_
    simp only [if_true]
    refine ev_succ ?_
    simp only [laws_FnExactPack20.j2, bne_self_eq_false, Bool.false_eq_true, if_false]
    refine (heldByteS_ev xs.length 1 (by omega) (by omega) (by omega)).bind ?_
    simp only [if_neg (show ¬ ((1 : Int) + (xs.length : Int) < 0) by omega), if_true]
    exact ev_now _
end Go.Proofs.Ytaaelkbkmgnciaa.Pure
