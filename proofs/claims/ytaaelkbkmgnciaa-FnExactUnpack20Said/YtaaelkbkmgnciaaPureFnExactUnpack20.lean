/- The program's Unpack20 answers as the reference's at every argument. No condition. -/
import Derived.Test.YtaaelkbkmgnciaaPFnExactUnpack20x5
import Derived.Test.YtaaelkbkmgnciaaBase
set_option linter.unusedVariables false
set_option linter.unusedSimpArgs false
namespace Go.Proofs.Ytaaelkbkmgnciaa.Pure
open Go.RowKit Go.Proofs.Ytaaelkbkmgnciaa.PFnExactUnpack20 Go.Proofs.Ytaaelkbkmgnciaa.Base Go.Proofs.YtaaelkbkmgnciaaW.PrintWords Go.Proofs.YtaaelkbkmgnciaaW.PrintLast
theorem impl_in_eq (a b c : Int) : impl_in.f a b c = some (inB a b c) := in_form a b c
theorem spec_in_eq (a b c : Int) : spec_l1In.f a b c = some (inB a b c) := in_form a b c
theorem toByteS_l (xs : List Int) (hn : xs.length ≤ 140737488355328) (d : Nat) : ∀ i : Nat, i + d = xs.length →
    Ev (fun k => laws_toByteS.l0 k xs (xs.take i ++ List.replicate (xs.length - i) 0) (i : Int)) xs := by
  induction d with
  | zero =>
    intro i h
    refine ev_succ ?_
    simp only [laws_toByteS.l0, if_neg (show ¬ ((i : Int) < (xs.length : Int)) by omega)]
    exact ev_some (by rw [List.take_of_length_le (by omega), show xs.length - i = 0 by omega]; simp)
  | succ d ih =>
    intro i h
    refine ev_succ ?_
    have hl : ((xs.take i ++ List.replicate (xs.length - i) (0 : Int)).length : Int) = (xs.length : Int) := by simp; omega
    simp only [laws_toByteS.l0, if_pos (show ((i : Int) < (xs.length : Int)) by omega), if_pos (show (0 : Int) ≤ (i : Int) by omega), hl, w64s i (by omega), Int.toNat_natCast, take_set (show i < xs.length by omega)]
    exact ih (i + 1) (by omega)
theorem toByteS_ev (xs : List Int) (hn : xs.length ≤ 140737488355328) : Ev (fun k => laws_toByteS.f k xs) xs := by
  simp only [laws_toByteS.f, if_pos (show (0 : Int) ≤ (xs.length : Int) by omega), Int.toNat_natCast, if_pos (show xs.length ≤ 281474976710656 by omega)]
  simpa using toByteS_l xs hn xs.length 0 (by omega)
theorem eqByteS_l (xs ys : List Int) (hn : xs.length ≤ 140737488355328) (hl : ys.length = xs.length) (d : Nat) : ∀ i : Nat, i + d = xs.length →
    Ev (fun k => laws_eqByteS.l0 k xs ys (i : Int)) (decide (xs.drop i = ys.drop i)) := by
  induction d with
  | zero =>
    intro i h
    refine ev_succ ?_
    simp only [laws_eqByteS.l0, if_neg (show ¬ ((i : Int) < (xs.length : Int)) by omega)]
    exact ev_some (by rw [List.drop_of_length_le (by omega), List.drop_of_length_le (by omega)]; rfl)
  | succ d ih =>
    intro i h
    refine ev_succ ?_
    simp only [laws_eqByteS.l0, if_pos (show ((i : Int) < (xs.length : Int)) by omega), if_pos (show (0 : Int) ≤ (i : Int) by omega), hl, w64s i (by omega)]
    rw [drop_rd (show i < xs.length by omega), drop_rd (show i < ys.length by omega)]
    by_cases e : rd xs (i : Int) = rd ys (i : Int)
    · simp only [if_pos e]
      simpa [e] using ih (i + 1) (by omega)
    · simp only [if_neg e]
      exact ev_some (by simp [e])
theorem eqByteS_ev (xs ys : List Int) (hn : xs.length ≤ 140737488355328) : Ev (fun k => laws_eqByteS.f k xs ys) (decide (xs = ys)) := by
  unfold laws_eqByteS.f
  by_cases hl : ys.length = xs.length
  · simp only [if_pos (show (xs.length : Int) = (ys.length : Int) by omega)]
    simpa using eqByteS_l xs ys hn hl xs.length 0 (by omega)
  · simp only [if_neg (show ¬ (xs.length : Int) = (ys.length : Int) by omega)]
    exact ev_some (by
      have : ¬ xs = ys := fun e => hl (by rw [e])
      simp [this])
theorem eqByteS_self (xs : List Int) (hn : xs.length ≤ 140737488355328) : Ev (fun k => laws_eqByteS.f k xs xs) true := by simpa using eqByteS_ev xs xs hn
theorem markByteS_l (xs : List Int) (k0 : Int) (h0 : 0 ≤ k0) (h1 : k0 ≤ 4611686018427387904) (hn : xs.length ≤ 140737488355328) (d : Nat) : ∀ i : Nat, i + d = xs.length →
    Ev (fun k => laws_markByteS.l0 k (marks (fun x => x % 256) k0 i ++ xs.drop i) (k0 + (i : Int)) (i : Int)) (k0 + (xs.length : Int), marks (fun x => x % 256) k0 xs.length) := by
  induction d with
  | zero =>
    intro i h
    refine ev_succ ?_
    have hl : ((marks (fun x => x % 256) k0 i ++ xs.drop i).length : Int) = (xs.length : Int) := by simp [marks_length]; omega
    simp only [laws_markByteS.l0, hl, if_neg (show ¬ ((i : Int) < (xs.length : Int)) by omega)]
    obtain rfl : i = xs.length := by omega
    exact ev_some (by rw [List.drop_length, List.append_nil])
  | succ d ih =>
    intro i h
    refine ev_succ ?_
    have hl : ((marks (fun x => x % 256) k0 i ++ xs.drop i).length : Int) = (xs.length : Int) := by simp [marks_length]; omega
    have hs := marks_set (g := fun x => x % 256) (k0 := k0) (show i < xs.length by omega)
    simp only [laws_markByteS.l0, hl, if_pos (show ((i : Int) < (xs.length : Int)) by omega), if_pos (show (0 : Int) ≤ (i : Int) by omega), Int.toNat_natCast, hs, w64s i (by omega), w64 (show -9223372036854775808 ≤ k0 + (i : Int) + 1 by omega) (show k0 + (i : Int) + 1 ≤ 9223372036854775807 by omega)]
    have := ih (i + 1) (by omega)
    rw [show k0 + ((i + 1 : Nat) : Int) = k0 + (i : Int) + 1 by omega] at this
    exact this
theorem markByteS_ev (xs : List Int) (k0 : Int) (h0 : 0 ≤ k0) (h1 : k0 ≤ 4611686018427387904) (hn : xs.length ≤ 140737488355328) : Ev (fun k => laws_markByteS.f k xs k0) (k0 + (xs.length : Int), marks (fun x => x % 256) k0 xs.length) := by
  have := markByteS_l xs k0 h0 h1 hn xs.length 0 (by omega)
  simpa [laws_markByteS.f, marks_nil] using this
theorem eqIntS_l (xs ys : List Int) (hn : xs.length ≤ 140737488355328) (hl : ys.length = xs.length) (d : Nat) : ∀ i : Nat, i + d = xs.length →
    Ev (fun k => laws_eqIntS.l0 k xs ys (i : Int)) (decide (xs.drop i = ys.drop i)) := by
  induction d with
  | zero =>
    intro i h
    refine ev_succ ?_
    simp only [laws_eqIntS.l0, if_neg (show ¬ ((i : Int) < (xs.length : Int)) by omega)]
    exact ev_some (by rw [List.drop_of_length_le (by omega), List.drop_of_length_le (by omega)]; rfl)
  | succ d ih =>
    intro i h
    refine ev_succ ?_
    simp only [laws_eqIntS.l0, if_pos (show ((i : Int) < (xs.length : Int)) by omega), if_pos (show (0 : Int) ≤ (i : Int) by omega), hl, w64s i (by omega)]
    rw [drop_rd (show i < xs.length by omega), drop_rd (show i < ys.length by omega)]
    by_cases e : rd xs (i : Int) = rd ys (i : Int)
    · simp only [if_pos e]
      simpa [e] using ih (i + 1) (by omega)
    · simp only [if_neg e]
      exact ev_some (by simp [e])
theorem eqIntS_ev (xs ys : List Int) (hn : xs.length ≤ 140737488355328) : Ev (fun k => laws_eqIntS.f k xs ys) (decide (xs = ys)) := by
  unfold laws_eqIntS.f
  by_cases hl : ys.length = xs.length
  · simp only [if_pos (show (xs.length : Int) = (ys.length : Int) by omega)]
    simpa using eqIntS_l xs ys hn hl xs.length 0 (by omega)
  · simp only [if_neg (show ¬ (xs.length : Int) = (ys.length : Int) by omega)]
    exact ev_some (by
      have : ¬ xs = ys := fun e => hl (by rw [e])
      simp [this])
theorem eqIntS_self (xs : List Int) (hn : xs.length ≤ 140737488355328) : Ev (fun k => laws_eqIntS.f k xs xs) true := by simpa using eqIntS_ev xs xs hn
theorem markIntS_l (xs : List Int) (k0 : Int) (h0 : 0 ≤ k0) (h1 : k0 ≤ 4611686018427387904) (hn : xs.length ≤ 140737488355328) (d : Nat) : ∀ i : Nat, i + d = xs.length →
    Ev (fun k => laws_markIntS.l0 k (marks (fun x => x) k0 i ++ xs.drop i) (k0 + (i : Int)) (i : Int)) (k0 + (xs.length : Int), marks (fun x => x) k0 xs.length) := by
  induction d with
  | zero =>
    intro i h
    refine ev_succ ?_
    have hl : ((marks (fun x => x) k0 i ++ xs.drop i).length : Int) = (xs.length : Int) := by simp [marks_length]; omega
    simp only [laws_markIntS.l0, hl, if_neg (show ¬ ((i : Int) < (xs.length : Int)) by omega)]
    obtain rfl : i = xs.length := by omega
    exact ev_some (by rw [List.drop_length, List.append_nil])
  | succ d ih =>
    intro i h
    refine ev_succ ?_
    have hl : ((marks (fun x => x) k0 i ++ xs.drop i).length : Int) = (xs.length : Int) := by simp [marks_length]; omega
    have hs := marks_set (g := fun x => x) (k0 := k0) (show i < xs.length by omega)
    simp only [laws_markIntS.l0, hl, if_pos (show ((i : Int) < (xs.length : Int)) by omega), if_pos (show (0 : Int) ≤ (i : Int) by omega), Int.toNat_natCast, hs, w64s i (by omega), w64 (show -9223372036854775808 ≤ k0 + (i : Int) + 1 by omega) (show k0 + (i : Int) + 1 ≤ 9223372036854775807 by omega)]
    have := ih (i + 1) (by omega)
    rw [show k0 + ((i + 1 : Nat) : Int) = k0 + (i : Int) + 1 by omega] at this
    exact this
theorem markIntS_ev (xs : List Int) (k0 : Int) (h0 : 0 ≤ k0) (h1 : k0 ≤ 4611686018427387904) (hn : xs.length ≤ 140737488355328) : Ev (fun k => laws_markIntS.f k xs k0) (k0 + (xs.length : Int), marks (fun x => x) k0 xs.length) := by
  have := markIntS_l xs k0 h0 h1 hn xs.length 0 (by omega)
  simpa [laws_markIntS.f, marks_nil] using this
theorem heldIntS_l (n : Nat) (k0 : Int) (h0 : 0 ≤ k0) (h1 : k0 ≤ 4611686018427387904) (hn : n ≤ 140737488355328) (d : Nat) : ∀ i : Nat, i + d = n →
    Ev (fun k => laws_heldIntS.l0 k (marks (fun x => x) k0 n) (k0 + (i : Int)) (i : Int)) (k0 + (n : Int)) := by
  induction d with
  | zero =>
    intro i h
    refine ev_succ ?_
    simp only [laws_heldIntS.l0, marks_length, if_neg (show ¬ ((i : Int) < (n : Int)) by omega)]
    exact ev_some (by omega)
  | succ d ih =>
    intro i h
    refine ev_succ ?_
    simp only [laws_heldIntS.l0, marks_length, if_pos (show ((i : Int) < (n : Int)) by omega), if_pos (show (0 : Int) ≤ (i : Int) by omega), marks_rd (show i < n by omega), if_true, w64s i (by omega), w64 (show -9223372036854775808 ≤ k0 + (i : Int) + 1 by omega) (show k0 + (i : Int) + 1 ≤ 9223372036854775807 by omega)]
    have := ih (i + 1) (by omega)
    rw [show k0 + ((i + 1 : Nat) : Int) = k0 + (i : Int) + 1 by omega] at this
    exact this
theorem heldIntS_ev (n : Nat) (k0 : Int) (h0 : 0 ≤ k0) (h1 : k0 ≤ 4611686018427387904) (hn : n ≤ 140737488355328) : Ev (fun k => laws_heldIntS.f k (marks (fun x => x) k0 n) k0) (k0 + (n : Int)) := by
  have := heldIntS_l n k0 h0 h1 hn n 0 (by omega)
  simpa [laws_heldIntS.f] using this
/-! The helpers over slices of slices: IntSS. -/
theorem rdIntSS {xs : List (List Int)} {i : Nat} (h : i < xs.length) : rd_L1 xs (i : Int) = xs[i] := by
  simp [rd_L1, List.getD_eq_getElem?_getD, h]
theorem eqIntSS_l (xs : List (List Int)) (hn : xs.length ≤ 140737488355328) (hx : ∀ x ∈ xs, x.length ≤ 140737488355328) (d : Nat) : ∀ i : Nat, i + d = xs.length →
    Ev (fun k => laws_eqIntSS.l0 k xs xs (i : Int)) true := by
  induction d with
  | zero =>
    intro i h
    refine ev_succ ?_
    simp only [laws_eqIntSS.l0, if_neg (show ¬ ((i : Int) < (xs.length : Int)) by omega)]
    exact ev_now _
  | succ d ih =>
    intro i h
    refine ev_succ ?_
    have hlt : i < xs.length := by omega
    simp only [laws_eqIntSS.l0, if_pos (show ((i : Int) < (xs.length : Int)) by omega), if_pos (show (0 : Int) ≤ (i : Int) by omega), w64s i (by omega), rdIntSS hlt]
    refine (eqIntS_self _ (hx _ (List.getElem_mem hlt))).bind ?_
    simp only [if_true]
    exact ih (i + 1) (by omega)
theorem eqIntSS_self (xs : List (List Int)) (hn : xs.length ≤ 140737488355328) (hx : ∀ x ∈ xs, x.length ≤ 140737488355328) : Ev (fun k => laws_eqIntSS.f k xs xs) true := by
  simp only [laws_eqIntSS.f, if_true]
  simpa using eqIntSS_l xs hn hx xs.length 0 (by omega)
theorem setGetD {xs : List (List Int)} {i : Nat} {r : List Int} (h : i < xs.length) : (xs.set i r).drop (i + 1) = xs.drop (i + 1) := by
  rw [List.drop_set_of_lt (by omega)]
theorem markIntSS_l (d : Nat) : ∀ (i : Nat) (xs : List (List Int)) (a : Int), i + d = xs.length → xs.length ≤ 140737488355328 → (∀ x ∈ xs, x.length ≤ 140737488355328) → 0 ≤ a → a + (((xs.drop i).map List.length).sum : Nat) ≤ 4611686018427387904 →
    ∃ ys, Ev (fun k => laws_markIntSS.l0 k xs a (i : Int)) (a + (((xs.drop i).map List.length).sum : Nat), ys) := by
  induction d with
  | zero =>
    intro i xs a h hn hx h0 h1
    refine ⟨xs, ev_succ ?_⟩
    simp only [laws_markIntSS.l0, if_neg (show ¬ ((i : Int) < (xs.length : Int)) by omega)]
    exact ev_some (by rw [List.drop_of_length_le (by omega)]; simp)
  | succ d ih =>
    intro i xs a h hn hx h0 h1
    have hlt : i < xs.length := by omega
    have hxi := hx _ (List.getElem_mem hlt)
    have hd : ((xs.drop i).map List.length).sum = (xs[i]).length + ((xs.drop (i + 1)).map List.length).sum := by
      rw [List.drop_eq_getElem_cons hlt, List.map_cons, List.sum_cons]
    rw [hd] at h1 ⊢
    have hs := setGetD (r := marks (fun x => x) a (xs[i]).length) hlt
    obtain ⟨ys, hy⟩ := ih (i + 1) (xs.set i (marks (fun x => x) a (xs[i]).length)) (a + ((xs[i]).length : Int)) (by rw [List.length_set]; omega) (by rw [List.length_set]; exact hn) (by
      intro x hm
      rcases List.mem_or_eq_of_mem_set hm with hm | rfl
      · exact hx x hm
      · rw [marks_length]; exact hxi) (by omega) (by rw [hs]; omega)
    rw [hs] at hy
    refine ⟨ys, ev_succ ?_⟩
    simp only [laws_markIntSS.l0, if_pos (show ((i : Int) < (xs.length : Int)) by omega), if_pos (show (0 : Int) ≤ (i : Int) by omega), rdIntSS hlt, w64s i (by omega), Int.toNat_natCast]
    refine (markIntS_ev (xs[i]) a h0 (by omega) hxi).bind ?_
    simp only
    rw [show a + (((xs[i]).length + ((xs.drop (i + 1)).map List.length).sum : Nat) : Int) = a + ((xs[i]).length : Int) + (((xs.drop (i + 1)).map List.length).sum : Nat) by omega]
    exact hy
theorem markIntSS_ev (xs : List (List Int)) (a : Int) (hn : xs.length ≤ 140737488355328) (hx : ∀ x ∈ xs, x.length ≤ 140737488355328) (h0 : 0 ≤ a) (h1 : a + ((xs.map List.length).sum : Nat) ≤ 4611686018427387904) :
    ∃ ys, Ev (fun k => laws_markIntSS.f k xs a) (a + ((xs.map List.length).sum : Nat), ys) := by
  simpa [laws_markIntSS.f] using markIntSS_l xs.length 0 xs a (by omega) hn hx h0 (by simpa using h1)
theorem mark_held_l (d : Nat) : ∀ (i : Nat) (xs : List (List Int)) (a : Int), i + d = xs.length → xs.length ≤ 140737488355328 → (∀ x ∈ xs, x.length ≤ 140737488355328) → 0 ≤ a → a + (((xs.drop i).map List.length).sum : Nat) ≤ 4611686018427387904 →
    ∃ ys, Ev (fun k => laws_markIntSS.l0 k xs a (i : Int)) (a + (((xs.drop i).map List.length).sum : Nat), ys) ∧ Ev (fun k => laws_heldIntSS.l0 k ys a (i : Int)) (a + (((xs.drop i).map List.length).sum : Nat)) ∧ ys.length = xs.length ∧ ∀ q, q < i → ys.getD q [] = xs.getD q [] := by
  induction d with
  | zero =>
    intro i xs a h hn hx h0 h1
    refine ⟨xs, ev_succ ?_, ev_succ ?_, rfl, fun _ _ => rfl⟩
    · simp only [laws_markIntSS.l0, if_neg (show ¬ ((i : Int) < (xs.length : Int)) by omega)]
      exact ev_some (by rw [List.drop_of_length_le (by omega)]; simp)
    · simp only [laws_heldIntSS.l0, if_neg (show ¬ ((i : Int) < (xs.length : Int)) by omega)]
      exact ev_some (by rw [List.drop_of_length_le (by omega)]; simp)
  | succ d ih =>
    intro i xs a h hn hx h0 h1
    have hlt : i < xs.length := by omega
    have hxi := hx _ (List.getElem_mem hlt)
    have hd : ((xs.drop i).map List.length).sum = (xs[i]).length + ((xs.drop (i + 1)).map List.length).sum := by
      rw [List.drop_eq_getElem_cons hlt, List.map_cons, List.sum_cons]
    rw [hd] at h1 ⊢
    have hs := setGetD (r := marks (fun x => x) a (xs[i]).length) hlt
    obtain ⟨ys, hy, hh, hl, hq⟩ := ih (i + 1) (xs.set i (marks (fun x => x) a (xs[i]).length)) (a + ((xs[i]).length : Int)) (by rw [List.length_set]; omega) (by rw [List.length_set]; exact hn) (by
      intro x hm
      rcases List.mem_or_eq_of_mem_set hm with hm | rfl
      · exact hx x hm
      · rw [marks_length]; exact hxi) (by omega) (by rw [hs]; omega)
    rw [hs] at hy hh
    rw [List.length_set] at hl
    have e : a + (((xs[i]).length + ((xs.drop (i + 1)).map List.length).sum : Nat) : Int) = a + ((xs[i]).length : Int) + (((xs.drop (i + 1)).map List.length).sum : Nat) := by omega
    have hlt' : i < ys.length := by omega
    have hyi : ys[i] = marks (fun x => x) a (xs[i]).length := by
      have := hq i (by omega)
      rw [List.getD_eq_getElem?_getD, List.getElem?_eq_getElem hlt', Option.getD_some, List.getD_eq_getElem?_getD, List.getElem?_set_self hlt, Option.getD_some] at this
      exact this
    refine ⟨ys, ev_succ ?_, ev_succ ?_, hl, fun q hqi => ?_⟩
    · simp only [laws_markIntSS.l0, if_pos (show ((i : Int) < (xs.length : Int)) by omega), if_pos (show (0 : Int) ≤ (i : Int) by omega), rdIntSS hlt, w64s i (by omega), Int.toNat_natCast]
      refine (markIntS_ev (xs[i]) a h0 (by omega) hxi).bind ?_
      simp only
      rw [e]
      exact hy
    · simp only [laws_heldIntSS.l0, if_pos (show ((i : Int) < (ys.length : Int)) by omega), if_pos (show (0 : Int) ≤ (i : Int) by omega), rdIntSS hlt', hyi, w64s i (by omega)]
      refine (heldIntS_ev (xs[i]).length a h0 (by omega) hxi).bind ?_
      simp only [if_neg (show ¬ (a + ((xs[i]).length : Int) < 0) by omega)]
      rw [e]
      exact hh
    · rw [hq q (by omega), List.getD_eq_getElem?_getD, List.getElem?_set_ne (by omega), ← List.getD_eq_getElem?_getD]
theorem mark_held_ev (xs : List (List Int)) (a : Int) (hn : xs.length ≤ 140737488355328) (hx : ∀ x ∈ xs, x.length ≤ 140737488355328) (h0 : 0 ≤ a) (h1 : a + ((xs.map List.length).sum : Nat) ≤ 4611686018427387904) :
    ∃ ys, Ev (fun k => laws_markIntSS.f k xs a) (a + ((xs.map List.length).sum : Nat), ys) ∧ Ev (fun k => laws_heldIntSS.f k ys a) (a + ((xs.map List.length).sum : Nat)) := by
  obtain ⟨ys, h1, h2, _⟩ := mark_held_l xs.length 0 xs a (by omega) hn hx h0 (by simpa using h1)
  exact ⟨ys, by simpa [laws_markIntSS.f] using h1, by simpa [laws_heldIntSS.f] using h2⟩
theorem rd_zeros (w : Nat) (j : Int) : rd (List.replicate w (0 : Int)) j = 0 := by
  simp only [rd, List.getD_eq_getElem?_getD, List.getElem?_replicate]
  split <;> rfl
/-! A record out of bytes. -/
def val3 (xs : List Int) (a : Int) : Int := rd xs (a + 1) * 65536 + rd xs (a + 2) * 256 + rd xs (a + 3) - 60000
def readc (xs : List Int) (a : Int) : Int × Int × Int :=
  if a ≥ (xs.length : Int) then (0, 0, 1) else if rd xs a ≤ 200 then (rd xs a - 100, 1, 0) else if rd xs a = 255 then (if a + 4 > (xs.length : Int) then (0, 0, 1) else if inB (val3 xs a) (-100) 100 = true then (0, 0, 2) else if val3 xs a > 60000 then (0, 0, 2) else (val3 xs a, 4, 0)) else (0, 0, 2)
theorem byte_at {xs : List Int} (hb : ∀ x ∈ xs, 0 ≤ x ∧ x ≤ 255) {i : Int} (h0 : 0 ≤ i) (h1 : i < (xs.length : Int)) : 0 ≤ rd xs i ∧ rd xs i ≤ 255 := hb _ (rd_mem h0 h1)
theorem val3_in {xs : List Int} (hb : ∀ x ∈ xs, 0 ≤ x ∧ x ≤ 255) {a : Int} (h0 : 0 ≤ a) (h1 : ¬ a + 4 > (xs.length : Int)) : -60000 ≤ val3 xs a ∧ val3 xs a ≤ 16717215 := by
  have b1 := byte_at hb (i := a + 1) (by omega) (by omega)
  have b2 := byte_at hb (i := a + 2) (by omega) (by omega)
  have b3 := byte_at hb (i := a + 3) (by omega) (by omega)
  unfold val3
  omega
theorem val3_wrap {xs : List Int} (hb : ∀ x ∈ xs, 0 ≤ x ∧ x ≤ 255) {a : Int} (h0 : 0 ≤ a) (hl : xs.length ≤ 1048576) (h1 : ¬ a + 4 > (xs.length : Int)) : wrap64 (wrap64 (wrap64 (wrap64 (wrap64 (rd xs (a + 1)) * 65536) + wrap64 (wrap64 (rd xs (a + 2)) * 256)) + wrap64 (rd xs (a + 3))) - 60000) = val3 xs a := by
  have b1 := byte_at hb (i := a + 1) (by omega) (by omega)
  have b2 := byte_at hb (i := a + 2) (by omega) (by omega)
  have b3 := byte_at hb (i := a + 3) (by omega) (by omega)
  rw [w64 (n := rd xs (a + 1)) (by omega) (by omega), w64 (n := rd xs (a + 2)) (by omega) (by omega), w64 (n := rd xs (a + 3)) (by omega) (by omega), w64 (n := rd xs (a + 1) * 65536) (by omega) (by omega), w64 (n := rd xs (a + 2) * 256) (by omega) (by omega), w64 (n := rd xs (a + 1) * 65536 + rd xs (a + 2) * 256) (by omega) (by omega), w64 (n := rd xs (a + 1) * 65536 + rd xs (a + 2) * 256 + rd xs (a + 3)) (by omega) (by omega), w64 (by omega) (by omega)]
  rfl
theorem impl_change_eq (xs : List Int) (hb : ∀ x ∈ xs, 0 ≤ x ∧ x ≤ 255) (hl : xs.length ≤ 1048576) (a : Int) (h0 : 0 ≤ a) (ha : a ≤ 2000000) : impl_change.f xs a = some (readc xs a) := by
  have e4 : wrap64 (a + 4) = a + 4 := w64 (by omega) (by omega)
  have e1 : wrap64 (a + 1) = a + 1 := w64 (by omega) (by omega)
  have e2 : wrap64 (a + 2) = a + 2 := w64 (by omega) (by omega)
  have e3 : wrap64 (a + 3) = a + 3 := w64 (by omega) (by omega)
  simp only [impl_change.f, readc, impl_in_eq, Option.bind_some, e1, e2, e3, e4]
  by_cases h1 : a ≥ (xs.length : Int)
  · simp only [if_pos h1]
  · have b0 := byte_at hb h0 (by omega)
    have e0 : wrap64 (rd xs a) = rd xs a := w64 (by omega) (by omega)
    simp only [if_neg h1, if_pos h0, if_pos (show a < (xs.length : Int) by omega), e0, w64 (n := rd xs a - 100) (by omega) (by omega)]
    by_cases h2 : rd xs a ≤ 200
    · simp only [if_pos h2]
    · simp only [if_neg h2]
      by_cases h3 : rd xs a = 255
      · simp only [if_pos h3]
        by_cases h4 : a + 4 > (xs.length : Int)
        · simp only [if_pos h4]
        · simp only [if_neg h4, if_pos (show 0 ≤ a + 1 by omega), if_pos (show 0 ≤ a + 2 by omega), if_pos (show 0 ≤ a + 3 by omega), if_pos (show a + 1 < (xs.length : Int) by omega), if_pos (show a + 2 < (xs.length : Int) by omega), if_pos (show a + 3 < (xs.length : Int) by omega), val3_wrap hb h0 hl h4]
          cases inB (val3 xs a) (-100) 100 with
          | true => simp only [if_true]
          | false =>
            simp only [Bool.false_eq_true, if_false]
            by_cases h5 : val3 xs a > 60000
            · simp only [if_pos h5]
            · simp only [if_neg h5]
      · simp only [if_neg h3]
theorem readc_in {xs : List Int} (hb : ∀ x ∈ xs, 0 ≤ x ∧ x ≤ 255) {a : Int} (h0 : 0 ≤ a) : ((readc xs a).2.2 = 0 → a < (xs.length : Int) ∧ (-60000 ≤ (readc xs a).1 ∧ (readc xs a).1 ≤ 60000) ∧ (1 ≤ (readc xs a).2.1 ∧ (readc xs a).2.1 ≤ 4)) ∧ ((readc xs a).2.2 = 0 ∨ (readc xs a).2.2 = 1 ∨ (readc xs a).2.2 = 2) := by
  by_cases h1 : a ≥ (xs.length : Int)
  · simp [readc, h1]
  · have b0 := byte_at hb h0 (by omega)
    unfold readc
    rw [if_neg h1]
    by_cases h2 : rd xs a ≤ 200
    · rw [if_pos h2]
      exact ⟨fun _ => ⟨by omega, ⟨by simp only; omega, by simp only; omega⟩, by simp only; omega⟩, .inl rfl⟩
    · rw [if_neg h2]
      by_cases h3 : rd xs a = 255
      · rw [if_pos h3]
        by_cases h4 : a + 4 > (xs.length : Int)
        · rw [if_pos h4]; exact ⟨fun h => by simp at h, by simp⟩
        · rw [if_neg h4]
          have := val3_in hb h0 h4
          cases inB (val3 xs a) (-100) 100 with
          | true => simp only [if_true]; exact ⟨fun h => by simp at h, by simp⟩
          | false =>
            simp only [Bool.false_eq_true, if_false]
            by_cases h5 : val3 xs a > 60000
            · rw [if_pos h5]; exact ⟨fun h => by simp at h, by simp⟩
            · rw [if_neg h5]
              exact ⟨fun _ => ⟨by omega, ⟨by simp only; omega, by simp only; omega⟩, by simp only; omega⟩, .inl rfl⟩
      · rw [if_neg h3]; exact ⟨fun h => by simp at h, by simp⟩
abbrev Rec20 := List (List Int) × Int × Int
def rowU (xs prev : List Int) : Nat → Nat → Int → List Int → (List Int × Int) ⊕ (Int × Int)
  | 0, _, a, acc => .inl (acc, a)
  | d + 1, j, a, acc => if (readc xs a).2.2 = 1 then .inr (1, (xs.length : Int)) else if (readc xs a).2.2 = 0 then (if inB ((readc xs a).1 + rd prev (j : Int)) (-30000) 30000 = true then rowU xs prev d (j + 1) (a + (readc xs a).2.1) (acc ++ [(readc xs a).1 + rd prev (j : Int)]) else .inr (3, a)) else .inr (2, a)
def recU (xs : List Int) (w : Nat) : Nat → Int → List Int → List (List Int) → Rec20
  | 0, a, _, out => if a < (xs.length : Int) then ([], 4, a) else (out, 0, 0)
  | d + 1, a, prev, out => match rowU xs prev w 0 a [] with
    | .inl (row, a') => recU xs w d a' row (out ++ [row])
    | .inr (c, p) => ([], c, p)
def unpack20 (xs : List Int) : Rec20 :=
  if (xs.length : Int) < 1 then ([], 1, 0) else if rd xs 0 > 8 then ([], 2, 0) else if (xs.length : Int) < 2 then ([], 1, 1) else if rd xs 1 > 200 then ([], 2, 1) else if ((rd xs 0 == 0) != (rd xs 1 == 0)) = true then ([], 2, 1) else recU xs (rd xs 0).toNat (rd xs 1).toNat 2 (List.replicate (rd xs 0).toNat 0) []
theorem impl_Unpack20_row (xs : List Int) (hb : ∀ x ∈ xs, 0 ≤ x ∧ x ≤ 255) (hl : xs.length ≤ 1048576) (prev : List Int) (w : Nat) (hw : w ≤ 8) (hpl : prev.length = w) (hps : ∀ x ∈ prev, -30000 ≤ x ∧ x ≤ 30000) (out : List (List Int)) (ho : out.length ≤ 300) (n i : Int) (V : Rec20) (d : Nat) : ∀ (j : Nat) (a : Int) (acc : List Int), j + d = w → acc.length = j → 0 ≤ a → a ≤ (xs.length : Int) + 4 →
    (∀ row a', rowU xs prev d j a acc = .inl (row, a') → Ev (fun k => impl_Unpack20.l0 k xs (out ++ [row]) a' row n ((i + 1) % 256)) V) → (∀ c p, rowU xs prev d j a acc = .inr (c, p) → V = ([], c, p)) →
    Ev (fun k => impl_Unpack20.l1 k xs out a (acc ++ prev.drop j) n i (w : Int) (j : Int)) V := by
  induction d with
  | zero =>
    intro j a acc h hj h0 h1 hgo hno
    refine ev_succ ?_
    have hd : acc ++ prev.drop j = acc := by rw [List.drop_of_length_le (by omega), List.append_nil]
    rw [hd]
    simp only [impl_Unpack20.l1, if_neg (show ¬ ((j : Int) < (w : Int)) by omega), slices_Clone_int_int.f, Option.bind_some, List.length_nil, Nat.zero_add, List.nil_append, if_pos (show acc.length < 17592186044416 by omega), if_pos (show out.length < 5864062014805 by omega)]
    exact hgo acc a rfl
  | succ d ih =>
    intro j a acc h hj h0 h1 hgo hno
    have hr := readc_in hb h0
    have hjp : j < prev.length := by omega
    have hp := hps _ (rd_mem (i := (j : Int)) (by omega) (by omega))
    have hlen : (acc ++ prev.drop j).length = w := by rw [List.length_append, List.length_drop]; omega
    have hrd : rd (acc ++ prev.drop j) (j : Int) = rd prev (j : Int) := by
      rw [rd_nat (by omega), rd_nat hjp, List.getElem_append_right (by omega), List.getElem_drop]
      simp only [hj, Nat.sub_self, Nat.add_zero]
    have hset : ∀ x : Int, (acc ++ prev.drop j).set j x = (acc ++ [x]) ++ prev.drop (j + 1) := by
      intro x
      rw [List.set_append, if_neg (by omega), hj, Nat.sub_self, drop_rd hjp, List.set_cons_zero, List.append_assoc]
      rfl
    have hrd2 : ∀ x : Int, rd ((acc ++ [x]) ++ prev.drop (j + 1)) (j : Int) = x := by
      intro x
      rw [rd_append_left (by simp; omega) (by omega)]
      have := rd_append_at (xs := acc) (y := x)
      rwa [hj] at this
    unfold rowU at hgo hno
    refine ev_succ ?_
    simp only [impl_Unpack20.l1, if_pos (show ((j : Int) < (w : Int)) by omega), impl_change_eq xs hb hl a h0 (by omega), Option.bind_some]
    by_cases c1 : (readc xs a).2.2 = 1
    · simp only [if_pos c1] at hno ⊢
      rw [hno _ _ rfl, c1]
      exact ev_now _
    · simp only [if_neg c1] at hgo hno ⊢
      by_cases c0 : (readc xs a).2.2 = 0
      · obtain ⟨ha, hx, hm⟩ := hr.1 c0
        simp only [if_pos c0] at hgo hno ⊢
        simp only [if_pos (show (0 : Int) ≤ (j : Int) by omega), hlen, if_pos (show ((j : Int) < (w : Int)) by omega), hrd, Int.toNat_natCast, hset, hrd2, impl_in_eq, Option.bind_some, w64 (n := (readc xs a).1 + rd prev (j : Int)) (by omega) (by omega), w64 (n := a + (readc xs a).2.1) (by omega) (by omega), w64s j (by omega), Int.add_comm (rd prev (j : Int))]
        cases hx3 : inB ((readc xs a).1 + rd prev (j : Int)) (-30000) 30000 with
        | true =>
          rw [hx3] at hgo hno
          simp only [if_true] at hgo hno ⊢
          exact ih (j + 1) _ _ (by omega) (by simp; omega) (by omega) (by omega) hgo hno
        | false =>
          rw [hx3] at hno
          simp only [Bool.false_eq_true, if_false] at hno ⊢
          rw [hno _ _ rfl]
          exact ev_now _
      · have c2 : (readc xs a).2.2 = 2 := by omega
        simp only [if_neg c0] at hno ⊢
        rw [hno _ _ rfl, c2]
        exact ev_now _
theorem rowU_in (xs : List Int) (hb : ∀ x ∈ xs, 0 ≤ x ∧ x ≤ 255) (prev : List Int) (d : Nat) : ∀ (j : Nat) (a : Int) (acc : List Int), 0 ≤ a → (∀ x ∈ acc, -30000 ≤ x ∧ x ≤ 30000) → a ≤ (xs.length : Int) + 4 → ∀ row a', rowU xs prev d j a acc = .inl (row, a') → row.length = acc.length + d ∧ (∀ x ∈ row, -30000 ≤ x ∧ x ≤ 30000) ∧ a ≤ a' ∧ a' ≤ (xs.length : Int) + 4 := by
  induction d with
  | zero =>
    intro j a acc h0 hs ha row a' h
    simp only [rowU, Sum.inl.injEq, Prod.mk.injEq] at h
    obtain ⟨rfl, rfl⟩ := h
    exact ⟨by omega, hs, by omega, ha⟩
  | succ d ih =>
    intro j a acc h0 hs ha row a' h
    have hr := readc_in hb h0
    unfold rowU at h
    by_cases c1 : (readc xs a).2.2 = 1
    · rw [if_pos c1] at h; cases h
    · rw [if_neg c1] at h
      by_cases c0 : (readc xs a).2.2 = 0
      · rw [if_pos c0] at h
        obtain ⟨h1, h2, h3⟩ := hr.1 c0
        cases hx : inB ((readc xs a).1 + rd prev (j : Int)) (-30000) 30000 with
        | false => rw [hx] at h; simp at h
        | true =>
          rw [hx, if_pos rfl] at h
          rw [inB_iff] at hx
          obtain ⟨k1, k2, k3, k4⟩ := ih (j + 1) _ _ (by omega) (by
            intro x hm
            rcases List.mem_append.1 hm with hm | hm
            · exact hs x hm
            · rw [List.mem_singleton.1 hm]; exact hx) (by omega) row a' h
          rw [List.length_append, List.length_singleton] at k1
          exact ⟨by omega, k2, by omega, k4⟩
      · rw [if_neg c0] at h; cases h
theorem impl_Unpack20_l (xs : List Int) (hb : ∀ x ∈ xs, 0 ≤ x ∧ x ≤ 255) (hl : xs.length ≤ 1048576) (w : Nat) (hw : w ≤ 8) (n : Nat) (hn : n ≤ 200) (d : Nat) : ∀ (i : Nat) (a : Int) (prev : List Int) (out : List (List Int)), i + d = n → 0 ≤ a → a ≤ (xs.length : Int) + 4 → prev.length = w → (∀ x ∈ prev, -30000 ≤ x ∧ x ≤ 30000) → out.length = i →
    Ev (fun k => impl_Unpack20.l0 k xs out a prev (n : Int) (i : Int)) (recU xs w d a prev out) := by
  induction d with
  | zero =>
    intro i a prev out h h0 h1 hp hs ho
    refine ev_succ ?_
    simp only [impl_Unpack20.l0, if_neg (show ¬ ((i : Int) < (n : Int)) by omega), recU]
    split <;> exact ev_now _
  | succ d ih =>
    intro i a prev out h h0 h1 hp hs ho
    refine ev_succ ?_
    simp only [impl_Unpack20.l0, if_pos (show ((i : Int) < (n : Int)) by omega), hp]
    have hrow := impl_Unpack20_row xs hb hl prev w hw hp hs out (by omega) (n : Int) (i : Int) (recU xs w (d + 1) a prev out) w 0 a [] (by omega) rfl h0 h1
    rw [List.nil_append, List.drop_zero] at hrow
    refine hrow ?_ ?_
    · intro row a' hr
      obtain ⟨k1, k2, k3, k4⟩ := rowU_in xs hb prev w 0 a [] h0 (by simp) h1 row a' hr
      have e : ((i : Int) + 1) % 256 = ((i + 1 : Nat) : Int) := by omega
      rw [e]
      have := ih (i + 1) a' row (out ++ [row]) (by omega) (by omega) k4 (by simpa using k1) k2 (by simp; omega)
      simpa only [recU, hr] using this
    · intro c p hr
      simp only [recU, hr]
theorem impl_Unpack20_ev (xs : List Int) (hb : ∀ x ∈ xs, 0 ≤ x ∧ x ≤ 255) (hl : xs.length ≤ 1048576) : Ev (fun k => impl_Unpack20.f k xs) (unpack20 xs) := by
  simp only [impl_Unpack20.f, impl_headOk.f, unpack20]
  by_cases h1 : (xs.length : Int) < 1
  · simp only [if_pos h1, Option.bind_some]
    exact ev_now _
  · have b0 := byte_at hb (i := 0) (by omega) (by omega)
    simp only [if_neg h1, if_pos (show (0 : Int) < (xs.length : Int) by omega)]
    by_cases h2 : rd xs 0 > 8
    · simp only [if_pos h2, Option.bind_some]
      exact ev_now _
    · simp only [if_neg h2]
      by_cases h3 : (xs.length : Int) < 2
      · simp only [if_pos h3, Option.bind_some]
        exact ev_now _
      · have b1 := byte_at hb (i := 1) (by omega) (by omega)
        simp only [if_neg h3, if_pos (show (1 : Int) < (xs.length : Int) by omega)]
        by_cases h4 : rd xs 1 > 200
        · simp only [if_pos h4, Option.bind_some]
          exact ev_now _
        · simp only [if_neg h4]
          cases h5 : ((rd xs 0 == 0) != (rd xs 1 == 0)) with
          | true =>
            simp only [if_true, Option.bind_some]
            exact ev_now _
          | false =>
            simp only [Bool.false_eq_true, if_false, Option.bind_some, if_true, w64 (n := rd xs 0) (by omega) (by omega), if_pos b0.1, if_pos (show (rd xs 0).toNat ≤ 35184372088832 by omega)]
            have e1 : (((rd xs 1).toNat : Nat) : Int) = rd xs 1 := by omega
            have := impl_Unpack20_l xs hb hl (rd xs 0).toNat (by omega) (rd xs 1).toNat (by omega) (rd xs 1).toNat 0 2 (List.replicate (rd xs 0).toNat 0) [] (by omega) (by omega) (by omega) (by simp) (by
              intro x hx
              rw [List.eq_of_mem_replicate hx]
              omega) rfl
            rw [e1] at this
            exact this
def prevU (out : List (List Int)) (w i : Nat) : List Int := if i = 0 then List.replicate w 0 else out.getD (i - 1) []
theorem spec_Unpack20_row (xs : List Int) (hb : ∀ x ∈ xs, 0 ≤ x ∧ x ≤ 255) (hl : xs.length ≤ 1048576) (w : Nat) (hw : w ≤ 8) (out : List (List Int)) (i : Nat) (ho : out.length = i) (hi : i ≤ 300) (hpl : (prevU out w i).length = w) (hps : ∀ x ∈ prevU out w i, -30000 ≤ x ∧ x ≤ 30000) (n : Int) (V : Rec20) (d : Nat) : ∀ (j : Nat) (a : Int) (acc : List Int), j + d = w → acc.length = j → 0 ≤ a → a ≤ (xs.length : Int) + 4 →
    (∀ row a', rowU xs (prevU out w i) d j a acc = .inl (row, a') → Ev (fun k => spec_Unpack20.l0 k xs [] (xs.length : Int) (w : Int) n (out ++ [row]) a' ((i + 1 : Nat) : Int)) V) → (∀ c p, rowU xs (prevU out w i) d j a acc = .inr (c, p) → V = ([], c, p)) →
    Ev (fun k => spec_Unpack20.l1 k xs [] (xs.length : Int) (w : Int) n out a (i : Int) acc (j : Int)) V := by
  induction d with
  | zero =>
    intro j a acc h hj h0 h1 hgo hno
    refine ev_succ ?_
    simp only [spec_Unpack20.l1, if_neg (show ¬ ((j : Int) < (w : Int)) by omega), if_pos (show out.length < 5864062014805 by omega), w64s i (by omega)]
    exact hgo acc a rfl
  | succ d ih =>
    intro j a acc h hj h0 h1 hgo hno
    have hr := readc_in hb h0
    have hjp : j < (prevU out w i).length := by omega
    have hp := hps _ (rd_mem (i := (j : Int)) (by omega) (by omega))
    unfold rowU at hgo hno
    have hj3 : (readc xs a).2.2 = 0 → Ev (fun k => spec_Unpack20.j3 k xs [] (xs.length : Int) (w : Int) n out a (i : Int) acc (j : Int) (readc xs a).1 (readc xs a).2.1) V := by
      intro c0
      obtain ⟨ha, hx, hm⟩ := hr.1 c0
      rw [if_neg (by omega), if_pos c0] at hgo hno
      have hgo' := ih (j + 1) (a + (readc xs a).2.1) (acc ++ [(readc xs a).1 + rd (prevU out w i) (j : Int)]) (by omega) (by simp; omega) (by omega) (by omega)
      refine ev_succ ?_
      by_cases hi0 : (i : Int) > 0
      · have e : wrap64 ((i : Int) - 1) = ((i - 1 : Nat) : Int) := by rw [w64 (by omega) (by omega)]; omega
        have hq : i - 1 < out.length := by omega
        have hpr : prevU out w i = out[i - 1] := by
          simp only [prevU, if_neg (show ¬ i = 0 by omega)]
          rw [List.getD_eq_getElem?_getD, List.getElem?_eq_getElem hq, Option.getD_some]
        rw [hpr] at hgo hno hgo' hp hpl
        simp only [spec_Unpack20.j3, if_pos hi0, e, if_pos (show (0 : Int) ≤ ((i - 1 : Nat) : Int) by omega), if_pos (show ((i - 1 : Nat) : Int) < (out.length : Int) by omega), if_pos (show (0 : Int) ≤ (j : Int) by omega), rdIntSS hq, if_pos (show (j : Int) < ((out[i - 1]).length : Int) by omega), spec_in_eq, Option.bind_some, w64 (n := (readc xs a).1 + rd (out[i - 1]) (j : Int)) (by omega) (by omega), w64 (n := a + (readc xs a).2.1) (by omega) (by omega), w64s j (by omega), if_pos (show acc.length < 17592186044416 by omega)]
        cases hx3 : inB ((readc xs a).1 + rd (out[i - 1]) (j : Int)) (-30000) 30000 with
        | true =>
          rw [hx3, if_pos rfl] at hgo hno
          simp only [if_true]
          exact hgo' hgo hno
        | false =>
          rw [hx3, if_neg (by decide)] at hno
          simp only [Bool.false_eq_true, if_false]
          rw [hno _ _ rfl]
          exact ev_now _
      · have hi' : i = 0 := by omega
        have hz : rd (prevU out w i) (j : Int) = 0 := by simp only [prevU, if_pos hi', rd_zeros]
        rw [hz, Int.add_zero] at hgo hno hgo'
        simp only [spec_Unpack20.j3, if_neg hi0, spec_in_eq, Option.bind_some, w64 (n := a + (readc xs a).2.1) (by omega) (by omega), w64s j (by omega), if_pos (show acc.length < 17592186044416 by omega)]
        cases hx3 : inB (readc xs a).1 (-30000) 30000 with
        | true =>
          rw [hx3, if_pos rfl] at hgo hno
          simp only [if_true]
          exact hgo' hgo hno
        | false =>
          rw [hx3, if_neg (by decide)] at hno
          simp only [Bool.false_eq_true, if_false]
          rw [hno _ _ rfl]
          exact ev_now _
    have h1' : (readc xs a).2.2 = 1 → V = ([], 1, (xs.length : Int)) := fun c => by rw [if_pos c] at hno; exact hno _ _ rfl
    have h2' : (readc xs a).2.2 = 2 → V = ([], 2, a) := fun c => by rw [if_neg (by omega), if_neg (by omega)] at hno; exact hno _ _ rfl
    clear hgo hno ih hr
    have e4 : wrap64 (a + 4) = a + 4 := w64 (by omega) (by omega)
    have e1 : wrap64 (a + 1) = a + 1 := w64 (by omega) (by omega)
    have e2 : wrap64 (a + 2) = a + 2 := w64 (by omega) (by omega)
    have e3 : wrap64 (a + 3) = a + 3 := w64 (by omega) (by omega)
    refine ev_succ ?_
    simp only [spec_Unpack20.l1, if_pos (show ((j : Int) < (w : Int)) by omega), spec_in_eq, Option.bind_some, e1, e2, e3, e4]
    unfold readc at hj3 h1' h2'
    by_cases g1 : a ≥ (xs.length : Int)
    · rw [if_pos g1] at h1'
      simp only [if_pos g1]
      rw [h1' rfl]
      exact ev_now _
    · have b0 := byte_at hb h0 (by omega)
      have e0 : wrap64 (rd xs a) = rd xs a := w64 (by omega) (by omega)
      simp only [if_neg g1] at hj3 h1' h2'
      simp only [if_neg g1, if_pos h0, if_pos (show a < (xs.length : Int) by omega), e0]
      by_cases g3 : rd xs a = 255
      · have g2 : ¬ rd xs a ≤ 200 := by omega
        simp only [if_neg g2, if_pos g3] at hj3 h1' h2'
        simp only [if_pos g3]
        by_cases g4 : a + 4 > (xs.length : Int)
        · simp only [if_pos g4] at h1'
          simp only [if_pos g4]
          rw [h1' trivial]
          exact ev_now _
        · have hv := val3_in hb h0 g4
          simp only [if_neg g4] at hj3 h1' h2'
          simp only [if_neg g4, if_pos (show 0 ≤ a + 1 by omega), if_pos (show 0 ≤ a + 2 by omega), if_pos (show 0 ≤ a + 3 by omega), if_pos (show a + 1 < (xs.length : Int) by omega), if_pos (show a + 2 < (xs.length : Int) by omega), if_pos (show a + 3 < (xs.length : Int) by omega), val3_wrap hb h0 hl g4]
          cases g5 : inB (val3 xs a) (-100) 100 with
          | true =>
            simp only [g5, if_true] at h2'
            simp only [if_true]
            rw [h2' trivial]
            exact ev_now _
          | false =>
            simp only [g5, Bool.false_eq_true, if_false] at hj3 h1' h2'
            simp only [Bool.false_eq_true, if_false]
            by_cases g6 : val3 xs a > 60000
            · have : inB (val3 xs a) (-60000) 60000 = false := by rw [Bool.eq_false_iff, ne_eq, inB_iff]; omega
              simp only [if_pos g6] at h2'
              simp only [this, Bool.false_eq_true, if_false]
              rw [h2' trivial]
              exact ev_now _
            · have : inB (val3 xs a) (-60000) 60000 = true := by rw [inB_iff]; omega
              simp only [if_neg g6] at hj3
              simp only [this, if_true]
              exact hj3 trivial
      · simp only [if_neg g3] at hj3 h1' h2'
        simp only [if_neg g3]
        by_cases g2 : rd xs a ≤ 200
        · simp only [if_pos g2] at hj3
          simp only [if_neg (show ¬ rd xs a > 200 by omega), w64 (n := rd xs a - 100) (by omega) (by omega)]
          exact hj3 trivial
        · simp only [if_neg g2] at h2'
          simp only [if_pos (show rd xs a > 200 by omega)]
          rw [h2' trivial]
          exact ev_now _
theorem spec_Unpack20_l (xs : List Int) (hb : ∀ x ∈ xs, 0 ≤ x ∧ x ≤ 255) (hl : xs.length ≤ 1048576) (w : Nat) (hw : w ≤ 8) (n : Nat) (hn : n ≤ 200) (d : Nat) : ∀ (i : Nat) (a : Int) (out : List (List Int)), i + d = n → 0 ≤ a → a ≤ (xs.length : Int) + 4 → (prevU out w i).length = w → (∀ x ∈ prevU out w i, -30000 ≤ x ∧ x ≤ 30000) → out.length = i →
    Ev (fun k => spec_Unpack20.l0 k xs [] (xs.length : Int) (w : Int) (n : Int) out a (i : Int)) (recU xs w d a (prevU out w i) out) := by
  induction d with
  | zero =>
    intro i a out h h0 h1 hp hs ho
    refine ev_succ ?_
    simp only [spec_Unpack20.l0, if_neg (show ¬ ((i : Int) < (n : Int)) by omega), recU]
    split <;> exact ev_now _
  | succ d ih =>
    intro i a out h h0 h1 hp hs ho
    refine ev_succ ?_
    simp only [spec_Unpack20.l0, if_pos (show ((i : Int) < (n : Int)) by omega)]
    refine spec_Unpack20_row xs hb hl w hw out i ho (by omega) hp hs (n : Int) (recU xs w (d + 1) a (prevU out w i) out) w 0 a [] (by omega) rfl h0 h1 ?_ ?_
    · intro row a' hr
      obtain ⟨k1, k2, k3, k4⟩ := rowU_in xs hb (prevU out w i) w 0 a [] h0 (by simp) h1 row a' hr
      have e : prevU (out ++ [row]) w (i + 1) = row := by
        simp only [prevU, if_neg (show ¬ i + 1 = 0 by omega), Nat.add_sub_cancel]
        rw [List.getD_eq_getElem?_getD, List.getElem?_append_right (by omega)]
        simp [ho]
      have := ih (i + 1) a' (out ++ [row]) (by omega) (by omega) k4 (by rw [e]; simpa using k1) (by rw [e]; exact k2) (by simp; omega)
      rw [e] at this
      simpa only [recU, hr] using this
    · intro c p hr
      simp only [recU, hr]
theorem spec_Unpack20_ev (xs : List Int) (hb : ∀ x ∈ xs, 0 ≤ x ∧ x ≤ 255) (hl : xs.length ≤ 1048576) : Ev (fun k => spec_Unpack20.f k xs) (unpack20 xs) := by
  simp only [spec_Unpack20.f, unpack20, Option.bind_some]
  by_cases h1 : (xs.length : Int) < 1
  · simp only [if_pos h1]
    exact ev_some (by rw [show (xs.length : Int) = 0 by omega])
  · have b0 := byte_at hb (i := 0) (by omega) (by omega)
    simp only [if_neg h1, if_pos (show (0 : Int) < (xs.length : Int) by omega)]
    by_cases h2 : rd xs 0 > 8
    · simp only [if_pos h2]
      exact ev_now _
    · simp only [if_neg h2]
      by_cases h3 : (xs.length : Int) < 2
      · simp only [if_pos h3]
        exact ev_some (by rw [show (xs.length : Int) = 1 by omega])
      · have b1 := byte_at hb (i := 1) (by omega) (by omega)
        have ht : Ev (fun k => spec_Unpack20.j0 k xs [] (xs.length : Int) (rd xs 0) (rd xs 1) true) ([], 2, 1) := by
          refine ev_succ ?_
          simpa only [spec_Unpack20.j0, if_true] using ev_now _
        simp only [if_neg h3, if_pos (show (1 : Int) < (xs.length : Int) by omega), w64 (n := rd xs 0) (by omega) (by omega), w64 (n := rd xs 1) (by omega) (by omega)]
        by_cases h4 : rd xs 1 > 200
        · simp only [if_pos h4]
          exact ht
        · simp only [if_neg h4]
          cases h5 : ((rd xs 0 == 0) != (rd xs 1 == 0)) with
          | true => simpa only [if_true] using ht
          | false =>
            simp only [Bool.false_eq_true, if_false]
            refine ev_succ ?_
            simp only [spec_Unpack20.j0, Bool.false_eq_true, if_false]
            have e0 : (((rd xs 0).toNat : Nat) : Int) = rd xs 0 := by omega
            have e1 : (((rd xs 1).toNat : Nat) : Int) = rd xs 1 := by omega
            have := spec_Unpack20_l xs hb hl (rd xs 0).toNat (by omega) (rd xs 1).toNat (by omega) (rd xs 1).toNat 0 2 [] (by omega) (by omega) (by omega) (by simp [prevU]) (by
              intro x hx
              simp only [prevU, if_true] at hx
              rw [List.eq_of_mem_replicate hx]
              omega) rfl
            rw [e0, e1] at this
            exact this
theorem recU_len (xs : List Int) (hb : ∀ x ∈ xs, 0 ≤ x ∧ x ≤ 255) (w : Nat) (hw : w ≤ 8) (d : Nat) : ∀ (a : Int) (prev : List Int) (out : List (List Int)), 0 ≤ a → a ≤ (xs.length : Int) + 4 → out.length + d ≤ 200 → (∀ x ∈ out, x.length ≤ 8) → (recU xs w d a prev out).1.length ≤ 200 ∧ ∀ x ∈ (recU xs w d a prev out).1, x.length ≤ 8 := by
  induction d with
  | zero =>
    intro a prev out h0 h1 ho hx
    unfold recU
    split
    · simp
    · exact ⟨by simpa using ho, hx⟩
  | succ d ih =>
    intro a prev out h0 h1 ho hx
    unfold recU
    cases hr : rowU xs prev w 0 a [] with
    | inr p => obtain ⟨c, q⟩ := p; simp
    | inl p =>
      obtain ⟨row, a'⟩ := p
      obtain ⟨k1, k2, k3, k4⟩ := rowU_in xs hb prev w 0 a [] h0 (by simp) h1 row a' hr
      exact ih a' row (out ++ [row]) (by omega) k4 (by simp; omega) (by
        intro x hm
        rcases List.mem_append.1 hm with hm | hm
        · exact hx x hm
        · rw [List.mem_singleton.1 hm]
          simp at k1
          omega)
theorem unpack20_len (xs : List Int) (hb : ∀ x ∈ xs, 0 ≤ x ∧ x ≤ 255) : (unpack20 xs).1.length ≤ 200 ∧ ∀ x ∈ (unpack20 xs).1, x.length ≤ 8 := by
  unfold unpack20
  by_cases h1 : (xs.length : Int) < 1
  · rw [if_pos h1]; simp
  · rw [if_neg h1]
    have b0 := byte_at hb (i := 0) (by omega) (by omega)
    by_cases h2 : rd xs 0 > 8
    · rw [if_pos h2]; simp
    · rw [if_neg h2]
      by_cases h3 : (xs.length : Int) < 2
      · rw [if_pos h3]; simp
      · rw [if_neg h3]
        have b1 := byte_at hb (i := 1) (by omega) (by omega)
        by_cases h4 : rd xs 1 > 200
        · rw [if_pos h4]; simp
        · rw [if_neg h4]
          split
          · simp
          · exact recU_len xs hb _ (by omega) _ 2 _ [] (by omega) (by omega) (by simp; omega) (by simp)
theorem sum_lens (xs : List (List Int)) (hx : ∀ x ∈ xs, x.length ≤ 8) : (xs.map List.length).sum ≤ 8 * xs.length := by
  induction xs with
  | nil => simp
  | cons x xs ih =>
    have h1 := ih (fun y hy => hx y (List.mem_cons_of_mem _ hy))
    have h2 := hx x List.mem_cons_self
    rw [List.map_cons, List.sum_cons, List.length_cons]
    omega
theorem FnExactUnpack20 : laws_FnExactUnpack20.Pure := by
  intro l _ hn1 hw
  have hn : l.length ≤ 140737488355328 := by omega
  have hw' : ∀ x ∈ l, 0 ≤ x ∧ x ≤ 255 := fun x hx => wf_u8 (hw x hx)
  refine Ev.rounds ?_
  simp only [laws_FnExactUnpack20.f]
  by_cases hb : (l.length : Int) > 1048576
  · simp only [if_pos hb]
    exact ev_now _
  · simp only [if_neg hb]
    have hs := spec_Unpack20_ev l hw' (by omega)
    have hi := impl_Unpack20_ev l hw' (by omega)
    have hl := unpack20_len l hw'
    generalize unpack20 l = g at hs hi hl
    obtain ⟨rows, c, p⟩ := g
    simp only at hl
    obtain ⟨hl1, hl2⟩ := hl
    have hx : ∀ x ∈ rows, x.length ≤ 140737488355328 := fun x hx => by have := hl2 x hx; omega
    have hsum := sum_lens rows hl2
    obtain ⟨ys, hm, hh⟩ := mark_held_ev rows 1 (by omega) hx (by omega) (by omega)
    refine (toByteS_ev l hn).bind ?_
    refine hs.bind ?_
    refine (toByteS_ev l hn).bind ?_
    refine hi.bind ?_
    simp only
    refine (eqIntSS_self rows (by omega) hx).bind ?_
    simp only [if_true]
    refine ev_succ ?_
    simp only [laws_FnExactUnpack20.j0, bne_self_eq_false, Bool.false_eq_true, if_false]
    refine (toByteS_ev l hn).bind ?_
    refine (eqByteS_self l hn).bind ?_
    simp only [if_true]
    refine (markByteS_ev l 1 (by omega) (by omega) hn).bind ?_
    simp only [if_neg (show ¬ ((1 : Int) + (l.length : Int) < 0) by omega)]
    refine (eqIntSS_self rows (by omega) hx).bind ?_
    simp only [if_true]
    refine ev_succ ?_
    simp only [laws_FnExactUnpack20.j1, bne_self_eq_false, Bool.false_eq_true, if_false]
    refine hm.bind ?_
    refine hh.bind ?_
    simp only [if_neg (show ¬ ((1 : Int) + ((rows.map List.length).sum : Nat) < 0) by omega), if_true]
    refine (toByteS_ev l hn).bind ?_
    refine hi.bind ?_
    simp only
    refine (eqIntSS_self rows (by omega) hx).bind ?_
    simp only [if_true]
    refine ev_succ ?_
    simp only [laws_FnExactUnpack20.j2, bne_self_eq_false, Bool.false_eq_true, if_false]
    refine hh.bind ?_
    simp only [if_neg (show ¬ ((1 : Int) + ((rows.map List.length).sum : Nat) < 0) by omega), if_true]
    exact ev_now _
end Go.Proofs.Ytaaelkbkmgnciaa.Pure
