/- The program's Both16 answers as the reference's at every argument, keeps its arguments, and shares no memory with them. No condition. -/
import Derived.Test.YtcdniegjefejcaaPFnExactBoth16x8
import Derived.Test.YtcdniegjefejcaaBase
set_option linter.unusedVariables false
set_option linter.unusedSimpArgs false
namespace Go.Proofs.Ytcdniegjefejcaa.Pure
open Go.RowKit Go.Proofs.Ytcdniegjefejcaa.PFnExactBoth16 Go.Proofs.Ytcdniegjefejcaa.Base Go.Proofs.YtcdniegjefejcaaW.PrintWords Go.Proofs.YtcdniegjefejcaaW.PrintLast
theorem impl_in_eq (a b c : Int) : impl_in.f a b c = some (inB a b c) := in_form a b c
theorem spec_in_eq (a b c : Int) : spec_l1In.f a b c = some (inB a b c) := in_form a b c
/-! The helpers of the laws over ByteS. -/
theorem szByteS_eq (xs : List Int) (left : Int) (h0 : 0 ≤ left) (h1 : left ≤ 1048576) (hn : xs.length ≤ 140737488355328) : laws_szByteS.f xs left = some (if left - (xs.length : Int) < 0 then -1 else left - (xs.length : Int)) := by
  unfold laws_szByteS.f
  rw [w64 (by omega) (by omega)]
  split <;> rfl
theorem toByteS_l (xs : List Int) (hn : xs.length ≤ 140737488355328) (d : Nat) : ∀ i : Nat, i + d = xs.length →
    Ev (fun k => laws_toByteS.l0 k xs (xs.take i ++ List.replicate (xs.length - i) 0) (i : Int)) xs := by
  induction d with
  | zero =>
    intro i h
    refine ev_succ ?_
    simp only [laws_toByteS.l0, if_neg (show ¬ ((i : Int) < (xs.length : Int)) by omega)]
    exact ev_some (by rw [List.take_of_length_le (by omega), show xs.length - i = 0 by omega]; simp)
  | succ d ih =>
    intro i h
    refine ev_succ ?_
    have hl : ((xs.take i ++ List.replicate (xs.length - i) (0 : Int)).length : Int) = (xs.length : Int) := by simp; omega
    simp only [laws_toByteS.l0, if_pos (show ((i : Int) < (xs.length : Int)) by omega), if_pos (show (0 : Int) ≤ (i : Int) by omega), hl, w64s i (by omega), Int.toNat_natCast, take_set (show i < xs.length by omega)]
    exact ih (i + 1) (by omega)
theorem toByteS_ev (xs : List Int) (hn : xs.length ≤ 140737488355328) : Ev (fun k => laws_toByteS.f k xs) xs := by
  simp only [laws_toByteS.f, if_pos (show (0 : Int) ≤ (xs.length : Int) by omega), Int.toNat_natCast, if_pos (show xs.length ≤ 281474976710656 by omega)]
  simpa using toByteS_l xs hn xs.length 0 (by omega)
theorem eqByteS_l (xs ys : List Int) (hn : xs.length ≤ 140737488355328) (hl : ys.length = xs.length) (d : Nat) : ∀ i : Nat, i + d = xs.length →
    Ev (fun k => laws_eqByteS.l0 k xs ys (i : Int)) (decide (xs.drop i = ys.drop i)) := by
  induction d with
  | zero =>
    intro i h
    refine ev_succ ?_
    simp only [laws_eqByteS.l0, if_neg (show ¬ ((i : Int) < (xs.length : Int)) by omega)]
    exact ev_some (by rw [List.drop_of_length_le (by omega), List.drop_of_length_le (by omega)]; rfl)
  | succ d ih =>
    intro i h
    refine ev_succ ?_
    simp only [laws_eqByteS.l0, if_pos (show ((i : Int) < (xs.length : Int)) by omega), if_pos (show (0 : Int) ≤ (i : Int) by omega), hl, w64s i (by omega)]
    rw [drop_rd (show i < xs.length by omega), drop_rd (show i < ys.length by omega)]
    by_cases e : rd xs (i : Int) = rd ys (i : Int)
    · simp only [if_pos e]
      simpa [e] using ih (i + 1) (by omega)
    · simp only [if_neg e]
      exact ev_some (by simp [e])
theorem eqByteS_ev (xs ys : List Int) (hn : xs.length ≤ 140737488355328) : Ev (fun k => laws_eqByteS.f k xs ys) (decide (xs = ys)) := by
  unfold laws_eqByteS.f
  by_cases hl : ys.length = xs.length
  · simp only [if_pos (show (xs.length : Int) = (ys.length : Int) by omega)]
    simpa using eqByteS_l xs ys hn hl xs.length 0 (by omega)
  · simp only [if_neg (show ¬ (xs.length : Int) = (ys.length : Int) by omega)]
    exact ev_some (by
      have : ¬ xs = ys := fun e => hl (by rw [e])
      simp [this])
theorem eqByteS_self (xs : List Int) (hn : xs.length ≤ 140737488355328) : Ev (fun k => laws_eqByteS.f k xs xs) true := by simpa using eqByteS_ev xs xs hn
theorem markByteS_l (xs : List Int) (k0 : Int) (h0 : 0 ≤ k0) (h1 : k0 ≤ 4611686018427387904) (hn : xs.length ≤ 140737488355328) (d : Nat) : ∀ i : Nat, i + d = xs.length →
    Ev (fun k => laws_markByteS.l0 k (marks (fun x => x % 256) k0 i ++ xs.drop i) (k0 + (i : Int)) (i : Int)) (k0 + (xs.length : Int), marks (fun x => x % 256) k0 xs.length) := by
  induction d with
  | zero =>
    intro i h
    refine ev_succ ?_
    have hl : ((marks (fun x => x % 256) k0 i ++ xs.drop i).length : Int) = (xs.length : Int) := by simp [marks_length]; omega
    simp only [laws_markByteS.l0, hl, if_neg (show ¬ ((i : Int) < (xs.length : Int)) by omega)]
    obtain rfl : i = xs.length := by omega
    exact ev_some (by rw [List.drop_length, List.append_nil])
  | succ d ih =>
    intro i h
    refine ev_succ ?_
    have hl : ((marks (fun x => x % 256) k0 i ++ xs.drop i).length : Int) = (xs.length : Int) := by simp [marks_length]; omega
    have hs := marks_set (g := fun x => x % 256) (k0 := k0) (show i < xs.length by omega)
    simp only [laws_markByteS.l0, hl, if_pos (show ((i : Int) < (xs.length : Int)) by omega), if_pos (show (0 : Int) ≤ (i : Int) by omega), Int.toNat_natCast, hs, w64s i (by omega), w64 (show -9223372036854775808 ≤ k0 + (i : Int) + 1 by omega) (show k0 + (i : Int) + 1 ≤ 9223372036854775807 by omega)]
    have := ih (i + 1) (by omega)
    rw [show k0 + ((i + 1 : Nat) : Int) = k0 + (i : Int) + 1 by omega] at this
    exact this
theorem markByteS_ev (xs : List Int) (k0 : Int) (h0 : 0 ≤ k0) (h1 : k0 ≤ 4611686018427387904) (hn : xs.length ≤ 140737488355328) : Ev (fun k => laws_markByteS.f k xs k0) (k0 + (xs.length : Int), marks (fun x => x % 256) k0 xs.length) := by
  have := markByteS_l xs k0 h0 h1 hn xs.length 0 (by omega)
  simpa [laws_markByteS.f, marks_nil] using this
theorem heldByteS_l (n : Nat) (k0 : Int) (h0 : 0 ≤ k0) (h1 : k0 ≤ 4611686018427387904) (hn : n ≤ 140737488355328) (d : Nat) : ∀ i : Nat, i + d = n →
    Ev (fun k => laws_heldByteS.l0 k (marks (fun x => x % 256) k0 n) (k0 + (i : Int)) (i : Int)) (k0 + (n : Int)) := by
  induction d with
  | zero =>
    intro i h
    refine ev_succ ?_
    simp only [laws_heldByteS.l0, marks_length, if_neg (show ¬ ((i : Int) < (n : Int)) by omega)]
    exact ev_some (by omega)
  | succ d ih =>
    intro i h
    refine ev_succ ?_
    simp only [laws_heldByteS.l0, marks_length, if_pos (show ((i : Int) < (n : Int)) by omega), if_pos (show (0 : Int) ≤ (i : Int) by omega), marks_rd (show i < n by omega), if_true, w64s i (by omega), w64 (show -9223372036854775808 ≤ k0 + (i : Int) + 1 by omega) (show k0 + (i : Int) + 1 ≤ 9223372036854775807 by omega)]
    have := ih (i + 1) (by omega)
    rw [show k0 + ((i + 1 : Nat) : Int) = k0 + (i : Int) + 1 by omega] at this
    exact this
theorem heldByteS_ev (n : Nat) (k0 : Int) (h0 : 0 ≤ k0) (h1 : k0 ≤ 4611686018427387904) (hn : n ≤ 140737488355328) : Ev (fun k => laws_heldByteS.f k (marks (fun x => x % 256) k0 n) k0) (k0 + (n : Int)) := by
  have := heldByteS_l n k0 h0 h1 hn n 0 (by omega)
  simpa [laws_heldByteS.f] using this
/-! The helpers over slices of slices: ByteSS. -/
theorem rdByteSS {xs : List (List Int)} {i : Nat} (h : i < xs.length) : rd_L1 xs (i : Int) = xs[i] := by
  simp [rd_L1, List.getD_eq_getElem?_getD, h]
theorem szByteSS_l (xs : List (List Int)) (hn : xs.length ≤ 140737488355328) (hx : ∀ x ∈ xs, x.length ≤ 140737488355328) (d : Nat) : ∀ (i : Nat) (left : Int), i + d = xs.length → 0 ≤ left → left ≤ 1048576 →
    ∃ v, Ev (fun k => laws_szByteSS.l0 k xs left (i : Int)) v ∧ (v < 0 ∨ (0 ≤ v ∧ v + (((xs.drop i).map List.length).sum : Nat) = left)) := by
  induction d with
  | zero =>
    intro i left h h0 h1
    refine ⟨left, ev_succ ?_, .inr ⟨h0, ?_⟩⟩
    · simp only [laws_szByteSS.l0, if_neg (show ¬ ((i : Int) < (xs.length : Int)) by omega)]
      exact ev_now _
    · rw [List.drop_of_length_le (by omega)]; simp
  | succ d ih =>
    intro i left h h0 h1
    have hlt : i < xs.length := by omega
    have hxi := hx _ (List.getElem_mem hlt)
    by_cases hs : left - ((xs[i]).length : Int) < 0
    · refine ⟨-1, ev_succ ?_, .inl (by omega)⟩
      simp only [laws_szByteSS.l0, if_pos (show ((i : Int) < (xs.length : Int)) by omega), if_pos (show (0 : Int) ≤ (i : Int) by omega), rdByteSS hlt, szByteS_eq _ left h0 h1 hxi, if_pos hs, Option.bind_some, if_pos (show (-1 : Int) < 0 by omega)]
      exact ev_now _
    · obtain ⟨v, hv, hr⟩ := ih (i + 1) (left - ((xs[i]).length : Int)) (by omega) (by omega) (by omega)
      refine ⟨v, ev_succ ?_, ?_⟩
      · simp only [laws_szByteSS.l0, if_pos (show ((i : Int) < (xs.length : Int)) by omega), if_pos (show (0 : Int) ≤ (i : Int) by omega), rdByteSS hlt, szByteS_eq _ left h0 h1 hxi, if_neg hs, Option.bind_some, w64s i (by omega)]
        exact hv
      · rcases hr with hr | ⟨hr0, hr⟩
        · exact .inl hr
        · refine .inr ⟨hr0, ?_⟩
          rw [List.drop_eq_getElem_cons hlt, List.map_cons, List.sum_cons]
          omega
theorem szByteSS_ev (xs : List (List Int)) (left : Int) (h0 : 0 ≤ left) (h1 : left ≤ 1048576) (hn : xs.length ≤ 140737488355328) (hx : ∀ x ∈ xs, x.length ≤ 140737488355328) :
    ∃ v, Ev (fun k => laws_szByteSS.f k xs left) v ∧ (v < 0 ∨ (0 ≤ v ∧ v + (xs.length : Int) + ((xs.map List.length).sum : Nat) = left)) := by
  simp only [laws_szByteSS.f]
  rw [w64 (by omega) (by omega)]
  by_cases hs : left - (xs.length : Int) < 0
  · simp only [if_pos hs]
    exact ⟨-1, ev_now _, .inl (by omega)⟩
  · simp only [if_neg hs]
    obtain ⟨v, hv, hr⟩ := szByteSS_l xs hn hx xs.length 0 (left - (xs.length : Int)) (by omega) (by omega) (by omega)
    refine ⟨v, hv, ?_⟩
    rcases hr with hr | ⟨hr0, hr⟩
    · exact .inl hr
    · rw [List.drop_zero] at hr
      exact .inr ⟨hr0, by omega⟩
theorem len_le_sum {xs : List (List Int)} {x : List Int} (h : x ∈ xs) : x.length ≤ (xs.map List.length).sum := by
  induction xs with
  | nil => simp at h
  | cons y ys ih =>
    rw [List.map_cons, List.sum_cons]
    rcases List.mem_cons.1 h with rfl | h
    · omega
    · have := ih h; omega
theorem toByteSS_l (xs : List (List Int)) (hn : xs.length ≤ 11728124029610) (hx : ∀ x ∈ xs, x.length ≤ 140737488355328) (d : Nat) : ∀ i : Nat, i + d = xs.length →
    Ev (fun k => laws_toByteSS.l0 k xs (xs.take i ++ List.replicate (xs.length - i) []) (i : Int)) xs := by
  induction d with
  | zero =>
    intro i h
    refine ev_succ ?_
    simp only [laws_toByteSS.l0, if_neg (show ¬ ((i : Int) < (xs.length : Int)) by omega)]
    exact ev_some (by rw [List.take_of_length_le (by omega), show xs.length - i = 0 by omega]; simp)
  | succ d ih =>
    intro i h
    refine ev_succ ?_
    have hlt : i < xs.length := by omega
    have hl : ((xs.take i ++ List.replicate (xs.length - i) ([] : List Int)).length : Int) = (xs.length : Int) := by simp; omega
    have hs := take_setG (xs := xs) (c := fun x => x) hlt ([] : List Int)
    simp only [List.map_id'] at hs
    simp only [laws_toByteSS.l0, if_pos (show ((i : Int) < (xs.length : Int)) by omega), if_pos (show (0 : Int) ≤ (i : Int) by omega), hl, w64s i (by omega), Int.toNat_natCast, rdByteSS hlt]
    refine (toByteS_ev _ (hx _ (List.getElem_mem hlt))).bind ?_
    rw [hs]
    exact ih (i + 1) (by omega)
theorem toByteSS_ev (xs : List (List Int)) (hn : xs.length ≤ 11728124029610) (hx : ∀ x ∈ xs, x.length ≤ 140737488355328) : Ev (fun k => laws_toByteSS.f k xs) xs := by
  simp only [laws_toByteSS.f, if_pos (show (0 : Int) ≤ (xs.length : Int) by omega), Int.toNat_natCast, if_pos hn]
  simpa using toByteSS_l xs hn hx xs.length 0 (by omega)
theorem eqByteSS_l (xs : List (List Int)) (hn : xs.length ≤ 140737488355328) (hx : ∀ x ∈ xs, x.length ≤ 140737488355328) (d : Nat) : ∀ i : Nat, i + d = xs.length →
    Ev (fun k => laws_eqByteSS.l0 k xs xs (i : Int)) true := by
  induction d with
  | zero =>
    intro i h
    refine ev_succ ?_
    simp only [laws_eqByteSS.l0, if_neg (show ¬ ((i : Int) < (xs.length : Int)) by omega)]
    exact ev_now _
  | succ d ih =>
    intro i h
    refine ev_succ ?_
    have hlt : i < xs.length := by omega
    simp only [laws_eqByteSS.l0, if_pos (show ((i : Int) < (xs.length : Int)) by omega), if_pos (show (0 : Int) ≤ (i : Int) by omega), w64s i (by omega), rdByteSS hlt]
    refine (eqByteS_self _ (hx _ (List.getElem_mem hlt))).bind ?_
    simp only [if_true]
    exact ih (i + 1) (by omega)
theorem eqByteSS_self (xs : List (List Int)) (hn : xs.length ≤ 140737488355328) (hx : ∀ x ∈ xs, x.length ≤ 140737488355328) : Ev (fun k => laws_eqByteSS.f k xs xs) true := by
  simp only [laws_eqByteSS.f, if_true]
  simpa using eqByteSS_l xs hn hx xs.length 0 (by omega)
theorem setGetD {xs : List (List Int)} {i : Nat} {r : List Int} (h : i < xs.length) : (xs.set i r).drop (i + 1) = xs.drop (i + 1) := by
  rw [List.drop_set_of_lt (by omega)]
theorem markByteSS_l (d : Nat) : ∀ (i : Nat) (xs : List (List Int)) (a : Int), i + d = xs.length → xs.length ≤ 140737488355328 → (∀ x ∈ xs, x.length ≤ 140737488355328) → 0 ≤ a → a + (((xs.drop i).map List.length).sum : Nat) ≤ 4611686018427387904 →
    ∃ ys, Ev (fun k => laws_markByteSS.l0 k xs a (i : Int)) (a + (((xs.drop i).map List.length).sum : Nat), ys) := by
  induction d with
  | zero =>
    intro i xs a h hn hx h0 h1
    refine ⟨xs, ev_succ ?_⟩
    simp only [laws_markByteSS.l0, if_neg (show ¬ ((i : Int) < (xs.length : Int)) by omega)]
    exact ev_some (by rw [List.drop_of_length_le (by omega)]; simp)
  | succ d ih =>
    intro i xs a h hn hx h0 h1
    have hlt : i < xs.length := by omega
    have hxi := hx _ (List.getElem_mem hlt)
    have hd : ((xs.drop i).map List.length).sum = (xs[i]).length + ((xs.drop (i + 1)).map List.length).sum := by
      rw [List.drop_eq_getElem_cons hlt, List.map_cons, List.sum_cons]
    rw [hd] at h1 ⊢
    have hs := setGetD (r := marks (fun x => x % 256) a (xs[i]).length) hlt
    obtain ⟨ys, hy⟩ := ih (i + 1) (xs.set i (marks (fun x => x % 256) a (xs[i]).length)) (a + ((xs[i]).length : Int)) (by rw [List.length_set]; omega) (by rw [List.length_set]; exact hn) (by
      intro x hm
      rcases List.mem_or_eq_of_mem_set hm with hm | rfl
      · exact hx x hm
      · rw [marks_length]; exact hxi) (by omega) (by rw [hs]; omega)
    rw [hs] at hy
    refine ⟨ys, ev_succ ?_⟩
    simp only [laws_markByteSS.l0, if_pos (show ((i : Int) < (xs.length : Int)) by omega), if_pos (show (0 : Int) ≤ (i : Int) by omega), rdByteSS hlt, w64s i (by omega), Int.toNat_natCast]
    refine (markByteS_ev (xs[i]) a h0 (by omega) hxi).bind ?_
    simp only
    rw [show a + (((xs[i]).length + ((xs.drop (i + 1)).map List.length).sum : Nat) : Int) = a + ((xs[i]).length : Int) + (((xs.drop (i + 1)).map List.length).sum : Nat) by omega]
    exact hy
theorem markByteSS_ev (xs : List (List Int)) (a : Int) (hn : xs.length ≤ 140737488355328) (hx : ∀ x ∈ xs, x.length ≤ 140737488355328) (h0 : 0 ≤ a) (h1 : a + ((xs.map List.length).sum : Nat) ≤ 4611686018427387904) :
    ∃ ys, Ev (fun k => laws_markByteSS.f k xs a) (a + ((xs.map List.length).sum : Nat), ys) := by
  simpa [laws_markByteSS.f] using markByteSS_l xs.length 0 xs a (by omega) hn hx h0 (by simpa using h1)
theorem eqWord16_self (a b : Int) (xs : List Int) (hn : xs.length ≤ 140737488355328) : Ev (fun k => laws_eqWord16.f k a b xs a b xs) true := by
  simp only [laws_eqWord16.f, if_true]
  exact (eqByteS_self xs hn).bind (f := fun _ t => if t = true then some true else some false) (ev_now _)
def wordB (a b : Int) (xs : List Int) : Bool := inB a 1 255 && (inB b 0 255 && decide ((xs.length : Int) ≤ 32))
theorem impl_WordOk_eq (a b : Int) (xs : List Int) : impl_WordOk.f a b xs = some (wordB a b xs) := by
  simp only [impl_WordOk.f, impl_in_eq, Option.bind_some, wordB]
  cases inB a 1 255 <;> cases inB b 0 255 <;> simp
theorem spec_WordOk_eq (a b : Int) (xs : List Int) : spec_WordOk.f a b xs = some (wordB a b xs) := by
  simp only [spec_WordOk.f, spec_in_eq, Option.bind_some, wordB]
  cases inB a 1 255 <;> cases inB b 0 255 <;> simp
def recB (a b c : Int) : Bool := inB a 1 255 && (inB b (-1) 255 && inB c 1 100)
theorem impl_ReceiverOk_eq (a b c : Int) : impl_ReceiverOk.f a b c = some (recB a b c) := by
  simp only [impl_ReceiverOk.f, impl_in_eq, Option.bind_some, recB]
  cases inB a 1 255 <;> cases inB b (-1) 255 <;> simp
/-- The taking of a word. -/
def accept (a b c u v : Int) (xs : List Int) : Int × Int × Int × Bool × Int :=
  if recB a b c = true ∧ wordB u v xs = true ∧ u = a then
    (if (if b ≥ 0 then (v - b + 256) % 256 else 0) ≥ c then (a, b, c, false, 0) else (a, (v + 1) % 256, c, true, if b ≥ 0 then (v - b + 256) % 256 else 0))
  else (a, b, c, false, 0)
theorem recB_in {a b c : Int} (h : recB a b c = true) : (1 ≤ a ∧ a ≤ 255) ∧ (-1 ≤ b ∧ b ≤ 255) ∧ 1 ≤ c ∧ c ≤ 100 := by
  simp [recB, inB] at h
  omega
theorem wordB_in {a b : Int} {xs : List Int} (h : wordB a b xs = true) : (1 ≤ a ∧ a ≤ 255) ∧ (0 ≤ b ∧ b ≤ 255) ∧ xs.length ≤ 32 := by
  simp [wordB, inB] at h
  omega
theorem spec_ReceiverOk_eq (a b c : Int) : spec_ReceiverOk.f a b c = some (recB a b c) := by
  simp only [spec_ReceiverOk.f, spec_in_eq, Option.bind_some, recB]
  cases inB a 1 255 <;> cases inB b (-1) 255 <;> simp
theorem impl_Accept_ev (a b c u v : Int) (xs : List Int) : Ev (fun k => impl_Accept.f k a b c u v xs) (accept a b c u v xs) := by
  simp only [impl_Accept.f, impl_ReceiverOk_eq, impl_WordOk_eq, Option.bind_some]
  unfold accept
  by_cases hr : recB a b c = true
  · by_cases hw : wordB u v xs = true
    · have r1 := recB_in hr
      have r2 := wordB_in hw
      simp only [hr, hw, if_true, true_and]
      refine ev_succ ?_
      by_cases e : u = a
      · have w1 : wrap64 (v + 1) = v + 1 := w64 (by omega) (by omega)
        have w2 : wrap64 (wrap64 (v - b) + 256) = v - b + 256 := by rw [w64 (n := v - b) (by omega) (by omega), w64 (by omega) (by omega)]
        have t1 : Int.tmod (v + 1) 256 = (v + 1) % 256 := Int.tmod_eq_emod_of_nonneg (by omega)
        have t2 : Int.tmod (v - b + 256) 256 = (v - b + 256) % 256 := Int.tmod_eq_emod_of_nonneg (by omega)
        simp only [impl_Accept.j0, e, bne_self_eq_false, Bool.false_eq_true, if_false, if_true, w1, w2, t1, t2]
        by_cases hb : b ≥ 0
        · simp only [if_pos hb]
          by_cases hc : (v - b + 256) % 256 ≥ c
          · simp only [if_pos hc]; exact ev_now _
          · simp only [if_neg hc]; exact ev_now _
        · simp only [if_neg hb, if_neg (show ¬ ((0 : Int) ≥ c) by omega)]; exact ev_now _
      · simp only [impl_Accept.j0, show (u != a) = true from bne_iff_ne.2 e, if_true, if_neg e]
        exact ev_now _
    · simp only [hr, hw, if_true, Bool.false_eq_true, if_false, false_and, and_false]
      refine ev_succ ?_
      simp only [impl_Accept.j0, if_true]
      exact ev_now _
  · simp only [hr, Bool.false_eq_true, if_false, false_and]
    refine ev_succ ?_
    simp only [impl_Accept.j0, if_true]
    exact ev_now _
theorem spec_Accept_ev (a b c u v : Int) (xs : List Int) : Ev (fun k => spec_Accept.f k a b c u v xs) (accept a b c u v xs) := by
  simp only [spec_Accept.f, spec_ReceiverOk_eq, spec_WordOk_eq, Option.bind_some]
  unfold accept
  by_cases hr : recB a b c = true
  · by_cases hw : wordB u v xs = true
    · have r1 := recB_in hr
      have r2 := wordB_in hw
      simp only [hr, hw, if_true, true_and]
      refine ev_succ ?_
      by_cases e : u = a
      · have w1 : wrap64 (v + 1) = v + 1 := w64 (by omega) (by omega)
        have w2 : wrap64 (wrap64 (v - b) + 256) = v - b + 256 := by rw [w64 (n := v - b) (by omega) (by omega), w64 (by omega) (by omega)]
        have t1 : Int.tmod (v + 1) 256 = (v + 1) % 256 := Int.tmod_eq_emod_of_nonneg (by omega)
        have t2 : Int.tmod (v - b + 256) 256 = (v - b + 256) % 256 := Int.tmod_eq_emod_of_nonneg (by omega)
        simp only [spec_Accept.j0, e, bne_self_eq_false, Bool.false_eq_true, if_false, if_true, w1, w2, t1, t2]
        by_cases hb : b ≥ 0
        · simp only [if_pos hb]
          by_cases hc : (v - b + 256) % 256 ≥ c
          · simp only [if_pos hc]; exact ev_now _
          · simp only [if_neg hc]; exact ev_now _
        · simp only [if_neg hb, if_neg (show ¬ ((0 : Int) ≥ c) by omega)]; exact ev_now _
      · simp only [spec_Accept.j0, show (u != a) = true from bne_iff_ne.2 e, if_true, if_neg e]
        exact ev_now _
    · simp only [hr, hw, if_true, Bool.false_eq_true, if_false, false_and, and_false]
      refine ev_succ ?_
      simp only [spec_Accept.j0, if_true]
      exact ev_now _
  · simp only [hr, Bool.false_eq_true, if_false, false_and]
    refine ev_succ ?_
    simp only [spec_Accept.j0, if_true]
    exact ev_now _
/-- The sum of a frame's bytes. -/
def sum16 (xs : List Int) : Int := xs.foldl (fun x b => (((x * 3) % 256) + b) % 256) 0
theorem impl_sumOf_l (xs : List Int) (hn : xs.length ≤ 140737488355328) (d : Nat) : ∀ (i : Nat) (s : Int), i + d = xs.length →
    Ev (fun k => impl_sumOf.l0 k s xs (xs.length : Int) (i : Int)) ((xs.drop i).foldl (fun x b => (((x * 3) % 256) + b) % 256) s) := by
  induction d with
  | zero =>
    intro i s h
    refine ev_succ ?_
    simp only [impl_sumOf.l0, if_neg (show ¬ ((i : Int) < (xs.length : Int)) by omega)]
    exact ev_some (by rw [List.drop_of_length_le (by omega)]; rfl)
  | succ d ih =>
    intro i s h
    refine ev_succ ?_
    simp only [impl_sumOf.l0, if_pos (show ((i : Int) < (xs.length : Int)) by omega), if_pos (show (0 : Int) ≤ (i : Int) by omega), w64s i (by omega)]
    rw [drop_rd (show i < xs.length by omega), List.foldl_cons]
    exact ih (i + 1) _ (by omega)
theorem impl_sumOf_ev (xs : List Int) (hn : xs.length ≤ 140737488355328) : Ev (fun k => impl_sumOf.f k xs) (sum16 xs) := by
  simpa [impl_sumOf.f, sum16] using impl_sumOf_l xs hn xs.length 0 0 (by omega)
theorem spec_l16Sum_l (xs : List Int) (hn : xs.length ≤ 140737488355328) (d : Nat) : ∀ (i : Nat) (s : Int), i + d = xs.length →
    Ev (fun k => spec_l16Sum.l0 k xs s (i : Int)) ((xs.drop i).foldl (fun x b => (((x * 3) % 256) + b) % 256) s) := by
  induction d with
  | zero =>
    intro i s h
    refine ev_succ ?_
    simp only [spec_l16Sum.l0, if_neg (show ¬ ((i : Int) < (xs.length : Int)) by omega)]
    exact ev_some (by rw [List.drop_of_length_le (by omega)]; rfl)
  | succ d ih =>
    intro i s h
    refine ev_succ ?_
    simp only [spec_l16Sum.l0, if_pos (show ((i : Int) < (xs.length : Int)) by omega), if_pos (show (0 : Int) ≤ (i : Int) by omega), w64s i (by omega)]
    rw [drop_rd (show i < xs.length by omega), List.foldl_cons]
    exact ih (i + 1) _ (by omega)
theorem spec_l16Sum_ev (xs : List Int) (hn : xs.length ≤ 140737488355328) : Ev (fun k => spec_l16Sum.f k xs) (sum16 xs) := by
  simpa [spec_l16Sum.f, sum16] using spec_l16Sum_l xs hn xs.length 0 0 (by omega)
theorem clone_eq (xs : List Int) (h : xs.length < 140737488355328) : slices_Clone_byte_byte.f xs = some xs := by
  simp [slices_Clone_byte_byte.f, h]
/-- What stands in a frame. -/
def get16 (l : List Int) : Int × Int × List Int × Int :=
  if (l.length : Int) < 4 then (0, 0, [], 1)
  else if rd l 2 > 32 then (0, 0, [], 2)
  else if (l.length : Int) < rd l 2 + 4 then (0, 0, [], 1)
  else if (l.length : Int) > rd l 2 + 4 then (0, 0, [], 2)
  else if rd l 0 = 0 then (0, 0, [], 3)
  else if rd l ((l.length : Int) - 1) = sum16 (l.take (l.length - 1)) then (rd l 0, rd l 1, (l.take (l.length - 1)).drop 3, 0)
  else (0, 0, [], 4)
theorem impl_Get16_ev (l : List Int) (hn : l.length < 140737488355328) (hw : ∀ x ∈ l, 0 ≤ x ∧ x ≤ 255) : Ev (fun k => impl_Get16.f k l) (get16 l) := by
  unfold impl_Get16.f get16
  by_cases c1 : (l.length : Int) < 4
  · simp only [if_pos c1]; exact ev_now _
  have b0 := hw _ (rd_mem (i := 0) (by omega) (show (0 : Int) < l.length by omega))
  have b1 := hw _ (rd_mem (i := 1) (by omega) (show (1 : Int) < l.length by omega))
  have b2 := hw _ (rd_mem (i := 2) (by omega) (show (2 : Int) < l.length by omega))
  have w2 : wrap64 (rd l 2) = rd l 2 := w64 (by omega) (by omega)
  have w0 : wrap64 (rd l 0) = rd l 0 := w64 (by omega) (by omega)
  have w1 : wrap64 (rd l 1) = rd l 1 := w64 (by omega) (by omega)
  have w4 : wrap64 (4 + rd l 2) = rd l 2 + 4 := by rw [w64 (by omega) (by omega)]; omega
  have wl : wrap64 ((l.length : Int) - 1) = (l.length : Int) - 1 := w64 (by omega) (by omega)
  simp only [if_neg c1, if_pos (show (2 : Int) < (l.length : Int) by omega), w2, w4, w0, w1, wl, if_pos (show (0 : Int) < (l.length : Int) by omega), if_pos (show (1 : Int) < (l.length : Int) by omega)]
  by_cases c2 : rd l 2 > 32
  · simp only [if_pos c2]; exact ev_now _
  by_cases c3 : (l.length : Int) < rd l 2 + 4
  · simp only [if_neg c2, if_pos c3]; exact ev_now _
  by_cases c4 : (l.length : Int) > rd l 2 + 4
  · simp only [if_neg c2, if_neg c3, if_pos c4]; exact ev_now _
  by_cases c5 : rd l 0 = 0
  · simp only [if_neg c2, if_neg c3, if_neg c4, if_pos c5]; exact ev_now _
  simp only [if_neg c2, if_neg c3, if_neg c4, if_neg c5, if_pos (show (0 : Int) ≤ (l.length : Int) - 1 by omega), if_pos (show (l.length : Int) - 1 < (l.length : Int) by omega), if_pos (show (l.length : Int) - 1 ≤ (l.length : Int) by omega), show ((l.length : Int) - 1).toNat = l.length - 1 by omega]
  refine (impl_sumOf_ev _ (by simp; omega)).bind ?_
  by_cases c6 : rd l ((l.length : Int) - 1) = sum16 (l.take (l.length - 1))
  · simp only [if_pos c6, if_pos (show (3 : Int) ≤ (l.length : Int) - 1 by omega), clone_eq _ (show ((l.take (l.length - 1)).drop 3).length < 140737488355328 by simp; omega), Option.bind_some]
    exact ev_now _
  · simp only [if_neg c6]; exact ev_now _
theorem spec_Get16_ev (l : List Int) (hn : l.length < 140737488355328) (hw : ∀ x ∈ l, 0 ≤ x ∧ x ≤ 255) : Ev (fun k => spec_Get16.f k l) (get16 l) := by
  unfold spec_Get16.f get16
  by_cases c1 : (l.length : Int) < 4
  · simp only [if_pos c1]; exact ev_now _
  have b0 := hw _ (rd_mem (i := 0) (by omega) (show (0 : Int) < l.length by omega))
  have b1 := hw _ (rd_mem (i := 1) (by omega) (show (1 : Int) < l.length by omega))
  have b2 := hw _ (rd_mem (i := 2) (by omega) (show (2 : Int) < l.length by omega))
  have w2 : wrap64 (rd l 2) = rd l 2 := w64 (by omega) (by omega)
  have w0 : wrap64 (rd l 0) = rd l 0 := w64 (by omega) (by omega)
  have w1 : wrap64 (rd l 1) = rd l 1 := w64 (by omega) (by omega)
  have w4 : wrap64 (rd l 2 + 4) = rd l 2 + 4 := w64 (by omega) (by omega)
  have wl : wrap64 ((l.length : Int) - 1) = (l.length : Int) - 1 := w64 (by omega) (by omega)
  simp only [if_neg c1, if_pos (show (2 : Int) < (l.length : Int) by omega), w2, w4, w0, w1, wl, if_pos (show (0 : Int) < (l.length : Int) by omega), if_pos (show (1 : Int) < (l.length : Int) by omega)]
  by_cases c2 : rd l 2 > 32
  · simp only [if_pos c2]; exact ev_now _
  by_cases c3 : (l.length : Int) < rd l 2 + 4
  · simp only [if_neg c2, if_pos c3]; exact ev_now _
  by_cases c4 : (l.length : Int) > rd l 2 + 4
  · simp only [if_neg c2, if_neg c3, if_pos c4]; exact ev_now _
  by_cases c5 : rd l 0 = 0
  · simp only [if_neg c2, if_neg c3, if_neg c4, if_pos c5]; exact ev_now _
  simp only [if_neg c2, if_neg c3, if_neg c4, if_neg c5, if_pos (show (0 : Int) ≤ (l.length : Int) - 1 by omega), if_pos (show (l.length : Int) - 1 < (l.length : Int) by omega), if_pos (show (l.length : Int) - 1 ≤ (l.length : Int) by omega), show ((l.length : Int) - 1).toNat = l.length - 1 by omega]
  refine (spec_l16Sum_ev _ (by simp; omega)).bind ?_
  by_cases c6 : rd l ((l.length : Int) - 1) = sum16 (l.take (l.length - 1))
  · have e : ([] : List Int).length + ((l.take (l.length - 1)).drop 3).length < 140737488355328 := by simp; omega
    simp only [if_pos c6, if_pos (show (3 : Int) ≤ (l.length : Int) - 1 by omega), Option.bind_some, if_pos e, List.nil_append]
    exact ev_now _
  · simp only [if_neg c6]; exact ev_now _
/-! Two lines of frames taken one behind the other. -/
abbrev R16 := Int × Int × Int × List S41 × Int
def take16P (l : List (List Int)) (i : Nat) (s : R16) : R16 :=
  if h : i < l.length then
    (if (get16 (l[i])).2.2.2 = 0 then
      (if (accept s.1 s.2.1 s.2.2.1 (get16 (l[i])).1 (get16 (l[i])).2.1 (get16 (l[i])).2.2.1).2.2.2.1 = true then
        ((accept s.1 s.2.1 s.2.2.1 (get16 (l[i])).1 (get16 (l[i])).2.1 (get16 (l[i])).2.2.1).1, (accept s.1 s.2.1 s.2.2.1 (get16 (l[i])).1 (get16 (l[i])).2.1 (get16 (l[i])).2.2.1).2.1, (accept s.1 s.2.1 s.2.2.1 (get16 (l[i])).1 (get16 (l[i])).2.1 (get16 (l[i])).2.2.1).2.2.1, s.2.2.2.1 ++ [⟨(get16 (l[i])).1, (get16 (l[i])).2.1, (get16 (l[i])).2.2.1⟩], wrap64 (s.2.2.2.2 + (accept s.1 s.2.1 s.2.2.1 (get16 (l[i])).1 (get16 (l[i])).2.1 (get16 (l[i])).2.2.1).2.2.2.2))
       else s)
     else s)
  else s
def Rows16 (l : List (List Int)) : Prop := l.length ≤ 1048576 ∧ ∀ r ∈ l, r.length ≤ 1048576 ∧ ∀ x ∈ r, 0 ≤ x ∧ x ≤ 255
theorem get16_len (l : List Int) : (get16 l).2.2.1.length ≤ l.length := by
  unfold get16
  repeat' split
  all_goals simp
  omega
def Few16 (n : Nat) (s : R16) : Prop := s.2.2.2.1.length ≤ n ∧ ∀ w ∈ s.2.2.2.1, w.f2.length ≤ 1048576
theorem take16P_few {l : List (List Int)} (hl : Rows16 l) (i : Nat) {n : Nat} {s : R16} (h : Few16 n s) : Few16 (n + 1) (take16P l i s) := by
  unfold take16P
  by_cases h1 : i < l.length
  · rw [dif_pos h1]
    by_cases h2 : (get16 (l[i])).2.2.2 = 0
    · rw [if_pos h2]
      split
      · refine ⟨by have := h.1; simp only [List.length_append, List.length_cons, List.length_nil]; omega, fun w hw => ?_⟩
        rcases List.mem_append.1 hw with hw | hw
        · exact h.2 w hw
        · rw [List.mem_singleton.1 hw]
          have a := get16_len (l[i])
          have b := (hl.2 _ (List.getElem_mem h1)).1
          simp only
          omega
      · exact ⟨by have := h.1; omega, h.2⟩
    · rw [if_neg h2]; exact ⟨by have := h.1; omega, h.2⟩
  · rw [dif_neg h1]; exact ⟨by have := h.1; omega, h.2⟩
theorem take16_ev {l : List (List Int)} (hl : Rows16 l) (i : Nat) (x0 x1 x2 : Int) (xs : List S41) (m : Int) (hx : xs.length < 1000000) : Ev (fun k => take16.f k l (i : Int) x0 x1 x2 xs m) (take16P l i (x0, x1, x2, xs, m)) := by
  unfold take16P
  by_cases h1 : i < l.length
  · rw [dif_pos h1]
    have hr := hl.2 _ (List.getElem_mem h1)
    simp only [take16.f, if_neg (show ¬ ((i : Int) ≥ (l.length : Int)) by omega), if_pos (show (0 : Int) ≤ (i : Int) by omega), rdByteSS h1]
    refine (impl_Get16_ev _ (by omega) hr.2).bind ?_
    by_cases h2 : (get16 (l[i])).2.2.2 = 0
    · simp only [if_pos h2]
      refine (impl_Accept_ev _ _ _ _ _ _).bind ?_
      by_cases h3 : (accept x0 x1 x2 (get16 (l[i])).1 (get16 (l[i])).2.1 (get16 (l[i])).2.2.1).2.2.2.1 = true
      · simp only [if_pos h3, if_pos hx]; exact ev_now _
      · simp only [if_neg h3]; exact ev_now _
    · simp only [if_neg h2]; exact ev_now _
  · rw [dif_neg h1]
    simp only [take16.f, if_pos (show (i : Int) ≥ (l.length : Int) by omega)]
    exact ev_now _
def bothP (a b : List (List Int)) : Nat → Nat → R16 → R16
  | 0, _, s => s
  | d + 1, i, s => bothP a b d (i + 1) (take16P b i (take16P a i s))
theorem bothP_few {a b : List (List Int)} (ha : Rows16 a) (hb : Rows16 b) (d : Nat) : ∀ (i n : Nat) (s : R16), Few16 n s → Few16 (n + 2 * d) (bothP a b d i s) := by
  induction d with
  | zero => intro i n s h; exact h
  | succ d ih =>
    intro i n s h
    have := ih (i + 1) (n + 1 + 1) _ (take16P_few hb i (take16P_few ha i h))
    rw [show n + 1 + 1 + 2 * d = n + 2 * (d + 1) by omega] at this
    exact this
def out16 (s : R16) : List S41 × Int × Int × Int × Int := (s.2.2.2.1, s.2.2.2.2, s.1, s.2.1, s.2.2.1)
def both16 (a b : List (List Int)) (x0 x1 x2 : Int) : List S41 × Int × Int × Int × Int :=
  if (a.length : Int) > 200 ∨ (b.length : Int) > 200 then ([], 0, x0, x1, x2) else out16 (bothP a b (max a.length b.length) 0 (x0, x1, x2, [], 0))
theorem both16_few {a b : List (List Int)} (ha : Rows16 a) (hb : Rows16 b) (x0 x1 x2 : Int) : (both16 a b x0 x1 x2).1.length ≤ 400 ∧ ∀ w ∈ (both16 a b x0 x1 x2).1, w.f2.length ≤ 1048576 := by
  unfold both16
  split
  · simp
  · rename_i h
    have := bothP_few ha hb (max a.length b.length) 0 0 (x0, x1, x2, [], 0) ⟨by simp, by simp⟩
    exact ⟨by have h1 := this.1; simp only [out16]; omega, this.2⟩
theorem impl_both_l {a b : List (List Int)} (ha : Rows16 a) (hb : Rows16 b) (n : Nat) (hn : n ≤ 200) (d : Nat) : ∀ (i : Nat) (s : R16), i + d = n → Few16 (2 * i) s →
    Ev (fun k => impl_Both16.l0 k a b (n : Int) (i : Int) s.2.2.2.1 s.2.2.2.2 s.1 s.2.1 s.2.2.1) (out16 (bothP a b d i s)) := by
  induction d with
  | zero =>
    intro i s h _
    refine ev_succ ?_
    simp only [impl_Both16.l0, if_neg (show ¬ ((i : Int) < (n : Int)) by omega)]
    exact ev_now _
  | succ d ih =>
    intro i s h hs
    refine ev_succ ?_
    have f1 := take16P_few ha i hs
    have f2 := take16P_few hb i f1
    simp only [impl_Both16.l0, if_pos (show (i : Int) < (n : Int) by omega), w64s i (by omega)]
    refine (take16_ev ha i _ _ _ _ _ (by have := hs.1; omega)).bind ?_
    refine (take16_ev hb i _ _ _ _ _ (by have := f1.1; show (take16P a i s).2.2.2.1.length < 1000000; omega)).bind ?_
    exact ih (i + 1) _ (by omega) (by rw [show 2 * (i + 1) = 2 * i + 1 + 1 by omega]; exact f2)
theorem mx_nat (a b : Nat) : mx (a : Int) (b : Int) = ((max a b : Nat) : Int) := by unfold mx; split <;> omega
theorem impl_Both16_ev {a b : List (List Int)} (ha : Rows16 a) (hb : Rows16 b) (x0 x1 x2 : Int) : Ev (fun k => impl_Both16.f k x0 x1 x2 a b) (both16 a b x0 x1 x2) := by
  unfold both16
  simp only [impl_Both16.f]
  by_cases h1 : (a.length : Int) > 200
  · simp only [if_pos h1, if_pos (Or.inl h1 : (a.length : Int) > 200 ∨ (b.length : Int) > 200)]; exact ev_now _
  · by_cases h2 : (b.length : Int) > 200
    · simp only [if_neg h1, if_pos h2, if_pos (Or.inr h2 : (a.length : Int) > 200 ∨ (b.length : Int) > 200)]; exact ev_now _
    · simp only [if_neg h1, if_neg h2, if_neg (show ¬ ((a.length : Int) > 200 ∨ (b.length : Int) > 200) by omega), mx_nat]
      exact impl_both_l ha hb (max a.length b.length) (by omega) (max a.length b.length) 0 (x0, x1, x2, [], 0) (by omega) ⟨by simp, by simp⟩
theorem spec_both_take {l : List (List Int)} (hl : Rows16 l) (a b : List (List Int)) (i j : Nat) (s : R16) (hx : s.2.2.2.1.length < 1000000) (V : List S41 × Int × Int × Int × Int)
    (h : Ev (fun k => spec_Both16.l1 k a b (take16P l i s).2.2.2.1 (take16P l i s).2.2.2.2 (i : Int) (wrap64 ((j : Int) + 1)) (take16P l i s).1 (take16P l i s).2.1 (take16P l i s).2.2.1) V) :
    Ev (fun k => spec_Both16.j4 k a b s.2.2.2.1 s.2.2.2.2 (i : Int) (j : Int) l s.1 s.2.1 s.2.2.1) V := by
  refine ev_succ ?_
  unfold take16P at h
  by_cases h1 : i < l.length
  · rw [dif_pos h1] at h
    have hr := hl.2 _ (List.getElem_mem h1)
    simp only [spec_Both16.j4, if_neg (show ¬ ((i : Int) ≥ (l.length : Int)) by omega), if_pos (show (0 : Int) ≤ (i : Int) by omega), if_pos (show (i : Int) < (l.length : Int) by omega), rdByteSS h1]
    refine (spec_Get16_ev _ (by omega) hr.2).bind ?_
    by_cases h2 : (get16 (l[i])).2.2.2 = 0
    · rw [if_pos h2] at h
      simp only [if_pos h2]
      refine (spec_Accept_ev _ _ _ _ _ _).bind ?_
      by_cases h3 : (accept s.1 s.2.1 s.2.2.1 (get16 (l[i])).1 (get16 (l[i])).2.1 (get16 (l[i])).2.2.1).2.2.2.1 = true
      · rw [if_pos h3] at h
        simp only [if_pos h3, if_pos (show s.2.2.2.1.length < 3518437208883 by omega)]
        exact h
      · rw [if_neg h3] at h
        simp only [if_neg h3]
        exact h
    · rw [if_neg h2] at h
      simp only [if_neg h2]
      exact h
  · rw [dif_neg h1] at h
    simp only [spec_Both16.j4, if_pos (show (i : Int) ≥ (l.length : Int) by omega)]
    exact h
theorem spec_both_l {a b : List (List Int)} (ha : Rows16 a) (hb : Rows16 b) (h2 : max a.length b.length ≤ 200) (d : Nat) : ∀ (i : Nat) (s : R16), i + d = max a.length b.length → Few16 (2 * i) s →
    Ev (fun k => spec_Both16.l0 k a b s.2.2.2.1 s.2.2.2.2 (i : Int) s.1 s.2.1 s.2.2.1) (out16 (bothP a b d i s)) := by
  induction d with
  | zero =>
    intro i s h _
    refine ev_succ ?_
    simp only [spec_Both16.l0, if_neg (show ¬ ((i : Int) < (a.length : Int)) by omega), decide_eq_false (show ¬ ((i : Int) < (b.length : Int)) by omega)]
    refine ev_succ ?_
    simp only [spec_Both16.j2, Bool.false_eq_true, if_false]
    exact ev_now _
  | succ d ih =>
    intro i s h hs
    have f1 := take16P_few ha i hs
    have f2 := take16P_few hb i f1
    have hk := ih (i + 1) (take16P b i (take16P a i s)) (by omega) (by rw [show 2 * (i + 1) = 2 * i + 1 + 1 by omega]; exact f2)
    have go : Ev (fun k => spec_Both16.l1 k a b s.2.2.2.1 s.2.2.2.2 (i : Int) 0 s.1 s.2.1 s.2.2.1) (out16 (bothP a b (d + 1) i s)) := by
      refine ev_succ ?_
      simp only [spec_Both16.l1, if_pos (show (0 : Int) < 2 by omega), if_neg (show ¬ ((0 : Int) = 1) by omega)]
      refine spec_both_take ha a b i 0 s (by have := hs.1; omega) _ ?_
      refine ev_succ ?_
      rw [show wrap64 (((0 : Nat) : Int) + 1) = 1 from w64 (by omega) (by omega)]
      simp only [spec_Both16.l1, if_pos (show (1 : Int) < 2 by omega), if_true]
      refine spec_both_take hb a b i 1 (take16P a i s) (by have := f1.1; omega) _ ?_
      refine ev_succ ?_
      rw [show wrap64 (((1 : Nat) : Int) + 1) = 2 from w64 (by omega) (by omega)]
      simp only [spec_Both16.l1, if_neg (show ¬ ((2 : Int) < 2) by omega), w64s i (by omega)]
      exact hk
    have j2 : Ev (fun k => spec_Both16.j2 k a b s.2.2.2.1 s.2.2.2.2 (i : Int) true s.1 s.2.1 s.2.2.1) (out16 (bothP a b (d + 1) i s)) := by
      refine ev_succ ?_
      simp only [spec_Both16.j2, if_true]
      exact go
    refine ev_succ ?_
    by_cases c : (i : Int) < (a.length : Int)
    · simp only [spec_Both16.l0, if_pos c]
      exact j2
    · simp only [spec_Both16.l0, if_neg c, decide_eq_true (show (i : Int) < (b.length : Int) by omega)]
      exact j2
theorem spec_Both16_ev {a b : List (List Int)} (ha : Rows16 a) (hb : Rows16 b) (x0 x1 x2 : Int) : Ev (fun k => spec_Both16.f k x0 x1 x2 a b) (both16 a b x0 x1 x2) := by
  unfold both16
  simp only [spec_Both16.f, Option.bind_some]
  have stop : Ev (fun k => spec_Both16.j0 k a b [] 0 true x0 x1 x2) ([], 0, x0, x1, x2) := by
    refine ev_succ ?_
    simp only [spec_Both16.j0, if_true]
    exact ev_now _
  by_cases h1 : (a.length : Int) > 200
  · simp only [if_pos h1, if_pos (Or.inl h1 : (a.length : Int) > 200 ∨ (b.length : Int) > 200)]; exact stop
  · by_cases h2 : (b.length : Int) > 200
    · simp only [if_neg h1, decide_eq_true h2, if_pos (Or.inr h2 : (a.length : Int) > 200 ∨ (b.length : Int) > 200)]; exact stop
    · simp only [if_neg h1, decide_eq_false h2, if_neg (show ¬ ((a.length : Int) > 200 ∨ (b.length : Int) > 200) by omega)]
      refine ev_succ ?_
      simp only [spec_Both16.j0, Bool.false_eq_true, if_false]
      exact spec_both_l ha hb (by omega) (max a.length b.length) 0 (x0, x1, x2, [], 0) (by omega) ⟨by simp, by simp⟩
/-! Rows of words. -/
def Few41 (xs : List S41) : Prop := xs.length ≤ 400 ∧ ∀ w ∈ xs, w.f2.length ≤ 1048576
theorem rdW {xs : List S41} {i : Nat} (h : i < xs.length) : rd_T41 xs (i : Int) = xs[i] := by simp [rd_T41, List.getD_eq_getElem?_getD, h]
theorem eqWord16S_self {xs : List S41} (hx : Few41 xs) : Ev (fun k => laws_eqWord16S.f k xs xs) true := by
  simp only [laws_eqWord16S.f, if_true]
  have loop : ∀ (d i : Nat), i + d = xs.length → Ev (fun k => laws_eqWord16S.l0 k xs xs (i : Int)) true := by
    intro d
    induction d with
    | zero =>
      intro i h
      refine ev_succ ?_
      simp only [laws_eqWord16S.l0, if_neg (show ¬ ((i : Int) < (xs.length : Int)) by omega)]
      exact ev_now _
    | succ d ih =>
      intro i h
      have hi : i < xs.length := by omega
      have hl := hx.1
      have hw := hx.2 _ (List.getElem_mem hi)
      refine ev_succ ?_
      simp only [laws_eqWord16S.l0, if_pos (show ((i : Int) < (xs.length : Int)) by omega), if_pos (show (0 : Int) ≤ (i : Int) by omega), rdW hi, w64s i (by omega)]
      refine (eqWord16_self _ _ _ (by omega)).bind ?_
      simp only [if_true]
      exact ih (i + 1) (by omega)
  exact loop xs.length 0 (by omega)
def wlen (xs : List S41) : Nat := (xs.map fun w => w.f2.length + 2).sum
def wmarks : Int → List S41 → List S41
  | _, [] => []
  | a, w :: r => ⟨a, a + 1, marks (fun x => x % 256) (a + 2) w.f2.length⟩ :: wmarks (a + ((w.f2.length + 2 : Nat) : Int)) r
theorem wmarks_len (xs : List S41) : ∀ a, (wmarks a xs).length = xs.length := by
  induction xs with
  | nil => intro a; rfl
  | cons w r ih => intro a; simp only [wmarks, List.length_cons, ih]
theorem wlen_le {xs : List S41} (h : ∀ w ∈ xs, w.f2.length ≤ 1048576) : wlen xs ≤ 1048578 * xs.length := by
  induction xs with
  | nil => simp [wlen]
  | cons w r ih =>
    have a := ih (fun w hw => h w (by simp [hw]))
    have b := h w (by simp)
    simp only [wlen, List.map_cons, List.sum_cons, List.length_cons] at a ⊢
    omega
theorem drop_set_next {xs : List S41} {i : Nat} {w : S41} : (xs.set i w).drop (i + 1) = xs.drop (i + 1) := by rw [List.drop_set_of_lt (by omega)]
theorem take_set_next {xs : List S41} {i : Nat} {w : S41} (h : i < xs.length) : (xs.set i w).take (i + 1) = xs.take i ++ [w] := by
  rw [List.take_succ_eq_append_getElem (by simpa using h), List.take_set_of_le (by omega)]
  simp
theorem markWord16S_l (d : Nat) : ∀ (i : Nat) (xs : List S41) (a : Int), i + d = xs.length → xs.length ≤ 400 → (∀ w ∈ xs.drop i, w.f2.length ≤ 1048576) → 0 ≤ a → a + (wlen (xs.drop i) : Int) ≤ 4611686018427387904 →
    Ev (fun k => laws_markWord16S.l0 k xs a (i : Int)) (a + (wlen (xs.drop i) : Int), xs.take i ++ wmarks a (xs.drop i)) := by
  induction d with
  | zero =>
    intro i xs a h hl hw h0 h1
    refine ev_succ ?_
    simp only [laws_markWord16S.l0, if_neg (show ¬ ((i : Int) < (xs.length : Int)) by omega)]
    refine ev_some ?_
    rw [List.drop_of_length_le (by omega), List.take_of_length_le (by omega)]
    simp [wlen, wmarks]
  | succ d ih =>
    intro i xs a h hl hw h0 h1
    have hi : i < xs.length := by omega
    have hd : xs.drop i = xs[i] :: xs.drop (i + 1) := List.drop_eq_getElem_cons hi
    have hwi := hw (xs[i]) (by rw [hd]; exact List.mem_cons_self)
    have hwl : wlen (xs.drop i) = ((xs[i]).f2.length + 2) + wlen (xs.drop (i + 1)) := by rw [hd]; simp only [wlen, List.map_cons, List.sum_cons]
    rw [hwl] at h1
    have e1 : wrap64 (a + 1) = a + 1 := w64 (by omega) (by omega)
    have e2 : wrap64 (wrap64 (a + 1) + 1) = a + 2 := by rw [e1, w64 (by omega) (by omega)]; omega
    obtain ⟨w, hwe⟩ : ∃ w : S41, w = ⟨a, a + 1, marks (fun x => x % 256) (a + 2) (xs[i]).f2.length⟩ := ⟨_, rfl⟩
    have hk := ih (i + 1) (xs.set i w) (a + (((xs[i]).f2.length + 2 : Nat) : Int)) (by simp; omega) (by simpa using hl) (by
      rw [drop_set_next]
      intro w' hm
      exact hw w' (by rw [hd]; exact List.mem_cons_of_mem _ hm)) (by omega) (by rw [drop_set_next]; omega)
    rw [drop_set_next, take_set_next hi] at hk
    refine ev_succ ?_
    simp only [laws_markWord16S.l0, if_pos (show ((i : Int) < (xs.length : Int)) by omega), if_pos (show (0 : Int) ≤ (i : Int) by omega), rdW hi, e1, e2, w64s i (by omega), Int.toNat_natCast]
    rw [show wrap64 (a + 1 + 1) = a + 2 from by rw [w64 (by omega) (by omega)]; omega]
    refine (markByteS_ev (xs[i]).f2 (a + 2) (by omega) (by omega) (by omega)).bind ?_
    simp only
    rw [← hwe, hwl, hd, wmarks, ← hwe]
    rw [show a + 2 + (((xs[i]).f2.length : Nat) : Int) = a + (((xs[i]).f2.length + 2 : Nat) : Int) by omega]
    refine ev_val hk ?_
    rw [List.append_assoc]
    simp only [List.singleton_append, Prod.mk.injEq, and_true]
    omega
theorem markWord16S_ev {xs : List S41} (hx : Few41 xs) : Ev (fun k => laws_markWord16S.f k xs 1) (1 + (wlen xs : Int), wmarks 1 xs) := by
  have hl := hx.1
  have hw := wlen_le hx.2
  have := markWord16S_l xs.length 0 xs 1 (by omega) hx.1 (by simpa using hx.2) (by omega) (by rw [List.drop_zero]; omega)
  simpa [laws_markWord16S.f] using this
theorem heldWord16S_l (xs : List S41) : ∀ (i : Nat) (ys : List S41) (a : Int), ys.length ≤ 400 → ys.drop i = wmarks a xs → (∀ w ∈ xs, w.f2.length ≤ 1048576) → 0 ≤ a → a + (wlen xs : Int) ≤ 4611686018427387904 →
    Ev (fun k => laws_heldWord16S.l0 k ys a (i : Int)) (a + (wlen xs : Int)) := by
  induction xs with
  | nil =>
    intro i ys a hl hd _ h0 h1
    have : ys.length ≤ i := by
      have h := congrArg List.length hd
      simp [wmarks] at h
      omega
    refine ev_succ ?_
    simp only [laws_heldWord16S.l0, if_neg (show ¬ ((i : Int) < (ys.length : Int)) by omega)]
    exact ev_some (by simp [wlen])
  | cons w r ih =>
    intro i ys a hl hd hw h0 h1
    have hi : i < ys.length := by
      have h := congrArg List.length hd
      simp [wmarks] at h
      omega
    rw [List.drop_eq_getElem_cons hi, wmarks] at hd
    injection hd with hd1 hd2
    have hwi := hw w (by simp)
    have hwl : wlen (w :: r) = (w.f2.length + 2) + wlen r := by simp [wlen]
    rw [hwl] at h1
    have e1 : wrap64 (a + 1) = a + 1 := w64 (by omega) (by omega)
    have e2 : wrap64 (a + 1 + 1) = a + 2 := by rw [w64 (by omega) (by omega)]; omega
    have hk := ih (i + 1) ys (a + ((w.f2.length + 2 : Nat) : Int)) hl hd2 (fun w hm => hw w (by simp [hm])) (by omega) (by omega)
    refine ev_succ ?_
    simp only [laws_heldWord16S.l0, if_pos (show ((i : Int) < (ys.length : Int)) by omega), if_pos (show (0 : Int) ≤ (i : Int) by omega), rdW hi, hd1, if_true, e1, e2, w64s i (by omega)]
    refine (heldByteS_ev w.f2.length (a + 2) (by omega) (by omega) (by omega)).bind ?_
    simp only [if_neg (show ¬ (a + 2 + (w.f2.length : Int) < 0) by omega)]
    rw [show a + 2 + (w.f2.length : Int) = a + ((w.f2.length + 2 : Nat) : Int) by omega]
    exact ev_val hk (by rw [hwl]; omega)
theorem heldWord16S_ev {xs : List S41} (hx : Few41 xs) : Ev (fun k => laws_heldWord16S.f k (wmarks 1 xs) 1) (1 + (wlen xs : Int)) := by
  have hl := hx.1
  have hw := wlen_le hx.2
  have := heldWord16S_l xs 0 (wmarks 1 xs) 1 (by rw [wmarks_len]; exact hl) (by rw [List.drop_zero]) hx.2 (by omega) (by omega)
  simpa [laws_heldWord16S.f] using this
theorem eqReceiver_self (a b c : Int) : laws_eqReceiver.f a b c a b c = some true := by simp [laws_eqReceiver.f]
theorem FnExactBoth16 (a0_0 : Int) (a0_1 : Int) (a0_2 : Int) (l1 : List (List (Int))) (l2 : List (List (Int))) (g0 : ((Lit.int .i64 a0_0).wf = true ∧ (Lit.int .i64 a0_1).wf = true ∧ (Lit.int .i64 a0_2).wf = true)) (g1 : (l1.length * 24 ≤ 140737488351232 ∧ ∀ x ∈ l1, (x.length * 1 ≤ 140737488351232 ∧ ∀ yx ∈ x, (Lit.int .u8 yx).wf = true))) (g2 : (l2.length * 24 ≤ 140737488351232 ∧ ∀ x ∈ l2, (x.length * 1 ≤ 140737488351232 ∧ ∀ yx ∈ x, (Lit.int .u8 yx).wf = true))) : ∃ k, laws_FnExactBoth16.f k a0_0 a0_1 a0_2 l1 l2 = some true := by
  have hn1 : l1.length ≤ 11728124029610 := by have := g1.1; omega
  have hn2 : l2.length ≤ 11728124029610 := by have := g2.1; omega
  have hx1 : ∀ x ∈ l1, x.length ≤ 140737488355328 := fun x hx => by have := (g1.2 x hx).1; omega
  have hx2 : ∀ x ∈ l2, x.length ≤ 140737488355328 := fun x hx => by have := (g2.2 x hx).1; omega
  refine Ev.rounds ?_
  simp only [laws_FnExactBoth16.f]
  obtain ⟨v, hv, hr⟩ := szByteSS_ev l1 1048576 (by omega) (by omega) (by omega) hx1
  refine hv.bind ?_
  by_cases hs : v < 0
  · simp only [if_pos hs]; exact ev_now _
  simp only [if_neg hs]
  have hr := hr.resolve_left hs
  obtain ⟨u, hu, hq⟩ := szByteSS_ev l2 v hr.1 (by omega) (by omega) hx2
  refine hu.bind ?_
  by_cases ht : u < 0
  · simp only [if_pos ht]; exact ev_now _
  simp only [if_neg ht]
  have hq := hq.resolve_left ht
  have R1 : Rows16 l1 := ⟨by omega, fun r hm => ⟨by have := len_le_sum hm; omega, fun x hx => wf_u8 ((g1.2 r hm).2 x hx)⟩⟩
  have R2 : Rows16 l2 := ⟨by omega, fun r hm => ⟨by have := len_le_sum hm; omega, fun x hx => wf_u8 ((g2.2 r hm).2 x hx)⟩⟩
  have hF := both16_few R1 R2 a0_0 a0_1 a0_2
  have hsp := spec_Both16_ev R1 R2 a0_0 a0_1 a0_2
  have him := impl_Both16_ev R1 R2 a0_0 a0_1 a0_2
  have t1 := toByteSS_ev l1 hn1 hx1
  have t2 := toByteSS_ev l2 hn2 hx2
  simp only [laws_toReceiver.f, Option.bind_some]
  refine t1.bind ?_
  refine t2.bind ?_
  refine hsp.bind ?_
  refine t1.bind ?_
  refine t2.bind ?_
  refine him.bind ?_
  have eqs := eqWord16S_self hF
  refine eqs.bind ?_
  simp only [if_true, eqReceiver_self, Option.bind_some, Bool.not_true]
  refine ev_succ ?_
  simp only [laws_FnExactBoth16.j0, Bool.false_eq_true, if_false]
  refine t1.bind ?_
  refine (eqByteSS_self l1 (by omega) hx1).bind ?_
  simp only [if_true]
  refine t2.bind ?_
  refine (eqByteSS_self l2 (by omega) hx2).bind ?_
  simp only [if_true]
  obtain ⟨ys1, hm1⟩ := markByteSS_ev l1 1 (by omega) hx1 (by omega) (by omega)
  refine hm1.bind ?_
  obtain ⟨ys2, hm2⟩ := markByteSS_ev l2 (1 + ((l1.map List.length).sum : Nat)) (by omega) hx2 (by omega) (by omega)
  refine hm2.bind ?_
  simp only [if_neg (show ¬ ((1 : Int) + ((l1.map List.length).sum : Nat) + ((l2.map List.length).sum : Nat) < 0) by omega)]
  refine eqs.bind ?_
  simp only [if_true, eqReceiver_self, Option.bind_some, Bool.not_true]
  refine ev_succ ?_
  simp only [laws_FnExactBoth16.j1, Bool.false_eq_true, if_false]
  refine (markWord16S_ev hF).bind ?_
  refine (heldWord16S_ev hF).bind ?_
  simp only [if_neg (show ¬ ((1 : Int) + (wlen (both16 l1 l2 a0_0 a0_1 a0_2).1 : Int) < 0) by omega), if_true, laws_toReceiver.f, Option.bind_some]
  refine t1.bind ?_
  refine t2.bind ?_
  refine him.bind ?_
  refine eqs.bind ?_
  simp only [if_true, eqReceiver_self, Option.bind_some, Bool.not_true]
  refine ev_succ ?_
  simp only [laws_FnExactBoth16.j2, Bool.false_eq_true, if_false]
  refine (heldWord16S_ev hF).bind ?_
  simp only [if_neg (show ¬ ((1 : Int) + (wlen (both16 l1 l2 a0_0 a0_1 a0_2).1 : Int) < 0) by omega), if_true]
  exact ev_now _
end Go.Proofs.Ytcdniegjefejcaa.Pure
