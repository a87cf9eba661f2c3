/- The program's Events20 answers as the reference's at every argument. No condition. -/
import Derived.Test.YtaaelkbkmgnciaaPFnExactEvents20x5
import Derived.Test.YtaaelkbkmgnciaaBase
set_option linter.unusedVariables false
set_option linter.unusedSimpArgs false
namespace Go.Proofs.Ytaaelkbkmgnciaa.Pure
open Go.RowKit Go.Proofs.Ytaaelkbkmgnciaa.PFnExactEvents20 Go.Proofs.Ytaaelkbkmgnciaa.Base Go.Proofs.YtaaelkbkmgnciaaW.PrintWords Go.Proofs.YtaaelkbkmgnciaaW.PrintLast
theorem impl_in_eq (a b c : Int) : impl_in.f a b c = some (inB a b c) := in_form a b c
theorem spec_in_eq (a b c : Int) : spec_l1In.f a b c = some (inB a b c) := in_form a b c
theorem impl_allIn_l (b c : Int) (xs : List Int) (hn : xs.length < 4611686018427387904) (d : Nat) : ∀ i : Nat, i + d = xs.length →
    Ev (fun k => impl_allIn.l0 k b c xs (xs.length : Int) (i : Int)) (allB (xs.drop i) b c) := by
  induction d with
  | zero =>
    intro i h
    refine ev_succ ?_
    simp only [impl_allIn.l0, if_neg (show ¬ ((i : Int) < (xs.length : Int)) by omega)]
    rw [List.drop_of_length_le (by omega)]
    exact ev_now _
  | succ d ih =>
    intro i h
    refine ev_succ ?_
    simp only [impl_allIn.l0, if_pos (show ((i : Int) < (xs.length : Int)) by omega), if_pos (show (0 : Int) ≤ (i : Int) by omega), impl_in_eq, Option.bind_some, w64s i (by omega)]
    rw [drop_rd (show i < xs.length by omega)]
    cases hb : inB (rd xs (i : Int)) b c with
    | true => simpa [allB, hb] using ih (i + 1) (by omega)
    | false => simpa [allB, hb] using ev_now false
theorem impl_allIn_ev (b c : Int) (xs : List Int) (hn : xs.length < 4611686018427387904) : Ev (fun k => impl_allIn.f k xs b c) (allB xs b c) := by
  simpa [impl_allIn.f] using impl_allIn_l b c xs hn xs.length 0 (by omega)
theorem spec_l1All_l (b c : Int) (xs : List Int) (hn : xs.length < 4611686018427387904) (d : Nat) : ∀ i : Nat, i + d = xs.length →
    Ev (fun k => spec_l1All.l0 k xs b c (i : Int)) (allB (xs.drop i) b c) := by
  induction d with
  | zero =>
    intro i h
    refine ev_succ ?_
    simp only [spec_l1All.l0, if_neg (show ¬ ((i : Int) < (xs.length : Int)) by omega)]
    rw [List.drop_of_length_le (by omega)]
    exact ev_now _
  | succ d ih =>
    intro i h
    refine ev_succ ?_
    simp only [spec_l1All.l0, if_pos (show ((i : Int) < (xs.length : Int)) by omega), if_pos (show (0 : Int) ≤ (i : Int) by omega), spec_in_eq, Option.bind_some, w64s i (by omega)]
    rw [drop_rd (show i < xs.length by omega)]
    cases hb : inB (rd xs (i : Int)) b c with
    | true => simpa [allB, hb] using ih (i + 1) (by omega)
    | false => simpa [allB, hb] using ev_now false
theorem spec_l1All_ev (b c : Int) (xs : List Int) (hn : xs.length < 4611686018427387904) : Ev (fun k => spec_l1All.f k xs b c) (allB xs b c) := by
  simpa [spec_l1All.f] using spec_l1All_l b c xs hn xs.length 0 (by omega)
/-! The helpers of the laws over IntS. -/
theorem szIntS_eq (xs : List Int) (left : Int) (h0 : 0 ≤ left) (h1 : left ≤ 1048576) (hn : xs.length ≤ 140737488355328) : laws_szIntS.f xs left = some (if left - (xs.length : Int) < 0 then -1 else left - (xs.length : Int)) := by
  unfold laws_szIntS.f
  rw [w64 (by omega) (by omega)]
  split <;> rfl
theorem toIntS_l (xs : List Int) (hn : xs.length ≤ 17592186044416) (d : Nat) : ∀ i : Nat, i + d = xs.length →
    Ev (fun k => laws_toIntS.l0 k xs (xs.take i ++ List.replicate (xs.length - i) 0) (i : Int)) xs := by
  induction d with
  | zero =>
    intro i h
    refine ev_succ ?_
    simp only [laws_toIntS.l0, if_neg (show ¬ ((i : Int) < (xs.length : Int)) by omega)]
    exact ev_some (by rw [List.take_of_length_le (by omega), show xs.length - i = 0 by omega]; simp)
  | succ d ih =>
    intro i h
    refine ev_succ ?_
    have hl : ((xs.take i ++ List.replicate (xs.length - i) (0 : Int)).length : Int) = (xs.length : Int) := by simp; omega
    simp only [laws_toIntS.l0, if_pos (show ((i : Int) < (xs.length : Int)) by omega), if_pos (show (0 : Int) ≤ (i : Int) by omega), hl, w64s i (by omega), Int.toNat_natCast, take_set (show i < xs.length by omega)]
    exact ih (i + 1) (by omega)
theorem toIntS_ev (xs : List Int) (hn : xs.length ≤ 17592186044416) : Ev (fun k => laws_toIntS.f k xs) xs := by
  simp only [laws_toIntS.f, if_pos (show (0 : Int) ≤ (xs.length : Int) by omega), Int.toNat_natCast, if_pos (show xs.length ≤ 35184372088832 by omega)]
  simpa using toIntS_l xs hn xs.length 0 (by omega)
theorem eqIntS_l (xs ys : List Int) (hn : xs.length ≤ 140737488355328) (hl : ys.length = xs.length) (d : Nat) : ∀ i : Nat, i + d = xs.length →
    Ev (fun k => laws_eqIntS.l0 k xs ys (i : Int)) (decide (xs.drop i = ys.drop i)) := by
  induction d with
  | zero =>
    intro i h
    refine ev_succ ?_
    simp only [laws_eqIntS.l0, if_neg (show ¬ ((i : Int) < (xs.length : Int)) by omega)]
    exact ev_some (by rw [List.drop_of_length_le (by omega), List.drop_of_length_le (by omega)]; rfl)
  | succ d ih =>
    intro i h
    refine ev_succ ?_
    simp only [laws_eqIntS.l0, if_pos (show ((i : Int) < (xs.length : Int)) by omega), if_pos (show (0 : Int) ≤ (i : Int) by omega), hl, w64s i (by omega)]
    rw [drop_rd (show i < xs.length by omega), drop_rd (show i < ys.length by omega)]
    by_cases e : rd xs (i : Int) = rd ys (i : Int)
    · simp only [if_pos e]
      simpa [e] using ih (i + 1) (by omega)
    · simp only [if_neg e]
      exact ev_some (by simp [e])
theorem eqIntS_ev (xs ys : List Int) (hn : xs.length ≤ 140737488355328) : Ev (fun k => laws_eqIntS.f k xs ys) (decide (xs = ys)) := by
  unfold laws_eqIntS.f
  by_cases hl : ys.length = xs.length
  · simp only [if_pos (show (xs.length : Int) = (ys.length : Int) by omega)]
    simpa using eqIntS_l xs ys hn hl xs.length 0 (by omega)
  · simp only [if_neg (show ¬ (xs.length : Int) = (ys.length : Int) by omega)]
    exact ev_some (by
      have : ¬ xs = ys := fun e => hl (by rw [e])
      simp [this])
theorem eqIntS_self (xs : List Int) (hn : xs.length ≤ 140737488355328) : Ev (fun k => laws_eqIntS.f k xs xs) true := by simpa using eqIntS_ev xs xs hn
theorem markIntS_l (xs : List Int) (k0 : Int) (h0 : 0 ≤ k0) (h1 : k0 ≤ 4611686018427387904) (hn : xs.length ≤ 140737488355328) (d : Nat) : ∀ i : Nat, i + d = xs.length →
    Ev (fun k => laws_markIntS.l0 k (marks (fun x => x) k0 i ++ xs.drop i) (k0 + (i : Int)) (i : Int)) (k0 + (xs.length : Int), marks (fun x => x) k0 xs.length) := by
  induction d with
  | zero =>
    intro i h
    refine ev_succ ?_
    have hl : ((marks (fun x => x) k0 i ++ xs.drop i).length : Int) = (xs.length : Int) := by simp [marks_length]; omega
    simp only [laws_markIntS.l0, hl, if_neg (show ¬ ((i : Int) < (xs.length : Int)) by omega)]
    obtain rfl : i = xs.length := by omega
    exact ev_some (by rw [List.drop_length, List.append_nil])
  | succ d ih =>
    intro i h
    refine ev_succ ?_
    have hl : ((marks (fun x => x) k0 i ++ xs.drop i).length : Int) = (xs.length : Int) := by simp [marks_length]; omega
    have hs := marks_set (g := fun x => x) (k0 := k0) (show i < xs.length by omega)
    simp only [laws_markIntS.l0, hl, if_pos (show ((i : Int) < (xs.length : Int)) by omega), if_pos (show (0 : Int) ≤ (i : Int) by omega), Int.toNat_natCast, hs, w64s i (by omega), w64 (show -9223372036854775808 ≤ k0 + (i : Int) + 1 by omega) (show k0 + (i : Int) + 1 ≤ 9223372036854775807 by omega)]
    have := ih (i + 1) (by omega)
    rw [show k0 + ((i + 1 : Nat) : Int) = k0 + (i : Int) + 1 by omega] at this
    exact this
theorem markIntS_ev (xs : List Int) (k0 : Int) (h0 : 0 ≤ k0) (h1 : k0 ≤ 4611686018427387904) (hn : xs.length ≤ 140737488355328) : Ev (fun k => laws_markIntS.f k xs k0) (k0 + (xs.length : Int), marks (fun x => x) k0 xs.length) := by
  have := markIntS_l xs k0 h0 h1 hn xs.length 0 (by omega)
  simpa [laws_markIntS.f, marks_nil] using this
theorem heldIntS_l (n : Nat) (k0 : Int) (h0 : 0 ≤ k0) (h1 : k0 ≤ 4611686018427387904) (hn : n ≤ 140737488355328) (d : Nat) : ∀ i : Nat, i + d = n →
    Ev (fun k => laws_heldIntS.l0 k (marks (fun x => x) k0 n) (k0 + (i : Int)) (i : Int)) (k0 + (n : Int)) := by
  induction d with
  | zero =>
    intro i h
    refine ev_succ ?_
    simp only [laws_heldIntS.l0, marks_length, if_neg (show ¬ ((i : Int) < (n : Int)) by omega)]
    exact ev_some (by omega)
  | succ d ih =>
    intro i h
    refine ev_succ ?_
    simp only [laws_heldIntS.l0, marks_length, if_pos (show ((i : Int) < (n : Int)) by omega), if_pos (show (0 : Int) ≤ (i : Int) by omega), marks_rd (show i < n by omega), if_true, w64s i (by omega), w64 (show -9223372036854775808 ≤ k0 + (i : Int) + 1 by omega) (show k0 + (i : Int) + 1 ≤ 9223372036854775807 by omega)]
    have := ih (i + 1) (by omega)
    rw [show k0 + ((i + 1 : Nat) : Int) = k0 + (i : Int) + 1 by omega] at this
    exact this
theorem heldIntS_ev (n : Nat) (k0 : Int) (h0 : 0 ≤ k0) (h1 : k0 ≤ 4611686018427387904) (hn : n ≤ 140737488355328) : Ev (fun k => laws_heldIntS.f k (marks (fun x => x) k0 n) k0) (k0 + (n : Int)) := by
  have := heldIntS_l n k0 h0 h1 hn n 0 (by omega)
  simpa [laws_heldIntS.f] using this
/-! The helpers over slices of slices: IntSS. -/
theorem rdIntSS {xs : List (List Int)} {i : Nat} (h : i < xs.length) : rd_L1 xs (i : Int) = xs[i] := by
  simp [rd_L1, List.getD_eq_getElem?_getD, h]
theorem szIntSS_l (xs : List (List Int)) (hn : xs.length ≤ 140737488355328) (hx : ∀ x ∈ xs, x.length ≤ 140737488355328) (d : Nat) : ∀ (i : Nat) (left : Int), i + d = xs.length → 0 ≤ left → left ≤ 1048576 →
    ∃ v, Ev (fun k => laws_szIntSS.l0 k xs left (i : Int)) v ∧ (v < 0 ∨ (0 ≤ v ∧ v + (((xs.drop i).map List.length).sum : Nat) = left)) := by
  induction d with
  | zero =>
    intro i left h h0 h1
    refine ⟨left, ev_succ ?_, .inr ⟨h0, ?_⟩⟩
    · simp only [laws_szIntSS.l0, if_neg (show ¬ ((i : Int) < (xs.length : Int)) by omega)]
      exact ev_now _
    · rw [List.drop_of_length_le (by omega)]; simp
  | succ d ih =>
    intro i left h h0 h1
    have hlt : i < xs.length := by omega
    have hxi := hx _ (List.getElem_mem hlt)
    by_cases hs : left - ((xs[i]).length : Int) < 0
    · refine ⟨-1, ev_succ ?_, .inl (by omega)⟩
      simp only [laws_szIntSS.l0, if_pos (show ((i : Int) < (xs.length : Int)) by omega), if_pos (show (0 : Int) ≤ (i : Int) by omega), rdIntSS hlt, szIntS_eq _ left h0 h1 hxi, if_pos hs, Option.bind_some, if_pos (show (-1 : Int) < 0 by omega)]
      exact ev_now _
    · obtain ⟨v, hv, hr⟩ := ih (i + 1) (left - ((xs[i]).length : Int)) (by omega) (by omega) (by omega)
      refine ⟨v, ev_succ ?_, ?_⟩
      · simp only [laws_szIntSS.l0, if_pos (show ((i : Int) < (xs.length : Int)) by omega), if_pos (show (0 : Int) ≤ (i : Int) by omega), rdIntSS hlt, szIntS_eq _ left h0 h1 hxi, if_neg hs, Option.bind_some, w64s i (by omega)]
        exact hv
      · rcases hr with hr | ⟨hr0, hr⟩
        · exact .inl hr
        · refine .inr ⟨hr0, ?_⟩
          rw [List.drop_eq_getElem_cons hlt, List.map_cons, List.sum_cons]
          omega
theorem szIntSS_ev (xs : List (List Int)) (left : Int) (h0 : 0 ≤ left) (h1 : left ≤ 1048576) (hn : xs.length ≤ 140737488355328) (hx : ∀ x ∈ xs, x.length ≤ 140737488355328) :
    ∃ v, Ev (fun k => laws_szIntSS.f k xs left) v ∧ (v < 0 ∨ (0 ≤ v ∧ v + (xs.length : Int) + ((xs.map List.length).sum : Nat) = left)) := by
  simp only [laws_szIntSS.f]
  rw [w64 (by omega) (by omega)]
  by_cases hs : left - (xs.length : Int) < 0
  · simp only [if_pos hs]
    exact ⟨-1, ev_now _, .inl (by omega)⟩
  · simp only [if_neg hs]
    obtain ⟨v, hv, hr⟩ := szIntSS_l xs hn hx xs.length 0 (left - (xs.length : Int)) (by omega) (by omega) (by omega)
    refine ⟨v, hv, ?_⟩
    rcases hr with hr | ⟨hr0, hr⟩
    · exact .inl hr
    · rw [List.drop_zero] at hr
      exact .inr ⟨hr0, by omega⟩
theorem len_le_sum {xs : List (List Int)} {x : List Int} (h : x ∈ xs) : x.length ≤ (xs.map List.length).sum := by
  induction xs with
  | nil => simp at h
  | cons y ys ih =>
    rw [List.map_cons, List.sum_cons]
    rcases List.mem_cons.1 h with rfl | h
    · omega
    · have := ih h; omega
theorem toIntSS_l (xs : List (List Int)) (hn : xs.length ≤ 11728124029610) (hx : ∀ x ∈ xs, x.length ≤ 17592186044416) (d : Nat) : ∀ i : Nat, i + d = xs.length →
    Ev (fun k => laws_toIntSS.l0 k xs (xs.take i ++ List.replicate (xs.length - i) []) (i : Int)) xs := by
  induction d with
  | zero =>
    intro i h
    refine ev_succ ?_
    simp only [laws_toIntSS.l0, if_neg (show ¬ ((i : Int) < (xs.length : Int)) by omega)]
    exact ev_some (by rw [List.take_of_length_le (by omega), show xs.length - i = 0 by omega]; simp)
  | succ d ih =>
    intro i h
    refine ev_succ ?_
    have hlt : i < xs.length := by omega
    have hl : ((xs.take i ++ List.replicate (xs.length - i) ([] : List Int)).length : Int) = (xs.length : Int) := by simp; omega
    have hs := take_setG (xs := xs) (c := fun x => x) hlt ([] : List Int)
    simp only [List.map_id'] at hs
    simp only [laws_toIntSS.l0, if_pos (show ((i : Int) < (xs.length : Int)) by omega), if_pos (show (0 : Int) ≤ (i : Int) by omega), hl, w64s i (by omega), Int.toNat_natCast, rdIntSS hlt]
    refine (toIntS_ev _ (hx _ (List.getElem_mem hlt))).bind ?_
    rw [hs]
    exact ih (i + 1) (by omega)
theorem toIntSS_ev (xs : List (List Int)) (hn : xs.length ≤ 11728124029610) (hx : ∀ x ∈ xs, x.length ≤ 17592186044416) : Ev (fun k => laws_toIntSS.f k xs) xs := by
  simp only [laws_toIntSS.f, if_pos (show (0 : Int) ≤ (xs.length : Int) by omega), Int.toNat_natCast, if_pos hn]
  simpa using toIntSS_l xs hn hx xs.length 0 (by omega)
theorem eqIntSS_l (xs : List (List Int)) (hn : xs.length ≤ 140737488355328) (hx : ∀ x ∈ xs, x.length ≤ 140737488355328) (d : Nat) : ∀ i : Nat, i + d = xs.length →
    Ev (fun k => laws_eqIntSS.l0 k xs xs (i : Int)) true := by
  induction d with
  | zero =>
    intro i h
    refine ev_succ ?_
    simp only [laws_eqIntSS.l0, if_neg (show ¬ ((i : Int) < (xs.length : Int)) by omega)]
    exact ev_now _
  | succ d ih =>
    intro i h
    refine ev_succ ?_
    have hlt : i < xs.length := by omega
    simp only [laws_eqIntSS.l0, if_pos (show ((i : Int) < (xs.length : Int)) by omega), if_pos (show (0 : Int) ≤ (i : Int) by omega), w64s i (by omega), rdIntSS hlt]
    refine (eqIntS_self _ (hx _ (List.getElem_mem hlt))).bind ?_
    simp only [if_true]
    exact ih (i + 1) (by omega)
theorem eqIntSS_self (xs : List (List Int)) (hn : xs.length ≤ 140737488355328) (hx : ∀ x ∈ xs, x.length ≤ 140737488355328) : Ev (fun k => laws_eqIntSS.f k xs xs) true := by
  simp only [laws_eqIntSS.f, if_true]
  simpa using eqIntSS_l xs hn hx xs.length 0 (by omega)
theorem setGetD {xs : List (List Int)} {i : Nat} {r : List Int} (h : i < xs.length) : (xs.set i r).drop (i + 1) = xs.drop (i + 1) := by
  rw [List.drop_set_of_lt (by omega)]
theorem markIntSS_l (d : Nat) : ∀ (i : Nat) (xs : List (List Int)) (a : Int), i + d = xs.length → xs.length ≤ 140737488355328 → (∀ x ∈ xs, x.length ≤ 140737488355328) → 0 ≤ a → a + (((xs.drop i).map List.length).sum : Nat) ≤ 4611686018427387904 →
    ∃ ys, Ev (fun k => laws_markIntSS.l0 k xs a (i : Int)) (a + (((xs.drop i).map List.length).sum : Nat), ys) := by
  induction d with
  | zero =>
    intro i xs a h hn hx h0 h1
    refine ⟨xs, ev_succ ?_⟩
    simp only [laws_markIntSS.l0, if_neg (show ¬ ((i : Int) < (xs.length : Int)) by omega)]
    exact ev_some (by rw [List.drop_of_length_le (by omega)]; simp)
  | succ d ih =>
    intro i xs a h hn hx h0 h1
    have hlt : i < xs.length := by omega
    have hxi := hx _ (List.getElem_mem hlt)
    have hd : ((xs.drop i).map List.length).sum = (xs[i]).length + ((xs.drop (i + 1)).map List.length).sum := by
      rw [List.drop_eq_getElem_cons hlt, List.map_cons, List.sum_cons]
    rw [hd] at h1 ⊢
    have hs := setGetD (r := marks (fun x => x) a (xs[i]).length) hlt
    obtain ⟨ys, hy⟩ := ih (i + 1) (xs.set i (marks (fun x => x) a (xs[i]).length)) (a + ((xs[i]).length : Int)) (by rw [List.length_set]; omega) (by rw [List.length_set]; exact hn) (by
      intro x hm
      rcases List.mem_or_eq_of_mem_set hm with hm | rfl
      · exact hx x hm
      · rw [marks_length]; exact hxi) (by omega) (by rw [hs]; omega)
    rw [hs] at hy
    refine ⟨ys, ev_succ ?_⟩
    simp only [laws_markIntSS.l0, if_pos (show ((i : Int) < (xs.length : Int)) by omega), if_pos (show (0 : Int) ≤ (i : Int) by omega), rdIntSS hlt, w64s i (by omega), Int.toNat_natCast]
    refine (markIntS_ev (xs[i]) a h0 (by omega) hxi).bind ?_
    simp only
    rw [show a + (((xs[i]).length + ((xs.drop (i + 1)).map List.length).sum : Nat) : Int) = a + ((xs[i]).length : Int) + (((xs.drop (i + 1)).map List.length).sum : Nat) by omega]
    exact hy
theorem markIntSS_ev (xs : List (List Int)) (a : Int) (hn : xs.length ≤ 140737488355328) (hx : ∀ x ∈ xs, x.length ≤ 140737488355328) (h0 : 0 ≤ a) (h1 : a + ((xs.map List.length).sum : Nat) ≤ 4611686018427387904) :
    ∃ ys, Ev (fun k => laws_markIntSS.f k xs a) (a + ((xs.map List.length).sum : Nat), ys) := by
  simpa [laws_markIntSS.f] using markIntSS_l xs.length 0 xs a (by omega) hn hx h0 (by simpa using h1)
/-- A row fits its record. -/
def rowB (n : Nat) (r : List Int) : Bool := decide ((r.length : Int) = (n : Int)) && (inB (r.length : Int) 1 8 && allB r (-30000) 30000)
def recordB (rows : List (List Int)) : Bool := rows.all (rowB (rows.getD 0 []).length) && decide ((rows.length : Int) ≤ 200)
theorem recordB_in {rows : List (List Int)} (h : recordB rows = true) : rows.length ≤ 200 ∧ ∀ r ∈ rows, r.length = (rows.getD 0 []).length ∧ (1 ≤ r.length ∧ r.length ≤ 8) ∧ ∀ x ∈ r, -30000 ≤ x ∧ x ≤ 30000 := by
  simp only [recordB, Bool.and_eq_true, List.all_eq_true, decide_eq_true_eq, rowB, inB_iff, allB_iff] at h
  refine ⟨by omega, fun r hr => ?_⟩
  obtain ⟨h1, h2, h3⟩ := h.1 r hr
  exact ⟨by omega, by omega, h3⟩
theorem impl_RecordOk_l (rows : List (List Int)) (hn : rows.length ≤ 140737488355328) (hx : ∀ x ∈ rows, x.length ≤ 140737488355328) (d : Nat) : ∀ i : Nat, i + d = rows.length →
    Ev (fun k => impl_RecordOk.l0 k rows rows (rows.length : Int) (i : Int)) ((rows.drop i).all (rowB (rows.getD 0 []).length) && decide ((rows.length : Int) ≤ 200)) := by
  induction d with
  | zero =>
    intro i h
    refine ev_succ ?_
    simp only [impl_RecordOk.l0, if_neg (show ¬ ((i : Int) < (rows.length : Int)) by omega)]
    exact ev_some (by rw [List.drop_of_length_le (by omega)]; simp)
  | succ d ih =>
    intro i h
    refine ev_succ ?_
    have hlt : i < rows.length := by omega
    have hxi := hx _ (List.getElem_mem hlt)
    have e0 : rd_L1 rows 0 = rows.getD 0 [] := rfl
    rw [List.drop_eq_getElem_cons hlt, List.all_cons]
    simp only [impl_RecordOk.l0, if_pos (show ((i : Int) < (rows.length : Int)) by omega), if_pos (show (0 : Int) ≤ (i : Int) by omega), if_pos (show (0 : Int) < (rows.length : Int) by omega), rdIntSS hlt, e0, impl_in_eq, Option.bind_some, w64s i (by omega)]
    have hi := ih (i + 1) (by omega)
    generalize rows[i] = r at *
    generalize (rows.getD 0 []).length = n0 at *
    rw [show rowB n0 r = (decide ((r.length : Int) = (n0 : Int)) && (inB (r.length : Int) 1 8 && allB r (-30000) 30000)) from rfl]
    by_cases c1 : (r.length : Int) = (n0 : Int)
    · simp only [if_pos c1, decide_eq_true c1, Bool.true_and]
      cases c2 : inB (r.length : Int) 1 8 with
      | false => simpa using ev_now false
      | true =>
        simp only [if_true, Bool.true_and]
        refine (impl_allIn_ev (-30000) 30000 r (by omega)).bind ?_
        cases c3 : allB r (-30000) 30000 with
        | false => simpa using ev_now false
        | true => simpa only [if_true, Bool.true_and] using hi
    · simp only [if_neg c1, decide_eq_false c1, Bool.false_and]
      exact ev_now _
theorem impl_RecordOk_ev (rows : List (List Int)) (hn : rows.length ≤ 140737488355328) (hx : ∀ x ∈ rows, x.length ≤ 140737488355328) : Ev (fun k => impl_RecordOk.f k rows) (recordB rows) := by
  simpa [impl_RecordOk.f, recordB] using impl_RecordOk_l rows hn hx rows.length 0 (by omega)
theorem spec_RecordOk_l (rows : List (List Int)) (hn : rows.length ≤ 140737488355328) (hx : ∀ x ∈ rows, x.length ≤ 140737488355328) (d : Nat) : ∀ i : Nat, i + d = rows.length →
    Ev (fun k => spec_RecordOk.l0 k rows (i : Int)) ((rows.drop i).all (rowB (rows.getD 0 []).length) && decide ((rows.length : Int) ≤ 200)) := by
  induction d with
  | zero =>
    intro i h
    refine ev_succ ?_
    simp only [spec_RecordOk.l0, if_neg (show ¬ ((i : Int) < (rows.length : Int)) by omega)]
    exact ev_some (by rw [List.drop_of_length_le (by omega)]; simp)
  | succ d ih =>
    intro i h
    refine ev_succ ?_
    have hlt : i < rows.length := by omega
    have hxi := hx _ (List.getElem_mem hlt)
    have e0 : rd_L1 rows 0 = rows.getD 0 [] := rfl
    rw [List.drop_eq_getElem_cons hlt, List.all_cons]
    simp only [spec_RecordOk.l0, if_pos (show ((i : Int) < (rows.length : Int)) by omega), if_pos (show (0 : Int) ≤ (i : Int) by omega), if_pos (show (0 : Int) < (rows.length : Int) by omega), rdIntSS hlt, e0, spec_in_eq, Option.bind_some, w64s i (by omega)]
    have hi := ih (i + 1) (by omega)
    generalize rows[i] = r at *
    generalize (rows.getD 0 []).length = n0 at *
    rw [show rowB n0 r = (decide ((r.length : Int) = (n0 : Int)) && (inB (r.length : Int) 1 8 && allB r (-30000) 30000)) from rfl]
    by_cases c1 : (r.length : Int) = (n0 : Int)
    · simp only [if_pos c1, decide_eq_true c1, Bool.true_and]
      cases c2 : inB (r.length : Int) 1 8 with
      | false => simpa using ev_now false
      | true =>
        simp only [if_true, Bool.true_and]
        refine (spec_l1All_ev (-30000) 30000 r (by omega)).bind ?_
        cases c3 : allB r (-30000) 30000 with
        | false => simpa using ev_now false
        | true => simpa only [if_true, Bool.true_and] using hi
    · simp only [if_neg c1, decide_eq_false c1, Bool.false_and]
      exact ev_now _
theorem spec_RecordOk_ev (rows : List (List Int)) (hn : rows.length ≤ 140737488355328) (hx : ∀ x ∈ rows, x.length ≤ 140737488355328) : Ev (fun k => spec_RecordOk.f k rows) (recordB rows) := by
  simpa [spec_RecordOk.f, recordB] using spec_RecordOk_l rows hn hx rows.length 0 (by omega)
theorem rdIntSS0 {xs : List (List Int)} : rd_L1 xs 0 = xs.getD 0 [] := rfl
/-! A record's column. -/
def colOk (rows : List (List Int)) (at_ : Int) : Bool := recordB rows && (decide (0 < rows.length) && inB at_ 0 (((rows.getD 0 []).length : Int) - 1))
theorem colOk_in {rows : List (List Int)} {at_ : Int} (h : colOk rows at_ = true) : 0 < rows.length ∧ rows.length ≤ 200 ∧ ∀ i (h : i < rows.length), 0 ≤ at_ ∧ at_ < ((rows[i]).length : Int) := by
  simp only [colOk, Bool.and_eq_true, decide_eq_true_eq, inB_iff] at h
  obtain ⟨h1, h2⟩ := recordB_in h.1
  refine ⟨h.2.1, h1, fun i hi => ?_⟩
  have := (h2 _ (List.getElem_mem hi)).1
  omega
theorem impl_columnOk_ev (rows : List (List Int)) (at_ : Int) (hn : rows.length ≤ 140737488355328) (hx : ∀ x ∈ rows, x.length ≤ 140737488355328) : Ev (fun k => impl_columnOk.f k rows at_) (colOk rows at_) := by
  simp only [impl_columnOk.f]
  refine (impl_RecordOk_ev rows hn hx).bind ?_
  unfold colOk
  cases h : recordB rows with
  | false => simpa using ev_now _
  | true =>
    simp only [if_true, Bool.true_and]
    by_cases h0 : 0 < rows.length
    · have h1 : (rows.getD 0 []).length ≤ 140737488355328 := by
        rw [List.getD_eq_getElem?_getD, List.getElem?_eq_getElem h0, Option.getD_some]
        exact hx _ (List.getElem_mem h0)
      simp only [if_pos (show (rows.length : Int) > 0 by omega), if_pos (show (0 : Int) < (rows.length : Int) by omega), impl_in_eq, Option.bind_some, rdIntSS0, w64 (n := ((rows.getD 0 []).length : Int) - 1) (by omega) (by omega), h0, decide_true, Bool.true_and]
      exact ev_now _
    · simp only [if_neg (show ¬ (rows.length : Int) > 0 by omega), h0, decide_false, Bool.false_and]
      exact ev_now _
def column (rows : List (List Int)) (at_ : Int) : List Int × Bool := if colOk rows at_ = true then (rows.map (fun r => rd r at_), true) else ([], false)
theorem spec_Column_l (rows : List (List Int)) (at_ : Int) (hc : colOk rows at_ = true) (d : Nat) : ∀ i : Nat, i + d = rows.length → Ev (fun k => spec_Column.l0 k rows at_ ((rows.map (fun r => rd r at_)).take i) (i : Int)) (rows.map (fun r => rd r at_), true) := by
  obtain ⟨h0, h1, h2⟩ := colOk_in hc
  induction d with
  | zero =>
    intro i h
    refine ev_succ ?_
    simp only [spec_Column.l0, if_neg (show ¬ ((i : Int) < (rows.length : Int)) by omega)]
    exact ev_some (by rw [List.take_of_length_le (by simp; omega)])
  | succ d ih =>
    intro i h
    have hlt : i < rows.length := by omega
    have hi := ih (i + 1) (by omega)
    have h2 := h2 i hlt
    have ht : (rows.map (fun r => rd r at_)).take (i + 1) = (rows.map (fun r => rd r at_)).take i ++ [rd (rows[i]) at_] := by
      rw [List.take_succ_eq_append_getElem (by simpa using hlt), List.getElem_map]
    rw [ht] at hi
    refine ev_succ ?_
    simp only [spec_Column.l0, if_pos (show ((i : Int) < (rows.length : Int)) by omega), if_pos (show (0 : Int) ≤ (i : Int) by omega), rdIntSS hlt, if_pos h2.1, if_pos h2.2, w64s i (by omega), if_pos (show ((rows.map (fun r => rd r at_)).take i).length < 17592186044416 by simp; omega)]
    exact hi
theorem spec_Column_ev (rows : List (List Int)) (at_ : Int) (hn : rows.length ≤ 140737488355328) (hx : ∀ x ∈ rows, x.length ≤ 140737488355328) : Ev (fun k => spec_Column.f k rows at_) (column rows at_) := by
  simp only [spec_Column.f, Option.bind_some]
  refine (spec_RecordOk_ev rows hn hx).bind ?_
  have ht : Ev (fun k => spec_Column.j0 k rows at_ [] true) ([], false) := by
    refine ev_succ ?_
    simpa only [spec_Column.j0, if_true] using ev_now _
  have hf : colOk rows at_ = true → Ev (fun k => spec_Column.j0 k rows at_ [] false) (rows.map (fun r => rd r at_), true) := by
    intro hc
    refine ev_succ ?_
    simp only [spec_Column.j0, Bool.false_eq_true, if_false]
    exact spec_Column_l rows at_ hc rows.length 0 (by omega)
  unfold column
  cases h : recordB rows with
  | false => simpa [colOk, h] using ht
  | true =>
    simp only [if_true]
    by_cases h0 : 0 < rows.length
    · have h1 : (rows.getD 0 []).length ≤ 140737488355328 := by
        rw [List.getD_eq_getElem?_getD, List.getElem?_eq_getElem h0, Option.getD_some]
        exact hx _ (List.getElem_mem h0)
      simp only [if_neg (show ¬ (rows.length : Int) = 0 by omega), if_pos (show (0 : Int) < (rows.length : Int) by omega), spec_in_eq, Option.bind_some, rdIntSS0, w64 (n := ((rows.getD 0 []).length : Int) - 1) (by omega) (by omega)]
      cases h2 : inB at_ 0 (((rows.getD 0 []).length : Int) - 1) with
      | false =>
        have hc : colOk rows at_ = false := by simp only [colOk, h, h2, Bool.and_false]
        rw [hc]
        exact ht
      | true =>
        have hc : colOk rows at_ = true := by simp only [colOk, h, h2, h0, decide_true, Bool.and_self]
        rw [if_pos hc]
        exact hf hc
    · rw [if_neg (by simp [colOk, h0])]
      simp only [if_pos (show (rows.length : Int) = 0 by omega)]
      exact ht
theorem column_len (rows : List (List Int)) (at_ : Int) : (column rows at_).1.length ≤ rows.length := by
  unfold column
  split <;> simp
/-! Where a column comes above the limit. -/
def evB (vs : List Int) (lim i : Int) : Bool := decide (rd vs i > lim) && (decide (i = 0) || decide (rd vs (i - 1) ≤ lim))
def eventsFrom (vs : List Int) (lim : Int) : Nat → Nat → List Int
  | 0, _ => []
  | d + 1, i => (if evB vs lim (i : Int) = true then [(i : Int)] else []) ++ eventsFrom vs lim d (i + 1)
theorem eventsFrom_len (vs : List Int) (lim : Int) (d : Nat) : ∀ i, (eventsFrom vs lim d i).length ≤ d := by
  induction d with
  | zero => intro i; simp [eventsFrom]
  | succ d ih =>
    intro i
    have := ih (i + 1)
    unfold eventsFrom
    rw [List.length_append]
    split <;> simp <;> omega
theorem spec_Events20_l (vs : List Int) (lim : Int) (ok : Bool) (hn : vs.length ≤ 1048576) (d : Nat) : ∀ (i : Nat) (acc : List Int), i + d = vs.length → acc.length ≤ i → Ev (fun k => spec_Events20.l0 k lim vs ok acc (i : Int)) (acc ++ eventsFrom vs lim d i, ok) := by
  induction d with
  | zero =>
    intro i acc h ha
    refine ev_succ ?_
    simp only [spec_Events20.l0, if_neg (show ¬ ((i : Int) < (vs.length : Int)) by omega)]
    exact ev_some (by simp [eventsFrom])
  | succ d ih =>
    intro i acc h ha
    have hin := ih (i + 1) (acc ++ [(i : Int)]) (by omega) (by simp; omega)
    have hout := ih (i + 1) acc (by omega) (by omega)
    refine ev_succ ?_
    simp only [spec_Events20.l0, if_pos (show ((i : Int) < (vs.length : Int)) by omega), if_pos (show (0 : Int) ≤ (i : Int) by omega), w64s i (by omega), if_pos (show acc.length < 17592186044416 by omega)]
    have hin' : Ev (fun k => spec_Events20.l0 k lim vs ok (acc ++ [(i : Int)]) ((i + 1 : Nat) : Int)) (acc ++ ([(i : Int)] ++ eventsFrom vs lim d (i + 1)), ok) := by
      rw [← List.append_assoc]
      exact hin
    unfold eventsFrom
    by_cases h1 : rd vs (i : Int) > lim
    · by_cases h2 : (i : Int) = 0
      · have hev : evB vs lim (i : Int) = true := by unfold evB; rw [decide_eq_true h1, decide_eq_true h2]; rfl
        rw [hev, if_pos rfl]
        simp only [if_pos h1, if_pos h2]
        exact hin'
      · rw [w64 (n := (i : Int) - 1) (by omega) (by omega)]
        by_cases h3 : rd vs ((i : Int) - 1) ≤ lim
        · have hev : evB vs lim (i : Int) = true := by unfold evB; rw [decide_eq_true h1, decide_eq_false h2, decide_eq_true h3]; rfl
          rw [hev, if_pos rfl]
          simp only [if_pos h1, if_neg h2, if_pos h3, if_pos (show (0 : Int) ≤ (i : Int) - 1 by omega), if_pos (show (i : Int) - 1 < (vs.length : Int) by omega)]
          exact hin'
        · have hev : evB vs lim (i : Int) = false := by unfold evB; rw [decide_eq_true h1, decide_eq_false h2, decide_eq_false h3]; rfl
          rw [hev, if_neg (by decide), List.nil_append]
          simp only [if_pos h1, if_neg h2, if_neg h3, if_pos (show (0 : Int) ≤ (i : Int) - 1 by omega), if_pos (show (i : Int) - 1 < (vs.length : Int) by omega)]
          exact hout
    · have hev : evB vs lim (i : Int) = false := by unfold evB; rw [decide_eq_false h1]; rfl
      rw [hev, if_neg (by decide), List.nil_append]
      simp only [if_neg h1]
      exact hout
def events20 (rows : List (List Int)) (at_ lim : Int) : List Int × Bool := (eventsFrom (column rows at_).1 lim (column rows at_).1.length 0, (column rows at_).2)
theorem spec_Events20_ev (rows : List (List Int)) (at_ lim : Int) (hn : rows.length ≤ 1048576) (hx : ∀ x ∈ rows, x.length ≤ 140737488355328) : Ev (fun k => spec_Events20.f k rows at_ lim) (events20 rows at_ lim) := by
  simp only [spec_Events20.f]
  refine (spec_Column_ev rows at_ (by omega) hx).bind ?_
  have := spec_Events20_l (column rows at_).1 lim (column rows at_).2 (by have := column_len rows at_; omega) (column rows at_).1.length 0 [] (by omega) (by simp)
  rw [List.nil_append] at this
  exact this
theorem rd_map {rows : List (List Int)} {at_ : Int} {i : Nat} (h : i < rows.length) : rd (rows.map (fun r => rd r at_)) (i : Int) = rd (rows[i]) at_ := by
  rw [rd_nat (by simpa using h), List.getElem_map]
theorem impl_Events20_l (rows : List (List Int)) (at_ lim : Int) (hc : colOk rows at_ = true) (d : Nat) : ∀ (i : Nat) (acc : List Int), i + d = rows.length → acc.length ≤ i → Ev (fun k => impl_Events20.l0 k rows at_ lim acc rows (rows.length : Int) (i : Int)) (acc ++ eventsFrom (rows.map (fun r => rd r at_)) lim d i, true) := by
  obtain ⟨h0, hr, hat⟩ := colOk_in hc
  induction d with
  | zero =>
    intro i acc h ha
    refine ev_succ ?_
    simp only [impl_Events20.l0, if_neg (show ¬ ((i : Int) < (rows.length : Int)) by omega)]
    exact ev_some (by simp [eventsFrom])
  | succ d ih =>
    intro i acc h ha
    have hlt : i < rows.length := by omega
    have hin := ih (i + 1) (acc ++ [(i : Int)]) (by omega) (by simp; omega)
    have hout := ih (i + 1) acc (by omega) (by omega)
    have ha2 := hat i hlt
    refine ev_succ ?_
    simp only [impl_Events20.l0, if_pos (show ((i : Int) < (rows.length : Int)) by omega), if_pos (show (0 : Int) ≤ (i : Int) by omega), w64s i (by omega), if_pos (show acc.length < 17592186044416 by omega), rdIntSS hlt, if_pos ha2.1, if_pos ha2.2]
    have hin' : Ev (fun k => impl_Events20.l0 k rows at_ lim (acc ++ [(i : Int)]) rows (rows.length : Int) ((i + 1 : Nat) : Int)) (acc ++ ([(i : Int)] ++ eventsFrom (rows.map (fun r => rd r at_)) lim d (i + 1)), true) := by
      rw [← List.append_assoc]
      exact hin
    unfold eventsFrom
    have hm := rd_map (at_ := at_) hlt
    by_cases h1 : rd (rows[i]) at_ > lim
    · by_cases h2 : (i : Int) = 0
      · have hev : evB (rows.map (fun r => rd r at_)) lim (i : Int) = true := by unfold evB; rw [hm, decide_eq_true h1, decide_eq_true h2]; rfl
        rw [hev, if_pos rfl]
        simp only [if_pos h1, if_pos h2]
        exact hin'
      · obtain ⟨j, hij⟩ : ∃ j, i = j + 1 := ⟨i - 1, by omega⟩
        have hj : j < rows.length := by omega
        have ha3 := hat j hj
        have e : wrap64 ((i : Int) - 1) = (j : Int) := by rw [w64 (by omega) (by omega)]; omega
        have e' : (i : Int) - 1 = (j : Int) := by omega
        have hmj := rd_map (at_ := at_) hj
        rw [e]
        simp only [rdIntSS hj]
        by_cases h3 : rd (rows[j]) at_ ≤ lim
        · have hev : evB (rows.map (fun r => rd r at_)) lim (i : Int) = true := by unfold evB; rw [e', hm, hmj, decide_eq_true h1, decide_eq_false h2, decide_eq_true h3]; rfl
          rw [hev, if_pos rfl]
          simp only [if_pos h1, if_neg h2, if_pos h3, if_pos (show (0 : Int) ≤ (j : Int) by omega), if_pos (show (j : Int) < (rows.length : Int) by omega), if_pos ha3.2]
          exact hin'
        · have hev : evB (rows.map (fun r => rd r at_)) lim (i : Int) = false := by unfold evB; rw [e', hm, hmj, decide_eq_true h1, decide_eq_false h2, decide_eq_false h3]; rfl
          rw [hev, if_neg (by decide), List.nil_append]
          simp only [if_pos h1, if_neg h2, if_neg h3, if_pos (show (0 : Int) ≤ (j : Int) by omega), if_pos (show (j : Int) < (rows.length : Int) by omega), if_pos ha3.2]
          exact hout
    · have hev : evB (rows.map (fun r => rd r at_)) lim (i : Int) = false := by unfold evB; rw [hm, decide_eq_false h1]; rfl
      rw [hev, if_neg (by decide), List.nil_append]
      simp only [if_neg h1]
      exact hout
theorem impl_Events20_ev (rows : List (List Int)) (at_ lim : Int) (hn : rows.length ≤ 1048576) (hx : ∀ x ∈ rows, x.length ≤ 140737488355328) : Ev (fun k => impl_Events20.f k rows at_ lim) (events20 rows at_ lim) := by
  simp only [impl_Events20.f]
  refine (impl_columnOk_ev rows at_ (by omega) hx).bind ?_
  unfold events20 column
  cases h : colOk rows at_ with
  | false => simpa [eventsFrom] using ev_now _
  | true =>
    have := impl_Events20_l rows at_ lim h rows.length 0 [] (by omega) (by simp)
    rw [List.nil_append] at this
    simp only [if_true, List.length_map]
    exact this
theorem FnExactEvents20 (l0 : List (List (Int))) (a1 : Int) (a2 : Int) (g0 : (l0.length * 24 ≤ 140737488351232 ∧ ∀ x ∈ l0, (x.length * 8 ≤ 140737488351232 ∧ ∀ yx ∈ x, (Lit.int .i64 yx).wf = true))) (g1 : (Lit.int .i64 a1).wf = true) (g2 : (Lit.int .i64 a2).wf = true) : ∃ k, laws_FnExactEvents20.f k l0 a1 a2 = some true := by
  have hn : l0.length ≤ 11728124029610 := by omega
  have hx : ∀ x ∈ l0, x.length ≤ 17592186044416 := fun x hx => by have := (g0.2 x hx).1; omega
  have hx' : ∀ x ∈ l0, x.length ≤ 140737488355328 := fun x h => by have := hx x h; omega
  refine Ev.rounds ?_
  simp only [laws_FnExactEvents20.f]
  obtain ⟨v, hv, hr⟩ := szIntSS_ev l0 1048576 (by omega) (by omega) (by omega) hx'
  refine hv.bind ?_
  by_cases hs : v < 0
  · simp only [if_pos hs]
    exact ev_now _
  · simp only [if_neg hs]
    have hr := hr.resolve_left hs
    have hsp := spec_Events20_ev l0 a1 a2 (by omega) hx'
    have him := impl_Events20_ev l0 a1 a2 (by omega) hx'
    have hl : (events20 l0 a1 a2).1.length ≤ l0.length := Nat.le_trans (eventsFrom_len _ _ _ _) (column_len l0 a1)
    generalize events20 l0 a1 a2 = g at hsp him hl
    obtain ⟨xs, b⟩ := g
    simp only at hl
    obtain ⟨ys, hm⟩ := markIntSS_ev l0 1 (by omega) hx' (by omega) (by omega)
    refine (toIntSS_ev l0 hn hx).bind ?_
    refine hsp.bind ?_
    refine (toIntSS_ev l0 hn hx).bind ?_
    refine him.bind ?_
    simp only
    refine (eqIntS_self xs (by omega)).bind ?_
    simp only [if_true]
    refine ev_succ ?_
    simp only [laws_FnExactEvents20.j0, bne_self_eq_false, Bool.false_eq_true, if_false]
    refine (toIntSS_ev l0 hn hx).bind ?_
    refine (eqIntSS_self l0 (by omega) hx').bind ?_
    simp only [if_true]
    refine hm.bind ?_
    simp only [if_neg (show ¬ ((1 : Int) + ((l0.map List.length).sum : Nat) < 0) by omega)]
    refine (eqIntS_self xs (by omega)).bind ?_
    simp only [if_true]
    refine ev_succ ?_
    simp only [laws_FnExactEvents20.j1, bne_self_eq_false, Bool.false_eq_true, if_false]
    refine (markIntS_ev xs 1 (by omega) (by omega) (by omega)).bind ?_
    refine (heldIntS_ev xs.length 1 (by omega) (by omega) (by omega)).bind ?_
    simp only [if_neg (show ¬ ((1 : Int) + (xs.length : Int) < 0) by omega), if_true]
    refine (toIntSS_ev l0 hn hx).bind ?_
    refine him.bind ?_
    simp only
    refine (eqIntS_self xs (by omega)).bind ?_
    simp only [if_true]
    refine ev_succ ?_
    simp only [laws_FnExactEvents20.j2, bne_self_eq_false, Bool.false_eq_true, if_false]
    refine (heldIntS_ev xs.length 1 (by omega) (by omega) (by omega)).bind ?_
    simp only [if_neg (show ¬ ((1 : Int) + (xs.length : Int) < 0) by omega), if_true]
    exact ev_now _
end Go.Proofs.Ytaaelkbkmgnciaa.Pure
