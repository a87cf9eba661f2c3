/- The program's Same20 answers as the reference's at every argument. No condition. -/
import Derived.Test.YtaaelkbkmgnciaaPFnExactSame20x6
import Derived.Test.YtaaelkbkmgnciaaBase
set_option linter.unusedVariables false
set_option linter.unusedSimpArgs false
namespace Go.Proofs.Ytaaelkbkmgnciaa.Pure
open Go.RowKit Go.Proofs.Ytaaelkbkmgnciaa.PFnExactSame20 Go.Proofs.Ytaaelkbkmgnciaa.Base Go.Proofs.YtaaelkbkmgnciaaW.PrintWords Go.Proofs.YtaaelkbkmgnciaaW.PrintLast
theorem impl_in_eq (a b c : Int) : impl_in.f a b c = some (inB a b c) := in_form a b c
theorem spec_in_eq (a b c : Int) : spec_l1In.f a b c = some (inB a b c) := in_form a b c
theorem impl_allIn_l (b c : Int) (xs : List Int) (hn : xs.length < 4611686018427387904) (d : Nat) : ∀ i : Nat, i + d = xs.length →
    Ev (fun k => impl_allIn.l0 k b c xs (xs.length : Int) (i : Int)) (allB (xs.drop i) b c) := by
  induction d with
  | zero =>
    intro i h
    refine ev_succ ?_
    simp only [impl_allIn.l0, if_neg (show ¬ ((i : Int) < (xs.length : Int)) by omega)]
    rw [List.drop_of_length_le (by omega)]
    exact ev_now _
  | succ d ih =>
    intro i h
    refine ev_succ ?_
    simp only [impl_allIn.l0, if_pos (show ((i : Int) < (xs.length : Int)) by omega), if_pos (show (0 : Int) ≤ (i : Int) by omega), impl_in_eq, Option.bind_some, w64s i (by omega)]
    rw [drop_rd (show i < xs.length by omega)]
    cases hb : inB (rd xs (i : Int)) b c with
    | true => simpa [allB, hb] using ih (i + 1) (by omega)
    | false => simpa [allB, hb] using ev_now false
theorem impl_allIn_ev (b c : Int) (xs : List Int) (hn : xs.length < 4611686018427387904) : Ev (fun k => impl_allIn.f k xs b c) (allB xs b c) := by
  simpa [impl_allIn.f] using impl_allIn_l b c xs hn xs.length 0 (by omega)
theorem spec_l1All_l (b c : Int) (xs : List Int) (hn : xs.length < 4611686018427387904) (d : Nat) : ∀ i : Nat, i + d = xs.length →
    Ev (fun k => spec_l1All.l0 k xs b c (i : Int)) (allB (xs.drop i) b c) := by
  induction d with
  | zero =>
    intro i h
    refine ev_succ ?_
    simp only [spec_l1All.l0, if_neg (show ¬ ((i : Int) < (xs.length : Int)) by omega)]
    rw [List.drop_of_length_le (by omega)]
    exact ev_now _
  | succ d ih =>
    intro i h
    refine ev_succ ?_
    simp only [spec_l1All.l0, if_pos (show ((i : Int) < (xs.length : Int)) by omega), if_pos (show (0 : Int) ≤ (i : Int) by omega), spec_in_eq, Option.bind_some, w64s i (by omega)]
    rw [drop_rd (show i < xs.length by omega)]
    cases hb : inB (rd xs (i : Int)) b c with
    | true => simpa [allB, hb] using ih (i + 1) (by omega)
    | false => simpa [allB, hb] using ev_now false
theorem spec_l1All_ev (b c : Int) (xs : List Int) (hn : xs.length < 4611686018427387904) : Ev (fun k => spec_l1All.f k xs b c) (allB xs b c) := by
  simpa [spec_l1All.f] using spec_l1All_l b c xs hn xs.length 0 (by omega)
/-! The helpers of the laws over IntS. -/
theorem szIntS_eq (xs : List Int) (left : Int) (h0 : 0 ≤ left) (h1 : left ≤ 1048576) (hn : xs.length ≤ 140737488355328) : laws_szIntS.f xs left = some (if left - (xs.length : Int) < 0 then -1 else left - (xs.length : Int)) := by
  unfold laws_szIntS.f
  rw [w64 (by omega) (by omega)]
  split <;> rfl
theorem toIntS_l (xs : List Int) (hn : xs.length ≤ 17592186044416) (d : Nat) : ∀ i : Nat, i + d = xs.length →
    Ev (fun k => laws_toIntS.l0 k xs (xs.take i ++ List.replicate (xs.length - i) 0) (i : Int)) xs := by
  induction d with
  | zero =>
    intro i h
    refine ev_succ ?_
    simp only [laws_toIntS.l0, if_neg (show ¬ ((i : Int) < (xs.length : Int)) by omega)]
    exact ev_some (by rw [List.take_of_length_le (by omega), show xs.length - i = 0 by omega]; simp)
  | succ d ih =>
    intro i h
    refine ev_succ ?_
    have hl : ((xs.take i ++ List.replicate (xs.length - i) (0 : Int)).length : Int) = (xs.length : Int) := by simp; omega
    simp only [laws_toIntS.l0, if_pos (show ((i : Int) < (xs.length : Int)) by omega), if_pos (show (0 : Int) ≤ (i : Int) by omega), hl, w64s i (by omega), Int.toNat_natCast, take_set (show i < xs.length by omega)]
    exact ih (i + 1) (by omega)
theorem toIntS_ev (xs : List Int) (hn : xs.length ≤ 17592186044416) : Ev (fun k => laws_toIntS.f k xs) xs := by
  simp only [laws_toIntS.f, if_pos (show (0 : Int) ≤ (xs.length : Int) by omega), Int.toNat_natCast, if_pos (show xs.length ≤ 35184372088832 by omega)]
  simpa using toIntS_l xs hn xs.length 0 (by omega)
theorem eqIntS_l (xs ys : List Int) (hn : xs.length ≤ 140737488355328) (hl : ys.length = xs.length) (d : Nat) : ∀ i : Nat, i + d = xs.length →
    Ev (fun k => laws_eqIntS.l0 k xs ys (i : Int)) (decide (xs.drop i = ys.drop i)) := by
  induction d with
  | zero =>
    intro i h
    refine ev_succ ?_
    simp only [laws_eqIntS.l0, if_neg (show ¬ ((i : Int) < (xs.length : Int)) by omega)]
    exact ev_some (by rw [List.drop_of_length_le (by omega), List.drop_of_length_le (by omega)]; rfl)
  | succ d ih =>
    intro i h
    refine ev_succ ?_
    simp only [laws_eqIntS.l0, if_pos (show ((i : Int) < (xs.length : Int)) by omega), if_pos (show (0 : Int) ≤ (i : Int) by omega), hl, w64s i (by omega)]
    rw [drop_rd (show i < xs.length by omega), drop_rd (show i < ys.length by omega)]
    by_cases e : rd xs (i : Int) = rd ys (i : Int)
    · simp only [if_pos e]
      simpa [e] using ih (i + 1) (by omega)
    · simp only [if_neg e]
      exact ev_some (by simp [e])
theorem eqIntS_ev (xs ys : List Int) (hn : xs.length ≤ 140737488355328) : Ev (fun k => laws_eqIntS.f k xs ys) (decide (xs = ys)) := by
  unfold laws_eqIntS.f
  by_cases hl : ys.length = xs.length
  · simp only [if_pos (show (xs.length : Int) = (ys.length : Int) by omega)]
    simpa using eqIntS_l xs ys hn hl xs.length 0 (by omega)
  · simp only [if_neg (show ¬ (xs.length : Int) = (ys.length : Int) by omega)]
    exact ev_some (by
      have : ¬ xs = ys := fun e => hl (by rw [e])
      simp [this])
theorem eqIntS_self (xs : List Int) (hn : xs.length ≤ 140737488355328) : Ev (fun k => laws_eqIntS.f k xs xs) true := by simpa using eqIntS_ev xs xs hn
/-! The helpers over slices of slices: IntSS. -/
theorem rdIntSS {xs : List (List Int)} {i : Nat} (h : i < xs.length) : rd_L1 xs (i : Int) = xs[i] := by
  simp [rd_L1, List.getD_eq_getElem?_getD, h]
theorem szIntSS_l (xs : List (List Int)) (hn : xs.length ≤ 140737488355328) (hx : ∀ x ∈ xs, x.length ≤ 140737488355328) (d : Nat) : ∀ (i : Nat) (left : Int), i + d = xs.length → 0 ≤ left → left ≤ 1048576 →
    ∃ v, Ev (fun k => laws_szIntSS.l0 k xs left (i : Int)) v ∧ (v < 0 ∨ (0 ≤ v ∧ v + (((xs.drop i).map List.length).sum : Nat) = left)) := by
  induction d with
  | zero =>
    intro i left h h0 h1
    refine ⟨left, ev_succ ?_, .inr ⟨h0, ?_⟩⟩
    · simp only [laws_szIntSS.l0, if_neg (show ¬ ((i : Int) < (xs.length : Int)) by omega)]
      exact ev_now _
    · rw [List.drop_of_length_le (by omega)]; simp
  | succ d ih =>
    intro i left h h0 h1
    have hlt : i < xs.length := by omega
    have hxi := hx _ (List.getElem_mem hlt)
    by_cases hs : left - ((xs[i]).length : Int) < 0
    · refine ⟨-1, ev_succ ?_, .inl (by omega)⟩
      simp only [laws_szIntSS.l0, if_pos (show ((i : Int) < (xs.length : Int)) by omega), if_pos (show (0 : Int) ≤ (i : Int) by omega), rdIntSS hlt, szIntS_eq _ left h0 h1 hxi, if_pos hs, Option.bind_some, if_pos (show (-1 : Int) < 0 by omega)]
      exact ev_now _
    · obtain ⟨v, hv, hr⟩ := ih (i + 1) (left - ((xs[i]).length : Int)) (by omega) (by omega) (by omega)
      refine ⟨v, ev_succ ?_, ?_⟩
      · simp only [laws_szIntSS.l0, if_pos (show ((i : Int) < (xs.length : Int)) by omega), if_pos (show (0 : Int) ≤ (i : Int) by omega), rdIntSS hlt, szIntS_eq _ left h0 h1 hxi, if_neg hs, Option.bind_some, w64s i (by omega)]
        exact hv
      · rcases hr with hr | ⟨hr0, hr⟩
        · exact .inl hr
        · refine .inr ⟨hr0, ?_⟩
          rw [List.drop_eq_getElem_cons hlt, List.map_cons, List.sum_cons]
          omega
theorem szIntSS_ev (xs : List (List Int)) (left : Int) (h0 : 0 ≤ left) (h1 : left ≤ 1048576) (hn : xs.length ≤ 140737488355328) (hx : ∀ x ∈ xs, x.length ≤ 140737488355328) :
    ∃ v, Ev (fun k => laws_szIntSS.f k xs left) v ∧ (v < 0 ∨ (0 ≤ v ∧ v + (xs.length : Int) + ((xs.map List.length).sum : Nat) = left)) := by
  simp only [laws_szIntSS.f]
  rw [w64 (by omega) (by omega)]
  by_cases hs : left - (xs.length : Int) < 0
  · simp only [if_pos hs]
    exact ⟨-1, ev_now _, .inl (by omega)⟩
  · simp only [if_neg hs]
    obtain ⟨v, hv, hr⟩ := szIntSS_l xs hn hx xs.length 0 (left - (xs.length : Int)) (by omega) (by omega) (by omega)
    refine ⟨v, hv, ?_⟩
    rcases hr with hr | ⟨hr0, hr⟩
    · exact .inl hr
    · rw [List.drop_zero] at hr
      exact .inr ⟨hr0, by omega⟩
theorem len_le_sum {xs : List (List Int)} {x : List Int} (h : x ∈ xs) : x.length ≤ (xs.map List.length).sum := by
  induction xs with
  | nil => simp at h
  | cons y ys ih =>
    rw [List.map_cons, List.sum_cons]
    rcases List.mem_cons.1 h with rfl | h
    · omega
    · have := ih h; omega
theorem toIntSS_l (xs : List (List Int)) (hn : xs.length ≤ 11728124029610) (hx : ∀ x ∈ xs, x.length ≤ 17592186044416) (d : Nat) : ∀ i : Nat, i + d = xs.length →
    Ev (fun k => laws_toIntSS.l0 k xs (xs.take i ++ List.replicate (xs.length - i) []) (i : Int)) xs := by
  induction d with
  | zero =>
    intro i h
    refine ev_succ ?_
    simp only [laws_toIntSS.l0, if_neg (show ¬ ((i : Int) < (xs.length : Int)) by omega)]
    exact ev_some (by rw [List.take_of_length_le (by omega), show xs.length - i = 0 by omega]; simp)
  | succ d ih =>
    intro i h
    refine ev_succ ?_
    have hlt : i < xs.length := by omega
    have hl : ((xs.take i ++ List.replicate (xs.length - i) ([] : List Int)).length : Int) = (xs.length : Int) := by simp; omega
    have hs := take_setG (xs := xs) (c := fun x => x) hlt ([] : List Int)
    simp only [List.map_id'] at hs
    simp only [laws_toIntSS.l0, if_pos (show ((i : Int) < (xs.length : Int)) by omega), if_pos (show (0 : Int) ≤ (i : Int) by omega), hl, w64s i (by omega), Int.toNat_natCast, rdIntSS hlt]
    refine (toIntS_ev _ (hx _ (List.getElem_mem hlt))).bind ?_
    rw [hs]
    exact ih (i + 1) (by omega)
theorem toIntSS_ev (xs : List (List Int)) (hn : xs.length ≤ 11728124029610) (hx : ∀ x ∈ xs, x.length ≤ 17592186044416) : Ev (fun k => laws_toIntSS.f k xs) xs := by
  simp only [laws_toIntSS.f, if_pos (show (0 : Int) ≤ (xs.length : Int) by omega), Int.toNat_natCast, if_pos hn]
  simpa using toIntSS_l xs hn hx xs.length 0 (by omega)
theorem eqIntSS_l (xs : List (List Int)) (hn : xs.length ≤ 140737488355328) (hx : ∀ x ∈ xs, x.length ≤ 140737488355328) (d : Nat) : ∀ i : Nat, i + d = xs.length →
    Ev (fun k => laws_eqIntSS.l0 k xs xs (i : Int)) true := by
  induction d with
  | zero =>
    intro i h
    refine ev_succ ?_
    simp only [laws_eqIntSS.l0, if_neg (show ¬ ((i : Int) < (xs.length : Int)) by omega)]
    exact ev_now _
  | succ d ih =>
    intro i h
    refine ev_succ ?_
    have hlt : i < xs.length := by omega
    simp only [laws_eqIntSS.l0, if_pos (show ((i : Int) < (xs.length : Int)) by omega), if_pos (show (0 : Int) ≤ (i : Int) by omega), w64s i (by omega), rdIntSS hlt]
    refine (eqIntS_self _ (hx _ (List.getElem_mem hlt))).bind ?_
    simp only [if_true]
    exact ih (i + 1) (by omega)
theorem eqIntSS_self (xs : List (List Int)) (hn : xs.length ≤ 140737488355328) (hx : ∀ x ∈ xs, x.length ≤ 140737488355328) : Ev (fun k => laws_eqIntSS.f k xs xs) true := by
  simp only [laws_eqIntSS.f, if_true]
  simpa using eqIntSS_l xs hn hx xs.length 0 (by omega)
/-- A row fits its record. -/
def rowB (n : Nat) (r : List Int) : Bool := decide ((r.length : Int) = (n : Int)) && (inB (r.length : Int) 1 8 && allB r (-30000) 30000)
def recordB (rows : List (List Int)) : Bool := rows.all (rowB (rows.getD 0 []).length) && decide ((rows.length : Int) ≤ 200)
theorem recordB_in {rows : List (List Int)} (h : recordB rows = true) : rows.length ≤ 200 ∧ ∀ r ∈ rows, r.length = (rows.getD 0 []).length ∧ (1 ≤ r.length ∧ r.length ≤ 8) ∧ ∀ x ∈ r, -30000 ≤ x ∧ x ≤ 30000 := by
  simp only [recordB, Bool.and_eq_true, List.all_eq_true, decide_eq_true_eq, rowB, inB_iff, allB_iff] at h
  refine ⟨by omega, fun r hr => ?_⟩
  obtain ⟨h1, h2, h3⟩ := h.1 r hr
  exact ⟨by omega, by omega, h3⟩
theorem impl_RecordOk_l (rows : List (List Int)) (hn : rows.length ≤ 140737488355328) (hx : ∀ x ∈ rows, x.length ≤ 140737488355328) (d : Nat) : ∀ i : Nat, i + d = rows.length →
    Ev (fun k => impl_RecordOk.l0 k rows rows (rows.length : Int) (i : Int)) ((rows.drop i).all (rowB (rows.getD 0 []).length) && decide ((rows.length : Int) ≤ 200)) := by
  induction d with
  | zero =>
    intro i h
    refine ev_succ ?_
    simp only [impl_RecordOk.l0, if_neg (show ¬ ((i : Int) < (rows.length : Int)) by omega)]
    exact ev_some (by rw [List.drop_of_length_le (by omega)]; simp)
  | succ d ih =>
    intro i h
    refine ev_succ ?_
    have hlt : i < rows.length := by omega
    have hxi := hx _ (List.getElem_mem hlt)
    have e0 : rd_L1 rows 0 = rows.getD 0 [] := rfl
    rw [List.drop_eq_getElem_cons hlt, List.all_cons]
    simp only [impl_RecordOk.l0, if_pos (show ((i : Int) < (rows.length : Int)) by omega), if_pos (show (0 : Int) ≤ (i : Int) by omega), if_pos (show (0 : Int) < (rows.length : Int) by omega), rdIntSS hlt, e0, impl_in_eq, Option.bind_some, w64s i (by omega)]
    have hi := ih (i + 1) (by omega)
    generalize rows[i] = r at *
    generalize (rows.getD 0 []).length = n0 at *
    rw [show rowB n0 r = (decide ((r.length : Int) = (n0 : Int)) && (inB (r.length : Int) 1 8 && allB r (-30000) 30000)) from rfl]
    by_cases c1 : (r.length : Int) = (n0 : Int)
    · simp only [if_pos c1, decide_eq_true c1, Bool.true_and]
      cases c2 : inB (r.length : Int) 1 8 with
      | false => simpa using ev_now false
      | true =>
        simp only [if_true, Bool.true_and]
        refine (impl_allIn_ev (-30000) 30000 r (by omega)).bind ?_
        cases c3 : allB r (-30000) 30000 with
        | false => simpa using ev_now false
        | true => simpa only [if_true, Bool.true_and] using hi
    · simp only [if_neg c1, decide_eq_false c1, Bool.false_and]
      exact ev_now _
theorem impl_RecordOk_ev (rows : List (List Int)) (hn : rows.length ≤ 140737488355328) (hx : ∀ x ∈ rows, x.length ≤ 140737488355328) : Ev (fun k => impl_RecordOk.f k rows) (recordB rows) := by
  simpa [impl_RecordOk.f, recordB] using impl_RecordOk_l rows hn hx rows.length 0 (by omega)
theorem spec_RecordOk_l (rows : List (List Int)) (hn : rows.length ≤ 140737488355328) (hx : ∀ x ∈ rows, x.length ≤ 140737488355328) (d : Nat) : ∀ i : Nat, i + d = rows.length →
    Ev (fun k => spec_RecordOk.l0 k rows (i : Int)) ((rows.drop i).all (rowB (rows.getD 0 []).length) && decide ((rows.length : Int) ≤ 200)) := by
  induction d with
  | zero =>
    intro i h
    refine ev_succ ?_
    simp only [spec_RecordOk.l0, if_neg (show ¬ ((i : Int) < (rows.length : Int)) by omega)]
    exact ev_some (by rw [List.drop_of_length_le (by omega)]; simp)
  | succ d ih =>
    intro i h
    refine ev_succ ?_
    have hlt : i < rows.length := by omega
    have hxi := hx _ (List.getElem_mem hlt)
    have e0 : rd_L1 rows 0 = rows.getD 0 [] := rfl
    rw [List.drop_eq_getElem_cons hlt, List.all_cons]
    simp only [spec_RecordOk.l0, if_pos (show ((i : Int) < (rows.length : Int)) by omega), if_pos (show (0 : Int) ≤ (i : Int) by omega), if_pos (show (0 : Int) < (rows.length : Int) by omega), rdIntSS hlt, e0, spec_in_eq, Option.bind_some, w64s i (by omega)]
    have hi := ih (i + 1) (by omega)
    generalize rows[i] = r at *
    generalize (rows.getD 0 []).length = n0 at *
    rw [show rowB n0 r = (decide ((r.length : Int) = (n0 : Int)) && (inB (r.length : Int) 1 8 && allB r (-30000) 30000)) from rfl]
    by_cases c1 : (r.length : Int) = (n0 : Int)
    · simp only [if_pos c1, decide_eq_true c1, Bool.true_and]
      cases c2 : inB (r.length : Int) 1 8 with
      | false => simpa using ev_now false
      | true =>
        simp only [if_true, Bool.true_and]
        refine (spec_l1All_ev (-30000) 30000 r (by omega)).bind ?_
        cases c3 : allB r (-30000) 30000 with
        | false => simpa using ev_now false
        | true => simpa only [if_true, Bool.true_and] using hi
    · simp only [if_neg c1, decide_eq_false c1, Bool.false_and]
      exact ev_now _
theorem spec_RecordOk_ev (rows : List (List Int)) (hn : rows.length ≤ 140737488355328) (hx : ∀ x ∈ rows, x.length ≤ 140737488355328) : Ev (fun k => spec_RecordOk.f k rows) (recordB rows) := by
  simpa [spec_RecordOk.f, recordB] using spec_RecordOk_l rows hn hx rows.length 0 (by omega)
/-- Where two rows differ first, from column k on. -/
def rowDiff : List Int → List Int → Int → Option Int
  | [], [], _ => none
  | [], _ :: _, k => some k
  | _ :: _, [], k => some k
  | x :: r, y :: s, k => if x = y then rowDiff r s (k + 1) else some k
/-- Where two records differ first, from row i on. -/
def sameL : List (List Int) → List (List Int) → Int → Int × Int × Bool
  | [], [], _ => (-1, -1, true)
  | [], _ :: _, i => (i, 0, false)
  | _ :: _, [], i => (i, 0, false)
  | r :: a, s :: b, i => match rowDiff r s 0 with
    | some k => (i, k, false)
    | none => sameL a b (i + 1)
def same20 (a b : List (List Int)) : Int × Int × Bool := if recordB a = true ∧ recordB b = true then sameL a b 0 else (-2, -2, false)
theorem rowDiff_left {r s : List Int} {k : Nat} (h1 : r.length ≤ k) (h2 : k < s.length) : rowDiff (r.drop k) (s.drop k) (k : Int) = some (k : Int) := by
  rw [List.drop_of_length_le h1, List.drop_eq_getElem_cons h2]
  rfl
theorem rowDiff_right {r s : List Int} {k : Nat} (h1 : k < r.length) (h2 : s.length ≤ k) : rowDiff (r.drop k) (s.drop k) (k : Int) = some (k : Int) := by
  rw [List.drop_of_length_le h2, List.drop_eq_getElem_cons h1]
  rfl
theorem rowDiff_end {r s : List Int} {k : Nat} (h1 : r.length ≤ k) (h2 : s.length ≤ k) : rowDiff (r.drop k) (s.drop k) (k : Int) = none := by
  rw [List.drop_of_length_le h2, List.drop_of_length_le h1]
  rfl
theorem rowDiff_both {r s : List Int} {k : Nat} (h1 : k < r.length) (h2 : k < s.length) : rowDiff (r.drop k) (s.drop k) (k : Int) = if rd r (k : Int) = rd s (k : Int) then rowDiff (r.drop (k + 1)) (s.drop (k + 1)) ((k + 1 : Nat) : Int) else some (k : Int) := by
  rw [drop_rd h1, drop_rd h2]
  rfl
/-- What a row's look leads to. -/
def rowEnd (i : Int) (R : Int × Int × Bool) : Option Int → Int × Int × Bool
  | some k => (i, k, false)
  | none => R
theorem sameL_both {a b : List (List Int)} {i : Nat} (h1 : i < a.length) (h2 : i < b.length) : sameL (a.drop i) (b.drop i) (i : Int) = rowEnd (i : Int) (sameL (a.drop (i + 1)) (b.drop (i + 1)) ((i + 1 : Nat) : Int)) (rowDiff (a[i]) (b[i]) 0) := by
  rw [List.drop_eq_getElem_cons h1, List.drop_eq_getElem_cons h2]
  rw [show ∀ (r s : List Int) (x y : List (List Int)) (j : Int), sameL (r :: x) (s :: y) j = (match rowDiff r s 0 with | some k => (j, k, false) | none => sameL x y (j + 1)) from fun _ _ _ _ _ => rfl]
  cases rowDiff a[i] b[i] 0 <;> rfl
theorem sameL_left {a b : List (List Int)} {i : Nat} (h1 : a.length ≤ i) (h2 : i < b.length) : sameL (a.drop i) (b.drop i) (i : Int) = ((i : Int), 0, false) := by
  rw [List.drop_of_length_le h1, List.drop_eq_getElem_cons h2]
  rfl
theorem sameL_right {a b : List (List Int)} {i : Nat} (h1 : i < a.length) (h2 : b.length ≤ i) : sameL (a.drop i) (b.drop i) (i : Int) = ((i : Int), 0, false) := by
  rw [List.drop_of_length_le h2, List.drop_eq_getElem_cons h1]
  rfl
theorem sameL_end {a b : List (List Int)} {i : Nat} (h1 : a.length ≤ i) (h2 : b.length ≤ i) : sameL (a.drop i) (b.drop i) (i : Int) = (-1, -1, true) := by
  rw [List.drop_of_length_le h2, List.drop_of_length_le h1]
  rfl
theorem mx_nat (a b : Nat) : mx (a : Int) (b : Int) = ((max a b : Nat) : Int) := by unfold mx; split <;> omega
theorem impl_Same20_l1 (a b : List (List Int)) (i : Nat) (N : Int) (h1 : i < a.length) (h2 : i < b.length) (hl1 : (a[i]).length ≤ 1000) (hl2 : (b[i]).length ≤ 1000) (R : Int × Int × Bool)
    (hR : Ev (fun k => impl_Same20.l0 k a b N (wrap64 ((i : Int) + 1))) R) (d : Nat) : ∀ q : Nat, q + d = max (a[i]).length (b[i]).length →
    Ev (fun k => impl_Same20.l1 k a b (i : Int) N (i : Int) (mx ((a[i]).length : Int) ((b[i]).length : Int)) (q : Int)) (rowEnd (i : Int) R (rowDiff ((a[i]).drop q) ((b[i]).drop q) (q : Int))) := by
  rw [mx_nat]
  induction d with
  | zero =>
    intro q hq
    refine ev_succ ?_
    rw [rowDiff_end (by omega) (by omega)]
    simp only [impl_Same20.l1, if_neg (show ¬ ((q : Int) < ((max (a[i]).length (b[i]).length : Nat) : Int)) by omega)]
    exact hR
  | succ d ih =>
    intro q hq
    refine ev_succ ?_
    simp only [impl_Same20.l1, if_pos (show ((q : Int) < ((max (a[i]).length (b[i]).length : Nat) : Int)) by omega), if_pos (show (0 : Int) ≤ (i : Int) by omega), if_pos (show (0 : Int) ≤ (q : Int) by omega), if_pos (show (i : Int) < (a.length : Int) by omega), if_pos (show (i : Int) < (b.length : Int) by omega), rdIntSS h1, rdIntSS h2, w64s q (by omega)]
    by_cases c1 : q < (a[i]).length
    · by_cases c2 : q < (b[i]).length
      · rw [rowDiff_both c1 c2]
        simp only [if_neg (show ¬ (q : Int) ≥ ((a[i]).length : Int) by omega), if_neg (show ¬ (q : Int) ≥ ((b[i]).length : Int) by omega), if_pos (show (q : Int) < ((a[i]).length : Int) by omega), if_pos (show (q : Int) < ((b[i]).length : Int) by omega)]
        by_cases e : rd (a[i]) (q : Int) = rd (b[i]) (q : Int)
        · simp only [if_pos e]
          exact ih (q + 1) (by omega)
        · simp only [if_neg e]
          exact ev_now _
      · rw [rowDiff_right c1 (by omega)]
        simp only [if_neg (show ¬ (q : Int) ≥ ((a[i]).length : Int) by omega), if_pos (show (q : Int) ≥ ((b[i]).length : Int) by omega)]
        exact ev_now _
    · rw [rowDiff_left (by omega) (by omega)]
      simp only [if_pos (show (q : Int) ≥ ((a[i]).length : Int) by omega)]
      exact ev_now _
theorem impl_Same20_l0 (a b : List (List Int)) (ha : recordB a = true) (hb : recordB b = true) (d : Nat) : ∀ i : Nat, i + d = max a.length b.length →
    Ev (fun k => impl_Same20.l0 k a b (mx (a.length : Int) (b.length : Int)) (i : Int)) (sameL (a.drop i) (b.drop i) (i : Int)) := by
  have ra := recordB_in ha
  have rb := recordB_in hb
  rw [mx_nat]
  induction d with
  | zero =>
    intro i hi
    refine ev_succ ?_
    rw [sameL_end (by omega) (by omega)]
    simp only [impl_Same20.l0, if_neg (show ¬ ((i : Int) < ((max a.length b.length : Nat) : Int)) by omega)]
    exact ev_now _
  | succ d ih =>
    intro i hi
    refine ev_succ ?_
    simp only [impl_Same20.l0, if_pos (show ((i : Int) < ((max a.length b.length : Nat) : Int)) by omega)]
    by_cases c1 : i < a.length
    · by_cases c2 : i < b.length
      · have la := (ra.2 _ (List.getElem_mem c1)).2.1
        have lb := (rb.2 _ (List.getElem_mem c2)).2.1
        rw [sameL_both c1 c2]
        simp only [if_neg (show ¬ (i : Int) ≥ (a.length : Int) by omega), show decide ((i : Int) ≥ (b.length : Int)) = false from decide_eq_false (by omega)]
        refine ev_succ ?_
        simp only [impl_Same20.j2, Bool.false_eq_true, if_false, if_pos (show (0 : Int) ≤ (i : Int) by omega), if_pos (show (i : Int) < (a.length : Int) by omega), if_pos (show (i : Int) < (b.length : Int) by omega), rdIntSS c1, rdIntSS c2]
        have := impl_Same20_l1 a b i ((max a.length b.length : Nat) : Int) c1 c2 (by omega) (by omega) _ (by rw [w64s i (by omega)]; exact ih (i + 1) (by omega)) (max (a[i]).length (b[i]).length) 0 (by omega)
        simpa using this
      · rw [sameL_right c1 (by omega)]
        simp only [if_neg (show ¬ (i : Int) ≥ (a.length : Int) by omega), show decide ((i : Int) ≥ (b.length : Int)) = true from decide_eq_true (by omega)]
        refine ev_succ ?_
        simp only [impl_Same20.j2, if_true]
        exact ev_now _
    · rw [sameL_left (by omega) (by omega)]
      simp only [if_pos (show (i : Int) ≥ (a.length : Int) by omega)]
      refine ev_succ ?_
      simp only [impl_Same20.j2, if_true]
      exact ev_now _
theorem impl_Same20_ev (a b : List (List Int)) (hn : a.length ≤ 140737488355328) (hx : ∀ x ∈ a, x.length ≤ 140737488355328) (hn' : b.length ≤ 140737488355328) (hx' : ∀ x ∈ b, x.length ≤ 140737488355328) : Ev (fun k => impl_Same20.f k a b) (same20 a b) := by
  simp only [impl_Same20.f]
  refine (impl_RecordOk_ev a hn hx).bind ?_
  unfold same20
  have hno : Ev (fun k => impl_Same20.j0 k a b true) (-2, -2, false) := by
    refine ev_succ ?_
    simp only [impl_Same20.j0, if_true]
    exact ev_now _
  by_cases ha : recordB a = true
  · simp only [if_pos ha]
    refine (impl_RecordOk_ev b hn' hx').bind ?_
    by_cases hb : recordB b = true
    · rw [if_pos ⟨ha, hb⟩, hb]
      refine ev_succ ?_
      simp only [impl_Same20.j0, Bool.not_true, Bool.false_eq_true, if_false]
      simpa using impl_Same20_l0 a b ha hb (max a.length b.length) 0 (by omega)
    · rw [if_neg (fun h => hb h.2), show recordB b = false by simpa using hb]
      exact hno
  · simp only [if_neg ha]
    rw [if_neg (fun h => ha h.1)]
    exact hno
theorem spec_Same20_l1 (a b : List (List Int)) (i : Nat) (h1 : i < a.length) (h2 : i < b.length) (hl1 : (a[i]).length ≤ 1000) (hl2 : (b[i]).length ≤ 1000) (R : Int × Int × Bool)
    (hR : Ev (fun k => spec_Same20.l0 k a b (wrap64 ((i : Int) + 1))) R) (d : Nat) : ∀ q : Nat, q + d = max (a[i]).length (b[i]).length →
    Ev (fun k => spec_Same20.l1 k a b (i : Int) (q : Int)) (rowEnd (i : Int) R (rowDiff ((a[i]).drop q) ((b[i]).drop q) (q : Int))) := by
  induction d with
  | zero =>
    intro q hq
    refine ev_succ ?_
    rw [rowDiff_end (by omega) (by omega)]
    simp only [spec_Same20.l1, if_pos (show (0 : Int) ≤ (i : Int) by omega), if_pos (show (i : Int) < (a.length : Int) by omega), if_pos (show (i : Int) < (b.length : Int) by omega), rdIntSS h1, rdIntSS h2, if_neg (show ¬ (q : Int) < ((a[i]).length : Int) by omega), show decide ((q : Int) < ((b[i]).length : Int)) = false from decide_eq_false (by omega)]
    refine ev_succ ?_
    simp only [spec_Same20.j5, Bool.false_eq_true, if_false]
    exact hR
  | succ d ih =>
    intro q hq
    have go : ∀ r, Ev (fun k => spec_Same20.j5 k a b (i : Int) (q : Int) true) r → Ev (fun k => spec_Same20.l1 k a b (i : Int) (q : Int)) r := by
      intro r hr
      refine ev_succ ?_
      simp only [spec_Same20.l1, if_pos (show (0 : Int) ≤ (i : Int) by omega), if_pos (show (i : Int) < (a.length : Int) by omega), if_pos (show (i : Int) < (b.length : Int) by omega), rdIntSS h1, rdIntSS h2]
      by_cases c : (q : Int) < ((a[i]).length : Int)
      · simp only [if_pos c]; exact hr
      · simp only [if_neg c, show decide ((q : Int) < ((b[i]).length : Int)) = true from decide_eq_true (by omega)]; exact hr
    refine go _ (ev_succ ?_)
    simp only [spec_Same20.j5, if_true, if_pos (show (0 : Int) ≤ (i : Int) by omega), if_pos (show (0 : Int) ≤ (q : Int) by omega), if_pos (show (i : Int) < (a.length : Int) by omega), if_pos (show (i : Int) < (b.length : Int) by omega), rdIntSS h1, rdIntSS h2, w64s q (by omega)]
    by_cases c1 : q < (a[i]).length
    · by_cases c2 : q < (b[i]).length
      · rw [rowDiff_both c1 c2]
        simp only [if_neg (show ¬ (q : Int) ≥ ((a[i]).length : Int) by omega), if_neg (show ¬ (q : Int) ≥ ((b[i]).length : Int) by omega), if_pos (show (q : Int) < ((a[i]).length : Int) by omega), if_pos (show (q : Int) < ((b[i]).length : Int) by omega)]
        by_cases e : rd (a[i]) (q : Int) = rd (b[i]) (q : Int)
        · simp only [if_pos e]
          exact ih (q + 1) (by omega)
        · simp only [if_neg e]
          exact ev_now _
      · rw [rowDiff_right c1 (by omega)]
        simp only [if_neg (show ¬ (q : Int) ≥ ((a[i]).length : Int) by omega), if_pos (show (q : Int) ≥ ((b[i]).length : Int) by omega)]
        exact ev_now _
    · rw [rowDiff_left (by omega) (by omega)]
      simp only [if_pos (show (q : Int) ≥ ((a[i]).length : Int) by omega)]
      exact ev_now _
theorem spec_Same20_l0 (a b : List (List Int)) (ha : recordB a = true) (hb : recordB b = true) (d : Nat) : ∀ i : Nat, i + d = max a.length b.length →
    Ev (fun k => spec_Same20.l0 k a b (i : Int)) (sameL (a.drop i) (b.drop i) (i : Int)) := by
  have ra := recordB_in ha
  have rb := recordB_in hb
  induction d with
  | zero =>
    intro i hi
    refine ev_succ ?_
    rw [sameL_end (by omega) (by omega)]
    simp only [spec_Same20.l0, if_neg (show ¬ ((i : Int) < (a.length : Int)) by omega), show decide ((i : Int) < (b.length : Int)) = false from decide_eq_false (by omega)]
    refine ev_succ ?_
    simp only [spec_Same20.j2, Bool.false_eq_true, if_false]
    exact ev_now _
  | succ d ih =>
    intro i hi
    have go : ∀ r, Ev (fun k => spec_Same20.j2 k a b (i : Int) true) r → Ev (fun k => spec_Same20.l0 k a b (i : Int)) r := by
      intro r hr
      refine ev_succ ?_
      simp only [spec_Same20.l0]
      by_cases c : (i : Int) < (a.length : Int)
      · simp only [if_pos c]; exact hr
      · simp only [if_neg c, show decide ((i : Int) < (b.length : Int)) = true from decide_eq_true (by omega)]; exact hr
    refine go _ (ev_succ ?_)
    simp only [spec_Same20.j2, if_true]
    by_cases c1 : i < a.length
    · by_cases c2 : i < b.length
      · have la := (ra.2 _ (List.getElem_mem c1)).2.1
        have lb := (rb.2 _ (List.getElem_mem c2)).2.1
        rw [sameL_both c1 c2]
        simp only [if_neg (show ¬ (i : Int) ≥ (a.length : Int) by omega), show decide ((i : Int) ≥ (b.length : Int)) = false from decide_eq_false (by omega)]
        refine ev_succ ?_
        simp only [spec_Same20.j3, Bool.false_eq_true, if_false]
        have := spec_Same20_l1 a b i c1 c2 (by omega) (by omega) _ (by rw [w64s i (by omega)]; exact ih (i + 1) (by omega)) (max (a[i]).length (b[i]).length) 0 (by omega)
        simpa using this
      · rw [sameL_right c1 (by omega)]
        simp only [if_neg (show ¬ (i : Int) ≥ (a.length : Int) by omega), show decide ((i : Int) ≥ (b.length : Int)) = true from decide_eq_true (by omega)]
        refine ev_succ ?_
        simp only [spec_Same20.j3, if_true]
        exact ev_now _
    · rw [sameL_left (by omega) (by omega)]
      simp only [if_pos (show (i : Int) ≥ (a.length : Int) by omega)]
      refine ev_succ ?_
      simp only [spec_Same20.j3, if_true]
      exact ev_now _
theorem spec_Same20_ev (a b : List (List Int)) (hn : a.length ≤ 140737488355328) (hx : ∀ x ∈ a, x.length ≤ 140737488355328) (hn' : b.length ≤ 140737488355328) (hx' : ∀ x ∈ b, x.length ≤ 140737488355328) : Ev (fun k => spec_Same20.f k a b) (same20 a b) := by
  simp only [spec_Same20.f]
  refine (spec_RecordOk_ev a hn hx).bind ?_
  unfold same20
  have hno : Ev (fun k => spec_Same20.j0 k a b true) (-2, -2, false) := by
    refine ev_succ ?_
    simp only [spec_Same20.j0, if_true]
    exact ev_now _
  by_cases ha : recordB a = true
  · simp only [if_pos ha]
    refine (spec_RecordOk_ev b hn' hx').bind ?_
    by_cases hb : recordB b = true
    · rw [if_pos ⟨ha, hb⟩, hb]
      refine ev_succ ?_
      simp only [spec_Same20.j0, Bool.not_true, Bool.false_eq_true, if_false]
      simpa using spec_Same20_l0 a b ha hb (max a.length b.length) 0 (by omega)
    · rw [if_neg (fun h => hb h.2), show recordB b = false by simpa using hb]
      exact hno
  · simp only [if_neg ha]
    rw [if_neg (fun h => ha h.1)]
    exact hno
theorem FnExactSame20 (l0 : List (List (Int))) (l1 : List (List (Int))) (g0 : (l0.length * 24 ≤ 140737488351232 ∧ ∀ x ∈ l0, (x.length * 8 ≤ 140737488351232 ∧ ∀ yx ∈ x, (Lit.int .i64 yx).wf = true))) (g1 : (l1.length * 24 ≤ 140737488351232 ∧ ∀ x ∈ l1, (x.length * 8 ≤ 140737488351232 ∧ ∀ yx ∈ x, (Lit.int .i64 yx).wf = true))) : ∃ k, laws_FnExactSame20.f k l0 l1 = some true := by
  have hn : l0.length ≤ 11728124029610 := by omega
  have hx : ∀ x ∈ l0, x.length ≤ 17592186044416 := fun x hx => by have := (g0.2 x hx).1; omega
  have hx' : ∀ x ∈ l0, x.length ≤ 140737488355328 := fun x h => by have := hx x h; omega
  have kn : l1.length ≤ 11728124029610 := by omega
  have kx : ∀ x ∈ l1, x.length ≤ 17592186044416 := fun x hx => by have := (g1.2 x hx).1; omega
  have kx' : ∀ x ∈ l1, x.length ≤ 140737488355328 := fun x h => by have := kx x h; omega
  refine Ev.rounds ?_
  simp only [laws_FnExactSame20.f]
  obtain ⟨v, hv, hr⟩ := szIntSS_ev l0 1048576 (by omega) (by omega) (by omega) hx'
  refine hv.bind ?_
  by_cases hs : v < 0
  · simp only [if_pos hs]
    exact ev_now _
  · simp only [if_neg hs]
    obtain ⟨v', hv', _⟩ := szIntSS_ev l1 v (by omega) (by omega) (by omega) kx'
    refine hv'.bind ?_
    by_cases hs' : v' < 0
    · simp only [if_pos hs']
      exact ev_now _
    · simp only [if_neg hs']
      refine (toIntSS_ev l0 hn hx).bind ?_
      refine (toIntSS_ev l1 kn kx).bind ?_
      refine (spec_Same20_ev l0 l1 (by omega) hx' (by omega) kx').bind ?_
      refine (toIntSS_ev l0 hn hx).bind ?_
      refine (toIntSS_ev l1 kn kx).bind ?_
      refine (impl_Same20_ev l0 l1 (by omega) hx' (by omega) kx').bind ?_
      simp only [if_true]
      refine ev_succ ?_
      simp only [laws_FnExactSame20.j0, bne_self_eq_false, Bool.false_eq_true, if_false]
      refine (toIntSS_ev l0 hn hx).bind ?_
      refine (eqIntSS_self l0 (by omega) hx').bind ?_
      simp only [if_true]
      refine (toIntSS_ev l1 kn kx).bind ?_
      exact (eqIntSS_self l1 (by omega) kx').bind (f := fun _ t => if t = true then some true else some false) (ev_now _)
end Go.Proofs.Ytaaelkbkmgnciaa.Pure
