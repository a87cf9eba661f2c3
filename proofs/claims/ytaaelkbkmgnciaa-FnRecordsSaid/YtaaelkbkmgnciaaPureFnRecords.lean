/- Drawn records come back from their bytes; bytes that are read are packed into the same bytes; one value changed is told. No condition. -/
import Derived.Test.YtaaelkbkmgnciaaPFnRecordsx9
import Derived.Test.YtaaelkbkmgnciaaBase
set_option linter.unusedVariables false
set_option linter.unusedSimpArgs false
namespace Go.Proofs.Ytaaelkbkmgnciaa.Pure
open Go.RowKit Go.Proofs.Ytaaelkbkmgnciaa.PFnRecords Go.Proofs.Ytaaelkbkmgnciaa.Base Go.Proofs.YtaaelkbkmgnciaaW.PrintWords Go.Proofs.YtaaelkbkmgnciaaW.PrintLast
theorem impl_in_eq (a b c : Int) : impl_in.f a b c = some (inB a b c) := in_form a b c
theorem spec_in_eq (a b c : Int) : spec_l1In.f a b c = some (inB a b c) := in_form a b c
theorem impl_allIn_l (b c : Int) (xs : List Int) (hn : xs.length < 4611686018427387904) (d : Nat) : ∀ i : Nat, i + d = xs.length →
    Ev (fun k => impl_allIn.l0 k b c xs (xs.length : Int) (i : Int)) (allB (xs.drop i) b c) := by
  induction d with
  | zero =>
    intro i h
    refine ev_succ ?_
    simp only [impl_allIn.l0, if_neg (show ¬ ((i : Int) < (xs.length : Int)) by omega)]
    rw [List.drop_of_length_le (by omega)]
    exact ev_now _
  | succ d ih =>
    intro i h
    refine ev_succ ?_
    simp only [impl_allIn.l0, if_pos (show ((i : Int) < (xs.length : Int)) by omega), if_pos (show (0 : Int) ≤ (i : Int) by omega), impl_in_eq, Option.bind_some, w64s i (by omega)]
    rw [drop_rd (show i < xs.length by omega)]
    cases hb : inB (rd xs (i : Int)) b c with
    | true => simpa [allB, hb] using ih (i + 1) (by omega)
    | false => simpa [allB, hb] using ev_now false
theorem impl_allIn_ev (b c : Int) (xs : List Int) (hn : xs.length < 4611686018427387904) : Ev (fun k => impl_allIn.f k xs b c) (allB xs b c) := by
  simpa [impl_allIn.f] using impl_allIn_l b c xs hn xs.length 0 (by omega)
theorem spec_l1All_l (b c : Int) (xs : List Int) (hn : xs.length < 4611686018427387904) (d : Nat) : ∀ i : Nat, i + d = xs.length →
    Ev (fun k => spec_l1All.l0 k xs b c (i : Int)) (allB (xs.drop i) b c) := by
  induction d with
  | zero =>
    intro i h
    refine ev_succ ?_
    simp only [spec_l1All.l0, if_neg (show ¬ ((i : Int) < (xs.length : Int)) by omega)]
    rw [List.drop_of_length_le (by omega)]
    exact ev_now _
  | succ d ih =>
    intro i h
    refine ev_succ ?_
    simp only [spec_l1All.l0, if_pos (show ((i : Int) < (xs.length : Int)) by omega), if_pos (show (0 : Int) ≤ (i : Int) by omega), spec_in_eq, Option.bind_some, w64s i (by omega)]
    rw [drop_rd (show i < xs.length by omega)]
    cases hb : inB (rd xs (i : Int)) b c with
    | true => simpa [allB, hb] using ih (i + 1) (by omega)
    | false => simpa [allB, hb] using ev_now false
theorem spec_l1All_ev (b c : Int) (xs : List Int) (hn : xs.length < 4611686018427387904) : Ev (fun k => spec_l1All.f k xs b c) (allB xs b c) := by
  simpa [spec_l1All.f] using spec_l1All_l b c xs hn xs.length 0 (by omega)
/-! The helpers over slices of slices: IntSS. -/
theorem rdIntSS {xs : List (List Int)} {i : Nat} (h : i < xs.length) : rd_L1 xs (i : Int) = xs[i] := by
  simp [rd_L1, List.getD_eq_getElem?_getD, h]
theorem rdIntSS0 {xs : List (List Int)} : rd_L1 xs 0 = xs.getD 0 [] := rfl
theorem rd_zeros (w : Nat) (j : Int) : rd (List.replicate w (0 : Int)) j = 0 := by
  simp only [rd, List.getD_eq_getElem?_getD, List.getElem?_replicate]
  split <;> rfl
/-- A row fits its record. -/
def rowB (n : Nat) (r : List Int) : Bool := decide ((r.length : Int) = (n : Int)) && (inB (r.length : Int) 1 8 && allB r (-30000) 30000)
def recordB (rows : List (List Int)) : Bool := rows.all (rowB (rows.getD 0 []).length) && decide ((rows.length : Int) ≤ 200)
theorem recordB_in {rows : List (List Int)} (h : recordB rows = true) : rows.length ≤ 200 ∧ ∀ r ∈ rows, r.length = (rows.getD 0 []).length ∧ (1 ≤ r.length ∧ r.length ≤ 8) ∧ ∀ x ∈ r, -30000 ≤ x ∧ x ≤ 30000 := by
  simp only [recordB, Bool.and_eq_true, List.all_eq_true, decide_eq_true_eq, rowB, inB_iff, allB_iff] at h
  refine ⟨by omega, fun r hr => ?_⟩
  obtain ⟨h1, h2, h3⟩ := h.1 r hr
  exact ⟨by omega, by omega, h3⟩
theorem impl_RecordOk_l (rows : List (List Int)) (hn : rows.length ≤ 140737488355328) (hx : ∀ x ∈ rows, x.length ≤ 140737488355328) (d : Nat) : ∀ i : Nat, i + d = rows.length →
    Ev (fun k => impl_RecordOk.l0 k rows rows (rows.length : Int) (i : Int)) ((rows.drop i).all (rowB (rows.getD 0 []).length) && decide ((rows.length : Int) ≤ 200)) := by
  induction d with
  | zero =>
    intro i h
    refine ev_succ ?_
    simp only [impl_RecordOk.l0, if_neg (show ¬ ((i : Int) < (rows.length : Int)) by omega)]
    exact ev_some (by rw [List.drop_of_length_le (by omega)]; simp)
  | succ d ih =>
    intro i h
    refine ev_succ ?_
    have hlt : i < rows.length := by omega
    have hxi := hx _ (List.getElem_mem hlt)
    have e0 : rd_L1 rows 0 = rows.getD 0 [] := rfl
    rw [List.drop_eq_getElem_cons hlt, List.all_cons]
    simp only [impl_RecordOk.l0, if_pos (show ((i : Int) < (rows.length : Int)) by omega), if_pos (show (0 : Int) ≤ (i : Int) by omega), if_pos (show (0 : Int) < (rows.length : Int) by omega), rdIntSS hlt, e0, impl_in_eq, Option.bind_some, w64s i (by omega)]
    have hi := ih (i + 1) (by omega)
    generalize rows[i] = r at *
    generalize (rows.getD 0 []).length = n0 at *
    rw [show rowB n0 r = (decide ((r.length : Int) = (n0 : Int)) && (inB (r.length : Int) 1 8 && allB r (-30000) 30000)) from rfl]
    by_cases c1 : (r.length : Int) = (n0 : Int)
    · simp only [if_pos c1, decide_eq_true c1, Bool.true_and]
      cases c2 : inB (r.length : Int) 1 8 with
      | false => simpa using ev_now false
      | true =>
        simp only [if_true, Bool.true_and]
        refine (impl_allIn_ev (-30000) 30000 r (by omega)).bind ?_
        cases c3 : allB r (-30000) 30000 with
        | false => simpa using ev_now false
        | true => simpa only [if_true, Bool.true_and] using hi
    · simp only [if_neg c1, decide_eq_false c1, Bool.false_and]
      exact ev_now _
theorem impl_RecordOk_ev (rows : List (List Int)) (hn : rows.length ≤ 140737488355328) (hx : ∀ x ∈ rows, x.length ≤ 140737488355328) : Ev (fun k => impl_RecordOk.f k rows) (recordB rows) := by
  simpa [impl_RecordOk.f, recordB] using impl_RecordOk_l rows hn hx rows.length 0 (by omega)
theorem spec_RecordOk_l (rows : List (List Int)) (hn : rows.length ≤ 140737488355328) (hx : ∀ x ∈ rows, x.length ≤ 140737488355328) (d : Nat) : ∀ i : Nat, i + d = rows.length →
    Ev (fun k => spec_RecordOk.l0 k rows (i : Int)) ((rows.drop i).all (rowB (rows.getD 0 []).length) && decide ((rows.length : Int) ≤ 200)) := by
  induction d with
  | zero =>
    intro i h
    refine ev_succ ?_
    simp only [spec_RecordOk.l0, if_neg (show ¬ ((i : Int) < (rows.length : Int)) by omega)]
    exact ev_some (by rw [List.drop_of_length_le (by omega)]; simp)
  | succ d ih =>
    intro i h
    refine ev_succ ?_
    have hlt : i < rows.length := by omega
    have hxi := hx _ (List.getElem_mem hlt)
    have e0 : rd_L1 rows 0 = rows.getD 0 [] := rfl
    rw [List.drop_eq_getElem_cons hlt, List.all_cons]
    simp only [spec_RecordOk.l0, if_pos (show ((i : Int) < (rows.length : Int)) by omega), if_pos (show (0 : Int) ≤ (i : Int) by omega), if_pos (show (0 : Int) < (rows.length : Int) by omega), rdIntSS hlt, e0, spec_in_eq, Option.bind_some, w64s i (by omega)]
    have hi := ih (i + 1) (by omega)
    generalize rows[i] = r at *
    generalize (rows.getD 0 []).length = n0 at *
    rw [show rowB n0 r = (decide ((r.length : Int) = (n0 : Int)) && (inB (r.length : Int) 1 8 && allB r (-30000) 30000)) from rfl]
    by_cases c1 : (r.length : Int) = (n0 : Int)
    · simp only [if_pos c1, decide_eq_true c1, Bool.true_and]
      cases c2 : inB (r.length : Int) 1 8 with
      | false => simpa using ev_now false
      | true =>
        simp only [if_true, Bool.true_and]
        refine (spec_l1All_ev (-30000) 30000 r (by omega)).bind ?_
        cases c3 : allB r (-30000) 30000 with
        | false => simpa using ev_now false
        | true => simpa only [if_true, Bool.true_and] using hi
    · simp only [if_neg c1, decide_eq_false c1, Bool.false_and]
      exact ev_now _
theorem spec_RecordOk_ev (rows : List (List Int)) (hn : rows.length ≤ 140737488355328) (hx : ∀ x ∈ rows, x.length ≤ 140737488355328) : Ev (fun k => spec_RecordOk.f k rows) (recordB rows) := by
  simpa [spec_RecordOk.f, recordB] using spec_RecordOk_l rows hn hx rows.length 0 (by omega)
/-! A record packed into bytes. -/
def chg (d : Int) : List Int := if inB d (-100) 100 = true then [wrap64 (d + 100) % 256] else [255, wrap64 (d + 60000) / 65536 % 256, wrap64 (d + 60000) / 256 % 256, wrap64 (d + 60000) % 256]
theorem chg_len (d : Int) : (chg d).length ≤ 4 := by unfold chg; split <;> simp
def rowP (prev row : List Int) : Nat → Nat → List Int
  | 0, _ => []
  | d + 1, j => chg (rd row (j : Int) - rd prev (j : Int)) ++ rowP prev row d (j + 1)
theorem rowP_len (prev row : List Int) (d : Nat) : ∀ j, (rowP prev row d j).length ≤ 4 * d := by
  induction d with
  | zero => intro j; simp [rowP]
  | succ d ih =>
    intro j
    have h1 := ih (j + 1)
    have h2 := chg_len (rd row (j : Int) - rd prev (j : Int))
    unfold rowP
    rw [List.length_append]
    omega
def packP (rows : List (List Int)) (w : Nat) : Nat → Nat → List Int → List Int
  | 0, _, _ => []
  | d + 1, i, prev => rowP prev (rows.getD i []) w 0 ++ packP rows w d (i + 1) (rows.getD i [])
theorem packP_len (rows : List (List Int)) (w : Nat) (d : Nat) : ∀ i prev, (packP rows w d i prev).length ≤ 4 * w * d := by
  induction d with
  | zero => intro i p; simp [packP]
  | succ d ih =>
    intro i p
    have h1 := ih (i + 1) (rows.getD i [])
    have h2 := rowP_len p (rows.getD i []) w 0
    unfold packP
    rw [List.length_append, Nat.mul_succ]
    omega
def packBytes (rows : List (List Int)) : List Int := [((rows.getD 0 []).length : Int) % 256, (rows.length : Int) % 256] ++ packP rows (rows.getD 0 []).length rows.length 0 (List.replicate (rows.getD 0 []).length 0)
def pack20 (rows : List (List Int)) : List Int × Bool := if recordB rows = true then (if ((packBytes rows).length : Int) > 1500 then ([], false) else (packBytes rows, true)) else ([], false)
theorem pack20_len (rows : List (List Int)) : (pack20 rows).1.length ≤ 1500 := by
  unfold pack20
  split
  · split
    · simp
    · simp only; omega
  · simp
theorem getD_rows {rows : List (List Int)} {i : Nat} (h : i < rows.length) : rows.getD i [] = rows[i] := by
  rw [List.getD_eq_getElem?_getD, List.getElem?_eq_getElem h, Option.getD_some]
def prevOf (rows : List (List Int)) (w : Nat) (i : Nat) : List Int := if i = 0 then List.replicate w 0 else rows.getD (i - 1) []
theorem rd_small {rows : List (List Int)} (h : recordB rows = true) {i : Nat} (hi : i < rows.length) {j : Nat} (hj : j < (rows[i]).length) : -30000 ≤ rd (rows[i]) (j : Int) ∧ rd (rows[i]) (j : Int) ≤ 30000 := ((recordB_in h).2 _ (List.getElem_mem hi)).2.2 _ (rd_mem (by omega) (by omega))
theorem spec_Pack20_row (rows : List (List Int)) (hb : recordB rows = true) (w : Nat) (hw : ∀ i (h : i < rows.length), (rows[i]).length = w) (i : Nat) (hi : i < rows.length) (V : List Int × Bool) (d : Nat) : ∀ (j : Nat) (acc : List Int), j + d = w → acc.length + 4 * d ≤ 100000 →
    Ev (fun k => spec_Pack20.l0 k rows (w : Int) (acc ++ rowP (prevOf rows w i) (rows.getD i []) d j) ((i + 1 : Nat) : Int)) V → Ev (fun k => spec_Pack20.l1 k rows (w : Int) acc (i : Int) (j : Int)) V := by
  have hl := (recordB_in hb).1
  have hwi := hw i hi
  have hwl : w ≤ 8 := by have := ((recordB_in hb).2 _ (List.getElem_mem hi)).2.1; omega
  induction d with
  | zero =>
    intro j acc h ha hv
    refine ev_succ ?_
    simp only [spec_Pack20.l1, if_neg (show ¬ ((j : Int) < (w : Int)) by omega), w64s i (by omega)]
    simpa only [rowP, List.append_nil] using hv
  | succ d ih =>
    intro j acc h ha hv
    have hj : j < (rows[i]).length := by omega
    have hs := rd_small hb hi hj
    rw [rowP, ← List.append_assoc, getD_rows hi] at hv
    have hc := chg_len (rd (rows[i]) (j : Int) - rd (prevOf rows w i) (j : Int))
    have hgo := ih (j + 1) (acc ++ chg (rd (rows[i]) (j : Int) - rd (prevOf rows w i) (j : Int))) (by omega) (by rw [List.length_append]; omega) (by rw [getD_rows hi]; exact hv)
    refine ev_succ ?_
    simp only [spec_Pack20.l1, if_pos (show ((j : Int) < (w : Int)) by omega), if_pos (show (0 : Int) ≤ (i : Int) by omega), if_pos (show (i : Int) < (rows.length : Int) by omega), if_pos (show (0 : Int) ≤ (j : Int) by omega), rdIntSS hi, if_pos (show (j : Int) < ((rows[i]).length : Int) by omega), spec_in_eq, Option.bind_some, w64s j (by omega)]
    by_cases h0 : (i : Int) > 0
    · obtain ⟨q, rfl⟩ : ∃ q, i = q + 1 := ⟨i - 1, by omega⟩
      have hq : q < rows.length := by omega
      have hqj : j < (rows[q]).length := by have := hw q hq; omega
      have hsq := rd_small hb hq hqj
      have hp : prevOf rows w (q + 1) = rows[q] := by simp only [prevOf, if_neg (show ¬ q + 1 = 0 by omega), Nat.add_sub_cancel, getD_rows hq]
      rw [hp] at hgo
      have e : wrap64 (((q + 1 : Nat) : Int) - 1) = (q : Int) := by rw [w64 (by omega) (by omega)]; omega
      simp only [if_pos h0, e, if_pos (show (0 : Int) ≤ (q : Int) by omega), if_pos (show (q : Int) < (rows.length : Int) by omega), rdIntSS hq, if_pos (show (j : Int) < ((rows[q]).length : Int) by omega), w64 (n := rd (rows[q + 1]) (j : Int) - rd (rows[q]) (j : Int)) (by omega) (by omega)]
      unfold chg at hgo
      cases hx : inB (rd (rows[q + 1]) (j : Int) - rd (rows[q]) (j : Int)) (-100) 100 with
      | true =>
        rw [hx, if_pos rfl] at hgo
        simp only [if_true, if_pos (show acc.length < 140737488355328 by omega)]
        exact hgo
      | false =>
        rw [hx, if_neg (by decide)] at hgo
        simp only [Bool.false_eq_true, if_false, List.length_cons, List.length_nil, if_pos (show acc.length + (0 + 1 + 1 + 1 + 1) < 140737488355328 by omega)]
        exact hgo
    · obtain rfl : i = 0 := by omega
      have hp : rd (prevOf rows w 0) (j : Int) = 0 := by simp only [prevOf, if_true, rd_zeros]
      rw [hp, Int.sub_zero] at hgo
      simp only [if_neg h0]
      unfold chg at hgo
      cases hx : inB (rd (rows[0]) (j : Int)) (-100) 100 with
      | true =>
        rw [hx, if_pos rfl] at hgo
        simp only [if_true, if_pos (show acc.length < 140737488355328 by omega)]
        exact hgo
      | false =>
        rw [hx, if_neg (by decide)] at hgo
        simp only [Bool.false_eq_true, if_false, List.length_cons, List.length_nil, if_pos (show acc.length + (0 + 1 + 1 + 1 + 1) < 140737488355328 by omega)]
        exact hgo
def packEnd (bs : List Int) : List Int × Bool := if (bs.length : Int) > 1500 then ([], false) else (bs, true)
theorem spec_Pack20_l (rows : List (List Int)) (hb : recordB rows = true) (w : Nat) (hw : ∀ i (h : i < rows.length), (rows[i]).length = w) (hw8 : w ≤ 8) (d : Nat) : ∀ (i : Nat) (acc : List Int), i + d = rows.length → acc.length + 32 * d ≤ 50000 →
    Ev (fun k => spec_Pack20.l0 k rows (w : Int) acc (i : Int)) (packEnd (acc ++ packP rows w d i (prevOf rows w i))) := by
  have hl := (recordB_in hb).1
  induction d with
  | zero =>
    intro i acc h ha
    refine ev_succ ?_
    simp only [spec_Pack20.l0, if_neg (show ¬ ((i : Int) < (rows.length : Int)) by omega), packP, List.append_nil, packEnd]
    split <;> exact ev_now _
  | succ d ih =>
    intro i acc h ha
    have hi : i < rows.length := by omega
    have hr := rowP_len (prevOf rows w i) (rows.getD i []) w 0
    have hgo := ih (i + 1) (acc ++ rowP (prevOf rows w i) (rows.getD i []) w 0) (by omega) (by rw [List.length_append]; omega)
    have hp : prevOf rows w (i + 1) = rows.getD i [] := by simp only [prevOf, if_neg (show ¬ i + 1 = 0 by omega), Nat.add_sub_cancel]
    rw [hp, List.append_assoc] at hgo
    refine ev_succ ?_
    simp only [spec_Pack20.l0, if_pos (show ((i : Int) < (rows.length : Int)) by omega)]
    exact spec_Pack20_row rows hb w hw i hi _ w 0 acc (by omega) (by omega) hgo
theorem rows_width {rows : List (List Int)} (hb : recordB rows = true) : ∀ i (h : i < rows.length), (rows[i]).length = (rows.getD 0 []).length := fun i h => ((recordB_in hb).2 _ (List.getElem_mem h)).1
theorem rows_width8 {rows : List (List Int)} (hb : recordB rows = true) : (rows.getD 0 []).length ≤ 8 := by
  by_cases h : 0 < rows.length
  · rw [getD_rows h]
    exact ((recordB_in hb).2 _ (List.getElem_mem h)).2.1.2
  · rw [List.getD_eq_getElem?_getD, List.getElem?_eq_none (by omega)]
    simp
theorem spec_Pack20_ev (rows : List (List Int)) (hn : rows.length ≤ 140737488355328) (hx : ∀ x ∈ rows, x.length ≤ 140737488355328) : Ev (fun k => spec_Pack20.f k rows) (pack20 rows) := by
  simp only [spec_Pack20.f]
  refine (spec_RecordOk_ev rows hn hx).bind ?_
  unfold pack20
  cases hb : recordB rows with
  | false => simpa using ev_now _
  | true =>
    simp only [if_true]
    have hl := (recordB_in hb).1
    have hj : Ev (fun k => spec_Pack20.j0 k rows ((rows.getD 0 []).length : Int)) (packEnd (packBytes rows)) := by
      refine ev_succ ?_
      simp only [spec_Pack20.j0]
      have := spec_Pack20_l rows hb _ (rows_width hb) (rows_width8 hb) rows.length 0 [((rows.getD 0 []).length : Int) % 256, (rows.length : Int) % 256] (by omega) (by simp; omega)
      exact this
    by_cases h0 : 0 < rows.length
    · simp only [if_pos (show (rows.length : Int) > 0 by omega), if_pos (show (0 : Int) < (rows.length : Int) by omega), rdIntSS0]
      exact hj
    · simp only [if_neg (show ¬ (rows.length : Int) > 0 by omega)]
      have e : (rows.getD 0 []).length = 0 := by rw [List.getD_eq_getElem?_getD, List.getElem?_eq_none (by omega)]; simp
      rw [e] at hj
      exact hj
theorem impl_Pack20_row (rows : List (List Int)) (hb : recordB rows = true) (w : Nat) (i : Nat) (hi : i < rows.length) (prev : List Int) (hw : (rows[i]).length = w) (hpl : prev.length = w) (hps : ∀ x ∈ prev, -30000 ≤ x ∧ x ≤ 30000) (V : List Int × Bool) (d : Nat) : ∀ (j : Nat) (acc : List Int), j + d = w → acc.length + 4 * d ≤ 100000 →
    Ev (fun k => impl_Pack20.l0 k (acc ++ rowP prev (rows[i]) d j) (rows[i]) rows (rows.length : Int) ((i + 1 : Nat) : Int)) V → Ev (fun k => impl_Pack20.l1 k acc ((rows[i]).take j ++ prev.drop j) rows (rows.length : Int) (i : Int) (rows[i]) (w : Int) (j : Int)) V := by
  have hl := (recordB_in hb).1
  have hwl : w ≤ 8 := by have := ((recordB_in hb).2 _ (List.getElem_mem hi)).2.1; omega
  induction d with
  | zero =>
    intro j acc h ha hv
    refine ev_succ ?_
    simp only [impl_Pack20.l1, if_neg (show ¬ ((j : Int) < (w : Int)) by omega), w64s i (by omega)]
    rw [List.take_of_length_le (by omega), List.drop_of_length_le (by omega), List.append_nil]
    simpa only [rowP, List.append_nil] using hv
  | succ d ih =>
    intro j acc h ha hv
    have hj : j < (rows[i]).length := by omega
    have hjp : j < prev.length := by omega
    have hs := rd_small hb hi hj
    have hs' := hps _ (rd_mem (i := (j : Int)) (by omega) (by omega))
    rw [rowP, ← List.append_assoc] at hv
    have hc := chg_len (rd (rows[i]) (j : Int) - rd prev (j : Int))
    have hgo := ih (j + 1) (acc ++ chg (rd (rows[i]) (j : Int) - rd prev (j : Int))) (by omega) (by rw [List.length_append]; omega) hv
    have hlen : ((rows[i]).take j ++ prev.drop j).length = w := by rw [List.length_append, List.length_take, List.length_drop]; omega
    have htl : ((rows[i]).take j).length = j := by rw [List.length_take]; omega
    have hrd : rd ((rows[i]).take j ++ prev.drop j) (j : Int) = rd prev (j : Int) := by
      rw [rd_nat (by omega), rd_nat hjp, List.getElem_append_right (by omega), List.getElem_drop]
      simp only [htl, Nat.sub_self, Nat.add_zero]
    have hset : ((rows[i]).take j ++ prev.drop j).set j (rd (rows[i]) (j : Int)) = (rows[i]).take (j + 1) ++ prev.drop (j + 1) := by
      rw [List.set_append, if_neg (by omega), htl, Nat.sub_self, drop_rd hjp, List.set_cons_zero, rd_nat hj, List.take_succ_eq_append_getElem hj, List.append_assoc]
      rfl
    refine ev_succ ?_
    simp only [impl_Pack20.l1, if_pos (show ((j : Int) < (w : Int)) by omega), if_pos (show (0 : Int) ≤ (j : Int) by omega), if_pos (show (j : Int) < ((rows[i]).length : Int) by omega), hlen, impl_in_eq, Option.bind_some, hrd, Int.toNat_natCast, hset, w64s j (by omega), w64 (n := rd (rows[i]) (j : Int) - rd prev (j : Int)) (by omega) (by omega)]
    unfold chg at hgo
    cases hx : inB (rd (rows[i]) (j : Int) - rd prev (j : Int)) (-100) 100 with
    | true =>
      rw [hx, if_pos rfl] at hgo
      simp only [if_true, if_pos (show acc.length < 140737488355328 by omega)]
      exact hgo
    | false =>
      rw [hx, if_neg (by decide)] at hgo
      simp only [Bool.false_eq_true, if_false, List.length_cons, List.length_nil, if_pos (show acc.length + (0 + 1 + 1 + 1 + 1) < 140737488355328 by omega)]
      exact hgo
theorem impl_Pack20_l (rows : List (List Int)) (hb : recordB rows = true) (w : Nat) (hw : ∀ i (h : i < rows.length), (rows[i]).length = w) (hw8 : w ≤ 8) (d : Nat) : ∀ (i : Nat) (acc prev : List Int), i + d = rows.length → acc.length + 32 * d ≤ 50000 → prev.length = w → (∀ x ∈ prev, -30000 ≤ x ∧ x ≤ 30000) →
    Ev (fun k => impl_Pack20.l0 k acc prev rows (rows.length : Int) (i : Int)) (packEnd (acc ++ packP rows w d i prev)) := by
  have hl := (recordB_in hb).1
  induction d with
  | zero =>
    intro i acc prev h ha _ _
    refine ev_succ ?_
    simp only [impl_Pack20.l0, if_neg (show ¬ ((i : Int) < (rows.length : Int)) by omega), packP, List.append_nil, packEnd]
    split <;> exact ev_now _
  | succ d ih =>
    intro i acc prev h ha hpl hps
    have hi : i < rows.length := by omega
    have hwi := hw i hi
    have hr := rowP_len prev (rows[i]) w 0
    have hgo := ih (i + 1) (acc ++ rowP prev (rows[i]) w 0) (rows[i]) (by omega) (by rw [List.length_append]; omega) hwi ((recordB_in hb).2 _ (List.getElem_mem hi)).2.2
    rw [List.append_assoc] at hgo
    refine ev_succ ?_
    simp only [impl_Pack20.l0, if_pos (show ((i : Int) < (rows.length : Int)) by omega), if_pos (show (0 : Int) ≤ (i : Int) by omega), rdIntSS hi, hwi]
    have := impl_Pack20_row rows hb w i hi prev hwi hpl hps _ w 0 acc (by omega) (by omega) hgo
    rw [List.take_zero, List.nil_append, List.drop_zero] at this
    unfold packP
    rw [getD_rows hi]
    exact this
theorem impl_Pack20_ev (rows : List (List Int)) (hn : rows.length ≤ 140737488355328) (hx : ∀ x ∈ rows, x.length ≤ 140737488355328) : Ev (fun k => impl_Pack20.f k rows) (pack20 rows) := by
  simp only [impl_Pack20.f]
  refine (impl_RecordOk_ev rows hn hx).bind ?_
  unfold pack20
  cases hb : recordB rows with
  | false => simpa using ev_now _
  | true =>
    simp only [if_true]
    have hl := (recordB_in hb).1
    have hw8 := rows_width8 hb
    by_cases h0 : 0 < rows.length
    · have hg := getD_rows h0
      rw [rdIntSS0]
      simp only [if_neg (show ¬ (rows.length : Int) = 0 by omega), if_pos (show (0 : Int) < (rows.length : Int) by omega)]
      simp only [if_pos (show (0 : Int) ≤ ((rows.getD 0 []).length : Int) from Int.natCast_nonneg _), Int.toNat_natCast, if_pos (show (rows.getD 0 []).length ≤ 35184372088832 by omega)]
      exact impl_Pack20_l rows hb _ (rows_width hb) hw8 rows.length 0 [((rows.getD 0 []).length : Int) % 256, (rows.length : Int) % 256] (List.replicate (rows.getD 0 []).length 0) (by omega) (by simp; omega) (by simp) (by
        intro x hx
        rw [List.eq_of_mem_replicate hx]
        omega)
    · obtain rfl : rows = [] := List.length_eq_zero_iff.1 (by omega)
      exact ev_now _
/-! A record out of bytes. -/
def val3 (xs : List Int) (a : Int) : Int := rd xs (a + 1) * 65536 + rd xs (a + 2) * 256 + rd xs (a + 3) - 60000
def readc (xs : List Int) (a : Int) : Int × Int × Int :=
  if a ≥ (xs.length : Int) then (0, 0, 1) else if rd xs a ≤ 200 then (rd xs a - 100, 1, 0) else if rd xs a = 255 then (if a + 4 > (xs.length : Int) then (0, 0, 1) else if inB (val3 xs a) (-100) 100 = true then (0, 0, 2) else if val3 xs a > 60000 then (0, 0, 2) else (val3 xs a, 4, 0)) else (0, 0, 2)
theorem byte_at {xs : List Int} (hb : ∀ x ∈ xs, 0 ≤ x ∧ x ≤ 255) {i : Int} (h0 : 0 ≤ i) (h1 : i < (xs.length : Int)) : 0 ≤ rd xs i ∧ rd xs i ≤ 255 := hb _ (rd_mem h0 h1)
theorem val3_in {xs : List Int} (hb : ∀ x ∈ xs, 0 ≤ x ∧ x ≤ 255) {a : Int} (h0 : 0 ≤ a) (h1 : ¬ a + 4 > (xs.length : Int)) : -60000 ≤ val3 xs a ∧ val3 xs a ≤ 16717215 := by
  have b1 := byte_at hb (i := a + 1) (by omega) (by omega)
  have b2 := byte_at hb (i := a + 2) (by omega) (by omega)
  have b3 := byte_at hb (i := a + 3) (by omega) (by omega)
  unfold val3
  omega
theorem val3_wrap {xs : List Int} (hb : ∀ x ∈ xs, 0 ≤ x ∧ x ≤ 255) {a : Int} (h0 : 0 ≤ a) (hl : xs.length ≤ 1048576) (h1 : ¬ a + 4 > (xs.length : Int)) : wrap64 (wrap64 (wrap64 (wrap64 (wrap64 (rd xs (a + 1)) * 65536) + wrap64 (wrap64 (rd xs (a + 2)) * 256)) + wrap64 (rd xs (a + 3))) - 60000) = val3 xs a := by
  have b1 := byte_at hb (i := a + 1) (by omega) (by omega)
  have b2 := byte_at hb (i := a + 2) (by omega) (by omega)
  have b3 := byte_at hb (i := a + 3) (by omega) (by omega)
  rw [w64 (n := rd xs (a + 1)) (by omega) (by omega), w64 (n := rd xs (a + 2)) (by omega) (by omega), w64 (n := rd xs (a + 3)) (by omega) (by omega), w64 (n := rd xs (a + 1) * 65536) (by omega) (by omega), w64 (n := rd xs (a + 2) * 256) (by omega) (by omega), w64 (n := rd xs (a + 1) * 65536 + rd xs (a + 2) * 256) (by omega) (by omega), w64 (n := rd xs (a + 1) * 65536 + rd xs (a + 2) * 256 + rd xs (a + 3)) (by omega) (by omega), w64 (by omega) (by omega)]
  rfl
theorem impl_change_eq (xs : List Int) (hb : ∀ x ∈ xs, 0 ≤ x ∧ x ≤ 255) (hl : xs.length ≤ 1048576) (a : Int) (h0 : 0 ≤ a) (ha : a ≤ 2000000) : impl_change.f xs a = some (readc xs a) := by
  have e4 : wrap64 (a + 4) = a + 4 := w64 (by omega) (by omega)
  have e1 : wrap64 (a + 1) = a + 1 := w64 (by omega) (by omega)
  have e2 : wrap64 (a + 2) = a + 2 := w64 (by omega) (by omega)
  have e3 : wrap64 (a + 3) = a + 3 := w64 (by omega) (by omega)
  simp only [impl_change.f, readc, impl_in_eq, Option.bind_some, e1, e2, e3, e4]
  by_cases h1 : a ≥ (xs.length : Int)
  · simp only [if_pos h1]
  · have b0 := byte_at hb h0 (by omega)
    have e0 : wrap64 (rd xs a) = rd xs a := w64 (by omega) (by omega)
    simp only [if_neg h1, if_pos h0, if_pos (show a < (xs.length : Int) by omega), e0, w64 (n := rd xs a - 100) (by omega) (by omega)]
    by_cases h2 : rd xs a ≤ 200
    · simp only [if_pos h2]
    · simp only [if_neg h2]
      by_cases h3 : rd xs a = 255
      · simp only [if_pos h3]
        by_cases h4 : a + 4 > (xs.length : Int)
        · simp only [if_pos h4]
        · simp only [if_neg h4, if_pos (show 0 ≤ a + 1 by omega), if_pos (show 0 ≤ a + 2 by omega), if_pos (show 0 ≤ a + 3 by omega), if_pos (show a + 1 < (xs.length : Int) by omega), if_pos (show a + 2 < (xs.length : Int) by omega), if_pos (show a + 3 < (xs.length : Int) by omega), val3_wrap hb h0 hl h4]
          cases inB (val3 xs a) (-100) 100 with
          | true => simp only [if_true]
          | false =>
            simp only [Bool.false_eq_true, if_false]
            by_cases h5 : val3 xs a > 60000
            · simp only [if_pos h5]
            · simp only [if_neg h5]
      · simp only [if_neg h3]
theorem readc_in {xs : List Int} (hb : ∀ x ∈ xs, 0 ≤ x ∧ x ≤ 255) {a : Int} (h0 : 0 ≤ a) : ((readc xs a).2.2 = 0 → a < (xs.length : Int) ∧ (-60000 ≤ (readc xs a).1 ∧ (readc xs a).1 ≤ 60000) ∧ (1 ≤ (readc xs a).2.1 ∧ (readc xs a).2.1 ≤ 4)) ∧ ((readc xs a).2.2 = 0 ∨ (readc xs a).2.2 = 1 ∨ (readc xs a).2.2 = 2) := by
  by_cases h1 : a ≥ (xs.length : Int)
  · simp [readc, h1]
  · have b0 := byte_at hb h0 (by omega)
    unfold readc
    rw [if_neg h1]
    by_cases h2 : rd xs a ≤ 200
    · rw [if_pos h2]
      exact ⟨fun _ => ⟨by omega, ⟨by simp only; omega, by simp only; omega⟩, by simp only; omega⟩, .inl rfl⟩
    · rw [if_neg h2]
      by_cases h3 : rd xs a = 255
      · rw [if_pos h3]
        by_cases h4 : a + 4 > (xs.length : Int)
        · rw [if_pos h4]; exact ⟨fun h => by simp at h, by simp⟩
        · rw [if_neg h4]
          have := val3_in hb h0 h4
          cases inB (val3 xs a) (-100) 100 with
          | true => simp only [if_true]; exact ⟨fun h => by simp at h, by simp⟩
          | false =>
            simp only [Bool.false_eq_true, if_false]
            by_cases h5 : val3 xs a > 60000
            · rw [if_pos h5]; exact ⟨fun h => by simp at h, by simp⟩
            · rw [if_neg h5]
              exact ⟨fun _ => ⟨by omega, ⟨by simp only; omega, by simp only; omega⟩, by simp only; omega⟩, .inl rfl⟩
      · rw [if_neg h3]; exact ⟨fun h => by simp at h, by simp⟩
abbrev Rec20 := List (List Int) × Int × Int
def rowU (xs prev : List Int) : Nat → Nat → Int → List Int → (List Int × Int) ⊕ (Int × Int)
  | 0, _, a, acc => .inl (acc, a)
  | d + 1, j, a, acc => if (readc xs a).2.2 = 1 then .inr (1, (xs.length : Int)) else if (readc xs a).2.2 = 0 then (if inB ((readc xs a).1 + rd prev (j : Int)) (-30000) 30000 = true then rowU xs prev d (j + 1) (a + (readc xs a).2.1) (acc ++ [(readc xs a).1 + rd prev (j : Int)]) else .inr (3, a)) else .inr (2, a)
def recU (xs : List Int) (w : Nat) : Nat → Int → List Int → List (List Int) → Rec20
  | 0, a, _, out => if a < (xs.length : Int) then ([], 4, a) else (out, 0, 0)
  | d + 1, a, prev, out => match rowU xs prev w 0 a [] with
    | .inl (row, a') => recU xs w d a' row (out ++ [row])
    | .inr (c, p) => ([], c, p)
def unpack20 (xs : List Int) : Rec20 :=
  if (xs.length : Int) < 1 then ([], 1, 0) else if rd xs 0 > 8 then ([], 2, 0) else if (xs.length : Int) < 2 then ([], 1, 1) else if rd xs 1 > 200 then ([], 2, 1) else if ((rd xs 0 == 0) != (rd xs 1 == 0)) = true then ([], 2, 1) else recU xs (rd xs 0).toNat (rd xs 1).toNat 2 (List.replicate (rd xs 0).toNat 0) []
theorem impl_Unpack20_row (xs : List Int) (hb : ∀ x ∈ xs, 0 ≤ x ∧ x ≤ 255) (hl : xs.length ≤ 1048576) (prev : List Int) (w : Nat) (hw : w ≤ 8) (hpl : prev.length = w) (hps : ∀ x ∈ prev, -30000 ≤ x ∧ x ≤ 30000) (out : List (List Int)) (ho : out.length ≤ 300) (n i : Int) (V : Rec20) (d : Nat) : ∀ (j : Nat) (a : Int) (acc : List Int), j + d = w → acc.length = j → 0 ≤ a → a ≤ (xs.length : Int) + 4 →
    (∀ row a', rowU xs prev d j a acc = .inl (row, a') → Ev (fun k => impl_Unpack20.l0 k xs (out ++ [row]) a' row n ((i + 1) % 256)) V) → (∀ c p, rowU xs prev d j a acc = .inr (c, p) → V = ([], c, p)) →
    Ev (fun k => impl_Unpack20.l1 k xs out a (acc ++ prev.drop j) n i (w : Int) (j : Int)) V := by
  induction d with
  | zero =>
    intro j a acc h hj h0 h1 hgo hno
    refine ev_succ ?_
    have hd : acc ++ prev.drop j = acc := by rw [List.drop_of_length_le (by omega), List.append_nil]
    rw [hd]
    simp only [impl_Unpack20.l1, if_neg (show ¬ ((j : Int) < (w : Int)) by omega), slices_Clone_int_int.f, Option.bind_some, List.length_nil, Nat.zero_add, List.nil_append, if_pos (show acc.length < 17592186044416 by omega), if_pos (show out.length < 5864062014805 by omega)]
    exact hgo acc a rfl
  | succ d ih =>
    intro j a acc h hj h0 h1 hgo hno
    have hr := readc_in hb h0
    have hjp : j < prev.length := by omega
    have hp := hps _ (rd_mem (i := (j : Int)) (by omega) (by omega))
    have hlen : (acc ++ prev.drop j).length = w := by rw [List.length_append, List.length_drop]; omega
    have hrd : rd (acc ++ prev.drop j) (j : Int) = rd prev (j : Int) := by
      rw [rd_nat (by omega), rd_nat hjp, List.getElem_append_right (by omega), List.getElem_drop]
      simp only [hj, Nat.sub_self, Nat.add_zero]
    have hset : ∀ x : Int, (acc ++ prev.drop j).set j x = (acc ++ [x]) ++ prev.drop (j + 1) := by
      intro x
      rw [List.set_append, if_neg (by omega), hj, Nat.sub_self, drop_rd hjp, List.set_cons_zero, List.append_assoc]
      rfl
    have hrd2 : ∀ x : Int, rd ((acc ++ [x]) ++ prev.drop (j + 1)) (j : Int) = x := by
      intro x
      rw [rd_append_left (by simp; omega) (by omega)]
      have := rd_append_at (xs := acc) (y := x)
      rwa [hj] at this
    unfold rowU at hgo hno
    refine ev_succ ?_
    simp only [impl_Unpack20.l1, if_pos (show ((j : Int) < (w : Int)) by omega), impl_change_eq xs hb hl a h0 (by omega), Option.bind_some]
    by_cases c1 : (readc xs a).2.2 = 1
    · simp only [if_pos c1] at hno ⊢
      rw [hno _ _ rfl, c1]
      exact ev_now _
    · simp only [if_neg c1] at hgo hno ⊢
      by_cases c0 : (readc xs a).2.2 = 0
      · obtain ⟨ha, hx, hm⟩ := hr.1 c0
        simp only [if_pos c0] at hgo hno ⊢
        simp only [if_pos (show (0 : Int) ≤ (j : Int) by omega), hlen, if_pos (show ((j : Int) < (w : Int)) by omega), hrd, Int.toNat_natCast, hset, hrd2, impl_in_eq, Option.bind_some, w64 (n := (readc xs a).1 + rd prev (j : Int)) (by omega) (by omega), w64 (n := a + (readc xs a).2.1) (by omega) (by omega), w64s j (by omega), Int.add_comm (rd prev (j : Int))]
        cases hx3 : inB ((readc xs a).1 + rd prev (j : Int)) (-30000) 30000 with
        | true =>
          rw [hx3] at hgo hno
          simp only [if_true] at hgo hno ⊢
          exact ih (j + 1) _ _ (by omega) (by simp; omega) (by omega) (by omega) hgo hno
        | false =>
          rw [hx3] at hno
          simp only [Bool.false_eq_true, if_false] at hno ⊢
          rw [hno _ _ rfl]
          exact ev_now _
      · have c2 : (readc xs a).2.2 = 2 := by omega
        simp only [if_neg c0] at hno ⊢
        rw [hno _ _ rfl, c2]
        exact ev_now _
theorem rowU_in (xs : List Int) (hb : ∀ x ∈ xs, 0 ≤ x ∧ x ≤ 255) (prev : List Int) (d : Nat) : ∀ (j : Nat) (a : Int) (acc : List Int), 0 ≤ a → (∀ x ∈ acc, -30000 ≤ x ∧ x ≤ 30000) → a ≤ (xs.length : Int) + 4 → ∀ row a', rowU xs prev d j a acc = .inl (row, a') → row.length = acc.length + d ∧ (∀ x ∈ row, -30000 ≤ x ∧ x ≤ 30000) ∧ a ≤ a' ∧ a' ≤ (xs.length : Int) + 4 := by
  induction d with
  | zero =>
    intro j a acc h0 hs ha row a' h
    simp only [rowU, Sum.inl.injEq, Prod.mk.injEq] at h
    obtain ⟨rfl, rfl⟩ := h
    exact ⟨by omega, hs, by omega, ha⟩
  | succ d ih =>
    intro j a acc h0 hs ha row a' h
    have hr := readc_in hb h0
    unfold rowU at h
    by_cases c1 : (readc xs a).2.2 = 1
    · rw [if_pos c1] at h; cases h
    · rw [if_neg c1] at h
      by_cases c0 : (readc xs a).2.2 = 0
      · rw [if_pos c0] at h
        obtain ⟨h1, h2, h3⟩ := hr.1 c0
        cases hx : inB ((readc xs a).1 + rd prev (j : Int)) (-30000) 30000 with
        | false => rw [hx] at h; simp at h
        | true =>
          rw [hx, if_pos rfl] at h
          rw [inB_iff] at hx
          obtain ⟨k1, k2, k3, k4⟩ := ih (j + 1) _ _ (by omega) (by
            intro x hm
            rcases List.mem_append.1 hm with hm | hm
            · exact hs x hm
            · rw [List.mem_singleton.1 hm]; exact hx) (by omega) row a' h
          rw [List.length_append, List.length_singleton] at k1
          exact ⟨by omega, k2, by omega, k4⟩
      · rw [if_neg c0] at h; cases h
theorem impl_Unpack20_l (xs : List Int) (hb : ∀ x ∈ xs, 0 ≤ x ∧ x ≤ 255) (hl : xs.length ≤ 1048576) (w : Nat) (hw : w ≤ 8) (n : Nat) (hn : n ≤ 200) (d : Nat) : ∀ (i : Nat) (a : Int) (prev : List Int) (out : List (List Int)), i + d = n → 0 ≤ a → a ≤ (xs.length : Int) + 4 → prev.length = w → (∀ x ∈ prev, -30000 ≤ x ∧ x ≤ 30000) → out.length = i →
    Ev (fun k => impl_Unpack20.l0 k xs out a prev (n : Int) (i : Int)) (recU xs w d a prev out) := by
  induction d with
  | zero =>
    intro i a prev out h h0 h1 hp hs ho
    refine ev_succ ?_
    simp only [impl_Unpack20.l0, if_neg (show ¬ ((i : Int) < (n : Int)) by omega), recU]
    split <;> exact ev_now _
  | succ d ih =>
    intro i a prev out h h0 h1 hp hs ho
    refine ev_succ ?_
    simp only [impl_Unpack20.l0, if_pos (show ((i : Int) < (n : Int)) by omega), hp]
    have hrow := impl_Unpack20_row xs hb hl prev w hw hp hs out (by omega) (n : Int) (i : Int) (recU xs w (d + 1) a prev out) w 0 a [] (by omega) rfl h0 h1
    rw [List.nil_append, List.drop_zero] at hrow
    refine hrow ?_ ?_
    · intro row a' hr
      obtain ⟨k1, k2, k3, k4⟩ := rowU_in xs hb prev w 0 a [] h0 (by simp) h1 row a' hr
      have e : ((i : Int) + 1) % 256 = ((i + 1 : Nat) : Int) := by omega
      rw [e]
      have := ih (i + 1) a' row (out ++ [row]) (by omega) (by omega) k4 (by simpa using k1) k2 (by simp; omega)
      simpa only [recU, hr] using this
    · intro c p hr
      simp only [recU, hr]
theorem impl_Unpack20_ev (xs : List Int) (hb : ∀ x ∈ xs, 0 ≤ x ∧ x ≤ 255) (hl : xs.length ≤ 1048576) : Ev (fun k => impl_Unpack20.f k xs) (unpack20 xs) := by
  simp only [impl_Unpack20.f, impl_headOk.f, unpack20]
  by_cases h1 : (xs.length : Int) < 1
  · simp only [if_pos h1, Option.bind_some]
    exact ev_now _
  · have b0 := byte_at hb (i := 0) (by omega) (by omega)
    simp only [if_neg h1, if_pos (show (0 : Int) < (xs.length : Int) by omega)]
    by_cases h2 : rd xs 0 > 8
    · simp only [if_pos h2, Option.bind_some]
      exact ev_now _
    · simp only [if_neg h2]
      by_cases h3 : (xs.length : Int) < 2
      · simp only [if_pos h3, Option.bind_some]
        exact ev_now _
      · have b1 := byte_at hb (i := 1) (by omega) (by omega)
        simp only [if_neg h3, if_pos (show (1 : Int) < (xs.length : Int) by omega)]
        by_cases h4 : rd xs 1 > 200
        · simp only [if_pos h4, Option.bind_some]
          exact ev_now _
        · simp only [if_neg h4]
          cases h5 : ((rd xs 0 == 0) != (rd xs 1 == 0)) with
          | true =>
            simp only [if_true, Option.bind_some]
            exact ev_now _
          | false =>
            simp only [Bool.false_eq_true, if_false, Option.bind_some, if_true, w64 (n := rd xs 0) (by omega) (by omega), if_pos b0.1, if_pos (show (rd xs 0).toNat ≤ 35184372088832 by omega)]
            have e1 : (((rd xs 1).toNat : Nat) : Int) = rd xs 1 := by omega
            have := impl_Unpack20_l xs hb hl (rd xs 0).toNat (by omega) (rd xs 1).toNat (by omega) (rd xs 1).toNat 0 2 (List.replicate (rd xs 0).toNat 0) [] (by omega) (by omega) (by omega) (by simp) (by
              intro x hx
              rw [List.eq_of_mem_replicate hx]
              omega) rfl
            rw [e1] at this
            exact this
/-- Where two rows differ first, from column k on. -/
def rowDiff : List Int → List Int → Int → Option Int
  | [], [], _ => none
  | [], _ :: _, k => some k
  | _ :: _, [], k => some k
  | x :: r, y :: s, k => if x = y then rowDiff r s (k + 1) else some k
/-- Where two records differ first, from row i on. -/
def sameL : List (List Int) → List (List Int) → Int → Int × Int × Bool
  | [], [], _ => (-1, -1, true)
  | [], _ :: _, i => (i, 0, false)
  | _ :: _, [], i => (i, 0, false)
  | r :: a, s :: b, i => match rowDiff r s 0 with
    | some k => (i, k, false)
    | none => sameL a b (i + 1)
def same20 (a b : List (List Int)) : Int × Int × Bool := if recordB a = true ∧ recordB b = true then sameL a b 0 else (-2, -2, false)
theorem rowDiff_left {r s : List Int} {k : Nat} (h1 : r.length ≤ k) (h2 : k < s.length) : rowDiff (r.drop k) (s.drop k) (k : Int) = some (k : Int) := by
  rw [List.drop_of_length_le h1, List.drop_eq_getElem_cons h2]
  rfl
theorem rowDiff_right {r s : List Int} {k : Nat} (h1 : k < r.length) (h2 : s.length ≤ k) : rowDiff (r.drop k) (s.drop k) (k : Int) = some (k : Int) := by
  rw [List.drop_of_length_le h2, List.drop_eq_getElem_cons h1]
  rfl
theorem rowDiff_end {r s : List Int} {k : Nat} (h1 : r.length ≤ k) (h2 : s.length ≤ k) : rowDiff (r.drop k) (s.drop k) (k : Int) = none := by
  rw [List.drop_of_length_le h2, List.drop_of_length_le h1]
  rfl
theorem rowDiff_both {r s : List Int} {k : Nat} (h1 : k < r.length) (h2 : k < s.length) : rowDiff (r.drop k) (s.drop k) (k : Int) = if rd r (k : Int) = rd s (k : Int) then rowDiff (r.drop (k + 1)) (s.drop (k + 1)) ((k + 1 : Nat) : Int) else some (k : Int) := by
  rw [drop_rd h1, drop_rd h2]
  rfl
/-- What a row's look leads to. -/
def rowEnd (i : Int) (R : Int × Int × Bool) : Option Int → Int × Int × Bool
  | some k => (i, k, false)
  | none => R
theorem sameL_both {a b : List (List Int)} {i : Nat} (h1 : i < a.length) (h2 : i < b.length) : sameL (a.drop i) (b.drop i) (i : Int) = rowEnd (i : Int) (sameL (a.drop (i + 1)) (b.drop (i + 1)) ((i + 1 : Nat) : Int)) (rowDiff (a[i]) (b[i]) 0) := by
  rw [List.drop_eq_getElem_cons h1, List.drop_eq_getElem_cons h2]
  rw [show ∀ (r s : List Int) (x y : List (List Int)) (j : Int), sameL (r :: x) (s :: y) j = (match rowDiff r s 0 with | some k => (j, k, false) | none => sameL x y (j + 1)) from fun _ _ _ _ _ => rfl]
  cases rowDiff a[i] b[i] 0 <;> rfl
theorem sameL_left {a b : List (List Int)} {i : Nat} (h1 : a.length ≤ i) (h2 : i < b.length) : sameL (a.drop i) (b.drop i) (i : Int) = ((i : Int), 0, false) := by
  rw [List.drop_of_length_le h1, List.drop_eq_getElem_cons h2]
  rfl
theorem sameL_right {a b : List (List Int)} {i : Nat} (h1 : i < a.length) (h2 : b.length ≤ i) : sameL (a.drop i) (b.drop i) (i : Int) = ((i : Int), 0, false) := by
  rw [List.drop_of_length_le h2, List.drop_eq_getElem_cons h1]
  rfl
theorem sameL_end {a b : List (List Int)} {i : Nat} (h1 : a.length ≤ i) (h2 : b.length ≤ i) : sameL (a.drop i) (b.drop i) (i : Int) = (-1, -1, true) := by
  rw [List.drop_of_length_le h2, List.drop_of_length_le h1]
  rfl
theorem mx_nat (a b : Nat) : mx (a : Int) (b : Int) = ((max a b : Nat) : Int) := by unfold mx; split <;> omega
theorem impl_Same20_l1 (a b : List (List Int)) (i : Nat) (N : Int) (h1 : i < a.length) (h2 : i < b.length) (hl1 : (a[i]).length ≤ 1000) (hl2 : (b[i]).length ≤ 1000) (R : Int × Int × Bool)
    (hR : Ev (fun k => impl_Same20.l0 k a b N (wrap64 ((i : Int) + 1))) R) (d : Nat) : ∀ q : Nat, q + d = max (a[i]).length (b[i]).length →
    Ev (fun k => impl_Same20.l1 k a b (i : Int) N (i : Int) (mx ((a[i]).length : Int) ((b[i]).length : Int)) (q : Int)) (rowEnd (i : Int) R (rowDiff ((a[i]).drop q) ((b[i]).drop q) (q : Int))) := by
  rw [mx_nat]
  induction d with
  | zero =>
    intro q hq
    refine ev_succ ?_
    rw [rowDiff_end (by omega) (by omega)]
    simp only [impl_Same20.l1, if_neg (show ¬ ((q : Int) < ((max (a[i]).length (b[i]).length : Nat) : Int)) by omega)]
    exact hR
  | succ d ih =>
    intro q hq
    refine ev_succ ?_
    simp only [impl_Same20.l1, if_pos (show ((q : Int) < ((max (a[i]).length (b[i]).length : Nat) : Int)) by omega), if_pos (show (0 : Int) ≤ (i : Int) by omega), if_pos (show (0 : Int) ≤ (q : Int) by omega), if_pos (show (i : Int) < (a.length : Int) by omega), if_pos (show (i : Int) < (b.length : Int) by omega), rdIntSS h1, rdIntSS h2, w64s q (by omega)]
    by_cases c1 : q < (a[i]).length
    · by_cases c2 : q < (b[i]).length
      · rw [rowDiff_both c1 c2]
        simp only [if_neg (show ¬ (q : Int) ≥ ((a[i]).length : Int) by omega), if_neg (show ¬ (q : Int) ≥ ((b[i]).length : Int) by omega), if_pos (show (q : Int) < ((a[i]).length : Int) by omega), if_pos (show (q : Int) < ((b[i]).length : Int) by omega)]
        by_cases e : rd (a[i]) (q : Int) = rd (b[i]) (q : Int)
        · simp only [if_pos e]
          exact ih (q + 1) (by omega)
        · simp only [if_neg e]
          exact ev_now _
      · rw [rowDiff_right c1 (by omega)]
        simp only [if_neg (show ¬ (q : Int) ≥ ((a[i]).length : Int) by omega), if_pos (show (q : Int) ≥ ((b[i]).length : Int) by omega)]
        exact ev_now _
    · rw [rowDiff_left (by omega) (by omega)]
      simp only [if_pos (show (q : Int) ≥ ((a[i]).length : Int) by omega)]
      exact ev_now _
theorem impl_Same20_l0 (a b : List (List Int)) (ha : recordB a = true) (hb : recordB b = true) (d : Nat) : ∀ i : Nat, i + d = max a.length b.length →
    Ev (fun k => impl_Same20.l0 k a b (mx (a.length : Int) (b.length : Int)) (i : Int)) (sameL (a.drop i) (b.drop i) (i : Int)) := by
  have ra := recordB_in ha
  have rb := recordB_in hb
  rw [mx_nat]
  induction d with
  | zero =>
    intro i hi
    refine ev_succ ?_
    rw [sameL_end (by omega) (by omega)]
    simp only [impl_Same20.l0, if_neg (show ¬ ((i : Int) < ((max a.length b.length : Nat) : Int)) by omega)]
    exact ev_now _
  | succ d ih =>
    intro i hi
    refine ev_succ ?_
    simp only [impl_Same20.l0, if_pos (show ((i : Int) < ((max a.length b.length : Nat) : Int)) by omega)]
    by_cases c1 : i < a.length
    · by_cases c2 : i < b.length
      · have la := (ra.2 _ (List.getElem_mem c1)).2.1
        have lb := (rb.2 _ (List.getElem_mem c2)).2.1
        rw [sameL_both c1 c2]
        simp only [if_neg (show ¬ (i : Int) ≥ (a.length : Int) by omega), show decide ((i : Int) ≥ (b.length : Int)) = false from decide_eq_false (by omega)]
        refine ev_succ ?_
        simp only [impl_Same20.j2, Bool.false_eq_true, if_false, if_pos (show (0 : Int) ≤ (i : Int) by omega), if_pos (show (i : Int) < (a.length : Int) by omega), if_pos (show (i : Int) < (b.length : Int) by omega), rdIntSS c1, rdIntSS c2]
        have := impl_Same20_l1 a b i ((max a.length b.length : Nat) : Int) c1 c2 (by omega) (by omega) _ (by rw [w64s i (by omega)]; exact ih (i + 1) (by omega)) (max (a[i]).length (b[i]).length) 0 (by omega)
        simpa using this
      · rw [sameL_right c1 (by omega)]
        simp only [if_neg (show ¬ (i : Int) ≥ (a.length : Int) by omega), show decide ((i : Int) ≥ (b.length : Int)) = true from decide_eq_true (by omega)]
        refine ev_succ ?_
        simp only [impl_Same20.j2, if_true]
        exact ev_now _
    · rw [sameL_left (by omega) (by omega)]
      simp only [if_pos (show (i : Int) ≥ (a.length : Int) by omega)]
      refine ev_succ ?_
      simp only [impl_Same20.j2, if_true]
      exact ev_now _
theorem impl_Same20_ev (a b : List (List Int)) (hn : a.length ≤ 140737488355328) (hx : ∀ x ∈ a, x.length ≤ 140737488355328) (hn' : b.length ≤ 140737488355328) (hx' : ∀ x ∈ b, x.length ≤ 140737488355328) : Ev (fun k => impl_Same20.f k a b) (same20 a b) := by
  simp only [impl_Same20.f]
  refine (impl_RecordOk_ev a hn hx).bind ?_
  unfold same20
  have hno : Ev (fun k => impl_Same20.j0 k a b true) (-2, -2, false) := by
    refine ev_succ ?_
    simp only [impl_Same20.j0, if_true]
    exact ev_now _
  by_cases ha : recordB a = true
  · simp only [if_pos ha]
    refine (impl_RecordOk_ev b hn' hx').bind ?_
    by_cases hb : recordB b = true
    · rw [if_pos ⟨ha, hb⟩, hb]
      refine ev_succ ?_
      simp only [impl_Same20.j0, Bool.not_true, Bool.false_eq_true, if_false]
      simpa using impl_Same20_l0 a b ha hb (max a.length b.length) 0 (by omega)
    · rw [if_neg (fun h => hb h.2), show recordB b = false by simpa using hb]
      exact hno
  · simp only [if_neg ha]
    rw [if_neg (fun h => ha h.1)]
    exact hno
theorem at_ev (l : List Int) (hw : ∀ x ∈ l, 0 ≤ x ∧ x ≤ 255) (hn : l.length ≤ 1048576) (i : Int) (h0 : 0 ≤ i) (h1 : i ≤ 1000) : ∃ v, laws_at.f l i = some v ∧ 0 ≤ v ∧ v ≤ 255 := by
  unfold laws_at.f
  by_cases h : i < (l.length : Int)
  · have := hw _ (rd_mem h0 h)
    refine ⟨rd l i, ?_, this.1, this.2⟩
    rw [if_pos h, if_pos h0, w64 (by omega) (by omega)]
  · refine ⟨_, by rw [if_neg h], ?_, ?_⟩
    · rw [w64 (n := i * 7) (by omega) (by omega), w64 (by omega) (by omega)]
      have := Int.tmod_nonneg 256 (show 0 ≤ i * 7 + (l.length : Int) by omega)
      omega
    · rw [w64 (n := i * 7) (by omega) (by omega), w64 (by omega) (by omega)]
      have := Int.tmod_lt_of_pos (i * 7 + (l.length : Int)) (show (0 : Int) < 256 by omega)
      omega
/-! What is drawn: a cursor over the bytes, at place i, with the number h. -/
def Cur (l : List Int) (i : Int) : Prop := l.length ≤ 1048576 ∧ 0 ≤ i ∧ i ≤ (l.length : Int)
theorem draw_new (l : List Int) (hl : l.length ≤ 1048576) : ∃ h, Ev (fun k => spec_l1New.f k l) (l, 0, h) := by
  have loop : ∀ (d : Nat) (i : Nat) (h : Int), i + d = l.length → ∃ h', Ev (fun k => spec_l1New.l0 k l h (i : Int)) (l, 0, h') := by
    intro d
    induction d with
    | zero =>
      intro i h hi
      refine ⟨h, ev_succ ?_⟩
      simp only [spec_l1New.l0, if_neg (show ¬ ((i : Int) < (l.length : Int)) by omega)]
      exact ev_now _
    | succ d ih =>
      intro i h hi
      by_cases h4 : (i : Int) < 4000
      · obtain ⟨h', hh⟩ := ih (i + 1) (Go.bits .and .i64 (wrap64 ((wrap64 ((wrap64 (h * 131)) + (wrap64 (rd l (i : Int))))) + 7)) 1073741823) (by omega)
        refine ⟨h', ev_succ ?_⟩
        simp only [spec_l1New.l0, if_pos (show ((i : Int) < (l.length : Int)) by omega), if_pos h4, if_pos (show (0 : Int) ≤ (i : Int) by omega), w64s i (by omega)]
        exact hh
      · refine ⟨h, ev_succ ?_⟩
        simp only [spec_l1New.l0, if_pos (show ((i : Int) < (l.length : Int)) by omega), if_neg h4]
        exact ev_now _
  obtain ⟨h', hh⟩ := loop l.length 0 (wrap64 (63063 + (l.length : Int))) (by omega)
  exact ⟨h', by simpa [spec_l1New.f] using hh⟩
theorem draw_byte {l : List Int} {i : Int} (h : Int) (hc : Cur l i) : ∃ v i' h', spec_l1Byte.f l i h = some (v, i', h') ∧ 0 ≤ v ∧ v ≤ 255 ∧ Cur l i' := by
  obtain ⟨h1, h2, h3⟩ := hc
  unfold spec_l1Byte.f
  by_cases e : i < (l.length : Int)
  · rw [if_pos e, if_pos h2]
    have := bits_and_le (wrap64 ((Go.bits .and .i64 (Go.bits .xor .i64 ((wrap64 ((wrap64 (h * 6364136223846793005)) + 1442695040888963407)) / 8589934592) ((wrap64 ((wrap64 (h * 6364136223846793005)) + 1442695040888963407)) / 35184372088832)) 255) + (wrap64 (rd l i)))) 255 (by omega) (by omega)
    exact ⟨_, _, _, rfl, this.1, this.2, h1, by rw [w64 (by omega) (by omega)]; omega, by rw [w64 (by omega) (by omega)]; omega⟩
  · rw [if_neg e]
    have := bits_and_le (Go.bits .xor .i64 ((wrap64 ((wrap64 (h * 6364136223846793005)) + 1442695040888963407)) / 8589934592) ((wrap64 ((wrap64 (h * 6364136223846793005)) + 1442695040888963407)) / 35184372088832)) 255 (by omega) (by omega)
    exact ⟨_, _, _, rfl, this.1, this.2, h1, h2, h3⟩
theorem draw_below {l : List Int} {i : Int} (h n : Int) (hc : Cur l i) (h0 : 0 < n) (h1 : n ≤ 1099511627776) : ∃ v i' h', spec_l1Below.f l i h n = some (v, i', h') ∧ 0 ≤ v ∧ v < n ∧ Cur l i' := by
  unfold spec_l1Below.f
  rw [if_neg (by omega)]
  by_cases e : n ≤ 256
  · obtain ⟨v, i', h', e1, v0, v1, c1⟩ := draw_byte h hc
    rw [if_pos e, e1]
    simp only [Option.bind_some, if_neg (show ¬ n = 0 by omega)]
    exact ⟨_, _, _, rfl, Int.tmod_nonneg _ v0, Int.tmod_lt_of_pos _ h0, c1⟩
  · obtain ⟨v, i', h', e1, v0, v1, c1⟩ := draw_byte h hc
    obtain ⟨v', i2, h2, e2, v2, v3, c2⟩ := draw_byte h' c1
    obtain ⟨v4, i3, h3, e3, v5, v6, c3⟩ := draw_byte h2 c2
    obtain ⟨v7, i4, h4, e4, v8, v9, c4⟩ := draw_byte h3 c3
    rw [if_neg e, e1]
    simp only [Option.bind_some, e2, e3, e4, if_neg (show ¬ n = 0 by omega)]
    refine ⟨_, _, _, rfl, ?_, Int.tmod_lt_of_pos _ h0, c4⟩
    rw [w64 (n := v * 16777216) (by omega) (by omega), w64 (n := v' * 65536) (by omega) (by omega), w64 (n := v4 * 256) (by omega) (by omega), w64 (n := v * 16777216 + v' * 65536) (by omega) (by omega), w64 (n := v * 16777216 + v' * 65536 + v4 * 256) (by omega) (by omega), w64 (by omega) (by omega)]
    exact Int.tmod_nonneg _ (by omega)
theorem draw_once {l : List Int} {i : Int} (h n : Int) (hc : Cur l i) (h0 : 0 < n) (h1 : n ≤ 1099511627776) : ∃ v i' h', spec_l1Once.f l i h n = some (v, i', h') ∧ Cur l i' := by
  obtain ⟨v, i', h', e1, _, _, c1⟩ := draw_below h n hc h0 h1
  unfold spec_l1Once.f
  rw [e1]
  exact ⟨_, _, _, rfl, c1⟩
theorem draw_pickint {l : List Int} {i : Int} (h : Int) (xs : List Int) (hc : Cur l i) (h0 : 0 < xs.length) (h1 : xs.length ≤ 1000) : ∃ v i' h', spec_l1PickInt.f l i h xs = some (v, i', h') ∧ v ∈ xs ∧ Cur l i' := by
  obtain ⟨v, i', h', e1, v0, v1, c1⟩ := draw_below h (xs.length : Int) hc (by omega) (by omega)
  unfold spec_l1PickInt.f
  rw [e1]
  simp only [Option.bind_some, if_pos v0, if_pos v1]
  exact ⟨_, _, _, rfl, rd_mem v0 v1, c1⟩
/-! A drawn record. -/
theorem draw_size20 (l : List Int) (hl : l.length ≤ 1048576) : ∃ v, spec_l1Size.f l 20 = some v ∧ 1 ≤ v ∧ v ≤ 20 := by
  unfold spec_l1Size.f
  rw [w64 (n := (l.length : Int) / 20) (by omega) (by omega), w64 (n := 2 + (l.length : Int) / 20) (by omega) (by omega)]
  by_cases h : 2 + (l.length : Int) / 20 > 20
  · rw [if_pos h]; exact ⟨_, rfl, by omega, by omega⟩
  · rw [if_neg h]; exact ⟨_, rfl, by omega, by omega⟩
theorem draw_clip (x : Int) : ∃ m y, spec_l1Min.f 30000 x = some m ∧ spec_l1Max.f (-30000) m = some y ∧ -30000 ≤ y ∧ y ≤ 30000 := by
  unfold spec_l1Min.f spec_l1Max.f
  by_cases h : (30000 : Int) < x
  · exact ⟨30000, 30000, by rw [if_pos h], by rw [if_neg (by omega)], by omega, by omega⟩
  · by_cases h2 : (-30000 : Int) > x
    · exact ⟨x, -30000, by rw [if_neg h], by rw [if_pos h2], by omega, by omega⟩
    · exact ⟨x, x, by rw [if_neg h], by rw [if_neg h2], by omega, by omega⟩
def rowW (w : Nat) (r : List Int) : Prop := r.length = w ∧ ∀ x ∈ r, -30000 ≤ x ∧ x ≤ 30000
theorem draw20_j2 {l : List Int} (w : Nat) (out : List (List Int)) (row : List Int) (n : Int) (hr : row.length = w) (i : Nat) (hi : i < w) (next : List Int) (hn : next.length = i) (hw : w ≤ 8) (x c h : Int) (hc : Cur l c) :
    ∃ y c' h', (-30000 ≤ y ∧ y ≤ 30000) ∧ Cur l c' ∧ ∀ R, Ev (fun k => spec_l20Draw.l1 k (w : Int) out row n (next ++ [y]) ((i + 1 : Nat) : Int) l c' h') R → Ev (fun k => spec_l20Draw.j2 k (w : Int) out row n next (i : Int) x l c h) R := by
  obtain ⟨v, c1, h1, e1, k1⟩ := draw_once h 20 hc (by omega) (by omega)
  cases v with
  | true =>
    obtain ⟨p, c2, h2, e2, _, k2⟩ := draw_pickint h1 [100, -100, 101, -101] k1 (by simp) (by simp)
    obtain ⟨m, y, e3, e4, y0, y1⟩ := draw_clip (wrap64 (rd row (i : Int) + p))
    refine ⟨y, c2, h2, ⟨y0, y1⟩, k2, fun R hR => ev_succ ?_⟩
    simp only [spec_l20Draw.j2, e1, Option.bind_some, if_true, if_pos (show (0 : Int) ≤ (i : Int) by omega), if_pos (show (i : Int) < (row.length : Int) by omega), e2, e3, e4, if_pos (show next.length < 17592186044416 by omega), w64s i (by omega)]
    exact hR
  | false =>
    obtain ⟨m, y, e3, e4, y0, y1⟩ := draw_clip x
    refine ⟨y, c1, h1, ⟨y0, y1⟩, k1, fun R hR => ev_succ ?_⟩
    simp only [spec_l20Draw.j2, e1, Option.bind_some, Bool.false_eq_true, if_false, e3, e4, if_pos (show next.length < 17592186044416 by omega), w64s i (by omega)]
    exact hR
theorem draw20_l1 {l : List Int} (w : Nat) (out : List (List Int)) (row : List Int) (n : Int) (hr : row.length = w) (hw : w ≤ 8) (ho : out.length ≤ 1000) (d : Nat) : ∀ (i : Nat) (next : List Int) (c h : Int), i + d = w → next.length = i → (∀ x ∈ next, -30000 ≤ x ∧ x ≤ 30000) → Cur l c →
    ∃ next' c' h', rowW w next' ∧ Cur l c' ∧ ∀ R, Ev (fun k => spec_l20Draw.l0 k (w : Int) (out ++ [next']) next' (wrap64 (n - 1)) l c' h') R → Ev (fun k => spec_l20Draw.l1 k (w : Int) out row n next (i : Int) l c h) R := by
  induction d with
  | zero =>
    intro i next c h hi hn hx hc
    refine ⟨next, c, h, ⟨by omega, hx⟩, hc, fun R hR => ev_succ ?_⟩
    simp only [spec_l20Draw.l1, if_neg (show ¬ ((i : Int) < (w : Int)) by omega), if_pos (show out.length < 5864062014805 by omega)]
    exact hR
  | succ d ih =>
    intro i next c h hi hn hx hc
    have hmem : ∀ y, (-30000 ≤ y ∧ y ≤ 30000) → ∀ x ∈ next ++ [y], -30000 ≤ x ∧ x ≤ 30000 := by
      intro y hy x hm
      rcases List.mem_append.1 hm with hm | hm
      · exact hx x hm
      · rw [List.mem_singleton.1 hm]; exact hy
    obtain ⟨v1, c1, h1, e1, _, _, k1⟩ := draw_below h 41 hc (by omega) (by omega)
    obtain ⟨v2, c2, h2, e2, k2⟩ := draw_once h1 12 k1 (by omega) (by omega)
    cases v2 with
    | true =>
      obtain ⟨v3, c3, h3, e3, _, _, k3⟩ := draw_below h2 60001 k2 (by omega) (by omega)
      obtain ⟨y, c4, h4, hy, k4, hgo⟩ := draw20_j2 w out row n hr i (by omega) next hn hw (wrap64 (v3 - 30000)) c3 h3 k3
      obtain ⟨next', c', h', hw', k', hgo'⟩ := ih (i + 1) (next ++ [y]) c4 h4 (by omega) (by simp; omega) (hmem y hy) k4
      refine ⟨next', c', h', hw', k', fun R hR => ev_succ ?_⟩
      simp only [spec_l20Draw.l1, if_pos (show ((i : Int) < (w : Int)) by omega), if_pos (show (0 : Int) ≤ (i : Int) by omega), if_pos (show (i : Int) < (row.length : Int) by omega), e1, e2, e3, Option.bind_some, if_true]
      exact hgo R (hgo' R hR)
    | false =>
      obtain ⟨y, c4, h4, hy, k4, hgo⟩ := draw20_j2 w out row n hr i (by omega) next hn hw (wrap64 (wrap64 (rd row (i : Int) + v1) - 20)) c2 h2 k2
      obtain ⟨next', c', h', hw', k', hgo'⟩ := ih (i + 1) (next ++ [y]) c4 h4 (by omega) (by simp; omega) (hmem y hy) k4
      refine ⟨next', c', h', hw', k', fun R hR => ev_succ ?_⟩
      simp only [spec_l20Draw.l1, if_pos (show ((i : Int) < (w : Int)) by omega), if_pos (show (0 : Int) ≤ (i : Int) by omega), if_pos (show (i : Int) < (row.length : Int) by omega), e1, e2, Option.bind_some, Bool.false_eq_true, if_false]
      exact hgo R (hgo' R hR)
theorem draw20_l0 {l : List Int} (w : Nat) (hw : w ≤ 8) (n : Nat) : ∀ (out : List (List Int)) (row : List Int) (c h : Int), row.length = w → out.length + n ≤ 40 → (∀ r ∈ out, rowW w r) → Cur l c →
    ∃ out' c' h', Ev (fun k => spec_l20Draw.l0 k (w : Int) out row (n : Int) l c h) (out', c', h') ∧ out'.length ≤ 40 ∧ (∀ r ∈ out', rowW w r) ∧ Cur l c' := by
  induction n with
  | zero =>
    intro out row c h hr ho hg hc
    refine ⟨out, c, h, ev_succ ?_, by omega, hg, hc⟩
    simp only [spec_l20Draw.l0, if_neg (show ¬ (((0 : Nat) : Int) > 0) by omega)]
    exact ev_now _
  | succ n ih =>
    intro out row c h hr ho hg hc
    obtain ⟨next', c1, h1, hw1, k1, hgo⟩ := draw20_l1 w out row ((n + 1 : Nat) : Int) hr hw (by omega) w 0 [] c h (by omega) rfl (by simp) hc
    obtain ⟨out', c', h', he, hl, hg', k'⟩ := ih (out ++ [next']) next' c1 h1 hw1.1 (by simp; omega) (by
      intro r hm
      rcases List.mem_append.1 hm with hm | hm
      · exact hg r hm
      · rw [List.mem_singleton.1 hm]; exact hw1) k1
    refine ⟨out', c', h', ev_succ ?_, hl, hg', k'⟩
    simp only [spec_l20Draw.l0, if_pos (show (((n + 1 : Nat) : Int) > 0) by omega)]
    refine hgo _ ?_
    rw [show wrap64 (((n + 1 : Nat) : Int) - 1) = (n : Int) by rw [w64 (by omega) (by omega)]; omega]
    exact he
theorem draw20_ev {l : List Int} {c : Int} (h : Int) (hc : Cur l c) : ∃ rows c' h' w, Ev (fun k => spec_l20Draw.f k l c h l) (rows, c', h') ∧ 1 ≤ w ∧ w ≤ 4 ∧ rows.length ≤ 40 ∧ (∀ r ∈ rows, rowW w r) ∧ Cur l c' := by
  have hl := hc.1
  obtain ⟨v, c1, h1, e1, v0, v1, k1⟩ := draw_below h 4 hc (by omega) (by omega)
  obtain ⟨s, es, s0, s1⟩ := draw_size20 l hl
  have w2 : wrap64 (2 * s) = 2 * s := w64 (by omega) (by omega)
  obtain ⟨m, c2, h2, e2, m0, m1, k2⟩ := draw_below h1 (2 * s) k1 (by omega) (by omega)
  obtain ⟨w, hw⟩ : ∃ w : Nat, wrap64 (1 + v) = (w : Int) := ⟨(1 + v).toNat, by rw [w64 (by omega) (by omega)]; omega⟩
  have hwv : (w : Int) = 1 + v := by rw [← hw, w64 (by omega) (by omega)]
  obtain ⟨out', c', h', he, ho, hg, k'⟩ := draw20_l0 (l := l) w (by omega) m.toNat [] (List.replicate w 0) c2 h2 (by simp) (by simp; omega) (by simp) k2
  refine ⟨out', c', h', w, ?_, by omega, by omega, ho, hg, k'⟩
  simp only [spec_l20Draw.f, e1, Option.bind_some, hw, if_pos (show (0 : Int) ≤ (w : Int) by omega), Int.toNat_natCast, if_pos (show w ≤ 35184372088832 by omega), es, w2, e2]
  rw [show ((m.toNat : Nat) : Int) = m by omega] at he
  exact he
theorem recordB_of {rows : List (List Int)} {w : Nat} (h1 : 1 ≤ w) (h8 : w ≤ 8) (hl : rows.length ≤ 200) (hg : ∀ r ∈ rows, rowW w r) : recordB rows = true := by
  simp only [recordB, Bool.and_eq_true, List.all_eq_true, decide_eq_true_eq, rowB, inB_iff, allB_iff]
  refine ⟨fun r hr => ?_, by omega⟩
  have h0 : (rows.getD 0 []).length = w := by
    cases rows with
    | nil => simp at hr
    | cons a rows => exact (hg a (by simp)).1
  obtain ⟨a, b⟩ := hg r hr
  exact ⟨by omega, by omega, b⟩
/-! What is packed is read again. -/
theorem rd_at (pre rest : List Int) (j : Nat) : rd (pre ++ rest) ((pre.length : Int) + (j : Int)) = rd rest (j : Int) := by
  simp only [rd, List.getD_eq_getElem?_getD]
  rw [show ((pre.length : Int) + (j : Int)).toNat = pre.length + j by omega, Int.toNat_natCast, List.getElem?_append_right (by omega), Nat.add_sub_cancel_left]
theorem readc_chg (pre suf : List Int) (d : Int) (h0 : -60000 ≤ d) (h1 : d ≤ 60000) : readc (pre ++ (chg d ++ suf)) (pre.length : Int) = (d, ((chg d).length : Int), 0) := by
  have r := rd_at pre (chg d ++ suf)
  have r0 := r 0
  have r1 := r 1
  have r2 := r 2
  have r3 := r 3
  unfold readc val3
  by_cases hi : inB d (-100) 100 = true
  · have hb := inB_iff.1 hi
    have e : chg d = [d + 100] := by unfold chg; rw [if_pos hi, w64 (by omega) (by omega)]; congr 1; omega
    rw [e] at r0 ⊢
    have r0' : rd (pre ++ ([d + 100] ++ suf)) (pre.length : Int) = d + 100 := by simp [rd]
    rw [r0', if_neg (by simp; omega), if_pos (by omega)]
    simp
  · have hw : wrap64 (d + 60000) = d + 60000 := w64 (by omega) (by omega)
    have e : chg d = [255, (d + 60000) / 65536 % 256, (d + 60000) / 256 % 256, (d + 60000) % 256] := by unfold chg; rw [if_neg hi, hw]
    rw [e] at r0 r1 r2 r3 ⊢
    have hn : ¬ inB d (-100) 100 = true := hi
    have r0' : rd (pre ++ ([255, (d + 60000) / 65536 % 256, (d + 60000) / 256 % 256, (d + 60000) % 256] ++ suf)) (pre.length : Int) = 255 := by simp [rd]
    have r1' : rd (pre ++ ([255, (d + 60000) / 65536 % 256, (d + 60000) / 256 % 256, (d + 60000) % 256] ++ suf)) ((pre.length : Int) + 1) = (d + 60000) / 65536 % 256 := r1
    have r2' : rd (pre ++ ([255, (d + 60000) / 65536 % 256, (d + 60000) / 256 % 256, (d + 60000) % 256] ++ suf)) ((pre.length : Int) + 2) = (d + 60000) / 256 % 256 := r2
    have r3' : rd (pre ++ ([255, (d + 60000) / 65536 % 256, (d + 60000) / 256 % 256, (d + 60000) % 256] ++ suf)) ((pre.length : Int) + 3) = (d + 60000) % 256 := r3
    rw [r0', r1', r2', r3', show (d + 60000) / 65536 % 256 * 65536 + (d + 60000) / 256 % 256 * 256 + (d + 60000) % 256 - 60000 = d by omega, if_neg (by simp; omega), if_neg (by omega), if_pos rfl, if_neg (by simp; omega), if_neg hn, if_neg (by omega)]
    rfl
def Row20 (w : Nat) (r : List Int) : Prop := r.length = w ∧ ∀ x ∈ r, -30000 ≤ x ∧ x ≤ 30000
theorem Row20.at {w : Nat} {r : List Int} (h : Row20 w r) {j : Nat} (hj : j < w) : -30000 ≤ rd r (j : Int) ∧ rd r (j : Int) ≤ 30000 := h.2 _ (rd_mem (by omega) (by have := h.1; omega))
theorem rowU_rowP {w : Nat} {prev row : List Int} (hp : Row20 w prev) (hr : Row20 w row) (d : Nat) : ∀ (j : Nat) (pre acc suf : List Int), j + d = w → rowU (pre ++ (rowP prev row d j ++ suf)) prev d j (pre.length : Int) acc = .inl (acc ++ row.drop j, (pre.length : Int) + ((rowP prev row d j).length : Int)) := by
  induction d with
  | zero =>
    intro j pre acc suf h
    rw [List.drop_of_length_le (by have := hr.1; omega)]
    simp [rowU, rowP]
  | succ d ih =>
    intro j pre acc suf h
    have a := hp.at (show j < w by omega)
    have b := hr.at (show j < w by omega)
    have hc := readc_chg pre (rowP prev row d (j + 1) ++ suf) (rd row (j : Int) - rd prev (j : Int)) (by omega) (by omega)
    have hk := ih (j + 1) (pre ++ chg (rd row (j : Int) - rd prev (j : Int))) (acc ++ [rd row (j : Int)]) suf (by omega)
    have e : rd row (j : Int) - rd prev (j : Int) + rd prev (j : Int) = rd row (j : Int) := by omega
    have hi : inB (rd row (j : Int)) (-30000) 30000 = true := inB_iff.2 (by omega)
    rw [rowP, List.append_assoc]
    unfold rowU
    rw [hc]
    simp only [e, hi, if_true, if_neg (show ¬ ((0 : Int) = 1) by omega)]
    rw [List.append_assoc, List.length_append, Int.natCast_add] at hk
    rw [hk, drop_rd (show j < row.length by have := hr.1; omega), List.length_append, List.append_assoc]
    simp only [List.singleton_append, Int.natCast_add, Int.add_assoc]
theorem recU_packP {w : Nat} {rows : List (List Int)} (hr : ∀ r ∈ rows, Row20 w r) (suf : List Int) (d : Nat) : ∀ (i : Nat) (pre prev : List Int) (out : List (List Int)), i + d = rows.length → Row20 w prev →
    (suf = [] → recU (pre ++ (packP rows w d i prev ++ suf)) w d (pre.length : Int) prev out = (out ++ rows.drop i, 0, 0)) ∧ (suf ≠ [] → (recU (pre ++ (packP rows w d i prev ++ suf)) w d (pre.length : Int) prev out).2.1 = 4) := by
  induction d with
  | zero =>
    intro i pre prev out h hp
    rw [List.drop_of_length_le (by omega), packP]
    unfold recU
    refine ⟨fun e => ?_, fun e => ?_⟩
    · rw [e, if_neg (by simp)]; simp
    · have : 0 < suf.length := List.length_pos_iff.2 e
      rw [if_pos (by simp; omega)]
  | succ d ih =>
    intro i pre prev out h hp
    have hi : i < rows.length := by omega
    have hri := hr _ (List.getElem_mem hi)
    have hu := rowU_rowP hp hri w 0 pre [] (packP rows w d (i + 1) (rows[i]) ++ suf) (by omega)
    have hk := ih (i + 1) (pre ++ rowP prev (rows[i]) w 0) (rows[i]) (out ++ [rows[i]]) (by omega) hri
    rw [packP, getD_rows hi, List.append_assoc]
    unfold recU
    rw [hu, List.drop_zero, List.nil_append]
    rw [List.length_append, Int.natCast_add, List.append_assoc] at hk
    rw [List.drop_eq_getElem_cons hi]
    simpa using hk
theorem record_rows {rows : List (List Int)} (h : recordB rows = true) : ∀ r ∈ rows, Row20 (rows.getD 0 []).length r := fun r hr => ⟨((recordB_in h).2 r hr).1, ((recordB_in h).2 r hr).2.2⟩
theorem zeros_row (w : Nat) : Row20 w (List.replicate w 0) := ⟨by simp, fun x hx => by rw [List.eq_of_mem_replicate hx]; omega⟩
theorem unpack_pack {rows : List (List Int)} (h : recordB rows = true) (suf : List Int) : (suf = [] → unpack20 (packBytes rows ++ suf) = (rows, 0, 0)) ∧ (suf ≠ [] → (unpack20 (packBytes rows ++ suf)).2.1 = 4) := by
  have hl := (recordB_in h).1
  have hw := rows_width8 h
  have hz : (rows.getD 0 []).length = 0 ↔ rows.length = 0 := by
    refine ⟨fun e => ?_, fun e => ?_⟩
    · by_cases h0 : 0 < rows.length
      · have := (recordB_in h).2 _ (List.getElem_mem h0)
        rw [getD_rows h0] at e
        omega
      · omega
    · rw [List.getD_eq_getElem?_getD, List.getElem?_eq_none (by omega)]; rfl
  have hk := recU_packP (record_rows h) suf rows.length 0 [((rows.getD 0 []).length : Int) % 256, (rows.length : Int) % 256] (List.replicate (rows.getD 0 []).length 0) [] (by omega) (zeros_row _)
  have ex : packBytes rows ++ suf = [((rows.getD 0 []).length : Int) % 256, (rows.length : Int) % 256] ++ (packP rows (rows.getD 0 []).length rows.length 0 (List.replicate (rows.getD 0 []).length 0) ++ suf) := by unfold packBytes; rw [List.append_assoc]
  rw [ex]
  generalize hw' : (rows.getD 0 []).length = w at *
  generalize packP rows w rows.length 0 (List.replicate w 0) ++ suf = bs at *
  have r0 : rd ([(w : Int) % 256, (rows.length : Int) % 256] ++ bs) 0 = (w : Int) := by
    show (w : Int) % 256 = (w : Int)
    omega
  have r1 : rd ([(w : Int) % 256, (rows.length : Int) % 256] ++ bs) 1 = (rows.length : Int) := by
    show (rows.length : Int) % 256 = (rows.length : Int)
    omega
  have hne : (((w : Int) == 0) != ((rows.length : Int) == 0)) = false := by
    by_cases e : w = 0
    · have e2 := hz.1 e
      rw [e, e2]; rfl
    · have e2 : ¬ rows.length = 0 := fun e2 => e (hz.2 e2)
      have a1 : ((w : Int) == 0) = false := beq_eq_false_iff_ne.2 (by omega)
      have a2 : ((rows.length : Int) == 0) = false := beq_eq_false_iff_ne.2 (by omega)
      rw [a1, a2]; rfl
  unfold unpack20
  rw [r0, r1, hne, if_neg (by simp; omega), if_neg (by omega), if_neg (by simp; omega), if_neg (by omega), if_neg (by decide), Int.toNat_natCast, Int.toNat_natCast]
  exact hk
/-! What is read is packed into the same bytes. -/
theorem readc_back {xs : List Int} (hb : ∀ x ∈ xs, 0 ≤ x ∧ x ≤ 255) {a : Nat} (h : (readc xs (a : Int)).2.2 = 0) : ∃ m : Nat, (readc xs (a : Int)).2.1 = (m : Int) ∧ xs.drop a = chg (readc xs (a : Int)).1 ++ xs.drop (a + m) := by
  unfold readc at h ⊢
  by_cases h1 : (a : Int) ≥ (xs.length : Int)
  · rw [if_pos h1] at h; simp at h
  · have b0 := byte_at hb (i := (a : Int)) (by omega) (by omega)
    rw [if_neg h1] at h ⊢
    by_cases h2 : rd xs (a : Int) ≤ 200
    · rw [if_pos h2]
      refine ⟨1, rfl, ?_⟩
      have hi : inB (rd xs (a : Int) - 100) (-100) 100 = true := inB_iff.2 (by omega)
      have e : chg (rd xs (a : Int) - 100) = [rd xs (a : Int)] := by
        unfold chg; rw [if_pos hi, w64 (by omega) (by omega)]; congr 1; omega
      simp only [e]
      rw [drop_rd (show a < xs.length by omega)]
      rfl
    · rw [if_neg h2] at h ⊢
      by_cases h3 : rd xs (a : Int) = 255
      · rw [if_pos h3] at h ⊢
        by_cases h4 : (a : Int) + 4 > (xs.length : Int)
        · rw [if_pos h4] at h; simp at h
        · rw [if_neg h4] at h ⊢
          by_cases h5 : inB (val3 xs (a : Int)) (-100) 100 = true
          · rw [if_pos h5] at h; simp at h
          · rw [if_neg h5] at h ⊢
            by_cases h6 : val3 xs (a : Int) > 60000
            · rw [if_pos h6] at h; simp at h
            · rw [if_neg h6]
              refine ⟨4, rfl, ?_⟩
              have b1 := byte_at hb (i := (a : Int) + 1) (by omega) (by omega)
              have b2 := byte_at hb (i := (a : Int) + 2) (by omega) (by omega)
              have b3 := byte_at hb (i := (a : Int) + 3) (by omega) (by omega)
              have hv := val3_in hb (a := (a : Int)) (by omega) h4
              have ev : val3 xs (a : Int) + 60000 = rd xs ((a : Int) + 1) * 65536 + rd xs ((a : Int) + 2) * 256 + rd xs ((a : Int) + 3) := by unfold val3; omega
              have e : chg (val3 xs (a : Int)) = [255, rd xs ((a : Int) + 1), rd xs ((a : Int) + 2), rd xs ((a : Int) + 3)] := by
                unfold chg
                rw [if_neg h5, w64 (by omega) (by omega), ev]
                congr 2
                · omega
                · congr 1
                  · omega
                  · congr 1; omega
              simp only [e]
              rw [drop_rd (show a < xs.length by omega), drop_rd (show a + 1 < xs.length by omega), drop_rd (show a + 1 + 1 < xs.length by omega), drop_rd (show a + 1 + 1 + 1 < xs.length by omega), h3]
              rfl
      · rw [if_neg h3] at h; simp at h
def rowQ (prev : List Int) : List Int → Nat → List Int
  | [], _ => []
  | v :: r, j => chg (v - rd prev (j : Int)) ++ rowQ prev r (j + 1)
def packQ : List Int → List (List Int) → List Int
  | _, [] => []
  | prev, r :: rs => rowQ prev r 0 ++ packQ r rs
theorem rowP_Q (prev row : List Int) (d : Nat) : ∀ j, j + d = row.length → rowP prev row d j = rowQ prev (row.drop j) j := by
  induction d with
  | zero => intro j h; rw [List.drop_of_length_le (by omega)]; rfl
  | succ d ih => intro j h; rw [drop_rd (show j < row.length by omega), rowP, rowQ, ih (j + 1) (by omega)]
theorem packP_Q {rows : List (List Int)} {w : Nat} (hr : ∀ r ∈ rows, r.length = w) (d : Nat) : ∀ (i : Nat) (prev : List Int), i + d = rows.length → packP rows w d i prev = packQ prev (rows.drop i) := by
  induction d with
  | zero => intro i prev h; rw [List.drop_of_length_le (by omega)]; rfl
  | succ d ih =>
    intro i prev h
    have hi : i < rows.length := by omega
    have hw := hr _ (List.getElem_mem hi)
    rw [packP, getD_rows hi, List.drop_eq_getElem_cons hi, packQ, ih (i + 1) _ (by omega), rowP_Q prev (rows[i]) w 0 (by omega), List.drop_zero]
theorem rowU_back {xs : List Int} (hb : ∀ x ∈ xs, 0 ≤ x ∧ x ≤ 255) (prev : List Int) (d : Nat) : ∀ (j a : Nat) (acc row : List Int) (a' : Int), rowU xs prev d j (a : Int) acc = .inl (row, a') →
    ∃ (new : List Int) (m : Nat), a' = (m : Int) ∧ row = acc ++ new ∧ new.length = d ∧ (∀ x ∈ new, -30000 ≤ x ∧ x ≤ 30000) ∧ xs.drop a = rowQ prev new j ++ xs.drop m := by
  induction d with
  | zero =>
    intro j a acc row a' h
    simp only [rowU, Sum.inl.injEq, Prod.mk.injEq] at h
    exact ⟨[], a, h.2.symm, by rw [← h.1, List.append_nil], rfl, by simp, rfl⟩
  | succ d ih =>
    intro j a acc row a' h
    unfold rowU at h
    by_cases c1 : (readc xs (a : Int)).2.2 = 1
    · rw [if_pos c1] at h; cases h
    · rw [if_neg c1] at h
      by_cases c2 : (readc xs (a : Int)).2.2 = 0
      · rw [if_pos c2] at h
        by_cases c3 : inB ((readc xs (a : Int)).1 + rd prev (j : Int)) (-30000) 30000 = true
        · rw [if_pos c3] at h
          obtain ⟨m, e1, e2⟩ := readc_back hb c2
          rw [e1, ← Int.natCast_add] at h
          obtain ⟨new, m', f1, f2, f3, f4, f5⟩ := ih (j + 1) (a + m) _ row a' h
          refine ⟨((readc xs (a : Int)).1 + rd prev (j : Int)) :: new, m', f1, by rw [f2, List.append_assoc]; rfl, by simp [f3], ?_, ?_⟩
          · intro x hx
            rcases List.mem_cons.1 hx with rfl | hx
            · exact inB_iff.1 c3
            · exact f4 x hx
          · rw [rowQ, show (readc xs (a : Int)).1 + rd prev (j : Int) - rd prev (j : Int) = (readc xs (a : Int)).1 by omega, e2, f5, List.append_assoc]
        · rw [if_neg c3] at h; cases h
      · rw [if_neg c2] at h; cases h
theorem rowU_err {xs : List Int} (hb : ∀ x ∈ xs, 0 ≤ x ∧ x ≤ 255) (prev : List Int) (d : Nat) : ∀ (j a : Nat) (acc : List Int) (c p : Int), rowU xs prev d j (a : Int) acc = .inr (c, p) → c ≠ 0 ∧ 0 ≤ p ∧ p ≤ (xs.length : Int) := by
  induction d with
  | zero => intro j a acc c p h; simp [rowU] at h
  | succ d ih =>
    intro j a acc c p h
    have hin := readc_in hb (a := (a : Int)) (by omega)
    unfold rowU at h
    by_cases c1 : (readc xs (a : Int)).2.2 = 1
    · rw [if_pos c1] at h
      simp only [Sum.inr.injEq, Prod.mk.injEq] at h
      omega
    · rw [if_neg c1] at h
      by_cases c2 : (readc xs (a : Int)).2.2 = 0
      · rw [if_pos c2] at h
        by_cases c3 : inB ((readc xs (a : Int)).1 + rd prev (j : Int)) (-30000) 30000 = true
        · rw [if_pos c3] at h
          obtain ⟨m, e1, e2⟩ := readc_back hb c2
          rw [e1, ← Int.natCast_add] at h
          exact ih (j + 1) (a + m) _ c p h
        · rw [if_neg c3] at h
          simp only [Sum.inr.injEq, Prod.mk.injEq] at h
          have := (hin.1 c2).1
          omega
      · rw [if_neg c2] at h
        simp only [Sum.inr.injEq, Prod.mk.injEq] at h
        have : (a : Int) < (xs.length : Int) := by
          by_cases h1 : (a : Int) ≥ (xs.length : Int)
          · exfalso
            unfold readc at c1
            rw [if_pos h1] at c1
            exact c1 rfl
          · omega
        omega
theorem recU_back {xs : List Int} (hb : ∀ x ∈ xs, 0 ≤ x ∧ x ≤ 255) (w : Nat) (d : Nat) : ∀ (a : Nat) (prev : List Int) (out list : List (List Int)) (p : Int), recU xs w d (a : Int) prev out = (list, 0, p) →
    ∃ new, list = out ++ new ∧ new.length = d ∧ (∀ r ∈ new, Row20 w r) ∧ xs.drop a = packQ prev new := by
  induction d with
  | zero =>
    intro a prev out list p h
    unfold recU at h
    by_cases c : (a : Int) < (xs.length : Int)
    · rw [if_pos c] at h; simp at h
    · rw [if_neg c] at h
      simp only [Prod.mk.injEq] at h
      exact ⟨[], by rw [← h.1, List.append_nil], rfl, by simp, by rw [List.drop_of_length_le (by omega)]; rfl⟩
  | succ d ih =>
    intro a prev out list p h
    unfold recU at h
    cases hu : rowU xs prev w 0 (a : Int) [] with
    | inr cp =>
      obtain ⟨c, q⟩ := cp
      rw [hu] at h
      have := rowU_err hb prev w 0 a [] c q hu
      simp only [Prod.mk.injEq] at h
      exact absurd h.2.1 this.1
    | inl ra =>
      obtain ⟨row, a'⟩ := ra
      rw [hu] at h
      obtain ⟨new, m, f1, f2, f3, f4, f5⟩ := rowU_back hb prev w 0 a [] row a' hu
      rw [List.nil_append] at f2
      subst f1 f2
      obtain ⟨news, g1, g2, g3, g4⟩ := ih m row (out ++ [row]) list p h
      refine ⟨row :: news, by rw [g1, List.append_assoc]; rfl, by simp [g2], ?_, by rw [packQ, f5, g4]⟩
      intro r hr
      rcases List.mem_cons.1 hr with rfl | hr
      · exact ⟨f3, f4⟩
      · exact g3 r hr
theorem recU_err {xs : List Int} (hb : ∀ x ∈ xs, 0 ≤ x ∧ x ≤ 255) (w : Nat) (d : Nat) : ∀ (a : Nat) (prev : List Int) (out : List (List Int)), (recU xs w d (a : Int) prev out).2.1 ≠ 0 → (recU xs w d (a : Int) prev out).1 = [] ∧ 0 ≤ (recU xs w d (a : Int) prev out).2.2 ∧ (recU xs w d (a : Int) prev out).2.2 ≤ (xs.length : Int) := by
  induction d with
  | zero =>
    intro a prev out h
    unfold recU at h ⊢
    by_cases c : (a : Int) < (xs.length : Int)
    · rw [if_pos c]; exact ⟨rfl, by simp only; omega, by simp only; omega⟩
    · rw [if_neg c] at h; simp at h
  | succ d ih =>
    intro a prev out h
    unfold recU at h ⊢
    cases hu : rowU xs prev w 0 (a : Int) [] with
    | inr cp =>
      obtain ⟨c, q⟩ := cp
      exact ⟨rfl, (rowU_err hb prev w 0 a [] c q hu).2⟩
    | inl ra =>
      obtain ⟨row, a'⟩ := ra
      rw [hu] at h
      obtain ⟨new, m, f1, _⟩ := rowU_back hb prev w 0 a [] row a' hu
      subst f1
      exact ih m row (out ++ [row]) h
theorem unpack_err {xs : List Int} (hb : ∀ x ∈ xs, 0 ≤ x ∧ x ≤ 255) (h : (unpack20 xs).2.1 ≠ 0) : (unpack20 xs).1 = [] ∧ 0 ≤ (unpack20 xs).2.2 ∧ (unpack20 xs).2.2 ≤ (xs.length : Int) := by
  unfold unpack20 at h ⊢
  by_cases h1 : (xs.length : Int) < 1
  · rw [if_pos h1]; exact ⟨rfl, by simp only; omega, by simp only; omega⟩
  rw [if_neg h1] at h ⊢
  by_cases h2 : rd xs 0 > 8
  · rw [if_pos h2]; exact ⟨rfl, by simp only; omega, by simp only; omega⟩
  rw [if_neg h2] at h ⊢
  by_cases h3 : (xs.length : Int) < 2
  · rw [if_pos h3]; exact ⟨rfl, by simp only; omega, by simp only; omega⟩
  rw [if_neg h3] at h ⊢
  by_cases h4 : rd xs 1 > 200
  · rw [if_pos h4]; exact ⟨rfl, by simp only; omega, by simp only; omega⟩
  rw [if_neg h4] at h ⊢
  by_cases h5 : ((rd xs 0 == 0) != (rd xs 1 == 0)) = true
  · rw [if_pos h5]; exact ⟨rfl, by simp only; omega, by simp only; omega⟩
  rw [if_neg h5] at h ⊢
  exact recU_err hb _ _ 2 _ _ h
theorem unpack_back {xs : List Int} (hb : ∀ x ∈ xs, 0 ≤ x ∧ x ≤ 255) (h : (unpack20 xs).2.1 = 0) : recordB (unpack20 xs).1 = true ∧ packBytes (unpack20 xs).1 = xs := by
  unfold unpack20 at h ⊢
  by_cases h1 : (xs.length : Int) < 1
  · rw [if_pos h1] at h; simp at h
  rw [if_neg h1] at h ⊢
  by_cases h2 : rd xs 0 > 8
  · rw [if_pos h2] at h; simp at h
  rw [if_neg h2] at h ⊢
  by_cases h3 : (xs.length : Int) < 2
  · rw [if_pos h3] at h; simp at h
  rw [if_neg h3] at h ⊢
  by_cases h4 : rd xs 1 > 200
  · rw [if_pos h4] at h; simp at h
  rw [if_neg h4] at h ⊢
  by_cases h5 : ((rd xs 0 == 0) != (rd xs 1 == 0)) = true
  · rw [if_pos h5] at h; simp at h
  rw [if_neg h5] at h ⊢
  have b0 := byte_at hb (i := 0) (by omega) (by omega)
  have b1 := byte_at hb (i := 1) (by omega) (by omega)
  have hx : xs = [rd xs 0, rd xs 1] ++ xs.drop 2 := by
    have e0 := drop_rd (xs := xs) (i := 0) (by omega)
    have e1 := drop_rd (xs := xs) (i := 1) (by omega)
    rw [List.drop_zero] at e0
    calc xs = rd xs 0 :: (xs.drop 1) := e0
      _ = [rd xs 0, rd xs 1] ++ xs.drop 2 := by rw [e1]; rfl
  generalize hR : recU xs (rd xs 0).toNat (rd xs 1).toNat 2 (List.replicate (rd xs 0).toNat 0) [] = R at h ⊢
  obtain ⟨list, c, p⟩ := R
  simp only at h ⊢
  subst h
  obtain ⟨new, g1, g2, g3, g4⟩ := recU_back hb (rd xs 0).toNat (rd xs 1).toNat 2 _ [] list p hR
  rw [List.nil_append] at g1
  subst g1
  have hiff : rd xs 0 = 0 ↔ rd xs 1 = 0 := by
    refine ⟨fun a => ?_, fun a => ?_⟩
    · refine Decidable.byContradiction fun b => h5 ?_
      rw [a, show (rd xs 1 == 0) = false from beq_eq_false_iff_ne.2 b]; rfl
    · refine Decidable.byContradiction fun b => h5 ?_
      rw [a, show (rd xs 0 == 0) = false from beq_eq_false_iff_ne.2 b]; rfl
  by_cases hn : list.length = 0
  · obtain rfl : list = [] := List.length_eq_zero_iff.1 hn
    have e1 : rd xs 1 = 0 := by omega
    have e0 : rd xs 0 = 0 := hiff.2 e1
    refine ⟨rfl, ?_⟩
    rw [hx, g4, e0, e1]
    rfl
  · have h0 : 0 < list.length := by omega
    have hw0 : (list.getD 0 []).length = (rd xs 0).toNat := by rw [getD_rows h0]; exact (g3 _ (List.getElem_mem h0)).1
    have hw1 : 1 ≤ (rd xs 0).toNat := by have : ¬ rd xs 0 = 0 := fun a => by have := hiff.1 a; omega
                                         omega
    refine ⟨recordB_of hw1 (by omega) (by omega) (fun r hr => g3 r hr), ?_⟩
    unfold packBytes
    rw [hw0, packP_Q (fun r hr => (g3 r hr).1) list.length 0 _ (by omega), List.drop_zero, ← g4, g2]
    rw [show (((rd xs 0).toNat : Nat) : Int) % 256 = rd xs 0 by omega, show (((rd xs 1).toNat : Nat) : Int) % 256 = rd xs 1 by omega]
    exact hx.symm
/-! Records compared. -/
theorem rowDiff_self (r : List Int) : ∀ k, rowDiff r r k = none := by
  induction r with
  | nil => intro k; rfl
  | cons x r ih => intro k; unfold rowDiff; rw [if_pos rfl]; exact ih _
theorem sameL_self (a : List (List Int)) : ∀ i, sameL a a i = (-1, -1, true) := by
  induction a with
  | nil => intro i; rfl
  | cons r a ih => intro i; unfold sameL; rw [rowDiff_self]; exact ih _
theorem rowDiff_set (r : List Int) (v : Int) : ∀ (k : Nat) (k0 : Int) (h : k < r.length), r[k] ≠ v → rowDiff r (r.set k v) k0 = some (k0 + (k : Int)) := by
  induction r with
  | nil => intro k k0 h; simp at h
  | cons x r ih =>
    intro k k0 h hv
    cases k with
    | zero =>
      have : x ≠ v := hv
      simp only [List.set_cons_zero, rowDiff, if_neg this]
      congr 1; omega
    | succ k =>
      simp only [List.set_cons_succ, rowDiff, if_true]
      rw [ih k (k0 + 1) (by simpa using h) hv]
      congr 1; omega
theorem sameL_set (v : Int) (k : Nat) (a : List (List Int)) : ∀ (i : Nat) (i0 : Int) (h : i < a.length) (hk : k < (a[i]).length), (a[i])[k] ≠ v → sameL a (a.set i ((a[i]).set k v)) i0 = (i0 + (i : Int), (k : Int), false) := by
  induction a with
  | nil => intro i i0 h; simp at h
  | cons r a ih =>
    intro i i0 h hk hv
    cases i with
    | zero =>
      simp only [List.set_cons_zero, List.getElem_cons_zero, sameL]
      rw [rowDiff_set r v k 0 hk hv]
      simp
    | succ i =>
      simp only [List.set_cons_succ, List.getElem_cons_succ, sameL, rowDiff_self]
      rw [ih i (i0 + 1) (by simpa using h) hk hv]
      congr 1; omega
theorem record_set {rows : List (List Int)} (h : recordB rows = true) {i k : Nat} (hi : i < rows.length) (hk : k < (rows[i]).length) (v : Int) : recordB (rows.set i ((rows[i]).set k v)) = inB v (-30000) 30000 := by
  have hl := (recordB_in h).1
  by_cases hv : inB v (-30000) 30000 = true
  · rw [hv]
    have hw := (recordB_in h).2 _ (List.getElem_mem hi)
    have hr := record_rows h
    refine recordB_of (w := (rows.getD 0 []).length) (by omega) (by omega) (by simpa using hl) (fun r hm => ?_)
    rcases List.mem_or_eq_of_mem_set hm with hm | rfl
    · exact hr r hm
    · have h0 := hr _ (List.getElem_mem hi)
      refine ⟨by simpa using h0.1, fun x hx => ?_⟩
      rcases List.mem_or_eq_of_mem_set hx with hx | rfl
      · exact h0.2 x hx
      · exact inB_iff.1 hv
  · rw [show inB v (-30000) 30000 = false by simpa using hv]
    refine Bool.eq_false_iff.2 fun hb => hv ?_
    have h1 := (recordB_in hb).2 ((rows[i]).set k v) (List.mem_iff_getElem.2 ⟨i, by simpa using hi, by simp⟩)
    exact inB_iff.2 (h1.2.2 v (List.mem_iff_getElem.2 ⟨k, by simpa using hk, by simp⟩))
theorem same_set {rows : List (List Int)} (h : recordB rows = true) {i k : Nat} (hi : i < rows.length) (hk : k < (rows[i]).length) (v : Int) (hv : (rows[i])[k] ≠ v) : same20 rows (rows.set i ((rows[i]).set k v)) = if inB v (-30000) 30000 = true then ((i : Int), (k : Int), false) else (-2, -2, false) := by
  unfold same20
  rw [record_set h hi hk]
  by_cases c : inB v (-30000) 30000 = true
  · rw [if_pos c, if_pos ⟨h, c⟩, sameL_set v k rows i 0 hi hk hv]
    simp
  · rw [if_neg c, if_neg (fun a => c a.2)]
/-! The law. -/
theorem records_j2 {l : List Int} (hw : ∀ x ∈ l, 0 ≤ x ∧ x ≤ 255) (hn : l.length ≤ 1048576) {rows : List (List Int)} (h : recordB rows = true) : Ev (fun k => laws_FnRecords.j2 k l rows rows) true := by
  have hl := (recordB_in h).1
  refine ev_succ ?_
  by_cases h0 : rows.length = 0
  · simp only [laws_FnRecords.j2, h0]
    exact ev_now _
  · have hp : 0 < rows.length := by omega
    obtain ⟨v1, e1, a0, a1⟩ := at_ev l hw hn 1 (by omega) (by omega)
    obtain ⟨v2, e2, b0, b1⟩ := at_ev l hw hn 2 (by omega) (by omega)
    obtain ⟨v3, e3, c0, c1⟩ := at_ev l hw hn 3 (by omega) (by omega)
    have hw0 := rows_width h
    have hr0 := (recordB_in h).2 _ (List.getElem_mem hp)
    obtain ⟨w, hwd⟩ : ∃ w, (rows.getD 0 []).length = w := ⟨_, rfl⟩
    rw [hwd] at hw0 hr0
    obtain ⟨i, hi⟩ : ∃ i : Nat, Int.tmod v1 (rows.length : Int) = (i : Int) := ⟨(Int.tmod v1 (rows.length : Int)).toNat, by have := Int.tmod_nonneg (rows.length : Int) a0; omega⟩
    obtain ⟨k, hk⟩ : ∃ k : Nat, Int.tmod v2 (w : Int) = (k : Int) := ⟨(Int.tmod v2 (w : Int)).toNat, by have := Int.tmod_nonneg (w : Int) b0; omega⟩
    have hil : i < rows.length := by have := Int.tmod_lt_of_pos v1 (show 0 < (rows.length : Int) by omega); omega
    have hkl : k < w := by have := Int.tmod_lt_of_pos v2 (show 0 < (w : Int) by omega); omega
    have hwi := hw0 i hil
    have hki : k < (rows[i]).length := by omega
    have t0 := Int.tmod_nonneg (2 : Int) c0
    have t1 := Int.tmod_lt_of_pos v3 (show (0 : Int) < 2 by omega)
    have hs := rd_small h hil hki
    have hrk := rd_nat hki
    obtain ⟨v, hv⟩ : ∃ v, v = rd (rows[i]) (k : Int) + 1 - 2 * Int.tmod v3 2 := ⟨_, rfl⟩
    have ev : wrap64 (wrap64 (rd (rows[i]) (k : Int) + 1) - wrap64 (2 * Int.tmod v3 2)) = v := by
      rw [w64 (n := rd (rows[i]) (k : Int) + 1) (by omega) (by omega), w64 (n := 2 * Int.tmod v3 2) (by omega) (by omega), w64 (by omega) (by omega)]; omega
    have hsame := same_set h hil hki v (by rw [← hrk]; omega)
    have h00 : rd_L1 rows 0 = rows.getD 0 [] := rdIntSS0
    have hset : rows.set i (rows[i]) = rows := List.set_getElem_self hil
    simp only [laws_FnRecords.j2, if_neg (show ¬ ((rows.length : Int) = 0) by omega), e1, e2, e3, Option.bind_some, if_pos (show (0 : Int) < (rows.length : Int) by omega), h00, hwd, if_neg (show ¬ ((w : Int) = 0) by omega), hi, hk, if_pos (show (0 : Int) ≤ (i : Int) by omega), if_pos (show (i : Int) < (rows.length : Int) by omega), rdIntSS hil, List.length_nil, if_pos (show 0 + (rows[i]).length < 17592186044416 by omega), List.nil_append, Int.toNat_natCast, hset, if_pos (show (0 : Int) ≤ (k : Int) by omega), if_pos (show (k : Int) < ((rows[i]).length : Int) by omega), ev]
    have hil' : i < (rows.set i ((rows[i]).set k v)).length := by simpa using hil
    have hg : (rows.set i ((rows[i]).set k v))[i] = (rows[i]).set k v := by simp
    have hv2 : rd ((rows[i]).set k v) (k : Int) = v := by rw [rd_nat (by simpa using hki)]; simp
    have hlen : ∀ x ∈ rows.set i ((rows[i]).set k v), x.length ≤ 140737488355328 := by
      intro x hx
      rcases List.mem_or_eq_of_mem_set hx with hx | rfl
      · have := (recordB_in h).2 x hx; omega
      · simp; omega
    refine (impl_Same20_ev rows (rows.set i ((rows[i]).set k v)) (by omega) (fun x hx => by have := (recordB_in h).2 x hx; omega) (by simp; omega) hlen).bind ?_
    rw [hsame]
    simp only [rdIntSS hil', hg, List.length_set, if_pos (show (k : Int) < ((rows[i]).length : Int) by omega), hv2]
    by_cases c : inB v (-30000) 30000 = true
    · have hc := inB_iff.1 c
      simp only [if_pos c, if_neg (show ¬ (v > 30000) by omega), if_neg (show ¬ (v < -30000) by omega), Bool.false_eq_true, if_false, if_true]
      exact ev_some (by simp)
    · have hc : v > 30000 ∨ v < -30000 := by
        refine Decidable.byContradiction fun e => c (inB_iff.2 (by omega))
      simp only [if_neg c, Bool.false_eq_true, if_false]
      by_cases c1 : v > 30000
      · simp only [if_pos c1]; exact ev_some (by simp)
      · simp only [if_neg c1, if_pos (show v < -30000 by omega)]; exact ev_some (by simp)
theorem packP_bytes {rows : List (List Int)} {w : Nat} (d : Nat) : ∀ (i : Nat) (prev : List Int), ∀ x ∈ packP rows w d i prev, 0 ≤ x ∧ x ≤ 255 := by
  have hc : ∀ d x, x ∈ chg d → 0 ≤ x ∧ x ≤ 255 := by
    intro d x hx
    unfold chg at hx
    split at hx
    · rw [List.mem_singleton.1 hx]; omega
    · simp only [List.mem_cons, List.not_mem_nil, or_false] at hx
      rcases hx with rfl | rfl | rfl | rfl <;> omega
  have hp : ∀ (prev row : List Int) (d j : Nat), ∀ x ∈ rowP prev row d j, 0 ≤ x ∧ x ≤ 255 := by
    intro prev row d
    induction d with
    | zero => intro j x hx; simp [rowP] at hx
    | succ d ih =>
      intro j x hx
      rw [rowP] at hx
      rcases List.mem_append.1 hx with hx | hx
      · exact hc _ x hx
      · exact ih _ x hx
  induction d with
  | zero => intro i prev x hx; simp [packP] at hx
  | succ d ih =>
    intro i prev x hx
    rw [packP] at hx
    rcases List.mem_append.1 hx with hx | hx
    · exact hp _ _ _ _ x hx
    · exact ih _ _ x hx
theorem packBytes_bytes (rows : List (List Int)) : ∀ x ∈ packBytes rows, 0 ≤ x ∧ x ≤ 255 := by
  intro x hx
  unfold packBytes at hx
  rcases List.mem_append.1 hx with hx | hx
  · simp only [List.mem_cons, List.not_mem_nil, or_false] at hx
    rcases hx with rfl | rfl <;> omega
  · exact packP_bytes _ _ _ x hx
/-- Bytes that the law looks at: few enough, or a packed record with one more. -/
def Other20 (o : List Int) : Prop := (∀ x ∈ o, 0 ≤ x ∧ x ≤ 255) ∧ (o.length ≤ 1500 ∨ ∃ rows b, recordB rows = true ∧ o = packBytes rows ++ [b] ∧ o.length ≤ 1501)
theorem other_again {o : List Int} (h : Other20 o) (hc : (unpack20 o).2.1 = 0) : pack20 (unpack20 o).1 = (o, true) := by
  obtain ⟨h1, h2⟩ := unpack_back h.1 hc
  rcases h.2 with h3 | ⟨rows, b, k1, k2, k3⟩
  · unfold pack20
    rw [if_pos h1, h2, if_neg (by omega)]
  · exfalso
    have := (unpack_pack k1 [b]).2 (by simp)
    rw [← k2, hc] at this
    exact absurd this (by omega)
theorem records_j1 {l : List Int} (hw : ∀ x ∈ l, 0 ≤ x ∧ x ≤ 255) (hn : l.length ≤ 1048576) {rows : List (List Int)} (h : recordB rows = true) {o : List Int} (ho : Other20 o) (hd : Ev (fun k => spec_DrawUnpack20.f k l) o) : Ev (fun k => laws_FnRecords.j1 k l rows rows false) true := by
  have hol : o.length ≤ 1501 := by rcases ho.2 with h | ⟨_, _, _, _, h⟩ <;> omega
  refine ev_succ ?_
  simp only [laws_FnRecords.j1, Bool.false_eq_true, if_false]
  refine hd.bind ?_
  refine (impl_Unpack20_ev o ho.1 (by omega)).bind ?_
  by_cases c : (unpack20 o).2.1 = 0
  · obtain ⟨h1, h2⟩ := unpack_back ho.1 c
    simp only [if_pos c]
    refine (impl_Pack20_ev (unpack20 o).1 (by have := (recordB_in h1).1; omega) (fun x hx => by have := (recordB_in h1).2 x hx; omega)).bind ?_
    rw [other_again ho c]
    simp only [if_true]
    exact records_j2 hw hn h
  · obtain ⟨h1, h2, h3⟩ := unpack_err ho.1 c
    simp only [if_neg c, if_neg (show ¬ ((unpack20 o).2.2 < 0) by omega), if_neg (show ¬ ((unpack20 o).2.2 > (o.length : Int)) by omega), h1, List.length_nil, if_pos (show ((0 : Nat) : Int) = 0 from rfl)]
    exact records_j2 hw hn h
/-! What is drawn. -/
theorem drawany_loop {l : List Int} (d : Nat) : ∀ (i : Nat) (rows : List (List Int)) (c h : Int), i + d = rows.length → rows.length ≤ 1000 → (∀ r ∈ rows, r.length ≤ 1000) → Cur l c →
    ∃ rows' c' h', Ev (fun k => spec_l20DrawAny.l0 k rows (i : Int) l c h) (rows', c', h') ∧ rows'.length ≤ 1000 ∧ (∀ r ∈ rows', r.length ≤ 1000) ∧ Cur l c' := by
  induction d with
  | zero =>
    intro i rows c h hi hl hr hc
    refine ⟨rows, c, h, ev_succ ?_, hl, hr, hc⟩
    simp only [spec_l20DrawAny.l0, if_neg (show ¬ ((i : Int) < (rows.length : Int)) by omega)]
    exact ev_now _
  | succ d ih =>
    intro i rows c h hi hl hr hc
    have hlt : i < rows.length := by omega
    obtain ⟨v, c1, h1, e1, k1⟩ := draw_once h 9 hc (by omega) (by omega)
    have hset : ∀ (ys : List (List Int)) (x : List Int), (∀ r ∈ ys, r.length ≤ 1000) → x.length ≤ 1000 → ∀ r ∈ ys.set i x, r.length ≤ 1000 := by
      intro ys x hy hx r hm
      rcases List.mem_or_eq_of_mem_set hm with hm | rfl
      · exact hy r hm
      · exact hx
    have hA := hset rows [Int.tmod (i : Int) 3, 0, 0, 0, 0, 0, 0] hr (by simp)
    have hlt' : i < (rows.set i [Int.tmod (i : Int) 3, 0, 0, 0, 0, 0, 0]).length := by simpa using hlt
    have hg : rd_L1 (rows.set i [Int.tmod (i : Int) 3, 0, 0, 0, 0, 0, 0]) (i : Int) = [Int.tmod (i : Int) 3, 0, 0, 0, 0, 0, 0] := by rw [rdIntSS hlt']; simp
    cases v with
    | true =>
      obtain ⟨rows', c', h', f1, f2, f3, f4⟩ := ih (i + 1) ((rows.set i [Int.tmod (i : Int) 3, 0, 0, 0, 0, 0, 0]).set i ([Int.tmod (i : Int) 3, 0, 0, 0, 0, 0, 0].set 1 500)) c1 h1 (by simp; omega) (by simpa using hl) (hset _ _ hA (by simp)) k1
      refine ⟨rows', c', h', ev_succ ?_, f2, f3, f4⟩
      simp only [spec_l20DrawAny.l0, if_pos (show (i : Int) < (rows.length : Int) by omega), if_pos (show (0 : Int) ≤ (i : Int) by omega), Int.toNat_natCast, Option.bind_some, e1, if_true, hg, if_pos (show (1 : Int) < (([Int.tmod (i : Int) 3, 0, 0, 0, 0, 0, 0] : List Int).length : Int) by simp), w64s i (by omega)]
      exact f1
    | false =>
      obtain ⟨rows', c', h', f1, f2, f3, f4⟩ := ih (i + 1) (rows.set i [Int.tmod (i : Int) 3, 0, 0, 0, 0, 0, 0]) c1 h1 (by simp; omega) (by simpa using hl) hA k1
      refine ⟨rows', c', h', ev_succ ?_, f2, f3, f4⟩
      simp only [spec_l20DrawAny.l0, if_pos (show (i : Int) < (rows.length : Int) by omega), if_pos (show (0 : Int) ≤ (i : Int) by omega), Int.toNat_natCast, Option.bind_some, e1, Bool.false_eq_true, if_false, w64s i (by omega)]
      exact f1
theorem drawany_ev {l : List Int} {c : Int} (h : Int) (hc : Cur l c) : ∃ rows c' h', Ev (fun k => spec_l20DrawAny.f k l c h l) (rows, c', h') ∧ rows.length ≤ 1000 ∧ (∀ r ∈ rows, r.length ≤ 1000) ∧ Cur l c' := by
  obtain ⟨rows, c1, h1, w, e1, w1, w4, hl, hg, k1⟩ := draw20_ev h hc
  have hr : ∀ r ∈ rows, r.length ≤ 1000 := fun r hm => by have := (hg r hm).1; omega
  have happ : ∀ x : List Int, x.length ≤ 1000 → ∀ r ∈ rows ++ [x], r.length ≤ 1000 := by
    intro x hx r hm
    rcases List.mem_append.1 hm with hm | hm
    · exact hr r hm
    · rw [List.mem_singleton.1 hm]; exact hx
  obtain ⟨v, c2, h2, e2, v0, v1, k2⟩ := draw_below h1 30 k1 (by omega) (by omega)
  by_cases q0 : v = 0
  · obtain ⟨p, c3, h3, e3, p0, p1, k3⟩ := draw_below h2 10 k2 (by omega) (by omega)
    refine ⟨rows ++ [([1, 2, 3, 4, 5, 6, 7, 8, 9] : List Int).take p.toNat], c3, h3, ?_, by simp; omega, happ _ (by simp; omega), k3⟩
    simp only [spec_l20DrawAny.f]
    refine e1.bind ?_
    simp only [e2, Option.bind_some, if_pos q0, e3, if_pos p0, if_pos (show p ≤ (([1, 2, 3, 4, 5, 6, 7, 8, 9] : List Int).length : Int) by simp; omega), if_pos (show rows.length < 5864062014805 by omega)]
    exact ev_now _
  by_cases q1 : v = 1
  · obtain ⟨p, c3, h3, e3, _, k3⟩ := draw_pickint h2 [-30001, -30000, 30000, 30001] k2 (by simp) (by simp)
    refine ⟨rows ++ [[p]], c3, h3, ?_, by simp; omega, happ _ (by simp), k3⟩
    simp only [spec_l20DrawAny.f]
    refine e1.bind ?_
    simp only [e2, Option.bind_some, if_neg q0, if_pos q1, e3, if_pos (show rows.length < 5864062014805 by omega)]
    exact ev_now _
  by_cases q2 : v = 2
  · obtain ⟨p, c3, h3, e3, p0, p1, k3⟩ := draw_below h2 2 k2 (by omega) (by omega)
    have w1 : wrap64 (200 + p) = 200 + p := w64 (by omega) (by omega)
    obtain ⟨rows', c', h', f1, f2, f3, f4⟩ := drawany_loop (200 + p).toNat 0 (List.replicate (200 + p).toNat []) c3 h3 (by simp) (by simp; omega) (fun r hm => by rw [List.eq_of_mem_replicate hm]; simp) k3
    refine ⟨rows', c', h', ?_, f2, f3, f4⟩
    simp only [spec_l20DrawAny.f]
    refine e1.bind ?_
    simp only [e2, Option.bind_some, if_neg q0, if_neg q1, if_pos q2, e3, w1, if_pos (show (0 : Int) ≤ 200 + p by omega), if_pos (show (200 + p).toNat ≤ 11728124029610 by omega)]
    exact f1
  · refine ⟨rows, c2, h2, ?_, by omega, hr, k2⟩
    simp only [spec_l20DrawAny.f]
    refine e1.bind ?_
    simp only [e2, Option.bind_some, if_neg q0, if_neg q1, if_neg q2]
    exact ev_now _
theorem pack_other (rows : List (List Int)) : (pack20 rows).1 = [] ∨ (recordB rows = true ∧ (pack20 rows).1 = packBytes rows ∧ (packBytes rows).length ≤ 1500) := by
  unfold pack20
  by_cases h : recordB rows = true
  · rw [if_pos h]
    by_cases c : ((packBytes rows).length : Int) > 1500
    · rw [if_pos c]; exact .inl rfl
    · rw [if_neg c]; exact .inr ⟨h, rfl, by omega⟩
  · rw [if_neg h]; exact .inl rfl
theorem drawunpack_ev (l : List Int) (hl : l.length ≤ 1048576) : ∃ o, Ev (fun k => spec_DrawUnpack20.f k l) o ∧ Other20 o := by
  obtain ⟨h, hh⟩ := draw_new l hl
  obtain ⟨rows, c1, h1, e1, r1, r2, k1⟩ := drawany_ev (l := l) (c := 0) h ⟨by omega, by omega, by omega⟩
  have hp := spec_Pack20_ev rows (by omega) (fun x hx => by have := r2 x hx; omega)
  have start : ∀ o, Ev (fun k => if ((pack20 rows).1.length : Int) > 0 then ((spec_l1Below.f l c1 h1 ((pack20 rows).1.length : Int)).bind fun bt357 => ((spec_l1Below.f l bt357.2.1 bt357.2.2 6).bind fun bt360 => (if bt360.1 = 0 then ((spec_l1Byte.f l bt360.2.1 bt360.2.2).bind fun bt363 => (if 0 ≤ bt357.1 then (if bt357.1 < ((pack20 rows).1.length : Int) then (some ((pack20 rows).1.set (bt357.1 : Int).toNat ((bt363.1) % 256))) else (none)) else (none))) else (if bt360.1 = 1 then (if 0 ≤ bt357.1 then (if bt357.1 ≤ ((pack20 rows).1.length : Int) then (some ((pack20 rows).1.take (bt357.1 : Int).toNat)) else (none)) else (none)) else (if bt360.1 = 2 then ((spec_l1PickInt.f l bt360.2.1 bt360.2.2 (([0, 200, 201, 254, 255] : List Int))).bind fun bt373 => (if 0 ≤ bt357.1 then (if bt357.1 < ((pack20 rows).1.length : Int) then (some ((pack20 rows).1.set (bt357.1 : Int).toNat ((bt373.1) % 256))) else (none)) else (none))) else (if bt360.1 = 3 then ((spec_l1Byte.f l bt360.2.1 bt360.2.2).bind fun bt377 => (if (pack20 rows).1.length < 140737488355328 then (some ((pack20 rows).1 ++ [(bt377.1) % 256])) else (none))) else (some (pack20 rows).1))))))) else (some (pack20 rows).1)) o → Ev (fun k => spec_DrawUnpack20.f k l) o := by
    intro o ho
    simp only [spec_DrawUnpack20.f]
    refine hh.bind ?_
    refine e1.bind ?_
    refine hp.bind ?_
    exact ho
  rcases pack_other rows with hz | ⟨hb, he, hlen⟩
  · refine ⟨[], start [] ?_, ⟨by simp, .inl (by simp)⟩⟩
    simp only [hz, List.length_nil, if_neg (show ¬ (((0 : Nat) : Int) > 0) by omega)]
    exact ev_now _
  · have hby := packBytes_bytes rows
    have hge : 2 ≤ (packBytes rows).length := by simp [packBytes]
    rw [he] at start
    obtain ⟨p, c2, h2, e2, p0, p1, k2⟩ := draw_below h1 ((packBytes rows).length : Int) k1 (by omega) (by omega)
    obtain ⟨v, c3, h3, e3, v0, v1, k3⟩ := draw_below h2 6 k2 (by omega) (by omega)
    have hset : ∀ x : Int, Other20 ((packBytes rows).set p.toNat (x % 256)) := by
      intro x
      refine ⟨fun y hy => ?_, .inl (by simpa using hlen)⟩
      rcases List.mem_or_eq_of_mem_set hy with hy | rfl
      · exact hby y hy
      · omega
    by_cases q0 : v = 0
    · obtain ⟨x, c4, h4, e4, _, _, k4⟩ := draw_byte h3 k3
      refine ⟨_, start ((packBytes rows).set p.toNat (x % 256)) ?_, hset x⟩
      simp only [if_pos (show ((packBytes rows).length : Int) > 0 by omega), e2, e3, e4, Option.bind_some, if_pos q0, if_pos p0, if_pos p1]
      exact ev_now _
    by_cases q1 : v = 1
    · refine ⟨_, start ((packBytes rows).take p.toNat) ?_, ⟨fun y hy => hby y (List.mem_of_mem_take hy), .inl (by simp; omega)⟩⟩
      simp only [if_pos (show ((packBytes rows).length : Int) > 0 by omega), e2, e3, Option.bind_some, if_neg q0, if_pos q1, if_pos p0, if_pos (show p ≤ ((packBytes rows).length : Int) by omega)]
      exact ev_now _
    by_cases q2 : v = 2
    · obtain ⟨x, c4, h4, e4, _, k4⟩ := draw_pickint h3 [0, 200, 201, 254, 255] k3 (by simp) (by simp)
      refine ⟨_, start ((packBytes rows).set p.toNat (x % 256)) ?_, hset x⟩
      simp only [if_pos (show ((packBytes rows).length : Int) > 0 by omega), e2, e3, e4, Option.bind_some, if_neg q0, if_neg q1, if_pos q2, if_pos p0, if_pos p1]
      exact ev_now _
    by_cases q3 : v = 3
    · obtain ⟨x, c4, h4, e4, x0, x1, k4⟩ := draw_byte h3 k3
      refine ⟨_, start (packBytes rows ++ [x % 256]) ?_, ⟨fun y hy => ?_, .inr ⟨rows, x % 256, hb, rfl, by simp; omega⟩⟩⟩
      · simp only [if_pos (show ((packBytes rows).length : Int) > 0 by omega), e2, e3, e4, Option.bind_some, if_neg q0, if_neg q1, if_neg q2, if_pos q3, if_pos (show (packBytes rows).length < 140737488355328 by omega)]
        exact ev_now _
      · rcases List.mem_append.1 hy with hy | hy
        · exact hby y hy
        · rw [List.mem_singleton.1 hy]; omega
    · refine ⟨_, start (packBytes rows) ?_, ⟨hby, .inl hlen⟩⟩
      simp only [if_pos (show ((packBytes rows).length : Int) > 0 by omega), e2, e3, Option.bind_some, if_neg q0, if_neg q1, if_neg q2, if_neg q3]
      exact ev_now _
theorem drawrecord_ev (l : List Int) (hl : l.length ≤ 1048576) : ∃ rows, Ev (fun k => spec_DrawRecord.f k l) rows ∧ recordB rows = true ∧ (packBytes rows).length ≤ 1500 := by
  obtain ⟨h, hh⟩ := draw_new l hl
  obtain ⟨rows, c1, h1, w, e1, w1, w4, hl', hg, k1⟩ := draw20_ev (l := l) (c := 0) h ⟨by omega, by omega, by omega⟩
  have hr := recordB_of w1 (by omega) (by omega) hg
  refine ⟨rows, ?_, hr, ?_⟩
  · simp only [spec_DrawRecord.f]
    refine hh.bind ?_
    refine e1.bind ?_
    exact ev_now _
  · have hp := packP_len rows (rows.getD 0 []).length rows.length 0 (List.replicate (rows.getD 0 []).length 0)
    have hw : (rows.getD 0 []).length ≤ 4 := by
      cases rows with
      | nil => simp
      | cons a rows => have := (hg a (by simp)).1; simp; omega
    have hm : 4 * (rows.getD 0 []).length * rows.length ≤ 4 * 4 * 40 := Nat.mul_le_mul (Nat.mul_le_mul_left 4 hw) hl'
    unfold packBytes
    rw [List.length_append]
    simp only [List.length_cons, List.length_nil]
    omega
theorem FnRecords : laws_FnRecords.Pure := by
  intro l _ _ hw
  have hw' : ∀ x ∈ l, 0 ≤ x ∧ x ≤ 255 := fun x hx => wf_u8 (hw x hx)
  refine Ev.rounds ?_
  simp only [laws_FnRecords.f, laws_big.f, Option.bind_some]
  by_cases hb : (l.length : Int) > 1048576
  · simp only [hb, decide_true, if_true]
    exact ev_now _
  · simp only [hb, decide_false, Bool.false_eq_true, if_false]
    obtain ⟨rows, hd, hr, hl⟩ := drawrecord_ev l (by omega)
    obtain ⟨o, hu, ho⟩ := drawunpack_ev l (by omega)
    have hn := (recordB_in hr).1
    have hx : ∀ x ∈ rows, x.length ≤ 140737488355328 := fun x hx => by have := (recordB_in hr).2 x hx; omega
    have hp : pack20 rows = (packBytes rows, true) := by unfold pack20; rw [if_pos hr, if_neg (by omega)]
    refine hd.bind ?_
    refine (impl_Pack20_ev rows (by omega) hx).bind ?_
    rw [hp]
    simp only [if_true]
    refine (impl_RecordOk_ev rows (by omega) hx).bind ?_
    rw [hr]
    refine ev_succ ?_
    simp only [laws_FnRecords.j0, Bool.not_true, Bool.false_eq_true, if_false]
    refine (impl_Unpack20_ev (packBytes rows) (packBytes_bytes rows) (by omega)).bind ?_
    have hup := (unpack_pack hr []).1 rfl
    rw [List.append_nil] at hup
    rw [hup]
    simp only []
    refine (impl_Same20_ev rows rows (by omega) hx (by omega) hx).bind ?_
    have hs : same20 rows rows = (-1, -1, true) := by unfold same20; rw [if_pos ⟨hr, hr⟩, sameL_self]
    rw [hs]
    simp only [if_true, bne_self_eq_false]
    exact records_j1 hw' (by omega) hr ho hu
end Go.Proofs.Ytaaelkbkmgnciaa.Pure
