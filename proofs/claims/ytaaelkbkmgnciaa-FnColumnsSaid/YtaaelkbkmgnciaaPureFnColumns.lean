/- A drawn record's column has a value for each row, and its events are where it comes above the limit. No condition. -/
import Derived.Test.YtaaelkbkmgnciaaPFnColumnsx5
import Derived.Test.YtaaelkbkmgnciaaBase
set_option linter.unusedVariables false
set_option linter.unusedSimpArgs false
namespace Go.Proofs.Ytaaelkbkmgnciaa.Pure
open Go.RowKit Go.Proofs.Ytaaelkbkmgnciaa.PFnColumns Go.Proofs.Ytaaelkbkmgnciaa.Base Go.Proofs.YtaaelkbkmgnciaaW.PrintWords Go.Proofs.YtaaelkbkmgnciaaW.PrintLast
theorem impl_in_eq (a b c : Int) : impl_in.f a b c = some (inB a b c) := in_form a b c
theorem impl_allIn_l (b c : Int) (xs : List Int) (hn : xs.length < 4611686018427387904) (d : Nat) : ∀ i : Nat, i + d = xs.length →
    Ev (fun k => impl_allIn.l0 k b c xs (xs.length : Int) (i : Int)) (allB (xs.drop i) b c) := by
  induction d with
  | zero =>
    intro i h
    refine ev_succ ?_
    simp only [impl_allIn.l0, if_neg (show ¬ ((i : Int) < (xs.length : Int)) by omega)]
    rw [List.drop_of_length_le (by omega)]
    exact ev_now _
  | succ d ih =>
    intro i h
    refine ev_succ ?_
    simp only [impl_allIn.l0, if_pos (show ((i : Int) < (xs.length : Int)) by omega), if_pos (show (0 : Int) ≤ (i : Int) by omega), impl_in_eq, Option.bind_some, w64s i (by omega)]
    rw [drop_rd (show i < xs.length by omega)]
    cases hb : inB (rd xs (i : Int)) b c with
    | true => simpa [allB, hb] using ih (i + 1) (by omega)
    | false => simpa [allB, hb] using ev_now false
theorem impl_allIn_ev (b c : Int) (xs : List Int) (hn : xs.length < 4611686018427387904) : Ev (fun k => impl_allIn.f k xs b c) (allB xs b c) := by
  simpa [impl_allIn.f] using impl_allIn_l b c xs hn xs.length 0 (by omega)
/-! The helpers over slices of slices: IntSS. -/
theorem rdIntSS {xs : List (List Int)} {i : Nat} (h : i < xs.length) : rd_L2 xs (i : Int) = xs[i] := by
  simp [rd_L2, List.getD_eq_getElem?_getD, h]
/-- A row fits its record. -/
def rowB (n : Nat) (r : List Int) : Bool := decide ((r.length : Int) = (n : Int)) && (inB (r.length : Int) 1 8 && allB r (-30000) 30000)
def recordB (rows : List (List Int)) : Bool := rows.all (rowB (rows.getD 0 []).length) && decide ((rows.length : Int) ≤ 200)
theorem recordB_in {rows : List (List Int)} (h : recordB rows = true) : rows.length ≤ 200 ∧ ∀ r ∈ rows, r.length = (rows.getD 0 []).length ∧ (1 ≤ r.length ∧ r.length ≤ 8) ∧ ∀ x ∈ r, -30000 ≤ x ∧ x ≤ 30000 := by
  simp only [recordB, Bool.and_eq_true, List.all_eq_true, decide_eq_true_eq, rowB, inB_iff, allB_iff] at h
  refine ⟨by omega, fun r hr => ?_⟩
  obtain ⟨h1, h2, h3⟩ := h.1 r hr
  exact ⟨by omega, by omega, h3⟩
theorem impl_RecordOk_l (rows : List (List Int)) (hn : rows.length ≤ 140737488355328) (hx : ∀ x ∈ rows, x.length ≤ 140737488355328) (d : Nat) : ∀ i : Nat, i + d = rows.length →
    Ev (fun k => impl_RecordOk.l0 k rows rows (rows.length : Int) (i : Int)) ((rows.drop i).all (rowB (rows.getD 0 []).length) && decide ((rows.length : Int) ≤ 200)) := by
  induction d with
  | zero =>
    intro i h
    refine ev_succ ?_
    simp only [impl_RecordOk.l0, if_neg (show ¬ ((i : Int) < (rows.length : Int)) by omega)]
    exact ev_some (by rw [List.drop_of_length_le (by omega)]; simp)
  | succ d ih =>
    intro i h
    refine ev_succ ?_
    have hlt : i < rows.length := by omega
    have hxi := hx _ (List.getElem_mem hlt)
    have e0 : rd_L2 rows 0 = rows.getD 0 [] := rfl
    rw [List.drop_eq_getElem_cons hlt, List.all_cons]
    simp only [impl_RecordOk.l0, if_pos (show ((i : Int) < (rows.length : Int)) by omega), if_pos (show (0 : Int) ≤ (i : Int) by omega), if_pos (show (0 : Int) < (rows.length : Int) by omega), rdIntSS hlt, e0, impl_in_eq, Option.bind_some, w64s i (by omega)]
    have hi := ih (i + 1) (by omega)
    generalize rows[i] = r at *
    generalize (rows.getD 0 []).length = n0 at *
    rw [show rowB n0 r = (decide ((r.length : Int) = (n0 : Int)) && (inB (r.length : Int) 1 8 && allB r (-30000) 30000)) from rfl]
    by_cases c1 : (r.length : Int) = (n0 : Int)
    · simp only [if_pos c1, decide_eq_true c1, Bool.true_and]
      cases c2 : inB (r.length : Int) 1 8 with
      | false => simpa using ev_now false
      | true =>
        simp only [if_true, Bool.true_and]
        refine (impl_allIn_ev (-30000) 30000 r (by omega)).bind ?_
        cases c3 : allB r (-30000) 30000 with
        | false => simpa using ev_now false
        | true => simpa only [if_true, Bool.true_and] using hi
    · simp only [if_neg c1, decide_eq_false c1, Bool.false_and]
      exact ev_now _
theorem impl_RecordOk_ev (rows : List (List Int)) (hn : rows.length ≤ 140737488355328) (hx : ∀ x ∈ rows, x.length ≤ 140737488355328) : Ev (fun k => impl_RecordOk.f k rows) (recordB rows) := by
  simpa [impl_RecordOk.f, recordB] using impl_RecordOk_l rows hn hx rows.length 0 (by omega)
theorem rdIntSS0 {xs : List (List Int)} : rd_L2 xs 0 = xs.getD 0 [] := rfl
/-! A record's column. -/
def colOk (rows : List (List Int)) (at_ : Int) : Bool := recordB rows && (decide (0 < rows.length) && inB at_ 0 (((rows.getD 0 []).length : Int) - 1))
theorem colOk_in {rows : List (List Int)} {at_ : Int} (h : colOk rows at_ = true) : 0 < rows.length ∧ rows.length ≤ 200 ∧ ∀ i (h : i < rows.length), 0 ≤ at_ ∧ at_ < ((rows[i]).length : Int) := by
  simp only [colOk, Bool.and_eq_true, decide_eq_true_eq, inB_iff] at h
  obtain ⟨h1, h2⟩ := recordB_in h.1
  refine ⟨h.2.1, h1, fun i hi => ?_⟩
  have := (h2 _ (List.getElem_mem hi)).1
  omega
theorem impl_columnOk_ev (rows : List (List Int)) (at_ : Int) (hn : rows.length ≤ 140737488355328) (hx : ∀ x ∈ rows, x.length ≤ 140737488355328) : Ev (fun k => impl_columnOk.f k rows at_) (colOk rows at_) := by
  simp only [impl_columnOk.f]
  refine (impl_RecordOk_ev rows hn hx).bind ?_
  unfold colOk
  cases h : recordB rows with
  | false => simpa using ev_now _
  | true =>
    simp only [if_true, Bool.true_and]
    by_cases h0 : 0 < rows.length
    · have h1 : (rows.getD 0 []).length ≤ 140737488355328 := by
        rw [List.getD_eq_getElem?_getD, List.getElem?_eq_getElem h0, Option.getD_some]
        exact hx _ (List.getElem_mem h0)
      simp only [if_pos (show (rows.length : Int) > 0 by omega), if_pos (show (0 : Int) < (rows.length : Int) by omega), impl_in_eq, Option.bind_some, rdIntSS0, w64 (n := ((rows.getD 0 []).length : Int) - 1) (by omega) (by omega), h0, decide_true, Bool.true_and]
      exact ev_now _
    · simp only [if_neg (show ¬ (rows.length : Int) > 0 by omega), h0, decide_false, Bool.false_and]
      exact ev_now _
def column (rows : List (List Int)) (at_ : Int) : List Int × Bool := if colOk rows at_ = true then (rows.map (fun r => rd r at_), true) else ([], false)
theorem impl_Column_l (rows : List (List Int)) (at_ : Int) (hc : colOk rows at_ = true) (d : Nat) : ∀ i : Nat, i + d = rows.length → Ev (fun k => impl_Column.l0 k at_ ((rows.map (fun r => rd r at_)).take i) rows (rows.length : Int) (i : Int)) (rows.map (fun r => rd r at_), true) := by
  obtain ⟨h0, h1, h2⟩ := colOk_in hc
  induction d with
  | zero =>
    intro i h
    refine ev_succ ?_
    simp only [impl_Column.l0, if_neg (show ¬ ((i : Int) < (rows.length : Int)) by omega)]
    exact ev_some (by rw [List.take_of_length_le (by simp; omega)])
  | succ d ih =>
    intro i h
    have hlt : i < rows.length := by omega
    have hi := ih (i + 1) (by omega)
    have h2 := h2 i hlt
    have ht : (rows.map (fun r => rd r at_)).take (i + 1) = (rows.map (fun r => rd r at_)).take i ++ [rd (rows[i]) at_] := by
      rw [List.take_succ_eq_append_getElem (by simpa using hlt), List.getElem_map]
    rw [ht] at hi
    refine ev_succ ?_
    simp only [impl_Column.l0, if_pos (show ((i : Int) < (rows.length : Int)) by omega), if_pos (show (0 : Int) ≤ (i : Int) by omega), rdIntSS hlt, if_pos h2.1, if_pos h2.2, w64s i (by omega), if_pos (show ((rows.map (fun r => rd r at_)).take i).length < 17592186044416 by simp; omega)]
    exact hi
theorem impl_Column_ev (rows : List (List Int)) (at_ : Int) (hn : rows.length ≤ 140737488355328) (hx : ∀ x ∈ rows, x.length ≤ 140737488355328) : Ev (fun k => impl_Column.f k rows at_) (column rows at_) := by
  simp only [impl_Column.f]
  refine (impl_columnOk_ev rows at_ hn hx).bind ?_
  unfold column
  cases h : colOk rows at_ with
  | false => simpa using ev_now _
  | true => simpa using impl_Column_l rows at_ h rows.length 0 (by omega)
theorem column_len (rows : List (List Int)) (at_ : Int) : (column rows at_).1.length ≤ rows.length := by
  unfold column
  split <;> simp
/-! Where a column comes above the limit. -/
def evB (vs : List Int) (lim i : Int) : Bool := decide (rd vs i > lim) && (decide (i = 0) || decide (rd vs (i - 1) ≤ lim))
def eventsFrom (vs : List Int) (lim : Int) : Nat → Nat → List Int
  | 0, _ => []
  | d + 1, i => (if evB vs lim (i : Int) = true then [(i : Int)] else []) ++ eventsFrom vs lim d (i + 1)
theorem eventsFrom_len (vs : List Int) (lim : Int) (d : Nat) : ∀ i, (eventsFrom vs lim d i).length ≤ d := by
  induction d with
  | zero => intro i; simp [eventsFrom]
  | succ d ih =>
    intro i
    have := ih (i + 1)
    unfold eventsFrom
    rw [List.length_append]
    split <;> simp <;> omega
def events20 (rows : List (List Int)) (at_ lim : Int) : List Int × Bool := (eventsFrom (column rows at_).1 lim (column rows at_).1.length 0, (column rows at_).2)
theorem rd_map {rows : List (List Int)} {at_ : Int} {i : Nat} (h : i < rows.length) : rd (rows.map (fun r => rd r at_)) (i : Int) = rd (rows[i]) at_ := by
  rw [rd_nat (by simpa using h), List.getElem_map]
theorem impl_Events20_l (rows : List (List Int)) (at_ lim : Int) (hc : colOk rows at_ = true) (d : Nat) : ∀ (i : Nat) (acc : List Int), i + d = rows.length → acc.length ≤ i → Ev (fun k => impl_Events20.l0 k rows at_ lim acc rows (rows.length : Int) (i : Int)) (acc ++ eventsFrom (rows.map (fun r => rd r at_)) lim d i, true) := by
  obtain ⟨h0, hr, hat⟩ := colOk_in hc
  induction d with
  | zero =>
    intro i acc h ha
    refine ev_succ ?_
    simp only [impl_Events20.l0, if_neg (show ¬ ((i : Int) < (rows.length : Int)) by omega)]
    exact ev_some (by simp [eventsFrom])
  | succ d ih =>
    intro i acc h ha
    have hlt : i < rows.length := by omega
    have hin := ih (i + 1) (acc ++ [(i : Int)]) (by omega) (by simp; omega)
    have hout := ih (i + 1) acc (by omega) (by omega)
    have ha2 := hat i hlt
    refine ev_succ ?_
    simp only [impl_Events20.l0, if_pos (show ((i : Int) < (rows.length : Int)) by omega), if_pos (show (0 : Int) ≤ (i : Int) by omega), w64s i (by omega), if_pos (show acc.length < 17592186044416 by omega), rdIntSS hlt, if_pos ha2.1, if_pos ha2.2]
    have hin' : Ev (fun k => impl_Events20.l0 k rows at_ lim (acc ++ [(i : Int)]) rows (rows.length : Int) ((i + 1 : Nat) : Int)) (acc ++ ([(i : Int)] ++ eventsFrom (rows.map (fun r => rd r at_)) lim d (i + 1)), true) := by
      rw [← List.append_assoc]
      exact hin
    unfold eventsFrom
    have hm := rd_map (at_ := at_) hlt
    by_cases h1 : rd (rows[i]) at_ > lim
    · by_cases h2 : (i : Int) = 0
      · have hev : evB (rows.map (fun r => rd r at_)) lim (i : Int) = true := by unfold evB; rw [hm, decide_eq_true h1, decide_eq_true h2]; rfl
        rw [hev, if_pos rfl]
        simp only [if_pos h1, if_pos h2]
        exact hin'
      · obtain ⟨j, hij⟩ : ∃ j, i = j + 1 := ⟨i - 1, by omega⟩
        have hj : j < rows.length := by omega
        have ha3 := hat j hj
        have e : wrap64 ((i : Int) - 1) = (j : Int) := by rw [w64 (by omega) (by omega)]; omega
        have e' : (i : Int) - 1 = (j : Int) := by omega
        have hmj := rd_map (at_ := at_) hj
        rw [e]
        simp only [rdIntSS hj]
        by_cases h3 : rd (rows[j]) at_ ≤ lim
        · have hev : evB (rows.map (fun r => rd r at_)) lim (i : Int) = true := by unfold evB; rw [e', hm, hmj, decide_eq_true h1, decide_eq_false h2, decide_eq_true h3]; rfl
          rw [hev, if_pos rfl]
          simp only [if_pos h1, if_neg h2, if_pos h3, if_pos (show (0 : Int) ≤ (j : Int) by omega), if_pos (show (j : Int) < (rows.length : Int) by omega), if_pos ha3.2]
          exact hin'
        · have hev : evB (rows.map (fun r => rd r at_)) lim (i : Int) = false := by unfold evB; rw [e', hm, hmj, decide_eq_true h1, decide_eq_false h2, decide_eq_false h3]; rfl
          rw [hev, if_neg (by decide), List.nil_append]
          simp only [if_pos h1, if_neg h2, if_neg h3, if_pos (show (0 : Int) ≤ (j : Int) by omega), if_pos (show (j : Int) < (rows.length : Int) by omega), if_pos ha3.2]
          exact hout
    · have hev : evB (rows.map (fun r => rd r at_)) lim (i : Int) = false := by unfold evB; rw [hm, decide_eq_false h1]; rfl
      rw [hev, if_neg (by decide), List.nil_append]
      simp only [if_neg h1]
      exact hout
theorem impl_Events20_ev (rows : List (List Int)) (at_ lim : Int) (hn : rows.length ≤ 1048576) (hx : ∀ x ∈ rows, x.length ≤ 140737488355328) : Ev (fun k => impl_Events20.f k rows at_ lim) (events20 rows at_ lim) := by
  simp only [impl_Events20.f]
  refine (impl_columnOk_ev rows at_ (by omega) hx).bind ?_
  unfold events20 column
  cases h : colOk rows at_ with
  | false => simpa [eventsFrom] using ev_now _
  | true =>
    have := impl_Events20_l rows at_ lim h rows.length 0 [] (by omega) (by simp)
    rw [List.nil_append] at this
    simp only [if_true, List.length_map]
    exact this
theorem at_ev (l : List Int) (hw : ∀ x ∈ l, 0 ≤ x ∧ x ≤ 255) (hn : l.length ≤ 1048576) (i : Int) (h0 : 0 ≤ i) (h1 : i ≤ 1000) : ∃ v, laws_at.f l i = some v ∧ 0 ≤ v ∧ v ≤ 255 := by
  unfold laws_at.f
  by_cases h : i < (l.length : Int)
  · have := hw _ (rd_mem h0 h)
    refine ⟨rd l i, ?_, this.1, this.2⟩
    rw [if_pos h, if_pos h0, w64 (by omega) (by omega)]
  · refine ⟨_, by rw [if_neg h], ?_, ?_⟩
    · rw [w64 (n := i * 7) (by omega) (by omega), w64 (by omega) (by omega)]
      have := Int.tmod_nonneg 256 (show 0 ≤ i * 7 + (l.length : Int) by omega)
      omega
    · rw [w64 (n := i * 7) (by omega) (by omega), w64 (by omega) (by omega)]
      have := Int.tmod_lt_of_pos (i * 7 + (l.length : Int)) (show (0 : Int) < 256 by omega)
      omega
/-! What is drawn: a cursor over the bytes, at place i, with the number h. -/
def Cur (l : List Int) (i : Int) : Prop := l.length ≤ 1048576 ∧ 0 ≤ i ∧ i ≤ (l.length : Int)
theorem draw_new (l : List Int) (hl : l.length ≤ 1048576) : ∃ h, Ev (fun k => spec_l1New.f k l) (l, 0, h) := by
  have loop : ∀ (d : Nat) (i : Nat) (h : Int), i + d = l.length → ∃ h', Ev (fun k => spec_l1New.l0 k l h (i : Int)) (l, 0, h') := by
    intro d
    induction d with
    | zero =>
      intro i h hi
      refine ⟨h, ev_succ ?_⟩
      simp only [spec_l1New.l0, if_neg (show ¬ ((i : Int) < (l.length : Int)) by omega)]
      exact ev_now _
    | succ d ih =>
      intro i h hi
      by_cases h4 : (i : Int) < 4000
      · obtain ⟨h', hh⟩ := ih (i + 1) (Go.bits .and .i64 (wrap64 ((wrap64 ((wrap64 (h * 131)) + (wrap64 (rd l (i : Int))))) + 7)) 1073741823) (by omega)
        refine ⟨h', ev_succ ?_⟩
        simp only [spec_l1New.l0, if_pos (show ((i : Int) < (l.length : Int)) by omega), if_pos h4, if_pos (show (0 : Int) ≤ (i : Int) by omega), w64s i (by omega)]
        exact hh
      · refine ⟨h, ev_succ ?_⟩
        simp only [spec_l1New.l0, if_pos (show ((i : Int) < (l.length : Int)) by omega), if_neg h4]
        exact ev_now _
  obtain ⟨h', hh⟩ := loop l.length 0 (wrap64 (63063 + (l.length : Int))) (by omega)
  exact ⟨h', by simpa [spec_l1New.f] using hh⟩
theorem draw_byte {l : List Int} {i : Int} (h : Int) (hc : Cur l i) : ∃ v i' h', spec_l1Byte.f l i h = some (v, i', h') ∧ 0 ≤ v ∧ v ≤ 255 ∧ Cur l i' := by
  obtain ⟨h1, h2, h3⟩ := hc
  unfold spec_l1Byte.f
  by_cases e : i < (l.length : Int)
  · rw [if_pos e, if_pos h2]
    have := bits_and_le (wrap64 ((Go.bits .and .i64 (Go.bits .xor .i64 ((wrap64 ((wrap64 (h * 6364136223846793005)) + 1442695040888963407)) / 8589934592) ((wrap64 ((wrap64 (h * 6364136223846793005)) + 1442695040888963407)) / 35184372088832)) 255) + (wrap64 (rd l i)))) 255 (by omega) (by omega)
    exact ⟨_, _, _, rfl, this.1, this.2, h1, by rw [w64 (by omega) (by omega)]; omega, by rw [w64 (by omega) (by omega)]; omega⟩
  · rw [if_neg e]
    have := bits_and_le (Go.bits .xor .i64 ((wrap64 ((wrap64 (h * 6364136223846793005)) + 1442695040888963407)) / 8589934592) ((wrap64 ((wrap64 (h * 6364136223846793005)) + 1442695040888963407)) / 35184372088832)) 255 (by omega) (by omega)
    exact ⟨_, _, _, rfl, this.1, this.2, h1, h2, h3⟩
theorem draw_below {l : List Int} {i : Int} (h n : Int) (hc : Cur l i) (h0 : 0 < n) (h1 : n ≤ 1099511627776) : ∃ v i' h', spec_l1Below.f l i h n = some (v, i', h') ∧ 0 ≤ v ∧ v < n ∧ Cur l i' := by
  unfold spec_l1Below.f
  rw [if_neg (by omega)]
  by_cases e : n ≤ 256
  · obtain ⟨v, i', h', e1, v0, v1, c1⟩ := draw_byte h hc
    rw [if_pos e, e1]
    simp only [Option.bind_some, if_neg (show ¬ n = 0 by omega)]
    exact ⟨_, _, _, rfl, Int.tmod_nonneg _ v0, Int.tmod_lt_of_pos _ h0, c1⟩
  · obtain ⟨v, i', h', e1, v0, v1, c1⟩ := draw_byte h hc
    obtain ⟨v', i2, h2, e2, v2, v3, c2⟩ := draw_byte h' c1
    obtain ⟨v4, i3, h3, e3, v5, v6, c3⟩ := draw_byte h2 c2
    obtain ⟨v7, i4, h4, e4, v8, v9, c4⟩ := draw_byte h3 c3
    rw [if_neg e, e1]
    simp only [Option.bind_some, e2, e3, e4, if_neg (show ¬ n = 0 by omega)]
    refine ⟨_, _, _, rfl, ?_, Int.tmod_lt_of_pos _ h0, c4⟩
    rw [w64 (n := v * 16777216) (by omega) (by omega), w64 (n := v' * 65536) (by omega) (by omega), w64 (n := v4 * 256) (by omega) (by omega), w64 (n := v * 16777216 + v' * 65536) (by omega) (by omega), w64 (n := v * 16777216 + v' * 65536 + v4 * 256) (by omega) (by omega), w64 (by omega) (by omega)]
    exact Int.tmod_nonneg _ (by omega)
theorem draw_once {l : List Int} {i : Int} (h n : Int) (hc : Cur l i) (h0 : 0 < n) (h1 : n ≤ 1099511627776) : ∃ v i' h', spec_l1Once.f l i h n = some (v, i', h') ∧ Cur l i' := by
  obtain ⟨v, i', h', e1, _, _, c1⟩ := draw_below h n hc h0 h1
  unfold spec_l1Once.f
  rw [e1]
  exact ⟨_, _, _, rfl, c1⟩
theorem draw_pickint {l : List Int} {i : Int} (h : Int) (xs : List Int) (hc : Cur l i) (h0 : 0 < xs.length) (h1 : xs.length ≤ 1000) : ∃ v i' h', spec_l1PickInt.f l i h xs = some (v, i', h') ∧ v ∈ xs ∧ Cur l i' := by
  obtain ⟨v, i', h', e1, v0, v1, c1⟩ := draw_below h (xs.length : Int) hc (by omega) (by omega)
  unfold spec_l1PickInt.f
  rw [e1]
  simp only [Option.bind_some, if_pos v0, if_pos v1]
  exact ⟨_, _, _, rfl, rd_mem v0 v1, c1⟩
/-! A drawn record. -/
theorem draw_size20 (l : List Int) (hl : l.length ≤ 1048576) : ∃ v, spec_l1Size.f l 20 = some v ∧ 1 ≤ v ∧ v ≤ 20 := by
  unfold spec_l1Size.f
  rw [w64 (n := (l.length : Int) / 20) (by omega) (by omega), w64 (n := 2 + (l.length : Int) / 20) (by omega) (by omega)]
  by_cases h : 2 + (l.length : Int) / 20 > 20
  · rw [if_pos h]; exact ⟨_, rfl, by omega, by omega⟩
  · rw [if_neg h]; exact ⟨_, rfl, by omega, by omega⟩
theorem draw_clip (x : Int) : ∃ m y, spec_l1Min.f 30000 x = some m ∧ spec_l1Max.f (-30000) m = some y ∧ -30000 ≤ y ∧ y ≤ 30000 := by
  unfold spec_l1Min.f spec_l1Max.f
  by_cases h : (30000 : Int) < x
  · exact ⟨30000, 30000, by rw [if_pos h], by rw [if_neg (by omega)], by omega, by omega⟩
  · by_cases h2 : (-30000 : Int) > x
    · exact ⟨x, -30000, by rw [if_neg h], by rw [if_pos h2], by omega, by omega⟩
    · exact ⟨x, x, by rw [if_neg h], by rw [if_neg h2], by omega, by omega⟩
def rowW (w : Nat) (r : List Int) : Prop := r.length = w ∧ ∀ x ∈ r, -30000 ≤ x ∧ x ≤ 30000
theorem draw20_j2 {l : List Int} (w : Nat) (out : List (List Int)) (row : List Int) (n : Int) (hr : row.length = w) (i : Nat) (hi : i < w) (next : List Int) (hn : next.length = i) (hw : w ≤ 8) (x c h : Int) (hc : Cur l c) :
    ∃ y c' h', (-30000 ≤ y ∧ y ≤ 30000) ∧ Cur l c' ∧ ∀ R, Ev (fun k => spec_l20Draw.l1 k (w : Int) out row n (next ++ [y]) ((i + 1 : Nat) : Int) l c' h') R → Ev (fun k => spec_l20Draw.j2 k (w : Int) out row n next (i : Int) x l c h) R := by
  obtain ⟨v, c1, h1, e1, k1⟩ := draw_once h 20 hc (by omega) (by omega)
  cases v with
  | true =>
    obtain ⟨p, c2, h2, e2, _, k2⟩ := draw_pickint h1 [100, -100, 101, -101] k1 (by simp) (by simp)
    obtain ⟨m, y, e3, e4, y0, y1⟩ := draw_clip (wrap64 (rd row (i : Int) + p))
    refine ⟨y, c2, h2, ⟨y0, y1⟩, k2, fun R hR => ev_succ ?_⟩
    simp only [spec_l20Draw.j2, e1, Option.bind_some, if_true, if_pos (show (0 : Int) ≤ (i : Int) by omega), if_pos (show (i : Int) < (row.length : Int) by omega), e2, e3, e4, if_pos (show next.length < 17592186044416 by omega), w64s i (by omega)]
    exact hR
  | false =>
    obtain ⟨m, y, e3, e4, y0, y1⟩ := draw_clip x
    refine ⟨y, c1, h1, ⟨y0, y1⟩, k1, fun R hR => ev_succ ?_⟩
    simp only [spec_l20Draw.j2, e1, Option.bind_some, Bool.false_eq_true, if_false, e3, e4, if_pos (show next.length < 17592186044416 by omega), w64s i (by omega)]
    exact hR
theorem draw20_l1 {l : List Int} (w : Nat) (out : List (List Int)) (row : List Int) (n : Int) (hr : row.length = w) (hw : w ≤ 8) (ho : out.length ≤ 1000) (d : Nat) : ∀ (i : Nat) (next : List Int) (c h : Int), i + d = w → next.length = i → (∀ x ∈ next, -30000 ≤ x ∧ x ≤ 30000) → Cur l c →
    ∃ next' c' h', rowW w next' ∧ Cur l c' ∧ ∀ R, Ev (fun k => spec_l20Draw.l0 k (w : Int) (out ++ [next']) next' (wrap64 (n - 1)) l c' h') R → Ev (fun k => spec_l20Draw.l1 k (w : Int) out row n next (i : Int) l c h) R := by
  induction d with
  | zero =>
    intro i next c h hi hn hx hc
    refine ⟨next, c, h, ⟨by omega, hx⟩, hc, fun R hR => ev_succ ?_⟩
    simp only [spec_l20Draw.l1, if_neg (show ¬ ((i : Int) < (w : Int)) by omega), if_pos (show out.length < 5864062014805 by omega)]
    exact hR
  | succ d ih =>
    intro i next c h hi hn hx hc
    have hmem : ∀ y, (-30000 ≤ y ∧ y ≤ 30000) → ∀ x ∈ next ++ [y], -30000 ≤ x ∧ x ≤ 30000 := by
      intro y hy x hm
      rcases List.mem_append.1 hm with hm | hm
      · exact hx x hm
      · rw [List.mem_singleton.1 hm]; exact hy
    obtain ⟨v1, c1, h1, e1, _, _, k1⟩ := draw_below h 41 hc (by omega) (by omega)
    obtain ⟨v2, c2, h2, e2, k2⟩ := draw_once h1 12 k1 (by omega) (by omega)
    cases v2 with
    | true =>
      obtain ⟨v3, c3, h3, e3, _, _, k3⟩ := draw_below h2 60001 k2 (by omega) (by omega)
      obtain ⟨y, c4, h4, hy, k4, hgo⟩ := draw20_j2 w out row n hr i (by omega) next hn hw (wrap64 (v3 - 30000)) c3 h3 k3
      obtain ⟨next', c', h', hw', k', hgo'⟩ := ih (i + 1) (next ++ [y]) c4 h4 (by omega) (by simp; omega) (hmem y hy) k4
      refine ⟨next', c', h', hw', k', fun R hR => ev_succ ?_⟩
      simp only [spec_l20Draw.l1, if_pos (show ((i : Int) < (w : Int)) by omega), if_pos (show (0 : Int) ≤ (i : Int) by omega), if_pos (show (i : Int) < (row.length : Int) by omega), e1, e2, e3, Option.bind_some, if_true]
      exact hgo R (hgo' R hR)
    | false =>
      obtain ⟨y, c4, h4, hy, k4, hgo⟩ := draw20_j2 w out row n hr i (by omega) next hn hw (wrap64 (wrap64 (rd row (i : Int) + v1) - 20)) c2 h2 k2
      obtain ⟨next', c', h', hw', k', hgo'⟩ := ih (i + 1) (next ++ [y]) c4 h4 (by omega) (by simp; omega) (hmem y hy) k4
      refine ⟨next', c', h', hw', k', fun R hR => ev_succ ?_⟩
      simp only [spec_l20Draw.l1, if_pos (show ((i : Int) < (w : Int)) by omega), if_pos (show (0 : Int) ≤ (i : Int) by omega), if_pos (show (i : Int) < (row.length : Int) by omega), e1, e2, Option.bind_some, Bool.false_eq_true, if_false]
      exact hgo R (hgo' R hR)
theorem draw20_l0 {l : List Int} (w : Nat) (hw : w ≤ 8) (n : Nat) : ∀ (out : List (List Int)) (row : List Int) (c h : Int), row.length = w → out.length + n ≤ 40 → (∀ r ∈ out, rowW w r) → Cur l c →
    ∃ out' c' h', Ev (fun k => spec_l20Draw.l0 k (w : Int) out row (n : Int) l c h) (out', c', h') ∧ out'.length ≤ 40 ∧ (∀ r ∈ out', rowW w r) ∧ Cur l c' := by
  induction n with
  | zero =>
    intro out row c h hr ho hg hc
    refine ⟨out, c, h, ev_succ ?_, by omega, hg, hc⟩
    simp only [spec_l20Draw.l0, if_neg (show ¬ (((0 : Nat) : Int) > 0) by omega)]
    exact ev_now _
  | succ n ih =>
    intro out row c h hr ho hg hc
    obtain ⟨next', c1, h1, hw1, k1, hgo⟩ := draw20_l1 w out row ((n + 1 : Nat) : Int) hr hw (by omega) w 0 [] c h (by omega) rfl (by simp) hc
    obtain ⟨out', c', h', he, hl, hg', k'⟩ := ih (out ++ [next']) next' c1 h1 hw1.1 (by simp; omega) (by
      intro r hm
      rcases List.mem_append.1 hm with hm | hm
      · exact hg r hm
      · rw [List.mem_singleton.1 hm]; exact hw1) k1
    refine ⟨out', c', h', ev_succ ?_, hl, hg', k'⟩
    simp only [spec_l20Draw.l0, if_pos (show (((n + 1 : Nat) : Int) > 0) by omega)]
    refine hgo _ ?_
    rw [show wrap64 (((n + 1 : Nat) : Int) - 1) = (n : Int) by rw [w64 (by omega) (by omega)]; omega]
    exact he
theorem draw20_ev {l : List Int} {c : Int} (h : Int) (hc : Cur l c) : ∃ rows c' h' w, Ev (fun k => spec_l20Draw.f k l c h l) (rows, c', h') ∧ 1 ≤ w ∧ w ≤ 4 ∧ rows.length ≤ 40 ∧ (∀ r ∈ rows, rowW w r) ∧ Cur l c' := by
  have hl := hc.1
  obtain ⟨v, c1, h1, e1, v0, v1, k1⟩ := draw_below h 4 hc (by omega) (by omega)
  obtain ⟨s, es, s0, s1⟩ := draw_size20 l hl
  have w2 : wrap64 (2 * s) = 2 * s := w64 (by omega) (by omega)
  obtain ⟨m, c2, h2, e2, m0, m1, k2⟩ := draw_below h1 (2 * s) k1 (by omega) (by omega)
  obtain ⟨w, hw⟩ : ∃ w : Nat, wrap64 (1 + v) = (w : Int) := ⟨(1 + v).toNat, by rw [w64 (by omega) (by omega)]; omega⟩
  have hwv : (w : Int) = 1 + v := by rw [← hw, w64 (by omega) (by omega)]
  obtain ⟨out', c', h', he, ho, hg, k'⟩ := draw20_l0 (l := l) w (by omega) m.toNat [] (List.replicate w 0) c2 h2 (by simp) (by simp; omega) (by simp) k2
  refine ⟨out', c', h', w, ?_, by omega, by omega, ho, hg, k'⟩
  simp only [spec_l20Draw.f, e1, Option.bind_some, hw, if_pos (show (0 : Int) ≤ (w : Int) by omega), Int.toNat_natCast, if_pos (show w ≤ 35184372088832 by omega), es, w2, e2]
  rw [show ((m.toNat : Nat) : Int) = m by omega] at he
  exact he
theorem recordB_of {rows : List (List Int)} {w : Nat} (h1 : 1 ≤ w) (h8 : w ≤ 8) (hl : rows.length ≤ 200) (hg : ∀ r ∈ rows, rowW w r) : recordB rows = true := by
  simp only [recordB, Bool.and_eq_true, List.all_eq_true, decide_eq_true_eq, rowB, inB_iff, allB_iff]
  refine ⟨fun r hr => ?_, by omega⟩
  have h0 : (rows.getD 0 []).length = w := by
    cases rows with
    | nil => simp at hr
    | cons a rows => exact (hg a (by simp)).1
  obtain ⟨a, b⟩ := hg r hr
  exact ⟨by omega, by omega, b⟩
theorem within_l (xs : List Int) (x : Int) (hn : xs.length ≤ 140737488355328) (d : Nat) : ∀ i : Nat, i + d = xs.length → Ev (fun k => laws_within.l0 k xs x (i : Int)) (decide (x ∈ xs.drop i)) := by
  induction d with
  | zero =>
    intro i h
    refine ev_succ ?_
    simp only [laws_within.l0, if_neg (show ¬ ((i : Int) < (xs.length : Int)) by omega)]
    exact ev_some (by rw [List.drop_of_length_le (by omega)]; simp)
  | succ d ih =>
    intro i h
    have hi := ih (i + 1) (by omega)
    refine ev_succ ?_
    simp only [laws_within.l0, if_pos (show ((i : Int) < (xs.length : Int)) by omega), if_pos (show (0 : Int) ≤ (i : Int) by omega), w64s i (by omega)]
    rw [drop_rd (show i < xs.length by omega)]
    by_cases e : rd xs (i : Int) = x
    · simp only [if_pos e]
      exact ev_some (by simp [e])
    · simp only [if_neg e]
      refine ev_val hi ?_
      have e' : ¬ x = rd xs (i : Int) := fun h => e h.symm
      simp [List.mem_cons, e']
theorem within_ev (xs : List Int) (x : Int) (hn : xs.length ≤ 140737488355328) : Ev (fun k => laws_within.f k xs x) (decide (x ∈ xs)) := by
  have := within_l xs x hn xs.length 0 (by omega)
  simpa [laws_within.f] using this
theorem ev_mem (vs : List Int) (lim : Int) (d : Nat) : ∀ (i j : Nat), ((j : Int) ∈ eventsFrom vs lim d i) ↔ (i ≤ j ∧ j < i + d ∧ evB vs lim (j : Int) = true) := by
  induction d with
  | zero => intro i j; simp [eventsFrom]; omega
  | succ d ih =>
    intro i j
    simp only [eventsFrom, List.mem_append, ih]
    constructor
    · rintro (h | ⟨h1, h2, h3⟩)
      · split at h
        · next he =>
          have : (j : Int) = (i : Int) := by simpa using h
          have : j = i := by omega
          subst this
          exact ⟨by omega, by omega, he⟩
        · simp at h
      · exact ⟨by omega, by omega, h3⟩
    · rintro ⟨h1, h2, h3⟩
      by_cases e : j = i
      · subst e
        left
        rw [if_pos h3]
        simp
      · right
        exact ⟨by omega, by omega, h3⟩
theorem ev_ge (vs : List Int) (lim : Int) (d : Nat) : ∀ (i : Nat), ∀ x ∈ eventsFrom vs lim d i, (i : Int) ≤ x := by
  induction d with
  | zero => intro i x h; simp [eventsFrom] at h
  | succ d ih =>
    intro i x h
    simp only [eventsFrom, List.mem_append] at h
    rcases h with h | h
    · split at h
      · have : x = (i : Int) := by simpa using h
        omega
      · simp at h
    · have := ih (i + 1) x h
      omega
theorem ev_sorted (vs : List Int) (lim : Int) (d : Nat) : ∀ (i : Nat), (eventsFrom vs lim d i).Pairwise (· < ·) := by
  induction d with
  | zero => intro i; simp [eventsFrom]
  | succ d ih =>
    intro i
    simp only [eventsFrom]
    rw [List.pairwise_append]
    refine ⟨?_, ih (i + 1), ?_⟩
    · split <;> simp
    · intro a ha b hb
      have := ev_ge vs lim d (i + 1) b hb
      split at ha
      · have : a = (i : Int) := by simpa using ha
        omega
      · simp at ha
theorem columns_l1 (xs : List Int) (hn : xs.length ≤ 140737488355328) (hs : xs.Pairwise (· < ·)) (d : Nat) : ∀ i : Nat, i + d + 1 = max xs.length (i + 1) → i ≤ xs.length → Ev (fun k => laws_FnColumns.l1 k xs ((i + 1 : Nat) : Int)) true := by
  induction d with
  | zero =>
    intro i h hi
    refine ev_succ ?_
    simp only [laws_FnColumns.l1, if_neg (show ¬ (((i + 1 : Nat) : Int) < (xs.length : Int)) by omega)]
    exact ev_now _
  | succ d ih =>
    intro i h hi
    have hlt : i + 1 < xs.length := by omega
    have hi' := ih (i + 1) (by omega) (by omega)
    have hp : xs[i] < xs[i + 1] := List.pairwise_iff_getElem.1 hs i (i + 1) (by omega) hlt (by omega)
    have e : wrap64 (((i + 1 : Nat) : Int) - 1) = (i : Int) := by rw [w64 (by omega) (by omega)]; omega
    refine ev_succ ?_
    simp only [laws_FnColumns.l1, if_pos (show (((i + 1 : Nat) : Int) < (xs.length : Int)) by omega), e, if_pos (show (0 : Int) ≤ (i : Int) by omega), if_pos (show ((i : Int) < (xs.length : Int)) by omega), if_pos (show (0 : Int) ≤ ((i + 1 : Nat) : Int) by omega), rd_nat hlt, rd_nat (show i < xs.length by omega), if_neg (show ¬ xs[i] ≥ xs[i + 1] by omega), w64s (i + 1) (by omega)]
    exact hi'
theorem columns_l0 (rows : List (List Int)) (at_ lim : Int) (hc : colOk rows at_ = true) (d : Nat) : ∀ i : Nat, i + d = rows.length → Ev (fun k => laws_FnColumns.l0 k rows at_ lim (rows.map (fun r => rd r at_)) (eventsFrom (rows.map (fun r => rd r at_)) lim rows.length 0) (i : Int)) true := by
  obtain ⟨h0, hr, hat⟩ := colOk_in hc
  have hel := eventsFrom_len (rows.map (fun r => rd r at_)) lim rows.length 0
  induction d with
  | zero =>
    intro i h
    refine ev_succ ?_
    simp only [laws_FnColumns.l0, List.length_map, if_neg (show ¬ ((i : Int) < (rows.length : Int)) by omega)]
    exact columns_l1 _ (by omega) (ev_sorted _ _ _ _) ((eventsFrom (rows.map (fun r => rd r at_)) lim rows.length 0).length - 1) 0 (by omega) (by omega)
  | succ d ih =>
    intro i h
    have hlt : i < rows.length := by omega
    have hi := ih (i + 1) (by omega)
    have ha2 := hat i hlt
    have hm := rd_map (at_ := at_) hlt
    have hw := within_ev (eventsFrom (rows.map (fun r => rd r at_)) lim rows.length 0) (i : Int) (by omega)
    have hmem := ev_mem (rows.map (fun r => rd r at_)) lim rows.length 0 i
    have hd : decide ((i : Int) ∈ eventsFrom (rows.map (fun r => rd r at_)) lim rows.length 0) = evB (rows.map (fun r => rd r at_)) lim (i : Int) := by
      cases he : evB (rows.map (fun r => rd r at_)) lim (i : Int) with
      | true => exact decide_eq_true (hmem.2 ⟨by omega, by omega, he⟩)
      | false => exact decide_eq_false (fun x => by rw [(hmem.1 x).2.2] at he; cases he)
    rw [hd] at hw
    refine ev_succ ?_
    simp only [laws_FnColumns.l0, List.length_map, if_pos (show ((i : Int) < (rows.length : Int)) by omega), if_pos (show (0 : Int) ≤ (i : Int) by omega), rdIntSS hlt, hm, if_pos ha2.1, if_pos ha2.2, if_true, w64s i (by omega)]
    by_cases h1 : rd (rows[i]) at_ > lim
    · simp only [if_pos h1]
      by_cases h2 : (i : Int) = 0
      · have hev : evB (rows.map (fun r => rd r at_)) lim (i : Int) = true := by unfold evB; rw [hm, decide_eq_true h1, decide_eq_true h2]; rfl
        rw [hev] at hw
        simp only [if_pos h2]
        refine hw.bind ?_
        simpa using hi
      · obtain ⟨j, hij⟩ : ∃ j, i = j + 1 := ⟨i - 1, by omega⟩
        have e : wrap64 ((i : Int) - 1) = (i : Int) - 1 := w64 (by omega) (by omega)
        simp only [if_neg h2, e, if_pos (show (0 : Int) ≤ (i : Int) - 1 by omega), if_pos (show (i : Int) - 1 < (rows.length : Int) by omega)]
        refine hw.bind ?_
        have hev : evB (rows.map (fun r => rd r at_)) lim (i : Int) = decide (rd (rows.map (fun r => rd r at_)) ((i : Int) - 1) ≤ lim) := by unfold evB; rw [hm, decide_eq_true h1, decide_eq_false h2]; simp
        rw [hev]
        simpa using hi
    · have hev : evB (rows.map (fun r => rd r at_)) lim (i : Int) = false := by unfold evB; rw [hm, decide_eq_false h1]; rfl
      rw [hev] at hw
      simp only [if_neg h1]
      refine hw.bind ?_
      simpa using hi
theorem FnColumns : laws_FnColumns.Pure := by
  intro l _ _ hw
  have hw' : ∀ x ∈ l, 0 ≤ x ∧ x ≤ 255 := fun x hx => wf_u8 (hw x hx)
  refine Ev.rounds ?_
  simp only [laws_FnColumns.f, laws_big.f, Option.bind_some]
  by_cases hb : (l.length : Int) > 1048576
  · simp only [hb, decide_true, if_true]
    exact ev_now _
  · simp only [hb, decide_false, Bool.false_eq_true, if_false]
    obtain ⟨h, hh⟩ := draw_new l (by omega)
    obtain ⟨rows, c', h', w, he, hw1, hw4, hl, hg, _⟩ := draw20_ev (l := l) (c := 0) h ⟨by omega, by omega, by omega⟩
    have hd : Ev (fun k => spec_DrawRecord.f k l) rows := by
      simp only [spec_DrawRecord.f]
      refine hh.bind ?_
      exact he.bind (f := fun _ t => some t.1) (ev_now _)
    have hx : ∀ x ∈ rows, x.length ≤ 140737488355328 := fun x hx => by have := (hg x hx).1; omega
    have hrec := recordB_of hw1 (by omega) (by omega) hg
    refine hd.bind ?_
    by_cases h0 : (rows.length : Int) = 0
    · obtain rfl : rows = [] := List.eq_nil_of_length_eq_zero (by omega)
      simp only [List.length_nil, if_pos (show (((0 : Nat) : Int) = 0) from rfl)]
      refine (impl_Column_ev [] 0 (by simp) (by simp)).bind ?_
      refine (impl_Events20_ev [[1], [5], [6], [1], [9]] 0 4 (by simp) (by simp)).bind ?_
      rw [show events20 [[1], [5], [6], [1], [9]] 0 4 = ([1, 4], true) from by decide, show column [] 0 = ([], false) from by decide]
      simp only [Bool.false_eq_true, if_false, if_true]
      exact ev_some (by decide)
    · have hlt : 0 < rows.length := by omega
      have e0 : (rows.getD 0 []).length = w := by
        rw [List.getD_eq_getElem?_getD, List.getElem?_eq_getElem hlt, Option.getD_some]
        exact (hg _ (List.getElem_mem hlt)).1
      obtain ⟨v, hv, v0, v1⟩ := at_ev l hw' (by omega) 1 (by omega) (by omega)
      obtain ⟨u, hu, u0, u1⟩ := at_ev l hw' (by omega) 2 (by omega) (by omega)
      have wu : wrap64 (u - 128) = u - 128 := w64 (by omega) (by omega)
      have t0 := Int.tmod_nonneg (w : Int) v0
      have t1 := Int.tmod_lt_of_pos v (show (0 : Int) < (w : Int) by omega)
      simp only [if_neg h0, hv, hu, Option.bind_some, if_pos (show (0 : Int) < (rows.length : Int) by omega), rdIntSS0, e0, if_neg (show ¬ ((w : Int) = 0) by omega), wu]
      have hc : colOk rows (Int.tmod v (w : Int)) = true := by
        simp only [colOk, Bool.and_eq_true, decide_eq_true_eq, inB_iff, e0]
        exact ⟨hrec, hlt, by omega, by omega⟩
      have hc2 : colOk rows (w : Int) = false := by
        have : inB (w : Int) 0 ((w : Int) - 1) = false := by rw [Bool.eq_false_iff, ne_eq, inB_iff]; omega
        simp only [colOk, e0, this, Bool.and_false]
      generalize Int.tmod v (w : Int) = q at hc
      have hcol : column rows q = (rows.map (fun r => rd r q), true) := by unfold column; rw [if_pos hc]
      have hcol2 : column rows (w : Int) = ([], false) := by unfold column; rw [hc2]; rfl
      have hev : events20 rows q (u - 128) = (eventsFrom (rows.map (fun r => rd r q)) (u - 128) rows.length 0, true) := by unfold events20; rw [hcol]; simp only [List.length_map]
      have c1 := impl_Column_ev rows q (by omega) hx
      have c2 := impl_Events20_ev rows q (u - 128) (by omega) hx
      have c3 := impl_Column_ev rows (w : Int) (by omega) hx
      rw [hcol] at c1
      rw [hev] at c2
      rw [hcol2] at c3
      refine c1.bind ?_
      refine c2.bind ?_
      refine c3.bind ?_
      simp only [if_true, Bool.false_eq_true, if_false, List.length_map, bne_self_eq_false]
      refine ev_succ ?_
      simp only [laws_FnColumns.j0, Bool.false_eq_true, if_false]
      exact columns_l0 rows q (u - 128) hc rows.length 0 (by omega)
end Go.Proofs.Ytaaelkbkmgnciaa.Pure
