/- what drawn calls are handed is not changed by them: sums over a drawn record and a drawn fleet's defects are the same behind the calls. (P22) -/
import Derived.Test.YtdimdlifjdbgnaaPFnKeptx16
import Derived.Test.YtdimdlifjdbgnaaBase
set_option linter.unusedVariables false
set_option linter.unusedSimpArgs false
namespace Go.Proofs.Ytdimdlifjdbgnaa.Pure
open Go.RowKit Go.Proofs.Ytdimdlifjdbgnaa.PFnKept Go.Proofs.Ytdimdlifjdbgnaa.Base Go.Proofs.YtdimdlifjdbgnaaW.PrintWords Go.Proofs.YtdimdlifjdbgnaaW.PrintLast
/-! The helpers over slices of slices: IntSS. -/
theorem rdIntSS {xs : List (List Int)} {i : Nat} (h : i < xs.length) : rd_L13 xs (i : Int) = xs[i] := by
  simp [rd_L13, List.getD_eq_getElem?_getD, h]
theorem rdIntSS0 {xs : List (List Int)} : rd_L13 xs 0 = xs.getD 0 [] := rfl
theorem rd_zeros (w : Nat) (j : Int) : rd (List.replicate w (0 : Int)) j = 0 := by
  simp only [rd, List.getD_eq_getElem?_getD, List.getElem?_replicate]
  split <;> rfl
/-- A row fits its record. -/
def rowB (n : Nat) (r : List Int) : Bool := decide ((r.length : Int) = (n : Int)) && (inB (r.length : Int) 1 8 && allB r (-30000) 30000)
def recordB (rows : List (List Int)) : Bool := rows.all (rowB (rows.getD 0 []).length) && decide ((rows.length : Int) ≤ 200)
theorem recordB_in {rows : List (List Int)} (h : recordB rows = true) : rows.length ≤ 200 ∧ ∀ r ∈ rows, r.length = (rows.getD 0 []).length ∧ (1 ≤ r.length ∧ r.length ≤ 8) ∧ ∀ x ∈ r, -30000 ≤ x ∧ x ≤ 30000 := by
  simp only [recordB, Bool.and_eq_true, List.all_eq_true, decide_eq_true_eq, rowB, inB_iff, allB_iff] at h
  refine ⟨by omega, fun r hr => ?_⟩
  obtain ⟨h1, h2, h3⟩ := h.1 r hr
  exact ⟨by omega, by omega, h3⟩
theorem impl_RecordOk_l (rows : List (List Int)) (hn : rows.length ≤ 140737488355328) (hx : ∀ x ∈ rows, x.length ≤ 140737488355328) (d : Nat) : ∀ i : Nat, i + d = rows.length →
    Ev (fun k => impl_RecordOk.l0 k rows rows (rows.length : Int) (i : Int)) ((rows.drop i).all (rowB (rows.getD 0 []).length) && decide ((rows.length : Int) ≤ 200)) := by
  induction d with
  | zero =>
    intro i h
    refine ev_succ ?_
    simp only [impl_RecordOk.l0, if_neg (show ¬ ((i : Int) < (rows.length : Int)) by omega)]
    exact ev_some (by rw [List.drop_of_length_le (by omega)]; simp)
  | succ d ih =>
    intro i h
    refine ev_succ ?_
    have hlt : i < rows.length := by omega
    have hxi := hx _ (List.getElem_mem hlt)
    have e0 : rd_L13 rows 0 = rows.getD 0 [] := rfl
    rw [List.drop_eq_getElem_cons hlt, List.all_cons]
    simp only [impl_RecordOk.l0, if_pos (show ((i : Int) < (rows.length : Int)) by omega), if_pos (show (0 : Int) ≤ (i : Int) by omega), if_pos (show (0 : Int) < (rows.length : Int) by omega), rdIntSS hlt, e0, impl_in_eq, Option.bind_some]
    have hi := ih (i + 1) (by omega)
    have hj : ∀ b : Bool, Ev (fun k => impl_RecordOk.j1 k rows rows (rows.length : Int) (i : Int) b) (!b && ((rows.drop (i + 1)).all (rowB (rows.getD 0 []).length) && decide ((rows.length : Int) ≤ 200))) := by
      intro b
      refine ev_succ ?_
      cases b with
      | true => simpa only [impl_RecordOk.j1, if_true, Bool.not_true, Bool.false_and] using ev_now false
      | false => simpa only [impl_RecordOk.j1, Bool.false_eq_true, if_false, Bool.not_false, Bool.true_and, w64s i (by omega)] using hi
    generalize rows[i] = r at *
    generalize (rows.getD 0 []).length = n0 at *
    rw [show rowB n0 r = (decide ((r.length : Int) = (n0 : Int)) && (inB (r.length : Int) 1 8 && allB r (-30000) 30000)) from rfl]
    by_cases c1 : (r.length : Int) = (n0 : Int)
    · simp only [if_pos c1, decide_eq_true c1, Bool.true_and]
      cases c2 : inB (r.length : Int) 1 8 with
      | false => simpa using hj true
      | true =>
        simp only [if_true, Bool.true_and]
        refine (impl_allIn_ev (-30000) 30000 r (by omega)).bind ?_
        cases c3 : allB r (-30000) 30000 with
        | false => simpa using hj true
        | true => simpa using hj false
    · simp only [if_neg c1, decide_eq_false c1, Bool.false_and]
      simpa using hj true
theorem impl_RecordOk_ev (rows : List (List Int)) (hn : rows.length ≤ 140737488355328) (hx : ∀ x ∈ rows, x.length ≤ 140737488355328) : Ev (fun k => impl_RecordOk.f k rows) (recordB rows) := by
  simpa [impl_RecordOk.f, recordB] using impl_RecordOk_l rows hn hx rows.length 0 (by omega)
/-! A record packed into bytes. -/
def chg (d : Int) : List Int := if inB d (-100) 100 = true then [wrap64 (d + 100) % 256] else [255, wrap64 (d + 60000) / 65536 % 256, wrap64 (d + 60000) / 256 % 256, wrap64 (d + 60000) % 256]
theorem chg_len (d : Int) : (chg d).length ≤ 4 := by unfold chg; split <;> simp
def rowP (prev row : List Int) : Nat → Nat → List Int
  | 0, _ => []
  | d + 1, j => chg (rd row (j : Int) - rd prev (j : Int)) ++ rowP prev row d (j + 1)
theorem rowP_len (prev row : List Int) (d : Nat) : ∀ j, (rowP prev row d j).length ≤ 4 * d := by
  induction d with
  | zero => intro j; simp [rowP]
  | succ d ih =>
    intro j
    have h1 := ih (j + 1)
    have h2 := chg_len (rd row (j : Int) - rd prev (j : Int))
    unfold rowP
    rw [List.length_append]
    omega
def packP (rows : List (List Int)) (w : Nat) : Nat → Nat → List Int → List Int
  | 0, _, _ => []
  | d + 1, i, prev => rowP prev (rows.getD i []) w 0 ++ packP rows w d (i + 1) (rows.getD i [])
theorem packP_len (rows : List (List Int)) (w : Nat) (d : Nat) : ∀ i prev, (packP rows w d i prev).length ≤ 4 * w * d := by
  induction d with
  | zero => intro i p; simp [packP]
  | succ d ih =>
    intro i p
    have h1 := ih (i + 1) (rows.getD i [])
    have h2 := rowP_len p (rows.getD i []) w 0
    unfold packP
    rw [List.length_append, Nat.mul_succ]
    omega
def packBytes (rows : List (List Int)) : List Int := [((rows.getD 0 []).length : Int) % 256, (rows.length : Int) % 256] ++ packP rows (rows.getD 0 []).length rows.length 0 (List.replicate (rows.getD 0 []).length 0)
def pack20 (rows : List (List Int)) : List Int × Bool := if recordB rows = true then (if ((packBytes rows).length : Int) > 1500 then ([], false) else (packBytes rows, true)) else ([], false)
theorem pack20_len (rows : List (List Int)) : (pack20 rows).1.length ≤ 1500 := by
  unfold pack20
  split
  · split
    · simp
    · simp only; omega
  · simp
theorem getD_rows {rows : List (List Int)} {i : Nat} (h : i < rows.length) : rows.getD i [] = rows[i] := by
  rw [List.getD_eq_getElem?_getD, List.getElem?_eq_getElem h, Option.getD_some]
def prevOf (rows : List (List Int)) (w : Nat) (i : Nat) : List Int := if i = 0 then List.replicate w 0 else rows.getD (i - 1) []
theorem rd_small {rows : List (List Int)} (h : recordB rows = true) {i : Nat} (hi : i < rows.length) {j : Nat} (hj : j < (rows[i]).length) : -30000 ≤ rd (rows[i]) (j : Int) ∧ rd (rows[i]) (j : Int) ≤ 30000 := ((recordB_in h).2 _ (List.getElem_mem hi)).2.2 _ (rd_mem (by omega) (by omega))
def packEnd (bs : List Int) : List Int × Bool := if (bs.length : Int) > 1500 then ([], false) else (bs, true)
theorem rows_width {rows : List (List Int)} (hb : recordB rows = true) : ∀ i (h : i < rows.length), (rows[i]).length = (rows.getD 0 []).length := fun i h => ((recordB_in hb).2 _ (List.getElem_mem h)).1
theorem rows_width8 {rows : List (List Int)} (hb : recordB rows = true) : (rows.getD 0 []).length ≤ 8 := by
  by_cases h : 0 < rows.length
  · rw [getD_rows h]
    exact ((recordB_in hb).2 _ (List.getElem_mem h)).2.1.2
  · rw [List.getD_eq_getElem?_getD, List.getElem?_eq_none (by omega)]
    simp
theorem impl_Pack20_row (rows : List (List Int)) (hb : recordB rows = true) (w : Nat) (i : Nat) (hi : i < rows.length) (prev : List Int) (hw : (rows[i]).length = w) (hpl : prev.length = w) (hps : ∀ x ∈ prev, -30000 ≤ x ∧ x ≤ 30000) (V : List Int × Bool) (d : Nat) : ∀ (j : Nat) (acc : List Int), j + d = w → acc.length + 4 * d ≤ 100000 →
    Ev (fun k => impl_Pack20.l0 k (acc ++ rowP prev (rows[i]) d j) (rows[i]) rows (rows.length : Int) ((i + 1 : Nat) : Int)) V → Ev (fun k => impl_Pack20.l1 k acc ((rows[i]).take j ++ prev.drop j) rows (rows.length : Int) (i : Int) (rows[i]) (w : Int) (j : Int)) V := by
  have hl := (recordB_in hb).1
  have hwl : w ≤ 8 := by have := ((recordB_in hb).2 _ (List.getElem_mem hi)).2.1; omega
  induction d with
  | zero =>
    intro j acc h ha hv
    refine ev_succ ?_
    simp only [impl_Pack20.l1, if_neg (show ¬ ((j : Int) < (w : Int)) by omega), w64s i (by omega)]
    rw [List.take_of_length_le (by omega), List.drop_of_length_le (by omega), List.append_nil]
    simpa only [rowP, List.append_nil] using hv
  | succ d ih =>
    intro j acc h ha hv
    have hj : j < (rows[i]).length := by omega
    have hjp : j < prev.length := by omega
    have hs := rd_small hb hi hj
    have hs' := hps _ (rd_mem (i := (j : Int)) (by omega) (by omega))
    rw [rowP, ← List.append_assoc] at hv
    have hc := chg_len (rd (rows[i]) (j : Int) - rd prev (j : Int))
    have hgo := ih (j + 1) (acc ++ chg (rd (rows[i]) (j : Int) - rd prev (j : Int))) (by omega) (by rw [List.length_append]; omega) hv
    have hlen : ((rows[i]).take j ++ prev.drop j).length = w := by rw [List.length_append, List.length_take, List.length_drop]; omega
    have htl : ((rows[i]).take j).length = j := by rw [List.length_take]; omega
    have hrd : rd ((rows[i]).take j ++ prev.drop j) (j : Int) = rd prev (j : Int) := by
      rw [rd_nat (by omega), rd_nat hjp, List.getElem_append_right (by omega), List.getElem_drop]
      simp only [htl, Nat.sub_self, Nat.add_zero]
    have hset : ((rows[i]).take j ++ prev.drop j).set j (rd (rows[i]) (j : Int)) = (rows[i]).take (j + 1) ++ prev.drop (j + 1) := by
      rw [List.set_append, if_neg (by omega), htl, Nat.sub_self, drop_rd hjp, List.set_cons_zero, rd_nat hj, List.take_succ_eq_append_getElem hj, List.append_assoc]
      rfl
    refine ev_succ ?_
    simp only [impl_Pack20.l1, if_pos (show ((j : Int) < (w : Int)) by omega), if_pos (show (0 : Int) ≤ (j : Int) by omega), if_pos (show (j : Int) < ((rows[i]).length : Int) by omega), hlen, impl_in_eq, Option.bind_some, hrd, Int.toNat_natCast, hset, w64s j (by omega), w64 (n := rd (rows[i]) (j : Int) - rd prev (j : Int)) (by omega) (by omega)]
    unfold chg at hgo
    cases hx : inB (rd (rows[i]) (j : Int) - rd prev (j : Int)) (-100) 100 with
    | true =>
      rw [hx, if_pos rfl] at hgo
      simp only [if_true, if_pos (show acc.length < 140737488355328 by omega)]
      exact hgo
    | false =>
      rw [hx, if_neg (by decide)] at hgo
      simp only [Bool.false_eq_true, if_false, List.length_cons, List.length_nil, if_pos (show acc.length + (0 + 1 + 1 + 1 + 1) < 140737488355328 by omega)]
      exact hgo
theorem impl_Pack20_l (rows : List (List Int)) (hb : recordB rows = true) (w : Nat) (hw : ∀ i (h : i < rows.length), (rows[i]).length = w) (hw8 : w ≤ 8) (d : Nat) : ∀ (i : Nat) (acc prev : List Int), i + d = rows.length → acc.length + 32 * d ≤ 50000 → prev.length = w → (∀ x ∈ prev, -30000 ≤ x ∧ x ≤ 30000) →
    Ev (fun k => impl_Pack20.l0 k acc prev rows (rows.length : Int) (i : Int)) (packEnd (acc ++ packP rows w d i prev)) := by
  have hl := (recordB_in hb).1
  induction d with
  | zero =>
    intro i acc prev h ha _ _
    refine ev_succ ?_
    simp only [impl_Pack20.l0, if_neg (show ¬ ((i : Int) < (rows.length : Int)) by omega), packP, List.append_nil, packEnd]
    split <;> exact ev_now _
  | succ d ih =>
    intro i acc prev h ha hpl hps
    have hi : i < rows.length := by omega
    have hwi := hw i hi
    have hr := rowP_len prev (rows[i]) w 0
    have hgo := ih (i + 1) (acc ++ rowP prev (rows[i]) w 0) (rows[i]) (by omega) (by rw [List.length_append]; omega) hwi ((recordB_in hb).2 _ (List.getElem_mem hi)).2.2
    rw [List.append_assoc] at hgo
    refine ev_succ ?_
    simp only [impl_Pack20.l0, if_pos (show ((i : Int) < (rows.length : Int)) by omega), if_pos (show (0 : Int) ≤ (i : Int) by omega), rdIntSS hi, hwi]
    have := impl_Pack20_row rows hb w i hi prev hwi hpl hps _ w 0 acc (by omega) (by omega) hgo
    rw [List.take_zero, List.nil_append, List.drop_zero] at this
    unfold packP
    rw [getD_rows hi]
    exact this
theorem impl_Pack20_ev (rows : List (List Int)) (hn : rows.length ≤ 140737488355328) (hx : ∀ x ∈ rows, x.length ≤ 140737488355328) : Ev (fun k => impl_Pack20.f k rows) (pack20 rows) := by
  simp only [impl_Pack20.f]
  refine (impl_RecordOk_ev rows hn hx).bind ?_
  unfold pack20
  cases hb : recordB rows with
  | false => simpa using ev_now _
  | true =>
    simp only [if_true]
    have hl := (recordB_in hb).1
    have hw8 := rows_width8 hb
    by_cases h0 : 0 < rows.length
    · have hg := getD_rows h0
      rw [rdIntSS0]
      simp only [if_neg (show ¬ (rows.length : Int) = 0 by omega), if_pos (show (0 : Int) < (rows.length : Int) by omega)]
      simp only [if_pos (show (0 : Int) ≤ ((rows.getD 0 []).length : Int) from Int.natCast_nonneg _), Int.toNat_natCast, if_pos (show (rows.getD 0 []).length ≤ 35184372088832 by omega)]
      exact impl_Pack20_l rows hb _ (rows_width hb) hw8 rows.length 0 [((rows.getD 0 []).length : Int) % 256, (rows.length : Int) % 256] (List.replicate (rows.getD 0 []).length 0) (by omega) (by simp; omega) (by simp) (by
        intro x hx
        rw [List.eq_of_mem_replicate hx]
        omega)
    · obtain rfl : rows = [] := List.length_eq_zero_iff.1 (by omega)
      exact ev_now _
/-! What is drawn: a cursor over the bytes, at place i, with the number h. -/
def Cur (l : List Int) (i : Int) : Prop := l.length ≤ 1048576 ∧ 0 ≤ i ∧ i ≤ (l.length : Int)
theorem draw_new (l : List Int) (hl : l.length ≤ 1048576) : ∃ h, Ev (fun k => spec_l1New.f k l) (l, 0, h) := by
  have loop : ∀ (d : Nat) (i : Nat) (h : Int), i + d = l.length → ∃ h', Ev (fun k => spec_l1New.l0 k l h (i : Int)) (l, 0, h') := by
    intro d
    induction d with
    | zero =>
      intro i h hi
      refine ⟨h, ev_succ ?_⟩
      simp only [spec_l1New.l0, if_neg (show ¬ ((i : Int) < (l.length : Int)) by omega)]
      exact ev_now _
    | succ d ih =>
      intro i h hi
      by_cases h4 : (i : Int) < 4000
      · obtain ⟨h', hh⟩ := ih (i + 1) (Go.bits .and .i64 (wrap64 ((wrap64 ((wrap64 (h * 131)) + (wrap64 (rd l (i : Int))))) + 7)) 1073741823) (by omega)
        refine ⟨h', ev_succ ?_⟩
        simp only [spec_l1New.l0, if_pos (show ((i : Int) < (l.length : Int)) by omega), if_pos h4, if_pos (show (0 : Int) ≤ (i : Int) by omega), w64s i (by omega)]
        exact hh
      · refine ⟨h, ev_succ ?_⟩
        simp only [spec_l1New.l0, if_pos (show ((i : Int) < (l.length : Int)) by omega), if_neg h4]
        exact ev_now _
  obtain ⟨h', hh⟩ := loop l.length 0 (wrap64 (63063 + (l.length : Int))) (by omega)
  exact ⟨h', by simpa [spec_l1New.f] using hh⟩
theorem draw_byte {l : List Int} {i : Int} (h : Int) (hc : Cur l i) : ∃ v i' h', spec_l1Byte.f l i h = some (v, i', h') ∧ 0 ≤ v ∧ v ≤ 255 ∧ Cur l i' := by
  obtain ⟨h1, h2, h3⟩ := hc
  unfold spec_l1Byte.f
  by_cases e : i < (l.length : Int)
  · rw [if_pos e, if_pos h2]
    have := bits_and_le (wrap64 ((Go.bits .and .i64 (Go.bits .xor .i64 ((wrap64 ((wrap64 (h * 6364136223846793005)) + 1442695040888963407)) / 8589934592) ((wrap64 ((wrap64 (h * 6364136223846793005)) + 1442695040888963407)) / 35184372088832)) 255) + (wrap64 (rd l i)))) 255 (by omega) (by omega)
    exact ⟨_, _, _, rfl, this.1, this.2, h1, by rw [w64 (by omega) (by omega)]; omega, by rw [w64 (by omega) (by omega)]; omega⟩
  · rw [if_neg e]
    have := bits_and_le (Go.bits .xor .i64 ((wrap64 ((wrap64 (h * 6364136223846793005)) + 1442695040888963407)) / 8589934592) ((wrap64 ((wrap64 (h * 6364136223846793005)) + 1442695040888963407)) / 35184372088832)) 255 (by omega) (by omega)
    exact ⟨_, _, _, rfl, this.1, this.2, h1, h2, h3⟩
theorem draw_below {l : List Int} {i : Int} (h n : Int) (hc : Cur l i) (h0 : 0 < n) (h1 : n ≤ 1099511627776) : ∃ v i' h', spec_l1Below.f l i h n = some (v, i', h') ∧ 0 ≤ v ∧ v < n ∧ Cur l i' := by
  unfold spec_l1Below.f
  rw [if_neg (by omega)]
  by_cases e : n ≤ 256
  · obtain ⟨v, i', h', e1, v0, v1, c1⟩ := draw_byte h hc
    rw [if_pos e, e1]
    simp only [Option.bind_some, if_neg (show ¬ n = 0 by omega)]
    exact ⟨_, _, _, rfl, Int.tmod_nonneg _ v0, Int.tmod_lt_of_pos _ h0, c1⟩
  · obtain ⟨v, i', h', e1, v0, v1, c1⟩ := draw_byte h hc
    obtain ⟨v', i2, h2, e2, v2, v3, c2⟩ := draw_byte h' c1
    obtain ⟨v4, i3, h3, e3, v5, v6, c3⟩ := draw_byte h2 c2
    obtain ⟨v7, i4, h4, e4, v8, v9, c4⟩ := draw_byte h3 c3
    rw [if_neg e, e1]
    simp only [Option.bind_some, e2, e3, e4, if_neg (show ¬ n = 0 by omega)]
    refine ⟨_, _, _, rfl, ?_, Int.tmod_lt_of_pos _ h0, c4⟩
    rw [w64 (n := v * 16777216) (by omega) (by omega), w64 (n := v' * 65536) (by omega) (by omega), w64 (n := v4 * 256) (by omega) (by omega), w64 (n := v * 16777216 + v' * 65536) (by omega) (by omega), w64 (n := v * 16777216 + v' * 65536 + v4 * 256) (by omega) (by omega), w64 (by omega) (by omega)]
    exact Int.tmod_nonneg _ (by omega)
theorem draw_once {l : List Int} {i : Int} (h n : Int) (hc : Cur l i) (h0 : 0 < n) (h1 : n ≤ 1099511627776) : ∃ v i' h', spec_l1Once.f l i h n = some (v, i', h') ∧ Cur l i' := by
  obtain ⟨v, i', h', e1, _, _, c1⟩ := draw_below h n hc h0 h1
  unfold spec_l1Once.f
  rw [e1]
  exact ⟨_, _, _, rfl, c1⟩
theorem draw_pickint {l : List Int} {i : Int} (h : Int) (xs : List Int) (hc : Cur l i) (h0 : 0 < xs.length) (h1 : xs.length ≤ 1000) : ∃ v i' h', spec_l1PickInt.f l i h xs = some (v, i', h') ∧ v ∈ xs ∧ Cur l i' := by
  obtain ⟨v, i', h', e1, v0, v1, c1⟩ := draw_below h (xs.length : Int) hc (by omega) (by omega)
  unfold spec_l1PickInt.f
  rw [e1]
  simp only [Option.bind_some, if_pos v0, if_pos v1]
  exact ⟨_, _, _, rfl, rd_mem v0 v1, c1⟩
/-! A drawn record. -/
theorem draw_size20 (l : List Int) (hl : l.length ≤ 1048576) : ∃ v, spec_l1Size.f l 20 = some v ∧ 1 ≤ v ∧ v ≤ 20 := by
  unfold spec_l1Size.f
  rw [w64 (n := (l.length : Int) / 20) (by omega) (by omega), w64 (n := 2 + (l.length : Int) / 20) (by omega) (by omega)]
  by_cases h : 2 + (l.length : Int) / 20 > 20
  · rw [if_pos h]; exact ⟨_, rfl, by omega, by omega⟩
  · rw [if_neg h]; exact ⟨_, rfl, by omega, by omega⟩
theorem draw_clip (x : Int) : ∃ m y, spec_l1Min.f 30000 x = some m ∧ spec_l1Max.f (-30000) m = some y ∧ -30000 ≤ y ∧ y ≤ 30000 := by
  unfold spec_l1Min.f spec_l1Max.f
  by_cases h : (30000 : Int) < x
  · exact ⟨30000, 30000, by rw [if_pos h], by rw [if_neg (by omega)], by omega, by omega⟩
  · by_cases h2 : (-30000 : Int) > x
    · exact ⟨x, -30000, by rw [if_neg h], by rw [if_pos h2], by omega, by omega⟩
    · exact ⟨x, x, by rw [if_neg h], by rw [if_neg h2], by omega, by omega⟩
def rowW (w : Nat) (r : List Int) : Prop := r.length = w ∧ ∀ x ∈ r, -30000 ≤ x ∧ x ≤ 30000
theorem draw20_j2 {l : List Int} (w : Nat) (out : List (List Int)) (row : List Int) (n : Int) (hr : row.length = w) (i : Nat) (hi : i < w) (next : List Int) (hn : next.length = i) (hw : w ≤ 8) (x c h : Int) (hc : Cur l c) :
    ∃ y c' h', (-30000 ≤ y ∧ y ≤ 30000) ∧ Cur l c' ∧ ∀ R, Ev (fun k => spec_l20Draw.l1 k (w : Int) out row n (next ++ [y]) ((i + 1 : Nat) : Int) l c' h') R → Ev (fun k => spec_l20Draw.j2 k (w : Int) out row n next (i : Int) x l c h) R := by
  obtain ⟨v, c1, h1, e1, k1⟩ := draw_once h 20 hc (by omega) (by omega)
  cases v with
  | true =>
    obtain ⟨p, c2, h2, e2, _, k2⟩ := draw_pickint h1 [100, -100, 101, -101] k1 (by simp) (by simp)
    obtain ⟨m, y, e3, e4, y0, y1⟩ := draw_clip (wrap64 (rd row (i : Int) + p))
    refine ⟨y, c2, h2, ⟨y0, y1⟩, k2, fun R hR => ev_succ ?_⟩
    simp only [spec_l20Draw.j2, e1, Option.bind_some, if_true, if_pos (show (0 : Int) ≤ (i : Int) by omega), if_pos (show (i : Int) < (row.length : Int) by omega), e2]
    refine ev_succ ?_
    simp only [spec_l20Draw.j3, e3, e4, Option.bind_some, if_pos (show next.length < 17592186044416 by omega), w64s i (by omega)]
    exact hR
  | false =>
    obtain ⟨m, y, e3, e4, y0, y1⟩ := draw_clip x
    refine ⟨y, c1, h1, ⟨y0, y1⟩, k1, fun R hR => ev_succ ?_⟩
    simp only [spec_l20Draw.j2, e1, Option.bind_some, Bool.false_eq_true, if_false]
    refine ev_succ ?_
    simp only [spec_l20Draw.j3, e3, e4, Option.bind_some, if_pos (show next.length < 17592186044416 by omega), w64s i (by omega)]
    exact hR
theorem draw20_l1 {l : List Int} (w : Nat) (out : List (List Int)) (row : List Int) (n : Int) (hr : row.length = w) (hw : w ≤ 8) (ho : out.length ≤ 1000) (d : Nat) : ∀ (i : Nat) (next : List Int) (c h : Int), i + d = w → next.length = i → (∀ x ∈ next, -30000 ≤ x ∧ x ≤ 30000) → Cur l c →
    ∃ next' c' h', rowW w next' ∧ Cur l c' ∧ ∀ R, Ev (fun k => spec_l20Draw.l0 k (w : Int) (out ++ [next']) next' (wrap64 (n - 1)) l c' h') R → Ev (fun k => spec_l20Draw.l1 k (w : Int) out row n next (i : Int) l c h) R := by
  induction d with
  | zero =>
    intro i next c h hi hn hx hc
    refine ⟨next, c, h, ⟨by omega, hx⟩, hc, fun R hR => ev_succ ?_⟩
    simp only [spec_l20Draw.l1, if_neg (show ¬ ((i : Int) < (w : Int)) by omega), if_pos (show out.length < 5864062014805 by omega)]
    exact hR
  | succ d ih =>
    intro i next c h hi hn hx hc
    have hmem : ∀ y, (-30000 ≤ y ∧ y ≤ 30000) → ∀ x ∈ next ++ [y], -30000 ≤ x ∧ x ≤ 30000 := by
      intro y hy x hm
      rcases List.mem_append.1 hm with hm | hm
      · exact hx x hm
      · rw [List.mem_singleton.1 hm]; exact hy
    obtain ⟨v1, c1, h1, e1, _, _, k1⟩ := draw_below h 41 hc (by omega) (by omega)
    obtain ⟨v2, c2, h2, e2, k2⟩ := draw_once h1 12 k1 (by omega) (by omega)
    cases v2 with
    | true =>
      obtain ⟨v3, c3, h3, e3, _, _, k3⟩ := draw_below h2 60001 k2 (by omega) (by omega)
      obtain ⟨y, c4, h4, hy, k4, hgo⟩ := draw20_j2 w out row n hr i (by omega) next hn hw (wrap64 (v3 - 30000)) c3 h3 k3
      obtain ⟨next', c', h', hw', k', hgo'⟩ := ih (i + 1) (next ++ [y]) c4 h4 (by omega) (by simp; omega) (hmem y hy) k4
      refine ⟨next', c', h', hw', k', fun R hR => ev_succ ?_⟩
      simp only [spec_l20Draw.l1, if_pos (show ((i : Int) < (w : Int)) by omega), if_pos (show (0 : Int) ≤ (i : Int) by omega), if_pos (show (i : Int) < (row.length : Int) by omega), e1, e2, e3, Option.bind_some, if_true]
      exact hgo R (hgo' R hR)
    | false =>
      obtain ⟨y, c4, h4, hy, k4, hgo⟩ := draw20_j2 w out row n hr i (by omega) next hn hw (wrap64 (wrap64 (rd row (i : Int) + v1) - 20)) c2 h2 k2
      obtain ⟨next', c', h', hw', k', hgo'⟩ := ih (i + 1) (next ++ [y]) c4 h4 (by omega) (by simp; omega) (hmem y hy) k4
      refine ⟨next', c', h', hw', k', fun R hR => ev_succ ?_⟩
      simp only [spec_l20Draw.l1, if_pos (show ((i : Int) < (w : Int)) by omega), if_pos (show (0 : Int) ≤ (i : Int) by omega), if_pos (show (i : Int) < (row.length : Int) by omega), e1, e2, Option.bind_some, Bool.false_eq_true, if_false]
      exact hgo R (hgo' R hR)
theorem draw20_l0 {l : List Int} (w : Nat) (hw : w ≤ 8) (n : Nat) : ∀ (out : List (List Int)) (row : List Int) (c h : Int), row.length = w → out.length + n ≤ 40 → (∀ r ∈ out, rowW w r) → Cur l c →
    ∃ out' c' h', Ev (fun k => spec_l20Draw.l0 k (w : Int) out row (n : Int) l c h) (out', c', h') ∧ out'.length ≤ 40 ∧ (∀ r ∈ out', rowW w r) ∧ Cur l c' := by
  induction n with
  | zero =>
    intro out row c h hr ho hg hc
    refine ⟨out, c, h, ev_succ ?_, by omega, hg, hc⟩
    simp only [spec_l20Draw.l0, if_neg (show ¬ (((0 : Nat) : Int) > 0) by omega)]
    exact ev_now _
  | succ n ih =>
    intro out row c h hr ho hg hc
    obtain ⟨next', c1, h1, hw1, k1, hgo⟩ := draw20_l1 w out row ((n + 1 : Nat) : Int) hr hw (by omega) w 0 [] c h (by omega) rfl (by simp) hc
    obtain ⟨out', c', h', he, hl, hg', k'⟩ := ih (out ++ [next']) next' c1 h1 hw1.1 (by simp; omega) (by
      intro r hm
      rcases List.mem_append.1 hm with hm | hm
      · exact hg r hm
      · rw [List.mem_singleton.1 hm]; exact hw1) k1
    refine ⟨out', c', h', ev_succ ?_, hl, hg', k'⟩
    simp only [spec_l20Draw.l0, if_pos (show (((n + 1 : Nat) : Int) > 0) by omega)]
    refine hgo _ ?_
    rw [show wrap64 (((n + 1 : Nat) : Int) - 1) = (n : Int) by rw [w64 (by omega) (by omega)]; omega]
    exact he
theorem draw20_ev {l : List Int} {c : Int} (h : Int) (hc : Cur l c) : ∃ rows c' h' w, Ev (fun k => spec_l20Draw.f k l c h l) (rows, c', h') ∧ 1 ≤ w ∧ w ≤ 4 ∧ rows.length ≤ 40 ∧ (∀ r ∈ rows, rowW w r) ∧ Cur l c' := by
  have hl := hc.1
  obtain ⟨v, c1, h1, e1, v0, v1, k1⟩ := draw_below h 4 hc (by omega) (by omega)
  obtain ⟨s, es, s0, s1⟩ := draw_size20 l hl
  have w2 : wrap64 (2 * s) = 2 * s := w64 (by omega) (by omega)
  obtain ⟨m, c2, h2, e2, m0, m1, k2⟩ := draw_below h1 (2 * s) k1 (by omega) (by omega)
  obtain ⟨w, hw⟩ : ∃ w : Nat, wrap64 (1 + v) = (w : Int) := ⟨(1 + v).toNat, by rw [w64 (by omega) (by omega)]; omega⟩
  have hwv : (w : Int) = 1 + v := by rw [← hw, w64 (by omega) (by omega)]
  obtain ⟨out', c', h', he, ho, hg, k'⟩ := draw20_l0 (l := l) w (by omega) m.toNat [] (List.replicate w 0) c2 h2 (by simp) (by simp; omega) (by simp) k2
  refine ⟨out', c', h', w, ?_, by omega, by omega, ho, hg, k'⟩
  simp only [spec_l20Draw.f, e1, Option.bind_some, hw, if_pos (show (0 : Int) ≤ (w : Int) by omega), Int.toNat_natCast, if_pos (show w ≤ 35184372088832 by omega), es, w2, e2]
  rw [show ((m.toNat : Nat) : Int) = m by omega] at he
  exact he
theorem recordB_of {rows : List (List Int)} {w : Nat} (h1 : 1 ≤ w) (h8 : w ≤ 8) (hl : rows.length ≤ 200) (hg : ∀ r ∈ rows, rowW w r) : recordB rows = true := by
  simp only [recordB, Bool.and_eq_true, List.all_eq_true, decide_eq_true_eq, rowB, inB_iff, allB_iff]
  refine ⟨fun r hr => ?_, by omega⟩
  have h0 : (rows.getD 0 []).length = w := by
    cases rows with
    | nil => simp at hr
    | cons a rows => exact (hg a (by simp)).1
  obtain ⟨a, b⟩ := hg r hr
  exact ⟨by omega, by omega, b⟩
theorem drawrecord_ev (l : List Int) (hl : l.length ≤ 1048576) : ∃ rows, Ev (fun k => spec_DrawRecord.f k l) rows ∧ recordB rows = true ∧ (packBytes rows).length ≤ 1500 := by
  obtain ⟨h, hh⟩ := draw_new l hl
  obtain ⟨rows, c1, h1, w, e1, w1, w4, hl', hg, k1⟩ := draw20_ev (l := l) (c := 0) h ⟨by omega, by omega, by omega⟩
  have hr := recordB_of w1 (by omega) (by omega) hg
  refine ⟨rows, ?_, hr, ?_⟩
  · simp only [spec_DrawRecord.f]
    refine hh.bind ?_
    refine e1.bind ?_
    exact ev_now _
  · have hp := packP_len rows (rows.getD 0 []).length rows.length 0 (List.replicate (rows.getD 0 []).length 0)
    have hw : (rows.getD 0 []).length ≤ 4 := by
      cases rows with
      | nil => simp
      | cons a rows => have := (hg a (by simp)).1; simp; omega
    have hm : 4 * (rows.getD 0 []).length * rows.length ≤ 4 * 4 * 40 := Nat.mul_le_mul (Nat.mul_le_mul_left 4 hw) hl'
    unfold packBytes
    rw [List.length_append]
    simp only [List.length_cons, List.length_nil]
    omega
/-! The draws of chapter 19. -/
theorem draw_pick {l : List Int} {i : Int} (h : Int) (hc : Cur l i) (xs : List ByteArray) (h0 : 0 < xs.length) (h1 : xs.length ≤ 1000) : ∃ v i' h', spec_l1Pick.f l i h xs = some (v, i', h') ∧ v ∈ xs ∧ Cur l i' := by
  obtain ⟨v, i', h', e1, v0, v1, c1⟩ := draw_below h (xs.length : Int) hc (by omega) (by omega)
  unfold spec_l1Pick.f
  rw [e1]
  simp only [Option.bind_some, if_pos v0, if_pos v1]
  refine ⟨_, _, _, rfl, ?_, c1⟩
  have hv : v.toNat < xs.length := by omega
  have : rdOf ByteArray.empty xs v = xs[v.toNat] := by simp [rdOf, List.getD_eq_getElem?_getD, hv]
  rw [this]
  exact List.getElem_mem hv
theorem rdOf_at {xs : List ByteArray} {i : Nat} (h : i < xs.length) : rdOf ByteArray.empty xs (i : Int) = xs[i] := by simp [rdOf, List.getD_eq_getElem?_getD, h]
abbrev cN : List ByteArray := [(⟨#[98, 101, 108, 116]⟩ : ByteArray), (⟨#[108, 97, 109, 112]⟩ : ByteArray), (⟨#[114, 97, 100, 105, 111]⟩ : ByteArray), (⟨#[115, 101, 97, 116]⟩ : ByteArray)]
abbrev tN : List ByteArray := [(⟨#[101, 110, 103, 105, 110, 101]⟩ : ByteArray), (⟨#[102, 114, 97, 109, 101]⟩ : ByteArray), (⟨#[103, 101, 97, 114]⟩ : ByteArray), (⟨#[119, 105, 110, 103]⟩ : ByteArray)]
abbrev dN : List ByteArray := [(⟨#[98, 101, 108, 116]⟩ : ByteArray), (⟨#[108, 97, 109, 112]⟩ : ByteArray), (⟨#[114, 97, 100, 105, 111]⟩ : ByteArray), (⟨#[115, 101, 97, 116]⟩ : ByteArray), (⟨#[108, 97, 109, 112]⟩ : ByteArray)]
structure CsOk (cs : List Cr) (N : List ByteArray) : Prop where
  sub : (cs.map (·.f0)).Sublist N
  b : ∀ c ∈ cs, (0 ≤ c.f1 ∧ c.f1 ≤ 3) ∧ 0 ≤ c.f2 ∧ c.f2 ≤ 59
theorem take_more {N : List ByteArray} {i : Nat} (h : i < N.length) : N.take (i + 1) = N.take i ++ [N[i]] := by simp
theorem sub_skip {xs N : List ByteArray} {i : Nat} (h : i < N.length) (s : xs.Sublist (N.take i)) : xs.Sublist (N.take (i + 1)) := by
  rw [take_more h]; exact s.trans (List.sublist_append_left _ _)
theorem sub_more {xs N : List ByteArray} {i : Nat} (h : i < N.length) (s : xs.Sublist (N.take i)) : (xs ++ [N[i]]).Sublist (N.take (i + 1)) := by
  rw [take_more h]; exact s.append (List.Sublist.refl _)
theorem drawcarries_l {l : List Int} (N : List ByteArray) (hN : N.length ≤ 1000) (d : Nat) : ∀ (j : Nat) (i h : Int) (cs : List Cr), j + d = N.length → Cur l i → CsOk cs (N.take j) → ∃ cs' i' h', Ev (fun k => spec_l19DrawCarries.l0 k cs N (j : Int) l i h) (cs', i', h') ∧ CsOk cs' N ∧ Cur l i' := by
  induction d with
  | zero =>
    intro j i h cs hj hc ho
    refine ⟨cs, i, h, ev_succ ?_, by rwa [List.take_of_length_le (by omega)] at ho, hc⟩
    simp only [spec_l19DrawCarries.l0, if_neg (show ¬ ((j : Int) < (N.length : Int)) by omega)]
    exact ev_now _
  | succ d ih =>
    intro j i h cs hj hc ho
    have hlt : j < N.length := by omega
    have hl : cs.length ≤ j := by have := ho.sub.length_le; simp only [List.length_map, List.length_take] at this; omega
    obtain ⟨v, i1, h1, e1, c1⟩ := draw_once h 5 hc (by omega) (by omega)
    cases v with
    | true =>
      obtain ⟨cs', i', h', e, o, c⟩ := ih (j + 1) i1 h1 cs (by omega) c1 ⟨sub_skip hlt ho.sub, ho.b⟩
      refine ⟨cs', i', h', ev_succ ?_, o, c⟩
      simp only [spec_l19DrawCarries.l0, if_pos (show ((j : Int) < (N.length : Int)) by omega), e1, Option.bind_some, if_true, w64s j (by omega)]
      exact e
    | false =>
      obtain ⟨a, i2, h2, e2, a0, a1, c2⟩ := draw_below h1 4 c1 (by omega) (by omega)
      obtain ⟨b, i3, h3, e3, b0, b1, c3⟩ := draw_below h2 60 c2 (by omega) (by omega)
      obtain ⟨cs', i', h', e, o, c⟩ := ih (j + 1) i3 h3 (cs ++ [⟨N[j], a, b⟩]) (by omega) c3 ⟨by rw [List.map_append]; exact sub_more hlt ho.sub, by
        intro c hc'
        rcases List.mem_append.1 hc' with hc' | hc'
        · exact ho.b c hc'
        · obtain rfl := List.mem_singleton.1 hc'
          exact ⟨⟨a0, by show a ≤ 3; omega⟩, b0, by show b ≤ 59; omega⟩⟩
      refine ⟨cs', i', h', ev_succ ?_, o, c⟩
      simp only [spec_l19DrawCarries.l0, if_pos (show ((j : Int) < (N.length : Int)) by omega), e1, Option.bind_some, Bool.false_eq_true, if_false, if_pos (show (0 : Int) ≤ (j : Int) by omega), e2, e3, if_pos (show cs.length < 4398046511104 by omega), rdOf_at hlt, w64s j (by omega)]
      exact e
theorem drawcarries_ev {l : List Int} {i : Int} (h : Int) (hc : Cur l i) : ∃ cs i' h', Ev (fun k => spec_l19DrawCarries.f k l i h) (cs, i', h') ∧ CsOk cs cN ∧ Cur l i' := by
  obtain ⟨cs, i', h', e, o, c⟩ := drawcarries_l cN (by decide) 4 0 i h [] (by decide) hc ⟨by simp, by simp⟩
  exact ⟨cs, i', h', by unfold spec_l19DrawCarries.f; exact e, o, c⟩
def TOk (t : Tk) : Prop := (0 ≤ t.f1 ∧ t.f1 ≤ 149) ∧ (0 ≤ t.f2 ∧ t.f2 ≤ 89) ∧ (0 ≤ t.f3 ∧ t.f3 ≤ 200) ∧ t.f1 + t.f2 + t.f3 > 0 ∧ (0 ≤ t.f4.f0 ∧ t.f4.f0 ≤ 50) ∧ (0 ≤ t.f4.f1 ∧ t.f4.f1 ≤ 50) ∧ 0 ≤ t.f4.f2 ∧ t.f4.f2 ≤ 50
theorem drawclock {l : List Int} {i : Int} (h : Int) (hc : Cur l i) : ∃ a b c i' h', spec_l19DrawClock.f l i h 51 = some (a, b, c, i', h') ∧ (0 ≤ a ∧ a ≤ 50) ∧ (0 ≤ b ∧ b ≤ 50) ∧ (0 ≤ c ∧ c ≤ 50) ∧ Cur l i' := by
  obtain ⟨a, i1, h1, e1, a0, a1, c1⟩ := draw_below h 51 hc (by omega) (by omega)
  obtain ⟨b, i2, h2, e2, b0, b1, c2⟩ := draw_below h1 51 c1 (by omega) (by omega)
  obtain ⟨c, i3, h3, e3, d0, d1, c3⟩ := draw_below h2 51 c2 (by omega) (by omega)
  unfold spec_l19DrawClock.f
  rw [e1]
  simp only [Option.bind_some, e2, e3]
  exact ⟨_, _, _, _, _, rfl, ⟨a0, by omega⟩, ⟨b0, by omega⟩, ⟨d0, by omega⟩, c3⟩
theorem mul01 {a b m : Int} (a0 : 0 ≤ a) (a1 : a ≤ m) (b0 : 0 ≤ b) (b1 : b < 2) (hm : m ≤ 1000) : 0 ≤ wrap64 (a * b) ∧ wrap64 (a * b) ≤ m := by
  have : b = 0 ∨ b = 1 := by omega
  rcases this with rfl | rfl
  · rw [Int.mul_zero]; rw [w64 (by omega) (by omega)]; omega
  · rw [Int.mul_one]; rw [w64 (by omega) (by omega)]; omega
theorem drawtask {l : List Int} {i : Int} (h : Int) (n : ByteArray) (hc : Cur l i) : ∃ a b c x y z i' h', spec_l19DrawTask.f l i h n 51 = some (n, a, b, c, x, y, z, i', h') ∧ TOk ⟨n, a, b, c, ⟨x, y, z⟩⟩ ∧ Cur l i' := by
  obtain ⟨a, i1, h1, e1, a0, a1, c1⟩ := draw_below h 150 hc (by omega) (by omega)
  obtain ⟨a', i2, h2, e2, a2, a3, c2⟩ := draw_below h1 2 c1 (by omega) (by omega)
  obtain ⟨b, i3, h3, e3, b0, b1, c3⟩ := draw_below h2 90 c2 (by omega) (by omega)
  obtain ⟨b', i4, h4, e4, b2, b3, c4⟩ := draw_below h3 2 c3 (by omega) (by omega)
  obtain ⟨d, i5, h5, e5, d0, d1, c5⟩ := draw_below h4 200 c4 (by omega) (by omega)
  obtain ⟨x, y, z, i6, h6, e6, x0, y0, z0, c6⟩ := drawclock h5 c5
  have hA := mul01 a0 (m := 149) (by omega) a2 a3 (by omega)
  have hB := mul01 b0 (m := 89) (by omega) b2 b3 (by omega)
  have hD : wrap64 (1 + d) = 1 + d := w64 (by omega) (by omega)
  unfold spec_l19DrawTask.f
  rw [e1]
  simp only [Option.bind_some, e2, e3, e4, e5, e6, hD]
  generalize wrap64 (a * a') = A at *
  generalize wrap64 (b * b') = B at *
  by_cases hA0 : A > 0
  · obtain ⟨v, i7, h7, e7, c7⟩ := draw_once h6 2 c6 (by omega) (by omega)
    simp only [if_pos hA0, e7, Option.bind_some]
    cases v with
    | true =>
      simp only [if_true]
      exact ⟨_, _, _, _, _, _, _, _, rfl, ⟨hA, hB, ⟨by show (0 : Int) ≤ 0; omega, by show (0 : Int) ≤ 200; omega⟩, by show A + B + 0 > 0; omega, x0, y0, z0⟩, c7⟩
    | false =>
      simp only [Bool.false_eq_true, if_false]
      exact ⟨_, _, _, _, _, _, _, _, rfl, ⟨hA, hB, ⟨by show 0 ≤ 1 + d; omega, by show 1 + d ≤ 200; omega⟩, by show A + B + (1 + d) > 0; omega, x0, y0, z0⟩, c7⟩
  · simp only [if_neg hA0]
    exact ⟨_, _, _, _, _, _, _, _, rfl, ⟨hA, hB, ⟨by show 0 ≤ 1 + d; omega, by show 1 + d ≤ 200; omega⟩, by show A + B + (1 + d) > 0; omega, x0, y0, z0⟩, c6⟩
structure DsOk (r : Int) (ds : List Df) (m : Int) : Prop where
  m0 : 0 ≤ m ∧ m ≤ 3 * (ds.length : Int)
  b : ∀ d ∈ ds, d.f0 ∈ dN ∧ (1 ≤ d.f1 ∧ d.f1 ≤ m) ∧ r - 49 ≤ d.f2 ∧ d.f2 ≤ r
  s : ds.Pairwise (fun a b => a.f1 < b.f1)
theorem drawdefects_l {l : List Int} (ts : List Tk) (cs : List Cr) (p q r : Int) (hr : 0 ≤ r ∧ r ≤ 1000000) (n : Nat) : ∀ (i h m : Int) (ds : List Df), Cur l i → ds.length + n ≤ 3 → DsOk r ds m →
    ∃ ds' i' h', Ev (fun k => spec_l19Draw.l1 k m (n : Int) l i h ts cs ds p q r) (ts, cs, ds', p, q, r, i', h') ∧ (∃ m', DsOk r ds' m') ∧ ds'.length ≤ 3 ∧ Cur l i' := by
  induction n with
  | zero =>
    intro i h m ds hc hn ho
    refine ⟨ds, i, h, ev_succ ?_, ⟨m, ho⟩, by omega, hc⟩
    simp only [spec_l19Draw.l1, if_neg (show ¬ (((0 : Nat) : Int) > 0) by omega)]
    exact ev_now _
  | succ n ih =>
    intro i h m ds hc hn ho
    obtain ⟨a, i1, h1, e1, a0, a1, c1⟩ := draw_below h 3 hc (by omega) (by omega)
    obtain ⟨v, i2, h2, e2, hv, c2⟩ := draw_pick h1 c1 dN (by decide) (by decide)
    obtain ⟨b, i3, h3, e3, b0, b1, c3⟩ := draw_below h2 50 c2 (by omega) (by omega)
    have hm := ho.m0
    have w1 : wrap64 (wrap64 (m + 1) + a) = m + 1 + a := by rw [w64 (n := m + 1) (by omega) (by omega), w64 (by omega) (by omega)]
    have w2 : wrap64 (r - b) = r - b := w64 (by omega) (by omega)
    have w3 : wrap64 (((n + 1 : Nat) : Int) - 1) = (n : Int) := by rw [w64 (by omega) (by omega)]; omega
    obtain ⟨ds', i', h', e, o, ol, c⟩ := ih i3 h3 (m + 1 + a) (ds ++ [⟨v, m + 1 + a, r - b⟩]) c3 (by simp; omega) ⟨⟨by omega, by simp only [List.length_append, List.length_singleton]; omega⟩, by
      intro d hd
      rcases List.mem_append.1 hd with hd | hd
      · obtain ⟨g1, g2, g3⟩ := ho.b d hd
        exact ⟨g1, ⟨g2.1, by omega⟩, g3⟩
      · obtain rfl := List.mem_singleton.1 hd
        exact ⟨hv, ⟨by show 1 ≤ m + 1 + a; omega, Int.le_refl _⟩, by show r - 49 ≤ r - b; omega, by show r - b ≤ r; omega⟩, by
      rw [List.pairwise_append]
      refine ⟨ho.s, List.pairwise_singleton _ _, ?_⟩
      intro d hd d' hd'
      obtain rfl := List.mem_singleton.1 hd'
      have := (ho.b d hd).2.1.2
      show d.f1 < m + 1 + a
      omega⟩
    refine ⟨ds', i', h', ev_succ ?_, o, ol, c⟩
    simp only [spec_l19Draw.l1, if_pos (show ((n + 1 : Nat) : Int) > 0 by omega), e1, Option.bind_some, e2, e3, if_pos (show ds.length < 4398046511104 by omega), w1, w2, w3]
    exact e
structure TsOk (ts : List Tk) (N : List ByteArray) : Prop where
  sub : (ts.map (·.f0)).Sublist N
  b : ∀ t ∈ ts, TOk t
theorem drawtasks_l {l : List Int} (cs : List Cr) (p q r : Int) (hr : 0 ≤ r ∧ r ≤ 1000000) (N : List ByteArray) (hN : N.length ≤ 1000) (d : Nat) : ∀ (j : Nat) (i h : Int) (ts : List Tk), j + d = N.length → Cur l i → TsOk ts (N.take j) →
    ∃ ts' ds i' h', Ev (fun k => spec_l19Draw.l0 k N (j : Int) l i h ts cs p q r) (ts', cs, ds, p, q, r, i', h') ∧ TsOk ts' N ∧ (∃ m', DsOk r ds m') ∧ ds.length ≤ 3 ∧ Cur l i' := by
  induction d with
  | zero =>
    intro j i h ts hj hc ho
    obtain ⟨a, i1, h1, e1, a0, a1, c1⟩ := draw_below h 4 hc (by omega) (by omega)
    obtain ⟨ds, i', h', e, o, ol, c⟩ := drawdefects_l ts cs p q r hr a.toNat i1 h1 0 [] c1 (by simp; omega) ⟨⟨by omega, by simp⟩, by simp, List.Pairwise.nil⟩
    rw [show ((a.toNat : Nat) : Int) = a by omega] at e
    refine ⟨ts, ds, i', h', ev_succ ?_, by rwa [List.take_of_length_le (by omega)] at ho, o, ol, c⟩
    simp only [spec_l19Draw.l0, if_neg (show ¬ ((j : Int) < (N.length : Int)) by omega), e1, Option.bind_some]
    exact e
  | succ d ih =>
    intro j i h ts hj hc ho
    have hlt : j < N.length := by omega
    have hl : ts.length ≤ j := by have := ho.sub.length_le; simp only [List.length_map, List.length_take] at this; omega
    obtain ⟨v, i1, h1, e1, c1⟩ := draw_once h 4 hc (by omega) (by omega)
    cases v with
    | true =>
      obtain ⟨ts', ds, i', h', e, o⟩ := ih (j + 1) i1 h1 ts (by omega) c1 ⟨sub_skip hlt ho.sub, ho.b⟩
      refine ⟨ts', ds, i', h', ev_succ ?_, o⟩
      simp only [spec_l19Draw.l0, if_pos (show ((j : Int) < (N.length : Int)) by omega), e1, Option.bind_some, if_true, w64s j (by omega)]
      exact e
    | false =>
      obtain ⟨a, b, c, x, y, z, i2, h2, e2, k2, c2⟩ := drawtask h1 N[j] c1
      obtain ⟨ts', ds, i', h', e, o⟩ := ih (j + 1) i2 h2 (ts ++ [⟨N[j], a, b, c, ⟨x, y, z⟩⟩]) (by omega) c2 ⟨by rw [List.map_append]; exact sub_more hlt ho.sub, by
        intro t ht
        rcases List.mem_append.1 ht with ht | ht
        · exact ho.b t ht
        · obtain rfl := List.mem_singleton.1 ht
          exact k2⟩
      refine ⟨ts', ds, i', h', ev_succ ?_, o⟩
      simp only [spec_l19Draw.l0, if_pos (show ((j : Int) < (N.length : Int)) by omega), e1, Option.bind_some, Bool.false_eq_true, if_false, if_pos (show (0 : Int) ≤ (j : Int) by omega), e2, if_pos (show ts.length < 2199023255552 by omega), rdOf_at hlt, w64s j (by omega)]
      exact e
theorem draw19_ev {l : List Int} {i : Int} (h : Int) (hc : Cur l i) : ∃ ts cs ds p q r i' h', Ev (fun k => spec_l19Draw.f k l i h) (ts, cs, ds, p, q, r, i', h') ∧ TsOk ts tN ∧ CsOk cs cN ∧ (∃ m', DsOk r ds m') ∧ ds.length ≤ 3 ∧ (50 ≤ p ∧ p ≤ 149) ∧ (50 ≤ q ∧ q ≤ 149) ∧ (50 ≤ r ∧ r ≤ 149) ∧ Cur l i' := by
  obtain ⟨cs, i1, h1, e1, oc, c1⟩ := drawcarries_ev h hc
  obtain ⟨a, i2, h2, e2, a0, a1, c2⟩ := draw_below h1 100 c1 (by omega) (by omega)
  obtain ⟨b, i3, h3, e3, b0, b1, c3⟩ := draw_below h2 60 c2 (by omega) (by omega)
  obtain ⟨d, i4, h4, e4, d0, d1, c4⟩ := draw_below h3 100 c3 (by omega) (by omega)
  obtain ⟨ts, ds, i', h', e, o1, o2, o3, c⟩ := drawtasks_l cs (50 + a) (50 + b) (50 + d) (by omega) tN (by decide) 4 0 i4 h4 [] (by decide) c4 ⟨by simp, by simp⟩
  refine ⟨ts, cs, ds, 50 + a, 50 + b, 50 + d, i', h', ?_, o1, oc, o2, o3, by omega, by omega, by omega, c⟩
  simp only [spec_l19Draw.f]
  refine e1.bind ?_
  simp only [e2, e3, e4, Option.bind_some, w64 (n := 50 + a) (by omega) (by omega), w64 (n := 50 + b) (by omega) (by omega), w64 (n := 50 + d) (by omega) (by omega)]
  exact e
theorem draw_pickint_ {l : List Int} {i : Int} (h : Int) (hc : Cur l i) (xs : List Int) (h0 : 0 < xs.length) (h1 : xs.length ≤ 1000) : ∃ v i' h', spec_l1PickInt.f l i h xs = some (v, i', h') ∧ Cur l i' := by
  obtain ⟨v, i', h', e1, v0, v1, c1⟩ := draw_below h (xs.length : Int) hc (by omega) (by omega)
  unfold spec_l1PickInt.f
  rw [e1]
  simp only [Option.bind_some, if_pos v0, if_pos v1]
  exact ⟨_, _, _, rfl, c1⟩
theorem drawdeed_j {l : List Int} {i : Int} (h : Int) (hc : Cur l i) (a : Int) (n : ByteArray) (b c : Int) : ∃ (x : Int × ByteArray × Int × Int) (i' h' : Int), Ev (fun k => spec_l19DrawDeed.j0 k l i h a n b c) (x.1, x.2.1, x.2.2.1, x.2.2.2, i', h') ∧ Cur l i' := by
  obtain ⟨v, i1, h1, e1, v0, v1, c1⟩ := draw_below h 40 hc (by omega) (by omega)
  obtain ⟨x1, i2, h2, e2, c2⟩ := draw_pickint_ h1 c1 [0, 6] (by decide) (by decide)
  obtain ⟨x2, i3, h3, e3, _, c3⟩ := draw_pick h1 c1 [(⟨#[]⟩ : ByteArray), (⟨#[97, 32, 98]⟩ : ByteArray), (⟨#[110, 111, 110, 101]⟩ : ByteArray)] (by decide) (by decide)
  obtain ⟨x3, i4, h4, e4, c4⟩ := draw_pickint_ h1 c1 [0, (-1), 1000000, 1000001] (by decide) (by decide)
  obtain ⟨x4, i5, h5, e5, c5⟩ := draw_pickint_ h1 c1 [0, 100, 101, 9223372036854775807] (by decide) (by decide)
  by_cases k0 : v = 0
  · refine ⟨(x1, n, b, c), i2, h2, ev_succ ?_, c2⟩
    simp only [spec_l19DrawDeed.j0, e1, Option.bind_some, if_pos k0, e2]
    exact ev_now _
  by_cases k1 : v = 1
  · refine ⟨(a, x2, b, c), i3, h3, ev_succ ?_, c3⟩
    simp only [spec_l19DrawDeed.j0, e1, Option.bind_some, if_neg k0, if_pos k1, e3]
    exact ev_now _
  by_cases k2 : v = 2
  · refine ⟨(a, n, x3, c), i4, h4, ev_succ ?_, c4⟩
    simp only [spec_l19DrawDeed.j0, e1, Option.bind_some, if_neg k0, if_neg k1, if_pos k2, e4]
    exact ev_now _
  by_cases k3 : v = 3
  · refine ⟨(a, n, b, x4), i5, h5, ev_succ ?_, c5⟩
    simp only [spec_l19DrawDeed.j0, e1, Option.bind_some, if_neg k0, if_neg k1, if_neg k2, if_pos k3, e5]
    exact ev_now _
  · refine ⟨(a, n, b, c), i1, h1, ev_succ ?_, c1⟩
    simp only [spec_l19DrawDeed.j0, e1, Option.bind_some, if_neg k0, if_neg k1, if_neg k2, if_neg k3]
    exact ev_now _
theorem drawdeed_ev {l : List Int} {i : Int} (h : Int) (hc : Cur l i) : ∃ (x : Int × ByteArray × Int × Int) (i' h' : Int), Ev (fun k => spec_l19DrawDeed.f k l i h) (x.1, x.2.1, x.2.2.1, x.2.2.2, i', h') ∧ Cur l i' := by
  obtain ⟨a, i1, h1, e1, a0, a1, c1⟩ := draw_below h 5 hc (by omega) (by omega)
  obtain ⟨v, i2, h2, e2, hv, c2⟩ := draw_pick h1 c1 [(⟨#[101, 110, 103, 105, 110, 101]⟩ : ByteArray), (⟨#[102, 114, 97, 109, 101]⟩ : ByteArray), (⟨#[103, 101, 97, 114]⟩ : ByteArray), (⟨#[119, 105, 110, 103]⟩ : ByteArray), (⟨#[108, 97, 109, 112]⟩ : ByteArray), (⟨#[115, 101, 97, 116]⟩ : ByteArray)] (by decide) (by decide)
  obtain ⟨b, i3, h3, e3, b0, b1, c3⟩ := draw_below h2 12 c2 (by omega) (by omega)
  obtain ⟨c, i4, h4, e4, d0, d1, c4⟩ := draw_below h3 15 c3 (by omega) (by omega)
  obtain ⟨o, i5, h5, e5, c5⟩ := draw_once h4 3 c4 (by omega) (by omega)
  simp only [spec_l19DrawDeed.f, e1, e2, e3, e4, e5, Option.bind_some]
  cases o with
  | true => simp only [if_true]; exact drawdeed_j h5 c5 _ _ _ _
  | false => simp only [Bool.false_eq_true, if_false]; exact drawdeed_j h5 c5 _ _ _ _
theorem drawdeeds_l {l : List Int} (ts : List Tk) (cs : List Cr) (ds : List Df) (p q r : Int) (n : Nat) : ∀ (i h : Int) (xs : List S42), Cur l i → xs.length + n ≤ 100 → ∃ xs', Ev (fun k => spec_DrawFleet.l0 k xs (n : Int) l i h ts cs ds p q r) (ts, cs, ds, p, q, r, xs') := by
  induction n with
  | zero =>
    intro i h xs hc hn
    refine ⟨xs, ev_succ ?_⟩
    simp only [spec_DrawFleet.l0, if_neg (show ¬ (((0 : Nat) : Int) > 0) by omega)]
    exact ev_now _
  | succ n ih =>
    intro i h xs hc hn
    obtain ⟨x, i1, h1, e1, c1⟩ := drawdeed_ev h hc
    have w3 : wrap64 (((n + 1 : Nat) : Int) - 1) = (n : Int) := by rw [w64 (by omega) (by omega)]; omega
    obtain ⟨xs', e⟩ := ih i1 h1 (xs ++ [⟨x.1, x.2.1, x.2.2.1, x.2.2.2⟩]) c1 (by simp; omega)
    refine ⟨xs', ev_succ ?_⟩
    simp only [spec_DrawFleet.l0, if_pos (show ((n + 1 : Nat) : Int) > 0 by omega)]
    refine e1.bind ?_
    simp only [if_pos (show xs.length < 3518437208883 by omega), w3]
    exact e
theorem drawfleet_ev (l : List Int) (hl : l.length ≤ 1048576) : ∃ ts cs ds p q r xs, Ev (fun k => spec_DrawFleet.f k l) (ts, cs, ds, p, q, r, xs) ∧ TsOk ts tN ∧ CsOk cs cN ∧ (∃ m', DsOk r ds m') ∧ ds.length ≤ 3 ∧ (50 ≤ p ∧ p ≤ 149) ∧ (50 ≤ q ∧ q ≤ 149) ∧ (50 ≤ r ∧ r ≤ 149) := by
  obtain ⟨h0, e0⟩ := draw_new l hl
  obtain ⟨ts, cs, ds, p, q, r, i1, h1, e1, o1, o2, o3, o4, o5, o6, o7, c1⟩ := draw19_ev h0 (⟨hl, by omega, by omega⟩ : Cur l 0)
  obtain ⟨a, i2, h2, e2, a0, a1, c2⟩ := draw_below h1 25 c1 (by omega) (by omega)
  obtain ⟨xs, e3⟩ := drawdeeds_l ts cs ds p q r a.toNat i2 h2 [] c2 (by simp; omega)
  rw [show ((a.toNat : Nat) : Int) = a by omega] at e3
  refine ⟨ts, cs, ds, p, q, r, xs, ?_, o1, o2, o3, o4, o5, o6, o7⟩
  simp only [spec_DrawFleet.f]
  refine e0.bind ?_
  refine e1.bind ?_
  simp only [e2, Option.bind_some]
  exact e3
/-! Drawn deeds: short names, not more than a hundred. -/
theorem drawdeed_jn {l : List Int} {i : Int} (h : Int) (hc : Cur l i) (a : Int) (n : ByteArray) (hn : n.size ≤ 100) (b c : Int) : ∃ (x : Int × ByteArray × Int × Int) (i' h' : Int), Ev (fun k => spec_l19DrawDeed.j0 k l i h a n b c) (x.1, x.2.1, x.2.2.1, x.2.2.2, i', h') ∧ x.2.1.size ≤ 100 ∧ Cur l i' := by
  obtain ⟨v, i1, h1, e1, v0, v1, c1⟩ := draw_below h 40 hc (by omega) (by omega)
  obtain ⟨x1, i2, h2, e2, c2⟩ := draw_pickint_ h1 c1 [0, 6] (by decide) (by decide)
  obtain ⟨x2, i3, h3, e3, m3, c3⟩ := draw_pick h1 c1 [(⟨#[]⟩ : ByteArray), (⟨#[97, 32, 98]⟩ : ByteArray), (⟨#[110, 111, 110, 101]⟩ : ByteArray)] (by decide) (by decide)
  obtain ⟨x3, i4, h4, e4, c4⟩ := draw_pickint_ h1 c1 [0, (-1), 1000000, 1000001] (by decide) (by decide)
  obtain ⟨x4, i5, h5, e5, c5⟩ := draw_pickint_ h1 c1 [0, 100, 101, 9223372036854775807] (by decide) (by decide)
  have s3 : x2.size ≤ 100 := by
    rcases List.mem_cons.1 m3 with rfl | m3
    · decide
    rcases List.mem_cons.1 m3 with rfl | m3
    · decide
    rcases List.mem_cons.1 m3 with rfl | m3
    · decide
    · cases m3
  by_cases k0 : v = 0
  · refine ⟨(x1, n, b, c), i2, h2, ev_succ ?_, hn, c2⟩
    simp only [spec_l19DrawDeed.j0, e1, Option.bind_some, if_pos k0, e2]
    exact ev_now _
  by_cases k1 : v = 1
  · refine ⟨(a, x2, b, c), i3, h3, ev_succ ?_, s3, c3⟩
    simp only [spec_l19DrawDeed.j0, e1, Option.bind_some, if_neg k0, if_pos k1, e3]
    exact ev_now _
  by_cases k2 : v = 2
  · refine ⟨(a, n, x3, c), i4, h4, ev_succ ?_, hn, c4⟩
    simp only [spec_l19DrawDeed.j0, e1, Option.bind_some, if_neg k0, if_neg k1, if_pos k2, e4]
    exact ev_now _
  by_cases k3 : v = 3
  · refine ⟨(a, n, b, x4), i5, h5, ev_succ ?_, hn, c5⟩
    simp only [spec_l19DrawDeed.j0, e1, Option.bind_some, if_neg k0, if_neg k1, if_neg k2, if_pos k3, e5]
    exact ev_now _
  · refine ⟨(a, n, b, c), i1, h1, ev_succ ?_, hn, c1⟩
    simp only [spec_l19DrawDeed.j0, e1, Option.bind_some, if_neg k0, if_neg k1, if_neg k2, if_neg k3]
    exact ev_now _
theorem drawdeed_evn {l : List Int} {i : Int} (h : Int) (hc : Cur l i) : ∃ (x : Int × ByteArray × Int × Int) (i' h' : Int), Ev (fun k => spec_l19DrawDeed.f k l i h) (x.1, x.2.1, x.2.2.1, x.2.2.2, i', h') ∧ x.2.1.size ≤ 100 ∧ Cur l i' := by
  obtain ⟨a, i1, h1, e1, a0, a1, c1⟩ := draw_below h 5 hc (by omega) (by omega)
  obtain ⟨v, i2, h2, e2, hv, c2⟩ := draw_pick h1 c1 [(⟨#[101, 110, 103, 105, 110, 101]⟩ : ByteArray), (⟨#[102, 114, 97, 109, 101]⟩ : ByteArray), (⟨#[103, 101, 97, 114]⟩ : ByteArray), (⟨#[119, 105, 110, 103]⟩ : ByteArray), (⟨#[108, 97, 109, 112]⟩ : ByteArray), (⟨#[115, 101, 97, 116]⟩ : ByteArray)] (by decide) (by decide)
  obtain ⟨b, i3, h3, e3, b0, b1, c3⟩ := draw_below h2 12 c2 (by omega) (by omega)
  obtain ⟨c, i4, h4, e4, d0, d1, c4⟩ := draw_below h3 15 c3 (by omega) (by omega)
  obtain ⟨o, i5, h5, e5, c5⟩ := draw_once h4 3 c4 (by omega) (by omega)
  have sv : v.size ≤ 100 := by
    simp only [List.mem_cons, List.not_mem_nil, or_false] at hv
    rcases hv with rfl | rfl | rfl | rfl | rfl | rfl <;> decide
  simp only [spec_l19DrawDeed.f, e1, e2, e3, e4, e5, Option.bind_some]
  cases o with
  | true => simp only [if_true]; exact drawdeed_jn h5 c5 _ _ sv _ _
  | false => simp only [Bool.false_eq_true, if_false]; exact drawdeed_jn h5 c5 _ _ sv _ _
theorem drawdeeds_ln {l : List Int} (ts : List Tk) (cs : List Cr) (ds : List Df) (p q r : Int) (n : Nat) : ∀ (i h : Int) (xs : List S42), Cur l i → xs.length + n ≤ 100 → (∀ x ∈ xs, x.f1.size ≤ 100) → ∃ xs', Ev (fun k => spec_DrawFleet.l0 k xs (n : Int) l i h ts cs ds p q r) (ts, cs, ds, p, q, r, xs') ∧ xs'.length ≤ 100 ∧ ∀ x ∈ xs', x.f1.size ≤ 100 := by
  induction n with
  | zero =>
    intro i h xs hc hn hx
    refine ⟨xs, ev_succ ?_, by omega, hx⟩
    simp only [spec_DrawFleet.l0, if_neg (show ¬ (((0 : Nat) : Int) > 0) by omega)]
    exact ev_now _
  | succ n ih =>
    intro i h xs hc hn hx
    obtain ⟨x, i1, h1, e1, s1, c1⟩ := drawdeed_evn h hc
    have w3 : wrap64 (((n + 1 : Nat) : Int) - 1) = (n : Int) := by rw [w64 (by omega) (by omega)]; omega
    obtain ⟨xs', e, l', s'⟩ := ih i1 h1 (xs ++ [⟨x.1, x.2.1, x.2.2.1, x.2.2.2⟩]) c1 (by simp; omega) (fun y hy => by
      rcases List.mem_append.1 hy with hy | hy
      · exact hx y hy
      · obtain rfl := List.mem_singleton.1 hy; exact s1)
    refine ⟨xs', ev_succ ?_, l', s'⟩
    simp only [spec_DrawFleet.l0, if_pos (show ((n + 1 : Nat) : Int) > 0 by omega)]
    refine e1.bind ?_
    simp only [if_pos (show xs.length < 3518437208883 by omega), w3]
    exact e
theorem drawfleet_evn (l : List Int) (hl : l.length ≤ 1048576) : ∃ ts cs ds p q r xs, Ev (fun k => spec_DrawFleet.f k l) (ts, cs, ds, p, q, r, xs) ∧ TsOk ts tN ∧ CsOk cs cN ∧ (∃ m', DsOk r ds m') ∧ ds.length ≤ 3 ∧ (50 ≤ p ∧ p ≤ 149) ∧ (50 ≤ q ∧ q ≤ 149) ∧ (50 ≤ r ∧ r ≤ 149) ∧ xs.length ≤ 100 ∧ ∀ x ∈ xs, x.f1.size ≤ 100 := by
  obtain ⟨h0, e0⟩ := draw_new l hl
  obtain ⟨ts, cs, ds, p, q, r, i1, h1, e1, o1, o2, o3, o4, o5, o6, o7, c1⟩ := draw19_ev h0 (⟨hl, by omega, by omega⟩ : Cur l 0)
  obtain ⟨a, i2, h2, e2, a0, a1, c2⟩ := draw_below h1 25 c1 (by omega) (by omega)
  obtain ⟨xs, e3, l3, s3⟩ := drawdeeds_ln ts cs ds p q r a.toNat i2 h2 [] c2 (by simp; omega) (by simp)
  rw [show ((a.toNat : Nat) : Int) = a by omega] at e3
  refine ⟨ts, cs, ds, p, q, r, xs, ?_, o1, o2, o3, o4, o5, o6, o7, l3, s3⟩
  simp only [spec_DrawFleet.f]
  refine e0.bind ?_
  refine e1.bind ?_
  simp only [e2, Option.bind_some]
  exact e3
/-! A drawn fleet is in order. -/
theorem names_ok : ∀ n ∈ cN ++ tN, nameB n = true ∧ n.size ≤ 20 := by
  intro n hn
  simp only [List.mem_append, List.mem_cons, List.not_mem_nil, or_false] at hn
  rcases hn with (rfl | rfl | rfl | rfl) | rfl | rfl | rfl | rfl <;> exact ⟨by decide, by decide⟩
theorem dN_in {n : ByteArray} (h : n ∈ dN) : n ∈ cN := by
  simp only [List.mem_cons, List.not_mem_nil, or_false] at h ⊢
  rcases h with h | h | h | h | h <;> simp [h]
theorem pw_c : cN.Pairwise (fun a b => Op.bytesLess a.toList b.toList = true) := by simp [ByteArray.toList_eq]; decide
theorem pw_t : tN.Pairwise (fun a b => Op.bytesLess a.toList b.toList = true) := by simp [ByteArray.toList_eq]; decide
theorem ne_t : tN.Pairwise (fun a b => a.toList ≠ b.toList) := by simp [ByteArray.toList_eq]
theorem carryFrom_of {xs : List Cr} (h : ∀ i : Nat, i < xs.length → carryAt xs (i : Int) = true) (hl : xs.length ≤ 20) (d : Nat) : ∀ i, i + d = xs.length → carryFrom xs d i = true := by
  induction d with
  | zero => intro i _; simp only [carryFrom, decide_eq_true_eq]; omega
  | succ d ih => intro i hi; simp only [carryFrom, h i (by omega), ih (i + 1) (by omega), Bool.and_self]
theorem tasksFrom_of {β : Int → Int → Int → Bool} {xs : List Tk} (h : ∀ i : Nat, i < xs.length → taskAt β xs (i : Int) = true) (d : Nat) : ∀ i, i + d = xs.length → tasksFrom β xs d i = true := by
  induction d with
  | zero => intro i _; rfl
  | succ d ih => intro i hi; simp only [tasksFrom, h i (by omega), ih (i + 1) (by omega), Bool.and_self]
theorem defectsFrom_of {r : Int} {xs : List Df} (h : ∀ i : Nat, i < xs.length → defectAt r xs (i : Int) = true) (d : Nat) : ∀ i, i + d = xs.length → defectsFrom r xs d i = true := by
  induction d with
  | zero => intro i _; rfl
  | succ d ih => intro i hi; simp only [defectsFrom, h i (by omega), ih (i + 1) (by omega), Bool.and_self]
theorem in_of {a b c : Int} (h : b ≤ a ∧ a ≤ c) : inB a b c = true := inB_iff.2 h
theorem pred_ {i : Nat} (h : ¬ ¬ (i : Int) > 0) : ((i : Int) - 1) = ((i - 1 : Nat) : Int) := by omega
theorem carryB_of {cs : List Cr} (h : CsOk cs cN) : carryB cs = true := by
  have hl : cs.length ≤ 4 := by have := h.sub.length_le; simpa using this
  have hp := List.pairwise_map.1 (pw_c.sublist h.sub)
  refine carryFrom_of (fun i hi => ?_) (by omega) cs.length 0 (by omega)
  have hm : cs[i] ∈ cs := List.getElem_mem hi
  have hb := h.b _ hm
  have hn := (names_ok cs[i].f0 (List.mem_append_left _ (h.sub.subset (List.mem_map_of_mem hm)))).1
  simp only [carryAt, rd_at84 hi, hn, in_of (a := cs[i].f1) (b := 0) (c := 10) (by omega), in_of (a := cs[i].f2) (b := 0) (c := 120) (by omega), Bool.true_and]
  by_cases c : ¬ (i : Int) > 0
  · rw [decide_eq_true c, Bool.true_or]
  · have hi' : i - 1 < cs.length := by omega
    rw [pred_ c, rd_at84 hi', List.pairwise_iff_getElem.1 hp (i - 1) i hi' hi (by omega), Bool.or_true]
theorem fleet_of {ts : List Tk} {cs : List Cr} {ds : List Df} {p q r m : Int} (ht : TsOk ts tN) (hc : CsOk cs cN) (hd : DsOk r ds m) (hl : ds.length ≤ 3) (hp : 50 ≤ p ∧ p ≤ 149) (hq : 50 ≤ q ∧ q ≤ 149) (hr : 50 ≤ r ∧ r ≤ 149) : fleetB ts cs ds p q r = true ∧ fleetSzB ts cs ds = true := by
  have ht4 : ts.length ≤ 4 := by have := ht.sub.length_le; simpa using this
  have hc4 : cs.length ≤ 4 := by have := hc.sub.length_le; simpa using this
  have nt : ∀ t ∈ ts, nameB t.f0 = true ∧ t.f0.size ≤ 20 := fun t h => names_ok _ (List.mem_append_right _ (ht.sub.subset (List.mem_map_of_mem h)))
  have nc : ∀ t ∈ cs, nameB t.f0 = true ∧ t.f0.size ≤ 20 := fun t h => names_ok _ (List.mem_append_left _ (hc.sub.subset (List.mem_map_of_mem h)))
  have nd : ∀ t ∈ ds, nameB t.f0 = true ∧ t.f0.size ≤ 20 := fun t h => names_ok _ (List.mem_append_left _ (dN_in (hd.b t h).1))
  have htp := List.pairwise_map.1 (pw_t.sublist ht.sub)
  constructor
  · have e1 : clockB p q r = true := by unfold clockB; rw [in_of (by omega), in_of (by omega), in_of (by omega)]; rfl
    have e2 : tasksFrom (fun a b c => behindB a b c p q r) ts ts.length 0 = true := by
      refine tasksFrom_of (fun i hi => ?_) ts.length 0 (by omega)
      have hm : ts[i] ∈ ts := List.getElem_mem hi
      obtain ⟨b1, b2, b3, b4, b5, b6, b7⟩ := ht.b _ hm
      have k1 : taskB ts[i].f0 ts[i].f1 ts[i].f2 ts[i].f3 ts[i].f4.f0 ts[i].f4.f1 ts[i].f4.f2 = true := by
        unfold taskB clockB
        rw [(nt _ hm).1, in_of (a := ts[i].f1) (by omega), in_of (a := ts[i].f2) (by omega), in_of (a := ts[i].f3) (by omega), decide_eq_true b4, in_of (a := ts[i].f4.f0) (by omega), in_of (a := ts[i].f4.f1) (by omega), in_of (a := ts[i].f4.f2) (by omega)]
        rfl
      have k2 : behindB ts[i].f4.f0 ts[i].f4.f1 ts[i].f4.f2 p q r = true := by
        unfold behindB
        rw [decide_eq_true (show ts[i].f4.f0 ≤ p by omega), decide_eq_true (show ts[i].f4.f1 ≤ q by omega), decide_eq_true (show ts[i].f4.f2 ≤ r by omega)]
        rfl
      simp only [taskAt, rd_at44 hi, k1, k2, Bool.true_and]
      by_cases c : ¬ (i : Int) > 0
      · rw [decide_eq_true c, Bool.true_or]
      · have hi' : i - 1 < ts.length := by omega
        rw [pred_ c, rd_at44 hi', List.pairwise_iff_getElem.1 htp (i - 1) i hi' hi (by omega), Bool.or_true]
    have e3 : defectsFrom r ds ds.length 0 = true := by
      refine defectsFrom_of (fun i hi => ?_) ds.length 0 (by omega)
      have hm : ds[i] ∈ ds := List.getElem_mem hi
      have hb := hd.b _ hm
      have h0 := hd.m0
      simp only [defectAt, rd_at57 hi, (nd _ hm).1, in_of (a := ds[i].f1) (b := 1) (c := 1000000) (by omega), in_of (a := ds[i].f2) (b := 0) (c := r) (by omega), Bool.true_and, Bool.and_true]
      by_cases c : ¬ (i : Int) > 0
      · rw [decide_eq_true c, Bool.true_or]
      · have hi' : i - 1 < ds.length := by omega
        rw [pred_ c, rd_at57 hi', decide_eq_true (List.pairwise_iff_getElem.1 hd.s (i - 1) i hi' hi (by omega)), Bool.or_true]
    unfold fleetB
    rw [e1, carryB_of hc, decide_eq_true (show (ts.length : Int) ≤ 40 by omega), decide_eq_true (show (ds.length : Int) ≤ 20 by omega), e2, e3]
    rfl
  · exact fleetSz_of.2 ⟨fun x h => by have := (nt x h).2; omega, fun x h => by have := (nc x h).2; omega, fun x h => by have := (nd x h).2; omega, by omega, by omega, by omega⟩
/-! Runs of deeds. -/
abbrev Dd := S42
theorem rd_atD {l : List Dd} {i : Nat} (h : i < l.length) : rd_T42 l (i : Int) = l[i] := by simp [rd_T42, List.getD_eq_getElem?_getD, h]
def Good (ts : List Tk) (cs : List Cr) (ds : List Df) : Prop := fleetSzB ts cs ds = true ∧ fleetCopyB ts cs ds = true
theorem copy_iff {ts : List Tk} {cs : List Cr} {ds : List Df} : fleetCopyB ts cs ds = true ↔ ts.length < 2199023255552 ∧ cs.length < 4398046511104 ∧ ds.length < 4398046511104 := by
  unfold fleetCopyB; simp only [Bool.and_eq_true, decide_eq_true_eq]
theorem mem_set_of {α : Type} {l : List α} {k : Nat} {a x : α} (h : x ∈ l.set k a) : x = a ∨ x ∈ l := by
  rcases List.mem_or_eq_of_mem_set h with h | h
  · exact .inr h
  · exact .inl h
theorem doF_shape {ts : List Tk} {cs : List Cr} {ds : List Df} {p q r d0 : Int} {d1 : ByteArray} {d2 d3 : Int} {ts' : List Tk} {ds' : List Df} {p' q' r' : Int} (h : doF ts cs ds p q r d0 d1 d2 d3 = some (ts', ds', p', q', r')) :
    (ts' = ts ∨ (ts' = workT ts d1 p q r ∧ cutAt (cmpT d1) ts < ts.length)) ∧ (ds' = ds ∨ (∃ k, ds' = ds.take k ++ ⟨d1, d2, r⟩ :: ds.drop k ∧ ds.length < 20) ∨ ∃ k, ds' = ds.eraseIdx k) := by
  unfold doF at h
  by_cases e1 : d0 = 1
  · rw [if_pos e1] at h
    split at h
    · simp only [Option.some.injEq, Prod.mk.injEq] at h
      exact ⟨.inl h.1.symm, .inl h.2.1.symm⟩
    · cases h
  rw [if_neg e1] at h
  by_cases e2 : d0 = 2
  · rw [if_pos e2] at h
    split at h
    · rename_i hb
      simp only [Option.some.injEq, Prod.mk.injEq] at h
      obtain ⟨hm, _⟩ := bsHit_at hb
      exact ⟨.inr ⟨h.1.symm, hm⟩, .inl h.2.1.symm⟩
    · cases h
  rw [if_neg e2] at h
  by_cases e3 : d0 = 3
  · rw [if_pos e3] at h
    split at h
    · rename_i hb
      simp only [Option.some.injEq, Prod.mk.injEq] at h
      simp only [Bool.and_eq_true, decide_eq_true_eq] at hb
      exact ⟨.inl h.1.symm, .inr (.inl ⟨_, h.2.1.symm, hb.2.2.2⟩)⟩
    · cases h
  rw [if_neg e3] at h
  by_cases e4 : d0 = 4
  · rw [if_pos e4] at h
    split at h
    · simp only [Option.some.injEq, Prod.mk.injEq] at h
      exact ⟨.inl h.1.symm, .inr (.inr ⟨_, h.2.1.symm⟩)⟩
    · cases h
  rw [if_neg e4] at h
  split at h
  · split at h
    · simp only [Option.some.injEq, Prod.mk.injEq] at h
      exact ⟨.inl h.1.symm, .inl h.2.1.symm⟩
    · cases h
  · cases h
theorem doF_good {ts : List Tk} {cs : List Cr} {ds : List Df} {p q r d0 : Int} {d1 : ByteArray} {d2 d3 : Int} {ts' : List Tk} {ds' : List Df} {p' q' r' : Int} (hg : Good ts cs ds) (hs : d1.size ≤ 140737488355328) (h : doF ts cs ds p q r d0 d1 d2 d3 = some (ts', ds', p', q', r')) : Good ts' cs ds' := by
  obtain ⟨h1, h2⟩ := doF_shape h
  have z := fleetSz_of.1 hg.1
  have y := copy_iff.1 hg.2
  have T : (∀ x ∈ ts', x.f0.size ≤ 140737488355328) ∧ ts'.length = ts.length := by
    rcases h1 with rfl | ⟨rfl, hm⟩
    · exact ⟨z.t, rfl⟩
    · refine ⟨fun x hx => ?_, by unfold workT; rw [List.length_set]⟩
      rcases mem_set_of hx with rfl | hx
      · show (rd_T44 ts _).f0.size ≤ _
        rw [rd_at44 hm]
        exact z.t _ (List.getElem_mem hm)
      · exact z.t x hx
  have D : (∀ x ∈ ds', x.f0.size ≤ 140737488355328) ∧ ds'.length ≤ max ds.length 20 := by
    rcases h2 with rfl | ⟨k, rfl, hk⟩ | ⟨k, rfl⟩
    · exact ⟨z.d, Nat.le_max_left _ _⟩
    · refine ⟨fun x hx => ?_, ?_⟩
      · rcases List.mem_append.1 hx with hx | hx
        · exact z.d x (List.mem_of_mem_take hx)
        · rcases List.mem_cons.1 hx with rfl | hx
          · exact hs
          · exact z.d x (List.mem_of_mem_drop hx)
      · simp only [List.length_append, List.length_take, List.length_cons, List.length_drop]; omega
    · refine ⟨fun x hx => z.d x (List.mem_of_mem_eraseIdx hx), ?_⟩
      have := List.length_eraseIdx_le ds k
      omega
  exact ⟨fleetSz_of.2 ⟨T.1, z.c, D.1, by rw [T.2]; exact z.tn, z.cn, by have := z.dn; omega⟩, copy_iff.2 ⟨by omega, y.2.1, by omega⟩⟩
theorem workF_good {ts : List Tk} {cs : List Cr} {ds : List Df} {p q r d0 : Int} {d1 : ByteArray} {d2 d3 : Int} (hg : Good ts cs ds) (hs : d1.size ≤ 140737488355328) : (workF ts cs ds p q r d0 d1 d2 d3).2.1 = cs ∧ Good (workF ts cs ds p q r d0 d1 d2 d3).1 cs (workF ts cs ds p q r d0 d1 d2 d3).2.2.1 := by
  by_cases h : (workF ts cs ds p q r d0 d1 d2 d3).2.2.2.2.2.2 = true
  · obtain ⟨_, ts', ds', p', q', r', hD, _, hW⟩ := workF_true h
    rw [hW]
    exact ⟨rfl, doF_good hg hs hD⟩
  · rw [(workF_false h).1]
    exact ⟨rfl, hg⟩
def runF : List Dd → List Tk → List Cr → List Df → Int → Int → Int → List Bool → List Tk × List Cr × List Df × Int × Int × Int × List Bool
  | [], ts, cs, ds, p, q, r, told => (ts, cs, ds, p, q, r, told)
  | d :: l, ts, cs, ds, p, q, r, told => runF l (workF ts cs ds p q r d.f0 d.f1 d.f2 d.f3).1 (workF ts cs ds p q r d.f0 d.f1 d.f2 d.f3).2.1 (workF ts cs ds p q r d.f0 d.f1 d.f2 d.f3).2.2.1 (workF ts cs ds p q r d.f0 d.f1 d.f2 d.f3).2.2.2.1 (workF ts cs ds p q r d.f0 d.f1 d.f2 d.f3).2.2.2.2.1 (workF ts cs ds p q r d.f0 d.f1 d.f2 d.f3).2.2.2.2.2.1 (told ++ [(workF ts cs ds p q r d.f0 d.f1 d.f2 d.f3).2.2.2.2.2.2])
def runW (ts : List Tk) (cs : List Cr) (ds : List Df) (p q r : Int) (l : List Dd) : List Tk × List Cr × List Df × Int × Int × Int × List Bool := if (l.length : Int) > 100 then (ts, cs, ds, p, q, r, []) else runF l ts cs ds p q r []
theorem runF_told : ∀ (l : List Dd) (ts : List Tk) (cs : List Cr) (ds : List Df) (p q r : Int) (told : List Bool), (runF l ts cs ds p q r told).2.2.2.2.2.2.length = told.length + l.length
  | [], _, _, _, _, _, _, _ => rfl
  | d :: l, ts, cs, ds, p, q, r, told => by unfold runF; rw [runF_told l, List.length_append]; simp; omega
theorem impl_RunWork_l (list : List Dd) (hl : list.length ≤ 100) (hs : ∀ x ∈ list, x.f1.size ≤ 140737488355328) (d : Nat) : ∀ (i : Nat) (told : List Bool) (ts : List Tk) (cs : List Cr) (ds : List Df) (p q r : Int), i + d = list.length → told.length = i → Good ts cs ds → Ev (fun k => impl_RunWork.l0 k told list (list.length : Int) (i : Int) ts cs ds p q r) (runF (list.drop i) ts cs ds p q r told) := by
  induction d with
  | zero =>
    intro i told ts cs ds p q r h ht hg
    refine ev_succ ?_
    simp only [impl_RunWork.l0, if_neg (show ¬ ((i : Int) < (list.length : Int)) by omega)]
    rw [List.drop_eq_nil_of_le (by omega)]
    exact ev_now _
  | succ d ih =>
    intro i told ts cs ds p q r h ht hg
    have hlt : i < list.length := by omega
    have hz : (fleetSzB ts cs ds && (fleetCopyB ts cs ds && decide ((list[i]).f1.size ≤ 140737488355328))) = true := by
      rw [hg.1, hg.2, decide_eq_true (hs _ (List.getElem_mem hlt))]; rfl
    obtain ⟨hc, hG⟩ := workF_good (p := p) (q := q) (r := r) (d0 := (list[i]).f0) (d2 := (list[i]).f2) (d3 := (list[i]).f3) hg (hs _ (List.getElem_mem hlt))
    refine ev_succ ?_
    simp only [impl_RunWork.l0, if_pos (show ((i : Int) < (list.length : Int)) by omega), if_pos (show (0 : Int) ≤ (i : Int) by omega), rd_atD hlt, impl_DoWork.f, if_pos hz, Option.bind_some, if_pos (show told.length < 140737488355328 by omega), w64s i (by omega)]
    rw [List.drop_eq_getElem_cons hlt]
    unfold runF
    exact ih (i + 1) _ _ _ _ _ _ _ (by omega) (by rw [List.length_append, ht]; rfl) (hc.symm ▸ hG)
theorem impl_RunWork_ev (list : List Dd) (hs : ∀ x ∈ list, x.f1.size ≤ 140737488355328) (ts : List Tk) (cs : List Cr) (ds : List Df) (p q r : Int) (hg : Good ts cs ds) : Ev (fun k => impl_RunWork.f k ts cs ds p q r list) (runW ts cs ds p q r list) := by
  unfold runW
  by_cases h : (list.length : Int) > 100
  · simp only [impl_RunWork.f, clone_is ts cs ds p q r hg.2, Option.bind_some, if_pos h]
    exact ev_now _
  · simp only [impl_RunWork.f, clone_is ts cs ds p q r hg.2, Option.bind_some, if_neg h]
    exact impl_RunWork_l list (by omega) hs list.length 0 [] ts cs ds p q r (by omega) rfl hg
/-! Sums before and behind. -/
def rowS (r : List Int) : Nat → Nat → Int → Int
  | 0, _, s => s
  | d + 1, j, s => rowS r d (j + 1) (wrap64 (wrap64 (s * 31) + rd r (j : Int)))
def rowsS (rows : List (List Int)) : Nat → Nat → Int → Int
  | 0, _, s => s
  | d + 1, i, s => rowsS rows d (i + 1) (rowS (rd_L13 rows (i : Int)) (rd_L13 rows (i : Int)).length 0 s)
def itemS (ds : List Df) : Nat → Nat → Int → Int
  | 0, _, s => s
  | d + 1, i, s => itemS ds d (i + 1) (wrap64 (wrap64 (s * 31) + (rd_T57 ds (i : Int)).f1))
section
variable (l : List Int) (rows : List (List Int)) (hn : rows.length ≤ 1000) (hx : ∀ r ∈ rows, r.length ≤ 1000) (V : Bool)
include hn hx
theorem kept_l1 (i : Nat) (hi : i < rows.length) (d : Nat) : ∀ (j : Nat) (s : Int), j + d = (rd_L13 rows (i : Int)).length → Ev (fun k => laws_FnKept.l0 k l rows (rowS (rd_L13 rows (i : Int)) d j s) ((i + 1 : Nat) : Int)) V → Ev (fun k => laws_FnKept.l1 k l rows s (i : Int) (j : Int)) V := by
  have hr : (rd_L13 rows (i : Int)).length ≤ 1000 := by rw [rdIntSS hi]; exact hx _ (List.getElem_mem hi)
  induction d with
  | zero =>
    intro j s h he
    refine ev_succ ?_
    simp only [laws_FnKept.l1, if_pos (show (0 : Int) ≤ (i : Int) by omega), if_pos (show (i : Int) < (rows.length : Int) by omega), if_neg (show ¬ ((j : Int) < ((rd_L13 rows (i : Int)).length : Int)) by omega), w64s i (by omega)]
    exact he
  | succ d ih =>
    intro j s h he
    refine ev_succ ?_
    simp only [laws_FnKept.l1, if_pos (show (0 : Int) ≤ (i : Int) by omega), if_pos (show (i : Int) < (rows.length : Int) by omega), if_pos (show ((j : Int) < ((rd_L13 rows (i : Int)).length : Int)) by omega), if_pos (show (0 : Int) ≤ (j : Int) by omega), w64s j (by omega)]
    exact ih (j + 1) _ (by omega) he
theorem kept_l0 (d : Nat) : ∀ (i : Nat) (s : Int), i + d = rows.length → Ev (fun k => laws_FnKept.l0 k l rows (rowsS rows d i s) (rows.length : Int)) V → Ev (fun k => laws_FnKept.l0 k l rows s (i : Int)) V := by
  induction d with
  | zero => intro i s h he; rw [show i = rows.length by omega]; exact he
  | succ d ih =>
    intro i s h he
    refine ev_succ ?_
    simp only [laws_FnKept.l0, if_pos (show (i : Int) < (rows.length : Int) by omega)]
    exact kept_l1 l rows hn hx V i (by omega) _ 0 s (by omega) (ih (i + 1) _ (by omega) he)
end
section
variable (rows : List (List Int)) (hn : rows.length ≤ 1000) (hx : ∀ r ∈ rows, r.length ≤ 1000) (V : Bool) (S : Int) (b : List Int) (ok : Bool) (xs : List Dd) (I : Int) (told : List Bool) (ts : List Tk) (cs : List Cr) (ds : List Df) (p q r : Int)
include hn hx
theorem kept_l4 (y : Int) (i : Nat) (hi : i < rows.length) (d : Nat) : ∀ (j : Nat) (s : Int), j + d = (rd_L13 rows (i : Int)).length → Ev (fun k => laws_FnKept.l3 k rows S b ok xs I told (rowS (rd_L13 rows (i : Int)) d j s) y ((i + 1 : Nat) : Int) ts cs ds p q r) V → Ev (fun k => laws_FnKept.l4 k rows S b ok xs I told s y (i : Int) (j : Int) ts cs ds p q r) V := by
  have hr : (rd_L13 rows (i : Int)).length ≤ 1000 := by rw [rdIntSS hi]; exact hx _ (List.getElem_mem hi)
  induction d with
  | zero =>
    intro j s h he
    refine ev_succ ?_
    simp only [laws_FnKept.l4, if_pos (show (0 : Int) ≤ (i : Int) by omega), if_pos (show (i : Int) < (rows.length : Int) by omega), if_neg (show ¬ ((j : Int) < ((rd_L13 rows (i : Int)).length : Int)) by omega), w64s i (by omega)]
    exact he
  | succ d ih =>
    intro j s h he
    refine ev_succ ?_
    simp only [laws_FnKept.l4, if_pos (show (0 : Int) ≤ (i : Int) by omega), if_pos (show (i : Int) < (rows.length : Int) by omega), if_pos (show ((j : Int) < ((rd_L13 rows (i : Int)).length : Int)) by omega), if_pos (show (0 : Int) ≤ (j : Int) by omega), w64s j (by omega)]
    exact ih (j + 1) _ (by omega) he
theorem kept_l3 (y : Int) (d : Nat) : ∀ (i : Nat) (s : Int), i + d = rows.length → Ev (fun k => laws_FnKept.l5 k S b ok xs I told (rowsS rows d i s) y 0 ts cs ds p q r) V → Ev (fun k => laws_FnKept.l3 k rows S b ok xs I told s y (i : Int) ts cs ds p q r) V := by
  induction d with
  | zero =>
    intro i s h he
    refine ev_succ ?_
    simp only [laws_FnKept.l3, if_neg (show ¬ ((i : Int) < (rows.length : Int)) by omega)]
    exact he
  | succ d ih =>
    intro i s h he
    refine ev_succ ?_
    simp only [laws_FnKept.l3, if_pos (show (i : Int) < (rows.length : Int) by omega)]
    exact kept_l4 rows hn hx V S b ok xs I told ts cs ds p q r y i (by omega) _ 0 s (by omega) (ih (i + 1) _ (by omega) he)
omit hn hx in
theorem kept_l5 (hd : ds.length ≤ 1000) (R : Int) (hS : S = R) (hk : ok = true) (hb : (b.length : Int) > 1) (ht : told.length = xs.length) (d : Nat) : ∀ (i : Nat) (s : Int), i + d = ds.length → itemS ds d i s = I → Ev (fun k => laws_FnKept.l5 k S b ok xs I told R s (i : Int) ts cs ds p q r) true := by
  induction d with
  | zero =>
    intro i s h he
    refine ev_succ ?_
    simp only [laws_FnKept.l5, if_neg (show ¬ ((i : Int) < (ds.length : Int)) by omega), if_pos hk, if_pos hb, if_pos hS, if_pos (show I = s from he.symm), ht, beq_self_eq_true]
    exact ev_now _
  | succ d ih =>
    intro i s h he
    refine ev_succ ?_
    simp only [laws_FnKept.l5, if_pos (show (i : Int) < (ds.length : Int) by omega), if_pos (show (0 : Int) ≤ (i : Int) by omega), w64s i (by omega)]
    exact ih (i + 1) _ (by omega) he
omit hn hx in
theorem kept_l2 (hd : ds.length ≤ 1000) (d : Nat) : ∀ (i : Nat) (s : Int), i + d = ds.length → Ev (fun k => laws_FnKept.l2 k rows S b ok xs (itemS ds d i s) (ds.length : Int) ts cs ds p q r) V → Ev (fun k => laws_FnKept.l2 k rows S b ok xs s (i : Int) ts cs ds p q r) V := by
  induction d with
  | zero => intro i s h he; rw [show i = ds.length by omega]; exact he
  | succ d ih =>
    intro i s h he
    refine ev_succ ?_
    simp only [laws_FnKept.l2, if_pos (show (i : Int) < (ds.length : Int) by omega), if_pos (show (0 : Int) ≤ (i : Int) by omega), w64s i (by omega)]
    exact ih (i + 1) _ (by omega) he
end
theorem FnKept (l0 : List (Int)) (g0 : (l0.length * 1 ≤ 140737488351232 ∧ ∀ x ∈ l0, (Lit.int .u8 x).wf = true)) : ∃ k, laws_FnKept.f k l0 = some true := by
  by_cases hl : (l0.length : Int) > 1048576
  · exact ⟨0, by simp only [laws_FnKept.f, laws_big.f, Option.bind_some, if_pos (decide_eq_true hl)]⟩
  · refine Ev.rounds ?_
    simp only [laws_FnKept.f, laws_big.f, Option.bind_some, decide_eq_false hl, Bool.false_eq_true, if_false]
    obtain ⟨rows, e1, hr, hp⟩ := drawrecord_ev l0 (by omega)
    obtain ⟨ts, cs, ds, p, q, r, xs, e0, o1, o2, ⟨m, o3⟩, o4, o5, o6, o7, o8, o9⟩ := drawfleet_evn l0 (by omega)
    obtain ⟨hF, hz⟩ := fleet_of o1 o2 o3 o4 o5 o6 o7
    have ht4 : ts.length ≤ 4 := by have := o1.sub.length_le; simpa using this
    have hc4 : cs.length ≤ 4 := by have := o2.sub.length_le; simpa using this
    have hg : Good ts cs ds := ⟨hz, copy_iff.2 ⟨by omega, by omega, by omega⟩⟩
    have hrr := recordB_in hr
    have hn : rows.length ≤ 1000 := by have := hrr.1; omega
    have hx : ∀ r ∈ rows, r.length ≤ 1000 := fun r h => by have := (hrr.2 r h).2.1.2; omega
    have hP : pack20 rows = (packBytes rows, true) := by unfold pack20; rw [if_pos hr, if_neg (by omega)]
    have h2 : ((packBytes rows).length : Int) > 1 := by unfold packBytes; simp; omega
    refine e1.bind ?_
    refine kept_l0 l0 rows hn hx true rows.length 0 0 (by omega) ?_
    refine ev_succ ?_
    simp only [laws_FnKept.l0, if_neg (show ¬ ((rows.length : Int) < (rows.length : Int)) by omega)]
    refine (impl_Pack20_ev rows (by omega) (fun x h => by have := hx x h; omega)).bind ?_
    rw [hP]
    refine e0.bind ?_
    refine kept_l2 rows true _ _ _ xs ts cs ds p q r (by omega) ds.length 0 0 (by omega) ?_
    refine ev_succ ?_
    simp only [laws_FnKept.l2, if_neg (show ¬ ((ds.length : Int) < (ds.length : Int)) by omega)]
    refine (impl_RunWork_ev xs (fun x h => by have := o9 x h; omega) ts cs ds p q r hg).bind ?_
    refine kept_l3 rows hn hx true _ _ _ xs _ _ ts cs ds p q r 0 rows.length 0 0 (by omega) ?_
    refine kept_l5 _ _ _ xs _ _ ts cs ds p q r (by omega) _ rfl rfl h2 ?_ ds.length 0 0 (by omega) rfl
    unfold runW
    rw [if_neg (by omega), runF_told]
    simp
end Go.Proofs.Ytdimdlifjdbgnaa.Pure
