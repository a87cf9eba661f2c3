/- The program's NextDue answers as the reference's at every argument. No condition. -/
import Derived.Test.YtbgdibbgngpggaaPFnExactNextDuex16
import Derived.Test.YtbgdibbgngpggaaBase
set_option linter.unusedVariables false
set_option linter.unusedSimpArgs false
namespace Go.Proofs.Ytbgdibbgngpggaa.Pure
open Go.RowKit Go.Proofs.Ytbgdibbgngpggaa.PFnExactNextDue Go.Proofs.Ytbgdibbgngpggaa.Base Go.Proofs.YtbgdibbgngpggaaW.PrintWords Go.Proofs.YtbgdibbgngpggaaW.PrintLast
theorem impl_in_eq (a b c : Int) : impl_in.f a b c = some (inB a b c) := in_form a b c
theorem spec_in_eq (a b c : Int) : spec_l1In.f a b c = some (inB a b c) := in_form a b c
theorem impl_allIn_l (b c : Int) (xs : List Int) (hn : xs.length < 4611686018427387904) (d : Nat) : ∀ i : Nat, i + d = xs.length →
    Ev (fun k => impl_allIn.l0 k b c xs (xs.length : Int) (i : Int)) (allB (xs.drop i) b c) := by
  induction d with
  | zero =>
    intro i h
    refine ev_succ ?_
    simp only [impl_allIn.l0, if_neg (show ¬ ((i : Int) < (xs.length : Int)) by omega)]
    rw [List.drop_of_length_le (by omega)]
    exact ev_now _
  | succ d ih =>
    intro i h
    refine ev_succ ?_
    simp only [impl_allIn.l0, if_pos (show ((i : Int) < (xs.length : Int)) by omega), if_pos (show (0 : Int) ≤ (i : Int) by omega), impl_in_eq, Option.bind_some, w64s i (by omega)]
    rw [drop_rd (show i < xs.length by omega)]
    cases hb : inB (rd xs (i : Int)) b c with
    | true => simpa [allB, hb] using ih (i + 1) (by omega)
    | false => simpa [allB, hb] using ev_now false
theorem impl_allIn_ev (b c : Int) (xs : List Int) (hn : xs.length < 4611686018427387904) : Ev (fun k => impl_allIn.f k xs b c) (allB xs b c) := by
  simpa [impl_allIn.f] using impl_allIn_l b c xs hn xs.length 0 (by omega)
/-! Names: 1 to 20 letters, digits and dashes. -/
def Alnum (c : Int) : Prop := (97 ≤ c ∧ c ≤ 122) ∨ (65 ≤ c ∧ c ≤ 90) ∨ (48 ≤ c ∧ c ≤ 57)
instance (c : Int) : Decidable (Alnum c) := by unfold Alnum; exact inferInstance
def charB (c : Int) : Bool := decide (Alnum c) || (c == 45)
def charsB (s : ByteArray) : Nat → Nat → Bool
  | 0, _ => true
  | d + 1, i => charB (bt s (i : Int)) && charsB s d (i + 1)
def nameB (s : ByteArray) : Bool := charsB s s.size 0 && inB (s.size : Int) 1 20
theorem impl_isName_l (s : ByteArray) (hn : s.size ≤ 140737488355328) (d : Nat) : ∀ i : Nat, i + d = s.size → Ev (fun k => impl_isName.l0 k s (s.size : Int) (i : Int)) (charsB s d i && inB (s.size : Int) 1 20) := by
  induction d with
  | zero =>
    intro i h
    refine ev_succ ?_
    simp only [impl_isName.l0, if_neg (show ¬ ((i : Int) < (s.size : Int)) by omega), impl_in_eq, Option.bind_some, charsB, Bool.true_and]
    exact ev_now _
  | succ d ih =>
    intro i h
    have hi := ih (i + 1) (by omega)
    refine ev_succ ?_
    simp only [impl_isName.l0, if_pos (show ((i : Int) < (s.size : Int)) by omega), if_pos (show (0 : Int) ≤ (i : Int) by omega)]
    unfold charsB
    generalize bt s (i : Int) = c
    refine Ev.congr (f := fun k => impl_isName.j1 k s (s.size : Int) (i : Int) (!charB c)) (fun k => ?_) ?_
    · by_cases hc : Alnum c
      · rw [show charB c = true by simp [charB, hc]]
        unfold Alnum at hc
        repeat' split
        all_goals first | rfl | (exfalso; omega)
      · rw [show charB c = (c == 45) by simp [charB, hc]]
        unfold Alnum at hc
        repeat' split
        all_goals first | rfl | (exfalso; omega)
    · refine ev_succ ?_
      cases charB c with
      | true => simpa only [impl_isName.j1, Bool.not_true, Bool.false_eq_true, if_false, w64s i (show i < 9223372036854775807 by omega), Bool.true_and] using hi
      | false => simpa only [impl_isName.j1, Bool.not_false, if_true, Bool.false_and] using ev_now false
theorem impl_isName_ev (s : ByteArray) (hn : s.size ≤ 140737488355328) : Ev (fun k => impl_isName.f k s) (nameB s) := by
  simpa [impl_isName.f, nameB] using impl_isName_l s hn s.size 0 (by omega)
theorem spec_l1Name_l (s : ByteArray) (hn : s.size ≤ 140737488355328) (d : Nat) : ∀ i : Nat, i + d = s.size → Ev (fun k => spec_l1Name.l0 k s (i : Int)) (charsB s d i && inB (s.size : Int) 1 20) := by
  induction d with
  | zero =>
    intro i h
    refine ev_succ ?_
    simp only [spec_l1Name.l0, if_neg (show ¬ ((i : Int) < (s.size : Int)) by omega), spec_in_eq, Option.bind_some, charsB, Bool.true_and]
    exact ev_now _
  | succ d ih =>
    intro i h
    have hi := ih (i + 1) (by omega)
    refine ev_succ ?_
    have hb := bt_range s (i : Int)
    simp only [spec_l1Name.l0, if_pos (show ((i : Int) < (s.size : Int)) by omega), if_pos (show (0 : Int) ≤ (i : Int) by omega), spec_in_eq, Option.bind_some, w64 (show -9223372036854775808 ≤ bt s (i : Int) by omega) (show bt s (i : Int) ≤ 9223372036854775807 by omega)]
    unfold charsB
    generalize bt s (i : Int) = c
    refine Ev.congr (f := fun k => spec_l1Name.j1 k s (i : Int) (!charB c)) (fun k => ?_) ?_
    · by_cases hc : Alnum c
      · rw [show charB c = true by simp [charB, hc]]
        unfold Alnum at hc
        repeat' split
        all_goals first | rfl | (rename_i a1 a2 a3; rw [inB_iff] at a1 a2 a3; exfalso; omega)
      · rw [show charB c = (c == 45) by simp [charB, hc]]
        unfold Alnum at hc
        have n1 : inB c 97 122 = false := by rw [Bool.eq_false_iff, ne_eq, inB_iff]; omega
        have n2 : inB c 65 90 = false := by rw [Bool.eq_false_iff, ne_eq, inB_iff]; omega
        have n3 : inB c 48 57 = false := by rw [Bool.eq_false_iff, ne_eq, inB_iff]; omega
        simp only [n1, n2, n3, Bool.false_eq_true, if_false]
        rfl
    · refine ev_succ ?_
      cases charB c with
      | true => simpa only [spec_l1Name.j1, Bool.not_true, Bool.false_eq_true, if_false, w64s i (show i < 9223372036854775807 by omega), Bool.true_and] using hi
      | false => simpa only [spec_l1Name.j1, Bool.not_false, if_true, Bool.false_and] using ev_now false
theorem spec_l1Name_ev (s : ByteArray) (hn : s.size ≤ 140737488355328) : Ev (fun k => spec_l1Name.f k s) (nameB s) := by
  simpa [spec_l1Name.f, nameB] using spec_l1Name_l s hn s.size 0 (by omega)
def clockB (a b c : Int) : Bool := inB a 0 1000000 && (inB b 0 1000000 && inB c 0 1000000)
theorem clockB_in {a b c : Int} (h : clockB a b c = true) : (0 ≤ a ∧ a ≤ 1000000) ∧ (0 ≤ b ∧ b ≤ 1000000) ∧ 0 ≤ c ∧ c ≤ 1000000 := by
  simp [clockB, inB] at h
  omega
theorem impl_ClockOk_ev (a b c : Int) : Ev (fun k => impl_ClockOk.f k a b c) (clockB a b c) := by
  simp only [impl_ClockOk.f, impl_Clock_numbers.f, Option.bind_some]
  refine (impl_allIn_ev 0 1000000 [a, b, c] (by simp)).bind (f := fun _ t => some t) (ev_some ?_)
  simp [allB, clockB]
theorem spec_ClockOk_eq (a b c : Int) : spec_ClockOk.f a b c = some (clockB a b c) := by
  simp only [spec_ClockOk.f, spec_in_eq, Option.bind_some, clockB]
  cases inB a 0 1000000 <;> cases inB b 0 1000000 <;> simp
def taskB (n : ByteArray) (h c d p q r : Int) : Bool := nameB n && (inB h 0 100000 && (inB c 0 100000 && (inB d 0 100000 && (decide (h + c + d > 0) && clockB p q r))))
theorem taskB_in {n : ByteArray} {h c d p q r : Int} (k : taskB n h c d p q r = true) : nameB n = true ∧ ((0 ≤ h ∧ h ≤ 100000) ∧ (0 ≤ c ∧ c ≤ 100000) ∧ 0 ≤ d ∧ d ≤ 100000) ∧ (h + c + d > 0) ∧ clockB p q r = true := by
  simp only [taskB, Bool.and_eq_true, inB_iff, decide_eq_true_eq] at k
  exact ⟨k.1, ⟨k.2.1, k.2.2.1, k.2.2.2.1⟩, k.2.2.2.2.1, k.2.2.2.2.2⟩
theorem spec_TaskOk_ev (n : ByteArray) (hn : n.size ≤ 140737488355328) (h c d p q r : Int) : Ev (fun k => spec_TaskOk.f k n h c d p q r) (taskB n h c d p q r) := by
  simp only [spec_TaskOk.f, spec_in_eq, spec_ClockOk_eq, Option.bind_some]
  refine (spec_l1Name_ev n hn).bind ?_
  unfold taskB
  cases nameB n with
  | false => simpa using ev_now false
  | true =>
    cases h1 : inB h 0 100000 with
    | false => simpa using ev_now false
    | true =>
      cases h2 : inB c 0 100000 with
      | false => simpa using ev_now false
      | true =>
        cases h3 : inB d 0 100000 with
        | false => simpa using ev_now false
        | true =>
          rw [inB_iff] at h1 h2 h3
          simp only [if_true, Bool.true_and, w64 (show -9223372036854775808 ≤ h + c by omega) (by omega), w64 (show -9223372036854775808 ≤ h + c + d by omega) (by omega)]
          by_cases h4 : h + c + d > 0
          · simp only [if_pos h4, h4, decide_true, Bool.true_and]; exact ev_now _
          · simp only [if_neg h4, h4, decide_false, Bool.false_and]; exact ev_now _
theorem slices_Max_ev (a b c : Int) : Ev (fun k => slices_Max_int_int.f k [a, b, c]) (mx (mx a b) c) := by
  have e : (([a, b, c] : List Int).length : Int) = 3 := rfl
  simp only [slices_Max_int_int.f, e, if_neg (show ¬ ((3 : Int) < 1) by omega), if_pos (show (0 : Int) < 3 by omega)]
  refine ev_succ ?_
  simp only [slices_Max_int_int.l0, e, if_pos (show (1 : Int) < 3 by omega), if_pos (show (0 : Int) ≤ 1 by omega), w64 (n := (1 : Int) + 1) (by omega) (by omega)]
  refine ev_succ ?_
  simp only [slices_Max_int_int.l0, e, if_pos (show (1 : Int) + 1 < 3 by omega), if_pos (show (0 : Int) ≤ 1 + 1 by omega), w64 (n := (1 : Int) + 1 + 1) (by omega) (by omega)]
  refine ev_succ ?_
  simp only [slices_Max_int_int.l0, e, if_neg (show ¬ ((1 : Int) + 1 + 1 < 3) by omega)]
  exact ev_now _
theorem impl_TaskOk_ev (n : ByteArray) (hn : n.size ≤ 140737488355328) (h c d p q r : Int) : Ev (fun k => impl_TaskOk.f k n h c d p q r) (taskB n h c d p q r) := by
  simp only [impl_TaskOk.f, impl_Task_numbers.f, Option.bind_some]
  refine (impl_isName_ev n hn).bind ?_
  unfold taskB
  cases nameB n with
  | false => simpa using ev_now false
  | true =>
    simp only [if_true, Bool.true_and]
    refine (impl_allIn_ev 0 100000 [h, c, d] (by simp)).bind ?_
    have e : allB [h, c, d] 0 100000 = (inB h 0 100000 && (inB c 0 100000 && inB d 0 100000)) := by simp [allB]
    rw [e]
    cases h1 : inB h 0 100000 with
    | false => simpa using ev_now false
    | true =>
      cases h2 : inB c 0 100000 with
      | false => simpa using ev_now false
      | true =>
        cases h3 : inB d 0 100000 with
        | false => simpa using ev_now false
        | true =>
          rw [inB_iff] at h1 h2 h3
          simp only [if_true, Bool.and_self, Bool.true_and]
          refine (slices_Max_ev h c d).bind ?_
          by_cases h4 : h + c + d > 0
          · simp only [if_pos (show mx (mx h c) d > 0 by unfold mx; repeat' split <;> omega), h4, decide_true, Bool.true_and]
            exact (impl_ClockOk_ev p q r).bind (f := fun _ t => some t) (ev_now _)
          · simp only [if_neg (show ¬ mx (mx h c) d > 0 by unfold mx; repeat' split <;> omega), h4, decide_false, Bool.false_and]
            exact ev_now _
def behindB (p q r p' q' r' : Int) : Bool := decide (p ≤ p') && (decide (q ≤ q') && decide (r ≤ r'))
theorem impl_passed_ev (p q r p' q' r' : Int) : Ev (fun k => impl_passed.f k p q r p' q' r') ([wrap64 (p' - p), wrap64 (q' - q), wrap64 (r' - r)], decide (mn (mn (wrap64 (p' - p)) (wrap64 (q' - q))) (wrap64 (r' - r)) ≥ 0)) := by
  simp only [impl_passed.f, Option.bind_some]
  generalize wrap64 (p' - p) = a
  generalize wrap64 (q' - q) = b
  generalize wrap64 (r' - r) = c
  have hm : Ev (fun k => slices_Min_int_int.f k [a, b, c]) (mn (mn a b) c) := by
    have e : (([a, b, c] : List Int).length : Int) = 3 := rfl
    simp only [slices_Min_int_int.f, e, if_neg (show ¬ ((3 : Int) < 1) by omega), if_pos (show (0 : Int) < 3 by omega)]
    refine ev_succ ?_
    simp only [slices_Min_int_int.l0, e, if_pos (show (1 : Int) < 3 by omega), if_pos (show (0 : Int) ≤ 1 by omega), w64 (n := (1 : Int) + 1) (by omega) (by omega)]
    refine ev_succ ?_
    simp only [slices_Min_int_int.l0, e, if_pos (show (1 : Int) + 1 < 3 by omega), if_pos (show (0 : Int) ≤ 1 + 1 by omega), w64 (n := (1 : Int) + 1 + 1) (by omega) (by omega)]
    refine ev_succ ?_
    simp only [slices_Min_int_int.l0, e, if_neg (show ¬ ((1 : Int) + 1 + 1 < 3) by omega)]
    exact ev_now _
  exact hm.bind (f := fun _ t => some (([a, b, c] : List Int), decide (t ≥ 0))) (ev_now _)
theorem rdwTask {xs : List S29} {i : Nat} (h : i < xs.length) : rd_T29 xs (i : Int) = xs[i] := by
  simp [rd_T29, List.getD_eq_getElem?_getD, h]
def wTask (x : S29) : Nat := x.f0.size
theorem szTask_eq (x : S29) (left : Int) (h0 : 0 ≤ left) (h1 : left ≤ 1048576) (hw : wTask x ≤ 140737488355328) : laws_szTask.f x.f0 x.f1 x.f2 x.f3 x.f4.f0 x.f4.f1 x.f4.f2 left = some (if left - (wTask x : Int) < 0 then -1 else left - (wTask x : Int)) := by
  unfold wTask at hw ⊢
  unfold laws_szTask.f
  rw [w64 (by omega) (by omega)]
  split <;> rfl
theorem szTaskS_l (xs : List S29) (hn : xs.length ≤ 140737488355328) (hx : ∀ x ∈ xs, wTask x ≤ 140737488355328) (d : Nat) : ∀ (i : Nat) (left : Int), i + d = xs.length → 0 ≤ left → left ≤ 1048576 →
    ∃ v, Ev (fun k => laws_szTaskS.l0 k xs left (i : Int)) v ∧ (v < 0 ∨ (0 ≤ v ∧ v + (((xs.drop i).map wTask).sum : Nat) = left)) := by
  induction d with
  | zero =>
    intro i left h h0 h1
    refine ⟨left, ev_succ ?_, .inr ⟨h0, ?_⟩⟩
    · simp only [laws_szTaskS.l0, if_neg (show ¬ ((i : Int) < (xs.length : Int)) by omega)]
      exact ev_now _
    · rw [List.drop_of_length_le (by omega)]; simp
  | succ d ih =>
    intro i left h h0 h1
    have hlt : i < xs.length := by omega
    have hxi := hx _ (List.getElem_mem hlt)
    by_cases hs : left - (wTask (xs[i]) : Int) < 0
    · refine ⟨-1, ev_succ ?_, .inl (by omega)⟩
      simp only [laws_szTaskS.l0, if_pos (show ((i : Int) < (xs.length : Int)) by omega), if_pos (show (0 : Int) ≤ (i : Int) by omega), rdwTask hlt, szTask_eq _ left h0 h1 hxi, if_pos hs, Option.bind_some, if_pos (show (-1 : Int) < 0 by omega)]
      exact ev_now _
    · obtain ⟨v, hv, hr⟩ := ih (i + 1) (left - (wTask (xs[i]) : Int)) (by omega) (by omega) (by omega)
      refine ⟨v, ev_succ ?_, ?_⟩
      · simp only [laws_szTaskS.l0, if_pos (show ((i : Int) < (xs.length : Int)) by omega), if_pos (show (0 : Int) ≤ (i : Int) by omega), rdwTask hlt, szTask_eq _ left h0 h1 hxi, if_neg hs, Option.bind_some, w64s i (by omega)]
        exact hv
      · rcases hr with hr | ⟨hr0, hr⟩
        · exact .inl hr
        · refine .inr ⟨hr0, ?_⟩
          rw [List.drop_eq_getElem_cons hlt, List.map_cons, List.sum_cons]
          omega
theorem szTaskS_ev (xs : List S29) (left : Int) (h0 : 0 ≤ left) (h1 : left ≤ 1048576) (hn : xs.length ≤ 140737488355328) (hx : ∀ x ∈ xs, wTask x ≤ 140737488355328) :
    ∃ v, Ev (fun k => laws_szTaskS.f k xs left) v ∧ (v < 0 ∨ (0 ≤ v ∧ v + (xs.length : Int) + ((xs.map wTask).sum : Nat) = left)) := by
  simp only [laws_szTaskS.f]
  rw [w64 (by omega) (by omega)]
  by_cases hs : left - (xs.length : Int) < 0
  · simp only [if_pos hs]
    exact ⟨-1, ev_now _, .inl (by omega)⟩
  · simp only [if_neg hs]
    obtain ⟨v, hv, hr⟩ := szTaskS_l xs hn hx xs.length 0 (left - (xs.length : Int)) (by omega) (by omega) (by omega)
    refine ⟨v, hv, ?_⟩
    rcases hr with hr | ⟨hr0, hr⟩
    · exact .inl hr
    · rw [List.drop_zero] at hr
      exact .inr ⟨hr0, by omega⟩
/-! The helpers over Tasks. -/
def convTask (x : S29) : S33 := ⟨x.f0, x.f1, x.f2, x.f3, ⟨x.f4.f0, x.f4.f1, x.f4.f2⟩⟩
theorem rdlTask {xs : List S29} {i : Nat} (h : i < xs.length) : rd_T29 xs (i : Int) = xs[i] := by
  simp [rd_T29, List.getD_eq_getElem?_getD, h]
theorem rdiTask {xs : List S33} {i : Nat} (h : i < xs.length) : rd_T33 xs (i : Int) = xs[i] := by
  simp [rd_T33, List.getD_eq_getElem?_getD, h]
theorem dropTask {xs : List S33} {i : Nat} (h : i < xs.length) : xs.drop i = rd_T33 xs (i : Int) :: xs.drop (i + 1) := by
  rw [List.drop_eq_getElem_cons h, rdiTask h]
theorem toTaskS_l (xs : List S29) (hn : xs.length ≤ 4398046511104) (d : Nat) : ∀ i : Nat, i + d = xs.length →
    Ev (fun k => laws_toTaskS.l0 k xs ((xs.map convTask).take i ++ List.replicate (xs.length - i) z33) (i : Int)) (xs.map convTask) := by
  induction d with
  | zero =>
    intro i h
    refine ev_succ ?_
    simp only [laws_toTaskS.l0, if_neg (show ¬ ((i : Int) < (xs.length : Int)) by omega)]
    exact ev_some (by rw [List.take_of_length_le (by simp; omega), show xs.length - i = 0 by omega]; simp)
  | succ d ih =>
    intro i h
    refine ev_succ ?_
    have hlt : i < xs.length := by omega
    have hl : (((xs.map convTask).take i ++ List.replicate (xs.length - i) z33).length : Int) = (xs.length : Int) := by simp; omega
    have hs := take_setG (xs := xs) (c := convTask) hlt z33
    simp only [laws_toTaskS.l0, if_pos (show ((i : Int) < (xs.length : Int)) by omega), if_pos (show (0 : Int) ≤ (i : Int) by omega), hl, w64s i (by omega), Int.toNat_natCast, rdlTask hlt, laws_toTask.f, laws_toClock.f, Option.bind_some]
    rw [show ((xs.map convTask).take i ++ List.replicate (xs.length - i) z33).set i ⟨(xs[i]).f0, (xs[i]).f1, (xs[i]).f2, (xs[i]).f3, ⟨(xs[i]).f4.f0, (xs[i]).f4.f1, (xs[i]).f4.f2⟩⟩ = _ from hs]
    exact ih (i + 1) (by omega)
theorem toTaskS_ev (xs : List S29) (hn : xs.length ≤ 4398046511104) : Ev (fun k => laws_toTaskS.f k xs) (xs.map convTask) := by
  simp only [laws_toTaskS.f, if_pos (show (0 : Int) ≤ (xs.length : Int) by omega), Int.toNat_natCast, if_pos hn]
  simpa using toTaskS_l xs hn xs.length 0 (by omega)
theorem eqTaskS_l (xs : List S33) (hn : xs.length ≤ 140737488355328) (d : Nat) : ∀ i : Nat, i + d = xs.length →
    Ev (fun k => laws_eqTaskS.l0 k xs xs (i : Int)) true := by
  induction d with
  | zero =>
    intro i h
    refine ev_succ ?_
    simp only [laws_eqTaskS.l0, if_neg (show ¬ ((i : Int) < (xs.length : Int)) by omega)]
    exact ev_now _
  | succ d ih =>
    intro i h
    refine ev_succ ?_
    simp only [laws_eqTaskS.l0, if_pos (show ((i : Int) < (xs.length : Int)) by omega), if_pos (show (0 : Int) ≤ (i : Int) by omega), w64s i (by omega), laws_eqTask.f, laws_eqClock.f, Option.bind_some, if_true]
    exact ih (i + 1) (by omega)
theorem eqTaskS_self (xs : List S33) (hn : xs.length ≤ 140737488355328) : Ev (fun k => laws_eqTaskS.f k xs xs) true := by
  simp only [laws_eqTaskS.f, if_true]
  simpa using eqTaskS_l xs hn xs.length 0 (by omega)
theorem rdwCarry {xs : List S92} {i : Nat} (h : i < xs.length) : rd_T92 xs (i : Int) = xs[i] := by
  simp [rd_T92, List.getD_eq_getElem?_getD, h]
def wCarry (x : S92) : Nat := x.f0.size
theorem szCarry_eq (x : S92) (left : Int) (h0 : 0 ≤ left) (h1 : left ≤ 1048576) (hw : wCarry x ≤ 140737488355328) : laws_szCarry.f x.f0 x.f1 x.f2 left = some (if left - (wCarry x : Int) < 0 then -1 else left - (wCarry x : Int)) := by
  unfold wCarry at hw ⊢
  unfold laws_szCarry.f
  rw [w64 (by omega) (by omega)]
  split <;> rfl
theorem szCarryS_l (xs : List S92) (hn : xs.length ≤ 140737488355328) (hx : ∀ x ∈ xs, wCarry x ≤ 140737488355328) (d : Nat) : ∀ (i : Nat) (left : Int), i + d = xs.length → 0 ≤ left → left ≤ 1048576 →
    ∃ v, Ev (fun k => laws_szCarryS.l0 k xs left (i : Int)) v ∧ (v < 0 ∨ (0 ≤ v ∧ v + (((xs.drop i).map wCarry).sum : Nat) = left)) := by
  induction d with
  | zero =>
    intro i left h h0 h1
    refine ⟨left, ev_succ ?_, .inr ⟨h0, ?_⟩⟩
    · simp only [laws_szCarryS.l0, if_neg (show ¬ ((i : Int) < (xs.length : Int)) by omega)]
      exact ev_now _
    · rw [List.drop_of_length_le (by omega)]; simp
  | succ d ih =>
    intro i left h h0 h1
    have hlt : i < xs.length := by omega
    have hxi := hx _ (List.getElem_mem hlt)
    by_cases hs : left - (wCarry (xs[i]) : Int) < 0
    · refine ⟨-1, ev_succ ?_, .inl (by omega)⟩
      simp only [laws_szCarryS.l0, if_pos (show ((i : Int) < (xs.length : Int)) by omega), if_pos (show (0 : Int) ≤ (i : Int) by omega), rdwCarry hlt, szCarry_eq _ left h0 h1 hxi, if_pos hs, Option.bind_some, if_pos (show (-1 : Int) < 0 by omega)]
      exact ev_now _
    · obtain ⟨v, hv, hr⟩ := ih (i + 1) (left - (wCarry (xs[i]) : Int)) (by omega) (by omega) (by omega)
      refine ⟨v, ev_succ ?_, ?_⟩
      · simp only [laws_szCarryS.l0, if_pos (show ((i : Int) < (xs.length : Int)) by omega), if_pos (show (0 : Int) ≤ (i : Int) by omega), rdwCarry hlt, szCarry_eq _ left h0 h1 hxi, if_neg hs, Option.bind_some, w64s i (by omega)]
        exact hv
      · rcases hr with hr | ⟨hr0, hr⟩
        · exact .inl hr
        · refine .inr ⟨hr0, ?_⟩
          rw [List.drop_eq_getElem_cons hlt, List.map_cons, List.sum_cons]
          omega
theorem szCarryS_ev (xs : List S92) (left : Int) (h0 : 0 ≤ left) (h1 : left ≤ 1048576) (hn : xs.length ≤ 140737488355328) (hx : ∀ x ∈ xs, wCarry x ≤ 140737488355328) :
    ∃ v, Ev (fun k => laws_szCarryS.f k xs left) v ∧ (v < 0 ∨ (0 ≤ v ∧ v + (xs.length : Int) + ((xs.map wCarry).sum : Nat) = left)) := by
  simp only [laws_szCarryS.f]
  rw [w64 (by omega) (by omega)]
  by_cases hs : left - (xs.length : Int) < 0
  · simp only [if_pos hs]
    exact ⟨-1, ev_now _, .inl (by omega)⟩
  · simp only [if_neg hs]
    obtain ⟨v, hv, hr⟩ := szCarryS_l xs hn hx xs.length 0 (left - (xs.length : Int)) (by omega) (by omega) (by omega)
    refine ⟨v, hv, ?_⟩
    rcases hr with hr | ⟨hr0, hr⟩
    · exact .inl hr
    · rw [List.drop_zero] at hr
      exact .inr ⟨hr0, by omega⟩
/-! The helpers over Carrys. -/
def convCarry (x : S92) : S70 := ⟨x.f0, x.f1, x.f2⟩
theorem rdlCarry {xs : List S92} {i : Nat} (h : i < xs.length) : rd_T92 xs (i : Int) = xs[i] := by
  simp [rd_T92, List.getD_eq_getElem?_getD, h]
theorem rdiCarry {xs : List S70} {i : Nat} (h : i < xs.length) : rd_T70 xs (i : Int) = xs[i] := by
  simp [rd_T70, List.getD_eq_getElem?_getD, h]
theorem dropCarry {xs : List S70} {i : Nat} (h : i < xs.length) : xs.drop i = rd_T70 xs (i : Int) :: xs.drop (i + 1) := by
  rw [List.drop_eq_getElem_cons h, rdiCarry h]
theorem toCarryS_l (xs : List S92) (hn : xs.length ≤ 8796093022208) (d : Nat) : ∀ i : Nat, i + d = xs.length →
    Ev (fun k => laws_toCarryS.l0 k xs ((xs.map convCarry).take i ++ List.replicate (xs.length - i) z70) (i : Int)) (xs.map convCarry) := by
  induction d with
  | zero =>
    intro i h
    refine ev_succ ?_
    simp only [laws_toCarryS.l0, if_neg (show ¬ ((i : Int) < (xs.length : Int)) by omega)]
    exact ev_some (by rw [List.take_of_length_le (by simp; omega), show xs.length - i = 0 by omega]; simp)
  | succ d ih =>
    intro i h
    refine ev_succ ?_
    have hlt : i < xs.length := by omega
    have hl : (((xs.map convCarry).take i ++ List.replicate (xs.length - i) z70).length : Int) = (xs.length : Int) := by simp; omega
    have hs := take_setG (xs := xs) (c := convCarry) hlt z70
    simp only [laws_toCarryS.l0, if_pos (show ((i : Int) < (xs.length : Int)) by omega), if_pos (show (0 : Int) ≤ (i : Int) by omega), hl, w64s i (by omega), Int.toNat_natCast, rdlCarry hlt, laws_toCarry.f, Option.bind_some]
    rw [show ((xs.map convCarry).take i ++ List.replicate (xs.length - i) z70).set i ⟨(xs[i]).f0, (xs[i]).f1, (xs[i]).f2⟩ = _ from hs]
    exact ih (i + 1) (by omega)
theorem toCarryS_ev (xs : List S92) (hn : xs.length ≤ 8796093022208) : Ev (fun k => laws_toCarryS.f k xs) (xs.map convCarry) := by
  simp only [laws_toCarryS.f, if_pos (show (0 : Int) ≤ (xs.length : Int) by omega), Int.toNat_natCast, if_pos hn]
  simpa using toCarryS_l xs hn xs.length 0 (by omega)
theorem eqCarryS_l (xs : List S70) (hn : xs.length ≤ 140737488355328) (d : Nat) : ∀ i : Nat, i + d = xs.length →
    Ev (fun k => laws_eqCarryS.l0 k xs xs (i : Int)) true := by
  induction d with
  | zero =>
    intro i h
    refine ev_succ ?_
    simp only [laws_eqCarryS.l0, if_neg (show ¬ ((i : Int) < (xs.length : Int)) by omega)]
    exact ev_now _
  | succ d ih =>
    intro i h
    refine ev_succ ?_
    simp only [laws_eqCarryS.l0, if_pos (show ((i : Int) < (xs.length : Int)) by omega), if_pos (show (0 : Int) ≤ (i : Int) by omega), w64s i (by omega), laws_eqCarry.f, Option.bind_some, if_true]
    exact ih (i + 1) (by omega)
theorem eqCarryS_self (xs : List S70) (hn : xs.length ≤ 140737488355328) : Ev (fun k => laws_eqCarryS.f k xs xs) true := by
  simp only [laws_eqCarryS.f, if_true]
  simpa using eqCarryS_l xs hn xs.length 0 (by omega)
theorem rdwDefect {xs : List S118} {i : Nat} (h : i < xs.length) : rd_T118 xs (i : Int) = xs[i] := by
  simp [rd_T118, List.getD_eq_getElem?_getD, h]
def wDefect (x : S118) : Nat := x.f0.size
theorem szDefect_eq (x : S118) (left : Int) (h0 : 0 ≤ left) (h1 : left ≤ 1048576) (hw : wDefect x ≤ 140737488355328) : laws_szDefect.f x.f0 x.f1 x.f2 left = some (if left - (wDefect x : Int) < 0 then -1 else left - (wDefect x : Int)) := by
  unfold wDefect at hw ⊢
  unfold laws_szDefect.f
  rw [w64 (by omega) (by omega)]
  split <;> rfl
theorem szDefectS_l (xs : List S118) (hn : xs.length ≤ 140737488355328) (hx : ∀ x ∈ xs, wDefect x ≤ 140737488355328) (d : Nat) : ∀ (i : Nat) (left : Int), i + d = xs.length → 0 ≤ left → left ≤ 1048576 →
    ∃ v, Ev (fun k => laws_szDefectS.l0 k xs left (i : Int)) v ∧ (v < 0 ∨ (0 ≤ v ∧ v + (((xs.drop i).map wDefect).sum : Nat) = left)) := by
  induction d with
  | zero =>
    intro i left h h0 h1
    refine ⟨left, ev_succ ?_, .inr ⟨h0, ?_⟩⟩
    · simp only [laws_szDefectS.l0, if_neg (show ¬ ((i : Int) < (xs.length : Int)) by omega)]
      exact ev_now _
    · rw [List.drop_of_length_le (by omega)]; simp
  | succ d ih =>
    intro i left h h0 h1
    have hlt : i < xs.length := by omega
    have hxi := hx _ (List.getElem_mem hlt)
    by_cases hs : left - (wDefect (xs[i]) : Int) < 0
    · refine ⟨-1, ev_succ ?_, .inl (by omega)⟩
      simp only [laws_szDefectS.l0, if_pos (show ((i : Int) < (xs.length : Int)) by omega), if_pos (show (0 : Int) ≤ (i : Int) by omega), rdwDefect hlt, szDefect_eq _ left h0 h1 hxi, if_pos hs, Option.bind_some, if_pos (show (-1 : Int) < 0 by omega)]
      exact ev_now _
    · obtain ⟨v, hv, hr⟩ := ih (i + 1) (left - (wDefect (xs[i]) : Int)) (by omega) (by omega) (by omega)
      refine ⟨v, ev_succ ?_, ?_⟩
      · simp only [laws_szDefectS.l0, if_pos (show ((i : Int) < (xs.length : Int)) by omega), if_pos (show (0 : Int) ≤ (i : Int) by omega), rdwDefect hlt, szDefect_eq _ left h0 h1 hxi, if_neg hs, Option.bind_some, w64s i (by omega)]
        exact hv
      · rcases hr with hr | ⟨hr0, hr⟩
        · exact .inl hr
        · refine .inr ⟨hr0, ?_⟩
          rw [List.drop_eq_getElem_cons hlt, List.map_cons, List.sum_cons]
          omega
theorem szDefectS_ev (xs : List S118) (left : Int) (h0 : 0 ≤ left) (h1 : left ≤ 1048576) (hn : xs.length ≤ 140737488355328) (hx : ∀ x ∈ xs, wDefect x ≤ 140737488355328) :
    ∃ v, Ev (fun k => laws_szDefectS.f k xs left) v ∧ (v < 0 ∨ (0 ≤ v ∧ v + (xs.length : Int) + ((xs.map wDefect).sum : Nat) = left)) := by
  simp only [laws_szDefectS.f]
  rw [w64 (by omega) (by omega)]
  by_cases hs : left - (xs.length : Int) < 0
  · simp only [if_pos hs]
    exact ⟨-1, ev_now _, .inl (by omega)⟩
  · simp only [if_neg hs]
    obtain ⟨v, hv, hr⟩ := szDefectS_l xs hn hx xs.length 0 (left - (xs.length : Int)) (by omega) (by omega) (by omega)
    refine ⟨v, hv, ?_⟩
    rcases hr with hr | ⟨hr0, hr⟩
    · exact .inl hr
    · rw [List.drop_zero] at hr
      exact .inr ⟨hr0, by omega⟩
/-! The helpers over Defects. -/
def convDefect (x : S118) : S72 := ⟨x.f0, x.f1, x.f2⟩
theorem rdlDefect {xs : List S118} {i : Nat} (h : i < xs.length) : rd_T118 xs (i : Int) = xs[i] := by
  simp [rd_T118, List.getD_eq_getElem?_getD, h]
theorem rdiDefect {xs : List S72} {i : Nat} (h : i < xs.length) : rd_T72 xs (i : Int) = xs[i] := by
  simp [rd_T72, List.getD_eq_getElem?_getD, h]
theorem dropDefect {xs : List S72} {i : Nat} (h : i < xs.length) : xs.drop i = rd_T72 xs (i : Int) :: xs.drop (i + 1) := by
  rw [List.drop_eq_getElem_cons h, rdiDefect h]
theorem toDefectS_l (xs : List S118) (hn : xs.length ≤ 8796093022208) (d : Nat) : ∀ i : Nat, i + d = xs.length →
    Ev (fun k => laws_toDefectS.l0 k xs ((xs.map convDefect).take i ++ List.replicate (xs.length - i) z72) (i : Int)) (xs.map convDefect) := by
  induction d with
  | zero =>
    intro i h
    refine ev_succ ?_
    simp only [laws_toDefectS.l0, if_neg (show ¬ ((i : Int) < (xs.length : Int)) by omega)]
    exact ev_some (by rw [List.take_of_length_le (by simp; omega), show xs.length - i = 0 by omega]; simp)
  | succ d ih =>
    intro i h
    refine ev_succ ?_
    have hlt : i < xs.length := by omega
    have hl : (((xs.map convDefect).take i ++ List.replicate (xs.length - i) z72).length : Int) = (xs.length : Int) := by simp; omega
    have hs := take_setG (xs := xs) (c := convDefect) hlt z72
    simp only [laws_toDefectS.l0, if_pos (show ((i : Int) < (xs.length : Int)) by omega), if_pos (show (0 : Int) ≤ (i : Int) by omega), hl, w64s i (by omega), Int.toNat_natCast, rdlDefect hlt, laws_toDefect.f, Option.bind_some]
    rw [show ((xs.map convDefect).take i ++ List.replicate (xs.length - i) z72).set i ⟨(xs[i]).f0, (xs[i]).f1, (xs[i]).f2⟩ = _ from hs]
    exact ih (i + 1) (by omega)
theorem toDefectS_ev (xs : List S118) (hn : xs.length ≤ 8796093022208) : Ev (fun k => laws_toDefectS.f k xs) (xs.map convDefect) := by
  simp only [laws_toDefectS.f, if_pos (show (0 : Int) ≤ (xs.length : Int) by omega), Int.toNat_natCast, if_pos hn]
  simpa using toDefectS_l xs hn xs.length 0 (by omega)
theorem eqDefectS_l (xs : List S72) (hn : xs.length ≤ 140737488355328) (d : Nat) : ∀ i : Nat, i + d = xs.length →
    Ev (fun k => laws_eqDefectS.l0 k xs xs (i : Int)) true := by
  induction d with
  | zero =>
    intro i h
    refine ev_succ ?_
    simp only [laws_eqDefectS.l0, if_neg (show ¬ ((i : Int) < (xs.length : Int)) by omega)]
    exact ev_now _
  | succ d ih =>
    intro i h
    refine ev_succ ?_
    simp only [laws_eqDefectS.l0, if_pos (show ((i : Int) < (xs.length : Int)) by omega), if_pos (show (0 : Int) ≤ (i : Int) by omega), w64s i (by omega), laws_eqDefect.f, Option.bind_some, if_true]
    exact ih (i + 1) (by omega)
theorem eqDefectS_self (xs : List S72) (hn : xs.length ≤ 140737488355328) : Ev (fun k => laws_eqDefectS.f k xs xs) true := by
  simp only [laws_eqDefectS.f, if_true]
  simpa using eqDefectS_l xs hn xs.length 0 (by omega)
/-! The list of carried defects. -/
abbrev Cr := S70
def carryAt (xs : List Cr) (i : Int) : Bool := nameB (rd_T70 xs i).f0 && (inB (rd_T70 xs i).f1 0 10 && (inB (rd_T70 xs i).f2 0 120 && (decide (¬ i > 0) || Op.bytesLess (rd_T70 xs (i - 1)).f0.toList (rd_T70 xs i).f0.toList)))
def carryFrom (xs : List Cr) : Nat → Nat → Bool
  | 0, _ => decide ((xs.length : Int) ≤ 20)
  | d + 1, i => carryAt xs (i : Int) && carryFrom xs d (i + 1)
def carryB (xs : List Cr) : Bool := carryFrom xs xs.length 0
theorem spec_CarryOk_l (xs : List Cr) (hn : xs.length ≤ 140737488355328) (hx : ∀ x ∈ xs, x.f0.size ≤ 140737488355328) (d : Nat) : ∀ i : Nat, i + d = xs.length → Ev (fun k => spec_CarryOk.l0 k xs (i : Int)) (carryFrom xs d i) := by
  induction d with
  | zero =>
    intro i h
    refine ev_succ ?_
    simp only [spec_CarryOk.l0, if_neg (show ¬ ((i : Int) < (xs.length : Int)) by omega)]
    exact ev_now _
  | succ d ih =>
    intro i h
    have hlt : i < xs.length := by omega
    have hs : (rd_T70 xs (i : Int)).f0.size ≤ 140737488355328 := by rw [rdiCarry hlt]; exact hx _ (List.getElem_mem hlt)
    have hw : wrap64 ((i : Int) - 1) = (i : Int) - 1 := w64 (by omega) (by omega)
    have hj : ∀ b : Bool, Ev (fun k => spec_CarryOk.j1 k xs (i : Int) b) (!b && carryFrom xs d (i + 1)) := by
      intro b
      refine ev_succ ?_
      cases b with
      | true => simpa only [spec_CarryOk.j1, if_true, Bool.not_true, Bool.false_and] using ev_now false
      | false => simpa only [spec_CarryOk.j1, Bool.false_eq_true, if_false, Bool.not_false, Bool.true_and, w64s i (by omega)] using ih (i + 1) (by omega)
    refine ev_succ ?_
    simp only [spec_CarryOk.l0, if_pos (show ((i : Int) < (xs.length : Int)) by omega), if_pos (show (0 : Int) ≤ (i : Int) by omega), hw, spec_in_eq, Option.bind_some]
    refine (spec_l1Name_ev _ hs).bind ?_
    unfold carryFrom carryAt
    cases nameB (rd_T70 xs (i : Int)).f0 with
    | false => simpa using hj true
    | true =>
      simp only [if_true, Bool.true_and]
      by_cases h0 : (i : Int) > 0
      · simp only [if_pos h0, if_pos (show (0 : Int) ≤ (i : Int) - 1 by omega), if_pos (show (i : Int) - 1 < (xs.length : Int) by omega), h0, not_true_eq_false, decide_false, Bool.false_or]
        cases Op.bytesLess (rd_T70 xs ((i : Int) - 1)).f0.toList (rd_T70 xs (i : Int)).f0.toList with
        | false => simpa using hj true
        | true =>
          cases inB (rd_T70 xs (i : Int)).f1 0 10 with
          | false => simpa using hj true
          | true =>
            cases inB (rd_T70 xs (i : Int)).f2 0 120 with
            | false => simpa using hj true
            | true => simpa using hj false
      · simp only [if_neg h0, h0, not_false_eq_true, decide_true, Bool.true_or]
        cases inB (rd_T70 xs (i : Int)).f1 0 10 with
        | false => simpa using hj true
        | true =>
          cases inB (rd_T70 xs (i : Int)).f2 0 120 with
          | false => simpa using hj true
          | true => simpa using hj false
theorem spec_CarryOk_ev (xs : List Cr) (hn : xs.length ≤ 140737488355328) (hx : ∀ x ∈ xs, x.f0.size ≤ 140737488355328) : Ev (fun k => spec_CarryOk.f k xs) (carryB xs) := by
  simpa [spec_CarryOk.f, carryB] using spec_CarryOk_l xs hn hx xs.length 0 (by omega)
theorem impl_CarryOk_l (xs : List Cr) (hn : xs.length ≤ 140737488355328) (hx : ∀ x ∈ xs, x.f0.size ≤ 140737488355328) (d : Nat) : ∀ i : Nat, i + d = xs.length → Ev (fun k => impl_CarryOk.l0 k xs xs (xs.length : Int) (i : Int)) (carryFrom xs d i) := by
  induction d with
  | zero =>
    intro i h
    refine ev_succ ?_
    simp only [impl_CarryOk.l0, if_neg (show ¬ ((i : Int) < (xs.length : Int)) by omega)]
    exact ev_now _
  | succ d ih =>
    intro i h
    have hlt : i < xs.length := by omega
    have hs : (rd_T70 xs (i : Int)).f0.size ≤ 140737488355328 := by rw [rdiCarry hlt]; exact hx _ (List.getElem_mem hlt)
    have hw : wrap64 ((i : Int) - 1) = (i : Int) - 1 := w64 (by omega) (by omega)
    have hj : ∀ b : Bool, Ev (fun k => impl_CarryOk.j1 k xs xs (xs.length : Int) (i : Int) b) (!b && carryFrom xs d (i + 1)) := by
      intro b
      refine ev_succ ?_
      cases b with
      | true => simpa only [impl_CarryOk.j1, if_true, Bool.not_true, Bool.false_and] using ev_now false
      | false => simpa only [impl_CarryOk.j1, Bool.false_eq_true, if_false, Bool.not_false, Bool.true_and, w64s i (by omega)] using ih (i + 1) (by omega)
    refine ev_succ ?_
    simp only [impl_CarryOk.l0, if_pos (show ((i : Int) < (xs.length : Int)) by omega), if_pos (show (0 : Int) ≤ (i : Int) by omega), hw, impl_in_eq, Option.bind_some]
    refine (impl_isName_ev _ hs).bind ?_
    unfold carryFrom carryAt
    cases nameB (rd_T70 xs (i : Int)).f0 with
    | false => simpa using hj true
    | true =>
      simp only [if_true, Bool.true_and]
      cases inB (rd_T70 xs (i : Int)).f1 0 10 with
      | false => simpa using hj true
      | true =>
        cases inB (rd_T70 xs (i : Int)).f2 0 120 with
        | false => simpa using hj true
        | true =>
          simp only [if_true, Bool.true_and]
          by_cases h0 : (i : Int) > 0
          · simp only [if_pos h0, if_pos (show (0 : Int) ≤ (i : Int) - 1 by omega), if_pos (show (i : Int) - 1 < (xs.length : Int) by omega), h0, not_true_eq_false, decide_false, Bool.false_or]
            have := hj (!Op.bytesLess (rd_T70 xs ((i : Int) - 1)).f0.toList (rd_T70 xs (i : Int)).f0.toList)
            rwa [Bool.not_not] at this
          · simp only [if_neg h0, h0, not_false_eq_true, decide_true, Bool.true_or]
            exact hj false
theorem impl_CarryOk_ev (xs : List Cr) (hn : xs.length ≤ 140737488355328) (hx : ∀ x ∈ xs, x.f0.size ≤ 140737488355328) : Ev (fun k => impl_CarryOk.f k xs) (carryB xs) := by
  simpa [impl_CarryOk.f, carryB] using impl_CarryOk_l xs hn hx xs.length 0 (by omega)
/-! A fleet. -/
abbrev Tk := S33
abbrev Df := S72
def passB (p q r p' q' r' : Int) : Bool := decide (mn (mn (wrap64 (p' - p)) (wrap64 (q' - q))) (wrap64 (r' - r)) ≥ 0)
theorem passB_is {p q r p' q' r' : Int} (h : clockB p q r = true) (h' : clockB p' q' r' = true) : passB p q r p' q' r' = behindB p q r p' q' r' := by
  have a := clockB_in h
  have b := clockB_in h'
  unfold passB behindB
  rw [w64 (n := p' - p) (by omega) (by omega), w64 (n := q' - q) (by omega) (by omega), w64 (n := r' - r) (by omega) (by omega), Bool.eq_iff_iff]
  simp only [Bool.and_eq_true, decide_eq_true_eq]
  unfold mn
  repeat' split
  all_goals omega
def taskAt (β : Int → Int → Int → Bool) (xs : List Tk) (i : Int) : Bool := taskB (rd_T33 xs i).f0 (rd_T33 xs i).f1 (rd_T33 xs i).f2 (rd_T33 xs i).f3 (rd_T33 xs i).f4.f0 (rd_T33 xs i).f4.f1 (rd_T33 xs i).f4.f2 && (β (rd_T33 xs i).f4.f0 (rd_T33 xs i).f4.f1 (rd_T33 xs i).f4.f2 && (decide (¬ i > 0) || Op.bytesLess (rd_T33 xs (i - 1)).f0.toList (rd_T33 xs i).f0.toList))
def tasksFrom (β : Int → Int → Int → Bool) (xs : List Tk) : Nat → Nat → Bool
  | 0, _ => true
  | d + 1, i => taskAt β xs (i : Int) && tasksFrom β xs d (i + 1)
def defectAt (r : Int) (xs : List Df) (i : Int) : Bool := nameB (rd_T72 xs i).f0 && (inB (rd_T72 xs i).f1 1 1000000 && ((decide (¬ i > 0) || decide ((rd_T72 xs (i - 1)).f1 < (rd_T72 xs i).f1)) && inB (rd_T72 xs i).f2 0 r))
def defectsFrom (r : Int) (xs : List Df) : Nat → Nat → Bool
  | 0, _ => true
  | d + 1, i => defectAt r xs (i : Int) && defectsFrom r xs d (i + 1)
def fleetB (ts : List Tk) (cs : List Cr) (ds : List Df) (p q r : Int) : Bool := clockB p q r && (carryB cs && (decide ((ts.length : Int) ≤ 40) && (decide ((ds.length : Int) ≤ 20) && (tasksFrom (fun a b c => behindB a b c p q r) ts ts.length 0 && defectsFrom r ds ds.length 0))))
theorem tasks_same {p q r : Int} (h : clockB p q r = true) (xs : List Tk) (d : Nat) : ∀ i, tasksFrom (fun a b c => passB a b c p q r) xs d i = tasksFrom (fun a b c => behindB a b c p q r) xs d i := by
  induction d with
  | zero => intro i; rfl
  | succ d ih =>
    intro i
    simp only [tasksFrom, ih]
    congr 1
    unfold taskAt
    dsimp only
    cases ht : taskB (rd_T33 xs (i : Int)).f0 (rd_T33 xs (i : Int)).f1 (rd_T33 xs (i : Int)).f2 (rd_T33 xs (i : Int)).f3 (rd_T33 xs (i : Int)).f4.f0 (rd_T33 xs (i : Int)).f4.f1 (rd_T33 xs (i : Int)).f4.f2 with
    | false => rfl
    | true => rw [passB_is (taskB_in ht).2.2.2 h]
theorem spec_FleetOk_l1 (ts : List Tk) (cs : List Cr) (ds : List Df) (p q r : Int) (hn : ds.length ≤ 140737488355328) (hx : ∀ x ∈ ds, x.f0.size ≤ 140737488355328) (d : Nat) : ∀ i : Nat, i + d = ds.length → Ev (fun k => spec_FleetOk.l1 k (i : Int) ts cs ds p q r) (defectsFrom r ds d i) := by
  induction d with
  | zero =>
    intro i h
    refine ev_succ ?_
    simp only [spec_FleetOk.l1, if_neg (show ¬ ((i : Int) < (ds.length : Int)) by omega)]
    exact ev_now _
  | succ d ih =>
    intro i h
    have hlt : i < ds.length := by omega
    have hs : (rd_T72 ds (i : Int)).f0.size ≤ 140737488355328 := by rw [rdiDefect hlt]; exact hx _ (List.getElem_mem hlt)
    have hw : wrap64 ((i : Int) - 1) = (i : Int) - 1 := w64 (by omega) (by omega)
    have hj : ∀ b : Bool, Ev (fun k => spec_FleetOk.j4 k (i : Int) b ts cs ds p q r) (!b && defectsFrom r ds d (i + 1)) := by
      intro b
      refine ev_succ ?_
      cases b with
      | true => simpa only [spec_FleetOk.j4, if_true, Bool.not_true, Bool.false_and] using ev_now false
      | false => simpa only [spec_FleetOk.j4, Bool.false_eq_true, if_false, Bool.not_false, Bool.true_and, w64s i (by omega)] using ih (i + 1) (by omega)
    refine ev_succ ?_
    simp only [spec_FleetOk.l1, if_pos (show ((i : Int) < (ds.length : Int)) by omega), if_pos (show (0 : Int) ≤ (i : Int) by omega), hw, spec_in_eq, Option.bind_some]
    refine (spec_l1Name_ev _ hs).bind ?_
    unfold defectsFrom defectAt
    cases nameB (rd_T72 ds (i : Int)).f0 with
    | false => simpa using hj true
    | true =>
      cases inB (rd_T72 ds (i : Int)).f1 1 1000000 with
      | false => simpa using hj true
      | true =>
        simp only [if_true, Bool.true_and]
        by_cases h0 : (i : Int) > 0
        · simp only [if_pos h0, if_pos (show (0 : Int) ≤ (i : Int) - 1 by omega), if_pos (show (i : Int) - 1 < (ds.length : Int) by omega), h0, if_true, not_true_eq_false, decide_false, Bool.false_or]
          by_cases h1 : (rd_T72 ds ((i : Int) - 1)).f1 ≥ (rd_T72 ds (i : Int)).f1
          · simp only [if_pos h1, show ¬ (rd_T72 ds ((i : Int) - 1)).f1 < (rd_T72 ds (i : Int)).f1 by omega, decide_false, Bool.false_and]
            simpa using hj true
          · simp only [if_neg h1, show (rd_T72 ds ((i : Int) - 1)).f1 < (rd_T72 ds (i : Int)).f1 by omega, decide_true, Bool.true_and]
            have := hj (!inB (rd_T72 ds (i : Int)).f2 0 r)
            rwa [Bool.not_not] at this
        · simp only [if_neg h0, h0, if_false, not_false_eq_true, decide_true, Bool.true_or, Bool.true_and]
          have := hj (!inB (rd_T72 ds (i : Int)).f2 0 r)
          rwa [Bool.not_not] at this
theorem spec_FleetOk_l0 (ts : List Tk) (cs : List Cr) (ds : List Df) (p q r : Int) (ht : ts.length ≤ 140737488355328) (htx : ∀ x ∈ ts, x.f0.size ≤ 140737488355328) (hn : ds.length ≤ 140737488355328) (hx : ∀ x ∈ ds, x.f0.size ≤ 140737488355328) (d : Nat) : ∀ i : Nat, i + d = ts.length → Ev (fun k => spec_FleetOk.l0 k (i : Int) ts cs ds p q r) (tasksFrom (fun a b c => behindB a b c p q r) ts d i && defectsFrom r ds ds.length 0) := by
  induction d with
  | zero =>
    intro i h
    refine ev_succ ?_
    simp only [spec_FleetOk.l0, if_neg (show ¬ ((i : Int) < (ts.length : Int)) by omega), tasksFrom, Bool.true_and]
    exact spec_FleetOk_l1 ts cs ds p q r hn hx ds.length 0 (by omega)
  | succ d ih =>
    intro i h
    have hlt : i < ts.length := by omega
    have hs : (rd_T33 ts (i : Int)).f0.size ≤ 140737488355328 := by rw [rdiTask hlt]; exact htx _ (List.getElem_mem hlt)
    have hw : wrap64 ((i : Int) - 1) = (i : Int) - 1 := w64 (by omega) (by omega)
    have hj : ∀ b : Bool, Ev (fun k => spec_FleetOk.j2 k (i : Int) b ts cs ds p q r) (!b && (tasksFrom (fun a b c => behindB a b c p q r) ts d (i + 1) && defectsFrom r ds ds.length 0)) := by
      intro b
      refine ev_succ ?_
      cases b with
      | true => simpa only [spec_FleetOk.j2, if_true, Bool.not_true, Bool.false_and] using ev_now false
      | false => simpa only [spec_FleetOk.j2, Bool.false_eq_true, if_false, Bool.not_false, Bool.true_and, w64s i (by omega)] using ih (i + 1) (by omega)
    refine ev_succ ?_
    simp only [spec_FleetOk.l0, if_pos (show ((i : Int) < (ts.length : Int)) by omega), if_pos (show (0 : Int) ≤ (i : Int) by omega), hw, spec_l19Behind.f]
    refine (spec_TaskOk_ev _ hs _ _ _ _ _ _).bind ?_
    unfold tasksFrom taskAt
    have e : (if (rd_T33 ts (i : Int)).f4.f0 ≤ p then (if (rd_T33 ts (i : Int)).f4.f1 ≤ q then some (decide ((rd_T33 ts (i : Int)).f4.f2 ≤ r)) else some false) else some false) = some (behindB (rd_T33 ts (i : Int)).f4.f0 (rd_T33 ts (i : Int)).f4.f1 (rd_T33 ts (i : Int)).f4.f2 p q r) := by
      unfold behindB
      by_cases x1 : (rd_T33 ts (i : Int)).f4.f0 ≤ p <;> by_cases x2 : (rd_T33 ts (i : Int)).f4.f1 ≤ q <;> simp [x1, x2]
    simp only [e, Option.bind_some]
    cases taskB (rd_T33 ts (i : Int)).f0 (rd_T33 ts (i : Int)).f1 (rd_T33 ts (i : Int)).f2 (rd_T33 ts (i : Int)).f3 (rd_T33 ts (i : Int)).f4.f0 (rd_T33 ts (i : Int)).f4.f1 (rd_T33 ts (i : Int)).f4.f2 with
    | false => simpa using hj true
    | true =>
      simp only [if_true, Bool.true_and]
      cases behindB (rd_T33 ts (i : Int)).f4.f0 (rd_T33 ts (i : Int)).f4.f1 (rd_T33 ts (i : Int)).f4.f2 p q r with
      | false => simpa using hj true
      | true =>
        simp only [if_true, Bool.true_and]
        by_cases h0 : (i : Int) > 0
        · simp only [if_pos h0, if_pos (show (0 : Int) ≤ (i : Int) - 1 by omega), if_pos (show (i : Int) - 1 < (ts.length : Int) by omega), h0, if_true, not_true_eq_false, decide_false, Bool.false_or]
          have := hj (!Op.bytesLess (rd_T33 ts ((i : Int) - 1)).f0.toList (rd_T33 ts (i : Int)).f0.toList)
          rw [Bool.not_not] at this
          simpa only [Bool.and_assoc] using this
        · simp only [if_neg h0, h0, if_false, not_false_eq_true, decide_true, Bool.true_or]
          exact hj false
theorem spec_FleetOk_ev (ts : List Tk) (cs : List Cr) (ds : List Df) (p q r : Int) (ht : ts.length ≤ 140737488355328) (htx : ∀ x ∈ ts, x.f0.size ≤ 140737488355328) (hc : cs.length ≤ 140737488355328) (hcx : ∀ x ∈ cs, x.f0.size ≤ 140737488355328) (hn : ds.length ≤ 140737488355328) (hx : ∀ x ∈ ds, x.f0.size ≤ 140737488355328) :
    Ev (fun k => spec_FleetOk.f k ts cs ds p q r) (fleetB ts cs ds p q r) := by
  have hj : ∀ b : Bool, Ev (fun k => spec_FleetOk.j0 k b ts cs ds p q r) (!b && (tasksFrom (fun a b c => behindB a b c p q r) ts ts.length 0 && defectsFrom r ds ds.length 0)) := by
    intro b
    refine ev_succ ?_
    cases b with
    | true => simpa only [spec_FleetOk.j0, if_true, Bool.not_true, Bool.false_and] using ev_now false
    | false =>
      simp only [spec_FleetOk.j0, Bool.false_eq_true, if_false, Bool.not_false, Bool.true_and]
      exact spec_FleetOk_l0 ts cs ds p q r ht htx hn hx ts.length 0 (by omega)
  simp only [spec_FleetOk.f, spec_ClockOk_eq, Option.bind_some]
  unfold fleetB
  cases clockB p q r with
  | false => simpa using hj true
  | true =>
    simp only [if_true, Bool.true_and]
    refine (spec_CarryOk_ev cs hc hcx).bind ?_
    cases carryB cs with
    | false => simpa using hj true
    | true =>
      simp only [if_true, Bool.true_and]
      by_cases h1 : (ts.length : Int) > 40
      · simp only [if_pos h1, show ¬ ((ts.length : Int) ≤ 40) by omega, decide_false, Bool.false_and]
        simpa using hj true
      · simp only [if_neg h1, show ((ts.length : Int) ≤ 40) by omega, decide_true, Bool.true_and]
        by_cases h2 : (ds.length : Int) > 20
        · simp only [h2, show ¬ ((ds.length : Int) ≤ 20) by omega, decide_true, decide_false, Bool.false_and]
          simpa using hj true
        · simp only [h2, show ((ds.length : Int) ≤ 20) by omega, decide_true, decide_false, Bool.true_and]
          simpa using hj false
theorem impl_FleetOk_l1 (ts : List Tk) (cs : List Cr) (ds : List Df) (p q r : Int) (hc : cs.length ≤ 140737488355328) (hcx : ∀ x ∈ cs, x.f0.size ≤ 140737488355328) (hn : ds.length ≤ 140737488355328) (hx : ∀ x ∈ ds, x.f0.size ≤ 140737488355328) (d : Nat) : ∀ i : Nat, i + d = ds.length →
    Ev (fun k => impl_FleetOk.l1 k ds (ds.length : Int) (i : Int) ts cs ds p q r) (defectsFrom r ds d i && (decide ((ts.length : Int) ≤ 40) && (decide ((ds.length : Int) ≤ 20) && (carryB cs && clockB p q r)))) := by
  induction d with
  | zero =>
    intro i h
    refine ev_succ ?_
    simp only [impl_FleetOk.l1, if_neg (show ¬ ((i : Int) < (ds.length : Int)) by omega), defectsFrom, Bool.true_and]
    by_cases h1 : (ts.length : Int) ≤ 40
    · simp only [if_pos h1, h1, if_true, decide_true, Bool.true_and]
      by_cases h2 : (ds.length : Int) ≤ 20
      · simp only [if_pos h2, h2, if_true, decide_true, Bool.true_and]
        refine (impl_CarryOk_ev cs hc hcx).bind ?_
        cases carryB cs with
        | false => simpa using ev_now false
        | true => simpa using (impl_ClockOk_ev p q r).bind (f := fun _ t => some t) (ev_now _)
      · simpa only [if_neg h2, h2, if_false, decide_false, Bool.false_and] using ev_now _
    · simpa only [if_neg h1, h1, if_false, decide_false, Bool.false_and] using ev_now _
  | succ d ih =>
    intro i h
    have hlt : i < ds.length := by omega
    have hs : (rd_T72 ds (i : Int)).f0.size ≤ 140737488355328 := by rw [rdiDefect hlt]; exact hx _ (List.getElem_mem hlt)
    have hw : wrap64 ((i : Int) - 1) = (i : Int) - 1 := w64 (by omega) (by omega)
    have hj : ∀ b : Bool, Ev (fun k => impl_FleetOk.j3 k ds (ds.length : Int) (i : Int) b ts cs ds p q r) (!b && (defectsFrom r ds d (i + 1) && (decide ((ts.length : Int) ≤ 40) && (decide ((ds.length : Int) ≤ 20) && (carryB cs && clockB p q r))))) := by
      intro b
      refine ev_succ ?_
      cases b with
      | true => simpa only [impl_FleetOk.j3, if_true, Bool.not_true, Bool.false_and] using ev_now false
      | false => simpa only [impl_FleetOk.j3, Bool.false_eq_true, if_false, Bool.not_false, Bool.true_and, w64s i (by omega)] using ih (i + 1) (by omega)
    refine ev_succ ?_
    simp only [impl_FleetOk.l1, if_pos (show ((i : Int) < (ds.length : Int)) by omega), if_pos (show (0 : Int) ≤ (i : Int) by omega), hw, impl_in_eq, Option.bind_some]
    refine (impl_isName_ev _ hs).bind ?_
    unfold defectsFrom defectAt
    cases nameB (rd_T72 ds (i : Int)).f0 with
    | false => simpa using hj true
    | true =>
      cases inB (rd_T72 ds (i : Int)).f1 1 1000000 with
      | false => simpa using hj true
      | true =>
        cases inB (rd_T72 ds (i : Int)).f2 0 r with
        | false => simpa using hj true
        | true =>
          simp only [if_true, Bool.true_and, Bool.and_true]
          by_cases h0 : (i : Int) > 0
          · simp only [if_pos h0, if_pos (show (0 : Int) ≤ (i : Int) - 1 by omega), if_pos (show (i : Int) - 1 < (ds.length : Int) by omega), h0, if_true, not_true_eq_false, decide_false, Bool.false_or]
            have := hj (decide ((rd_T72 ds ((i : Int) - 1)).f1 ≥ (rd_T72 ds (i : Int)).f1))
            rw [show (!decide ((rd_T72 ds ((i : Int) - 1)).f1 ≥ (rd_T72 ds (i : Int)).f1)) = decide ((rd_T72 ds ((i : Int) - 1)).f1 < (rd_T72 ds (i : Int)).f1) by rw [← decide_not]; congr 1; simp] at this
            simpa only [Bool.and_assoc] using this
          · simp only [if_neg h0, h0, if_false, not_false_eq_true, decide_true, Bool.true_or, Bool.true_and]
            exact hj false
theorem impl_FleetOk_l0 (ts : List Tk) (cs : List Cr) (ds : List Df) (p q r : Int) (ht : ts.length ≤ 140737488355328) (htx : ∀ x ∈ ts, x.f0.size ≤ 140737488355328) (hc : cs.length ≤ 140737488355328) (hcx : ∀ x ∈ cs, x.f0.size ≤ 140737488355328) (hn : ds.length ≤ 140737488355328) (hx : ∀ x ∈ ds, x.f0.size ≤ 140737488355328) (d : Nat) : ∀ i : Nat, i + d = ts.length →
    Ev (fun k => impl_FleetOk.l0 k ts (ts.length : Int) (i : Int) ts cs ds p q r) (tasksFrom (fun a b c => passB a b c p q r) ts d i && (defectsFrom r ds ds.length 0 && (decide ((ts.length : Int) ≤ 40) && (decide ((ds.length : Int) ≤ 20) && (carryB cs && clockB p q r))))) := by
  induction d with
  | zero =>
    intro i h
    refine ev_succ ?_
    simp only [impl_FleetOk.l0, if_neg (show ¬ ((i : Int) < (ts.length : Int)) by omega), tasksFrom, Bool.true_and]
    exact impl_FleetOk_l1 ts cs ds p q r hc hcx hn hx ds.length 0 (by omega)
  | succ d ih =>
    intro i h
    have hlt : i < ts.length := by omega
    have hs : (rd_T33 ts (i : Int)).f0.size ≤ 140737488355328 := by rw [rdiTask hlt]; exact htx _ (List.getElem_mem hlt)
    have hw : wrap64 ((i : Int) - 1) = (i : Int) - 1 := w64 (by omega) (by omega)
    have hj : ∀ b : Bool, Ev (fun k => impl_FleetOk.j1 k ts (ts.length : Int) (i : Int) b ts cs ds p q r) (!b && (tasksFrom (fun a b c => passB a b c p q r) ts d (i + 1) && (defectsFrom r ds ds.length 0 && (decide ((ts.length : Int) ≤ 40) && (decide ((ds.length : Int) ≤ 20) && (carryB cs && clockB p q r)))))) := by
      intro b
      refine ev_succ ?_
      cases b with
      | true => simpa only [impl_FleetOk.j1, if_true, Bool.not_true, Bool.false_and] using ev_now false
      | false => simpa only [impl_FleetOk.j1, Bool.false_eq_true, if_false, Bool.not_false, Bool.true_and, w64s i (by omega)] using ih (i + 1) (by omega)
    refine ev_succ ?_
    simp only [impl_FleetOk.l0, if_pos (show ((i : Int) < (ts.length : Int)) by omega), if_pos (show (0 : Int) ≤ (i : Int) by omega), hw]
    refine (impl_passed_ev _ _ _ _ _ _).bind ?_
    refine (impl_TaskOk_ev _ hs _ _ _ _ _ _).bind ?_
    unfold tasksFrom taskAt
    cases taskB (rd_T33 ts (i : Int)).f0 (rd_T33 ts (i : Int)).f1 (rd_T33 ts (i : Int)).f2 (rd_T33 ts (i : Int)).f3 (rd_T33 ts (i : Int)).f4.f0 (rd_T33 ts (i : Int)).f4.f1 (rd_T33 ts (i : Int)).f4.f2 with
    | false => simpa using hj true
    | true =>
      simp only [if_true, Bool.true_and]
      rw [show decide (mn (mn (wrap64 (p - (rd_T33 ts (i : Int)).f4.f0)) (wrap64 (q - (rd_T33 ts (i : Int)).f4.f1))) (wrap64 (r - (rd_T33 ts (i : Int)).f4.f2)) ≥ 0) = passB (rd_T33 ts (i : Int)).f4.f0 (rd_T33 ts (i : Int)).f4.f1 (rd_T33 ts (i : Int)).f4.f2 p q r from rfl]
      cases passB (rd_T33 ts (i : Int)).f4.f0 (rd_T33 ts (i : Int)).f4.f1 (rd_T33 ts (i : Int)).f4.f2 p q r with
      | false => simpa using hj true
      | true =>
        simp only [if_true, Bool.true_and]
        by_cases h0 : (i : Int) > 0
        · simp only [if_pos h0, if_pos (show (0 : Int) ≤ (i : Int) - 1 by omega), if_pos (show (i : Int) - 1 < (ts.length : Int) by omega), h0, if_true, not_true_eq_false, decide_false, Bool.false_or]
          have := hj (!Op.bytesLess (rd_T33 ts ((i : Int) - 1)).f0.toList (rd_T33 ts (i : Int)).f0.toList)
          rw [Bool.not_not] at this
          simpa only [Bool.and_assoc] using this
        · simp only [if_neg h0, h0, if_false, not_false_eq_true, decide_true, Bool.true_or, Bool.true_and]
          exact hj false
theorem impl_FleetOk_ev (ts : List Tk) (cs : List Cr) (ds : List Df) (p q r : Int) (ht : ts.length ≤ 140737488355328) (htx : ∀ x ∈ ts, x.f0.size ≤ 140737488355328) (hc : cs.length ≤ 140737488355328) (hcx : ∀ x ∈ cs, x.f0.size ≤ 140737488355328) (hn : ds.length ≤ 140737488355328) (hx : ∀ x ∈ ds, x.f0.size ≤ 140737488355328) :
    Ev (fun k => impl_FleetOk.f k ts cs ds p q r) (fleetB ts cs ds p q r) := by
  refine ev_val (impl_FleetOk_l0 ts cs ds p q r ht htx hc hcx hn hx ts.length 0 (by omega)) ?_
  unfold fleetB
  cases h : clockB p q r with
  | false => simp
  | true =>
    rw [tasks_same h]
    cases tasksFrom (fun a b c => behindB a b c p q r) ts ts.length 0 <;> cases defectsFrom r ds ds.length 0 <;> cases carryB cs <;> simp
theorem toFleet_ev (ts : List S29) (cs : List S92) (ds : List S118) (p q r : Int) (ht : ts.length ≤ 4398046511104) (hc : cs.length ≤ 8796093022208) (hd : ds.length ≤ 8796093022208) : Ev (fun k => laws_toFleet.f k ts cs ds p q r) (ts.map convTask, cs.map convCarry, ds.map convDefect, p, q, r) := by
  simp only [laws_toFleet.f, laws_toClock.f, Option.bind_some]
  refine (toTaskS_ev ts ht).bind ?_
  refine (toCarryS_ev cs hc).bind ?_
  exact (toDefectS_ev ds hd).bind (f := fun _ t => some (ts.map convTask, cs.map convCarry, t, p, q, r)) (ev_now _)
theorem eqFleet_self (ts : List Tk) (cs : List Cr) (ds : List Df) (p q r : Int) (ht : ts.length ≤ 140737488355328) (hc : cs.length ≤ 140737488355328) (hd : ds.length ≤ 140737488355328) : Ev (fun k => laws_eqFleet.f k ts cs ds p q r ts cs ds p q r) true := by
  simp only [laws_eqFleet.f, laws_eqClock.f, if_true, Option.bind_some]
  refine (eqTaskS_self ts ht).bind ?_
  simp only [if_true]
  refine (eqCarryS_self cs hc).bind ?_
  simp only [if_true]
  exact (eqDefectS_self ds hd).bind (f := fun _ t => if t = true then some true else some false) (ev_now _)
theorem szFleet_ev (ts : List S29) (cs : List S92) (ds : List S118) (p q r : Int) (ht : ts.length ≤ 140737488355328) (htx : ∀ x ∈ ts, wTask x ≤ 140737488355328) (hc : cs.length ≤ 140737488355328) (hcx : ∀ x ∈ cs, wCarry x ≤ 140737488355328) (hd : ds.length ≤ 140737488355328) (hdx : ∀ x ∈ ds, wDefect x ≤ 140737488355328) :
    ∃ v, Ev (fun k => laws_szFleet.f k ts cs ds p q r 1048576) v := by
  simp only [laws_szFleet.f]
  obtain ⟨v1, h1, r1⟩ := szTaskS_ev ts 1048576 (by omega) (by omega) ht htx
  by_cases s1 : v1 < 0
  · refine ⟨-1, h1.bind ?_⟩
    simp only [if_pos s1]
    exact ev_now _
  · obtain ⟨v2, h2, r2⟩ := szCarryS_ev cs v1 (by omega) (by omega) hc hcx
    by_cases s2 : v2 < 0
    · refine ⟨-1, h1.bind ?_⟩
      simp only [if_neg s1]
      refine h2.bind ?_
      simp only [if_pos s2]
      exact ev_now _
    · obtain ⟨v3, h3, r3⟩ := szDefectS_ev ds v2 (by omega) (by omega) hd hdx
      by_cases s3 : v3 < 0
      · refine ⟨-1, h1.bind ?_⟩
        simp only [if_neg s1]
        refine h2.bind ?_
        simp only [if_neg s2]
        refine h3.bind ?_
        simp only [if_pos s3]
        exact ev_now _
      · refine ⟨v3, h1.bind ?_⟩
        simp only [if_neg s1]
        refine h2.bind ?_
        simp only [if_neg s2]
        refine h3.bind ?_
        simp only [if_neg s3]
        exact ev_now _
/-! A task's being due. -/
def leftI (b p : Int) : Int := mx (b - p) 0
def dueB (h c d p q r : Int) : Bool := (decide (h > 0) && decide (p ≥ h)) || ((decide (c > 0) && decide (q ≥ c)) || (decide (d > 0) && decide (r ≥ d)))
def due19 (n : ByteArray) (h c d p q r p' q' r' : Int) : Bool × Int × Int × Int × Bool :=
  if (taskB n h c d p q r && (clockB p' q' r' && behindB p q r p' q' r')) = true then (dueB h c d (p' - p) (q' - q) (r' - r), leftI h (p' - p), leftI c (q' - q), leftI d (r' - r), true) else (false, 0, 0, 0, false)
theorem spec_l19Left_eq (b p : Int) (h : 0 ≤ b ∧ b ≤ 100000) (hp : 0 ≤ p ∧ p ≤ 1000000) : spec_l19Left.f b p = some (leftI b p) := by
  simp only [spec_l19Left.f, spec_l1Max.f, w64 (n := b - p) (by omega) (by omega), leftI, mx]
  by_cases h0 : b = 0
  · rw [if_pos h0]; congr 1; split <;> omega
  · rw [if_neg h0]
    by_cases h1 : (0 : Int) > b - p
    · rw [if_pos h1, if_pos (by omega)]; rfl
    · rw [if_neg h1, if_neg (by omega)]; rfl
theorem spec_Due19_ev (n : ByteArray) (hn : n.size ≤ 140737488355328) (h c d p q r p' q' r' : Int) : Ev (fun k => spec_Due19.f k n h c d p q r p' q' r') (due19 n h c d p q r p' q' r') := by
  simp only [spec_Due19.f, spec_ClockOk_eq, spec_l19Behind.f, Option.bind_some]
  refine (spec_TaskOk_ev n hn h c d p q r).bind ?_
  have hj : ∀ b : Bool, (b = true ∨ (taskB n h c d p q r = true ∧ clockB p' q' r' = true ∧ behindB p q r p' q' r' = true)) → Ev (fun k => spec_Due19.j0 k b n h c d p q r p' q' r') (if b = true then (false, 0, 0, 0, false) else (dueB h c d (p' - p) (q' - q) (r' - r), leftI h (p' - p), leftI c (q' - q), leftI d (r' - r), true)) := by
    intro b hb
    refine ev_succ ?_
    cases b with
    | true => simpa only [spec_Due19.j0, if_true] using ev_now _
    | false =>
      obtain ⟨h1, h2, h3⟩ := hb.resolve_left (by simp)
      obtain ⟨-, ⟨a1, a2, a3⟩, -, a4⟩ := taskB_in h1
      have a4 := clockB_in a4
      have a5 := clockB_in h2
      simp only [behindB, Bool.and_eq_true, decide_eq_true_eq] at h3
      have hk : ∀ b : Bool, Ev (fun k => spec_Due19.j1 k (p' - p) (q' - q) (r' - r) b n h c d p q r) (b, leftI h (p' - p), leftI c (q' - q), leftI d (r' - r), true) := by
        intro b
        refine ev_succ ?_
        simp only [spec_Due19.j1, spec_l19Left_eq h (p' - p) a1 (by omega), spec_l19Left_eq c (q' - q) a2 (by omega), spec_l19Left_eq d (r' - r) a3 (by omega), Option.bind_some]
        exact ev_now _
      simp only [spec_Due19.j0, Bool.false_eq_true, if_false, w64 (n := p' - p) (by omega) (by omega), w64 (n := q' - q) (by omega) (by omega), w64 (n := r' - r) (by omega) (by omega)]
      refine Ev.congr (f := fun k => spec_Due19.j1 k (p' - p) (q' - q) (r' - r) (dueB h c d (p' - p) (q' - q) (r' - r)) n h c d p q r) (fun k => ?_) (hk _)
      unfold dueB
      by_cases x1 : h > 0 <;> by_cases x2 : p' - p ≥ h <;> by_cases x3 : c > 0 <;> by_cases x4 : q' - q ≥ c <;> by_cases x5 : d > 0 <;> simp only [x1, x2, x3, x4, x5, if_true, if_false, decide_true, decide_false, Bool.true_and, Bool.false_and, Bool.true_or, Bool.false_or]
  unfold due19
  cases h1 : taskB n h c d p q r with
  | false => simpa using hj true (.inl rfl)
  | true =>
    cases h2 : clockB p' q' r' with
    | false => simpa using hj true (.inl rfl)
    | true =>
      simp only [if_true, Bool.true_and]
      have e : (if p ≤ p' then (if q ≤ q' then some (decide (r ≤ r')) else some false) else some false) = some (behindB p q r p' q' r') := by
        unfold behindB
        by_cases x1 : p ≤ p' <;> by_cases x2 : q ≤ q' <;> simp [x1, x2]
      rw [e]
      simp only [Option.bind_some]
      cases h3 : behindB p q r p' q' r' with
      | false => simpa using hj true (.inl rfl)
      | true => simpa using hj false (.inr ⟨h1, h2, h3⟩)
theorem impl_isDue_ev (h c d p q r : Int) : Ev (fun k => impl_isDue.f k [h, c, d] [p, q, r]) (dueB h c d p q r) := by
  have e : (([h, c, d] : List Int).length : Int) = 3 := rfl
  have e' : (([p, q, r] : List Int).length : Int) = 3 := rfl
  have w1 : wrap64 ((0 : Int) + 1) = 1 := by unfold wrap64; omega
  have w2 : wrap64 ((1 : Int) + 1) = 2 := by unfold wrap64; omega
  have w3 : wrap64 ((2 : Int) + 1) = 3 := by unfold wrap64; omega
  have r0 : rd [h, c, d] 0 = h := rfl
  have r1 : rd [h, c, d] 1 = c := rfl
  have r2 : rd [h, c, d] 2 = d := rfl
  have s0 : rd [p, q, r] 0 = p := rfl
  have s1 : rd [p, q, r] 1 = q := rfl
  have s2 : rd [p, q, r] 2 = r := rfl
  simp only [impl_isDue.f, e]
  have k3 : Ev (fun k => impl_isDue.l0 k [p, q, r] [h, c, d] 3 3) false := by
    refine ev_succ ?_
    simp only [impl_isDue.l0, if_neg (show ¬ ((3 : Int) < 3) by omega)]
    exact ev_now _
  have k2 : Ev (fun k => impl_isDue.l0 k [p, q, r] [h, c, d] 3 2) (decide (d > 0) && decide (r ≥ d)) := by
    refine ev_succ ?_
    simp only [impl_isDue.l0, e, e', if_pos (show (2 : Int) < 3 by omega), if_pos (show (0 : Int) ≤ 2 by omega), r2, s2, w3]
    by_cases x1 : d > 0
    · by_cases x2 : r ≥ d
      · simpa only [x1, x2, if_true, decide_true, Bool.and_self] using ev_now _
      · simpa only [x1, x2, if_true, if_false, decide_true, decide_false, Bool.and_false] using k3
    · simpa only [x1, if_false, decide_false, Bool.false_and] using k3
  have k1 : Ev (fun k => impl_isDue.l0 k [p, q, r] [h, c, d] 3 1) ((decide (c > 0) && decide (q ≥ c)) || (decide (d > 0) && decide (r ≥ d))) := by
    refine ev_succ ?_
    simp only [impl_isDue.l0, e, e', if_pos (show (1 : Int) < 3 by omega), if_pos (show (0 : Int) ≤ 1 by omega), r1, s1, w2]
    by_cases x1 : c > 0
    · by_cases x2 : q ≥ c
      · simpa only [x1, x2, if_true, decide_true, Bool.and_self, Bool.true_or] using ev_now _
      · simpa only [x1, x2, if_true, if_false, decide_true, decide_false, Bool.and_false, Bool.false_or] using k2
    · simpa only [x1, if_false, decide_false, Bool.false_and, Bool.false_or] using k2
  refine ev_succ ?_
  simp only [impl_isDue.l0, e, e', if_pos (show (0 : Int) < 3 by omega), if_pos (show (0 : Int) ≤ 0 by omega), r0, s0, w1]
  unfold dueB
  by_cases x1 : h > 0
  · by_cases x2 : p ≥ h
    · simpa only [x1, x2, if_true, decide_true, Bool.and_self, Bool.true_or] using ev_now _
    · simpa only [x1, x2, if_true, if_false, decide_true, decide_false, Bool.and_false, Bool.false_or] using k1
  · simpa only [x1, if_false, decide_false, Bool.false_and, Bool.false_or] using k1
theorem impl_Due19_l (n : ByteArray) (h c d p q r a1 a2 a3 : Int) : Ev (fun k => impl_Due19.j0 k [a1, a2, a3] false n h c d p q r) (dueB h c d a1 a2 a3, mx (wrap64 (h - a1)) 0, mx (wrap64 (c - a2)) 0, mx (wrap64 (d - a3)) 0, true) := by
  have e : (([h, c, d] : List Int).length : Int) = 3 := rfl
  have e' : (([a1, a2, a3] : List Int).length : Int) = 3 := rfl
  have w1 : wrap64 ((0 : Int) + 1) = 1 := by unfold wrap64; omega
  have w2 : wrap64 ((1 : Int) + 1) = 2 := by unfold wrap64; omega
  have w3 : wrap64 ((2 : Int) + 1) = 3 := by unfold wrap64; omega
  have r0 : rd [h, c, d] 0 = h := rfl
  have r1 : rd [h, c, d] 1 = c := rfl
  have r2 : rd [h, c, d] 2 = d := rfl
  have s0 : rd [a1, a2, a3] 0 = a1 := rfl
  have s1 : rd [a1, a2, a3] 1 = a2 := rfl
  have s2 : rd [a1, a2, a3] 2 = a3 := rfl
  refine ev_succ ?_
  simp only [impl_Due19.j0, impl_Task_numbers.f, Option.bind_some, Bool.false_eq_true, if_false, e]
  refine ev_succ ?_
  simp only [impl_Due19.l0, e, e', if_pos (show (0 : Int) < 3 by omega), if_pos (show (0 : Int) ≤ 0 by omega), r0, s0, w1, if_pos (show ([] : List Int).length < 17592186044416 by simp), List.nil_append]
  generalize mx (wrap64 (h - a1)) 0 = b1
  refine ev_succ ?_
  simp only [impl_Due19.l0, e, e', if_pos (show (1 : Int) < 3 by omega), if_pos (show (0 : Int) ≤ 1 by omega), r1, s1, w2, if_pos (show ([b1] : List Int).length < 17592186044416 by simp), List.cons_append, List.nil_append]
  generalize mx (wrap64 (c - a2)) 0 = b2
  refine ev_succ ?_
  simp only [impl_Due19.l0, e, e', if_pos (show (2 : Int) < 3 by omega), if_pos (show (0 : Int) ≤ 2 by omega), r2, s2, w3, if_pos (show ([b1, b2] : List Int).length < 17592186044416 by simp), List.cons_append, List.nil_append]
  generalize mx (wrap64 (d - a3)) 0 = b3
  refine ev_succ ?_
  have eb : (([b1, b2, b3] : List Int).length : Int) = 3 := rfl
  simp only [impl_Due19.l0, if_neg (show ¬ ((3 : Int) < 3) by omega), impl_Task_numbers.f, Option.bind_some, eb, if_pos (show (0 : Int) < 3 by omega), if_pos (show (1 : Int) < 3 by omega), if_pos (show (2 : Int) < 3 by omega)]
  exact (impl_isDue_ev h c d a1 a2 a3).bind (f := fun _ t => some (t, rd [b1, b2, b3] 0, rd [b1, b2, b3] 1, rd [b1, b2, b3] 2, true)) (ev_now _)
theorem impl_Due19_ev (n : ByteArray) (hn : n.size ≤ 140737488355328) (h c d p q r p' q' r' : Int) : Ev (fun k => impl_Due19.f k n h c d p q r p' q' r') (due19 n h c d p q r p' q' r') := by
  simp only [impl_Due19.f]
  refine (impl_passed_ev p q r p' q' r').bind ?_
  refine (impl_TaskOk_ev n hn h c d p q r).bind ?_
  have hno : ∀ ys, Ev (fun k => impl_Due19.j0 k ys true n h c d p q r) (false, 0, 0, 0, false) := by
    intro ys
    refine ev_succ ?_
    simpa only [impl_Due19.j0, if_true] using ev_now _
  unfold due19
  cases h1 : taskB n h c d p q r with
  | false => simpa using hno _
  | true =>
    simp only [if_true, Bool.true_and]
    refine (impl_ClockOk_ev p' q' r').bind ?_
    cases h2 : clockB p' q' r' with
    | false => simpa using hno _
    | true =>
      simp only [if_true, Bool.true_and]
      obtain ⟨-, ⟨b1, b2, b3⟩, -, b4⟩ := taskB_in h1
      have b4 := clockB_in b4
      have b5 := clockB_in h2
      simp only [w64 (n := p' - p) (by omega) (by omega), w64 (n := q' - q) (by omega) (by omega), w64 (n := r' - r) (by omega) (by omega)]
      have e : decide (mn (mn (p' - p) (q' - q)) (r' - r) ≥ 0) = behindB p q r p' q' r' := by
        unfold behindB mn
        rw [Bool.eq_iff_iff]
        simp only [Bool.and_eq_true, decide_eq_true_eq]
        repeat' split
        all_goals omega
      rw [e]
      cases h3 : behindB p q r p' q' r' with
      | false => simpa using hno _
      | true =>
        simp only [behindB, Bool.and_eq_true, decide_eq_true_eq] at h3
        have := impl_Due19_l n h c d p q r (p' - p) (q' - q) (r' - r)
        rw [w64 (n := h - (p' - p)) (by omega) (by omega), w64 (n := c - (q' - q)) (by omega) (by omega), w64 (n := d - (r' - r)) (by omega) (by omega)] at this
        simpa only [Bool.not_true, if_true, leftI] using this
/-! The next task that is due. -/
abbrev Nx := ByteArray × Int × Bool
def dueAt (ts : List Tk) (p q r i : Int) : Bool × Int × Int × Int × Bool := due19 (rd_T33 ts i).f0 (rd_T33 ts i).f1 (rd_T33 ts i).f2 (rd_T33 ts i).f3 (rd_T33 ts i).f4.f0 (rd_T33 ts i).f4.f1 (rd_T33 ts i).f4.f2 p q r
def nxt1 (x : Tk) (D : Bool × Int × Int × Int × Bool) (s : Nx) : Nx :=
  if D.1 = true then s else if x.f2 > 0 then (if s.2.2 = true then (if D.2.2.1 < s.2.1 then (x.f0, D.2.2.1, true) else s) else (x.f0, D.2.2.1, true)) else s
def nxtFrom (ts : List Tk) (p q r : Int) : Nat → Nat → Nx → Nx
  | 0, _, s => s
  | d + 1, i, s => nxtFrom ts p q r d (i + 1) (nxt1 (rd_T33 ts (i : Int)) (dueAt ts p q r (i : Int)) s)
def next19 (ts : List Tk) (cs : List Cr) (ds : List Df) (p q r : Int) : Nx := if fleetB ts cs ds p q r = true then nxtFrom ts p q r ts.length 0 ((⟨#[]⟩ : ByteArray), 0, false) else ((⟨#[]⟩ : ByteArray), 0, false)
theorem tasksFrom_at {β : Int → Int → Int → Bool} {xs : List Tk} (d : Nat) : ∀ i, tasksFrom β xs d i = true → ∀ j : Nat, i ≤ j → j < i + d → taskAt β xs (j : Int) = true := by
  induction d with
  | zero => intro i _ j h1 h2; omega
  | succ d ih =>
    intro i h j h1 h2
    simp only [tasksFrom, Bool.and_eq_true] at h
    by_cases e : j = i
    · subst e; exact h.1
    · exact ih (i + 1) h.2 j (by omega) (by omega)
theorem fleet_name {ts : List Tk} {cs : List Cr} {ds : List Df} {p q r : Int} (h : fleetB ts cs ds p q r = true) (i : Nat) (hi : i < ts.length) : (rd_T33 ts (i : Int)).f0.toList ≠ [] := by
  simp only [fleetB, Bool.and_eq_true] at h
  have := tasksFrom_at ts.length 0 h.2.2.2.2.1 i (by omega) (by omega)
  simp only [taskAt, Bool.and_eq_true] at this
  have hn := (taskB_in this.1).1
  simp only [nameB, Bool.and_eq_true, inB_iff] at hn
  intro e
  rw [ByteArray.toList_eq] at e
  have hl : (rd_T33 ts (i : Int)).f0.data.toList.length = (rd_T33 ts (i : Int)).f0.size := by rw [Array.length_toList]; rfl
  rw [e] at hl
  simp only [List.length_nil] at hl
  omega
section
variable (ts : List Tk) (cs : List Cr) (ds : List Df) (p q r : Int) (ht : ts.length ≤ 140737488355328) (htx : ∀ x ∈ ts, x.f0.size ≤ 140737488355328) (hc : cs.length ≤ 140737488355328) (hcx : ∀ x ∈ cs, x.f0.size ≤ 140737488355328) (hn : ds.length ≤ 140737488355328) (hx : ∀ x ∈ ds, x.f0.size ≤ 140737488355328)
include ht htx hc hcx hn hx
theorem spec_NextDue_l (hF : fleetB ts cs ds p q r = true) (d : Nat) : ∀ (i : Nat) (s : Nx), i + d = ts.length → Ev (fun k => spec_NextDue.l0 k s.1 s.2.1 s.2.2 (i : Int) ts cs ds p q r) (nxtFrom ts p q r d i s) := by
  have hf := spec_FleetOk_ev ts cs ds p q r ht htx hc hcx hn hx
  rw [hF] at hf
  induction d with
  | zero =>
    intro i s h
    refine ev_succ ?_
    simp only [spec_NextDue.l0, if_neg (show ¬ ((i : Int) < (ts.length : Int)) by omega)]
    refine ev_succ ?_
    simp only [spec_NextDue.j1, Bool.false_eq_true, if_false]
    exact ev_now _
  | succ d ih =>
    intro i s h
    have hlt : i < ts.length := by omega
    have hs : (rd_T33 ts (i : Int)).f0.size ≤ 140737488355328 := by rw [rdiTask hlt]; exact htx _ (List.getElem_mem hlt)
    have hD := spec_Due19_ev _ hs (rd_T33 ts (i : Int)).f1 (rd_T33 ts (i : Int)).f2 (rd_T33 ts (i : Int)).f3 (rd_T33 ts (i : Int)).f4.f0 (rd_T33 ts (i : Int)).f4.f1 (rd_T33 ts (i : Int)).f4.f2 p q r
    refine ev_succ ?_
    simp only [spec_NextDue.l0, if_pos (show ((i : Int) < (ts.length : Int)) by omega)]
    refine hf.bind ?_
    refine ev_succ ?_
    simp only [spec_NextDue.j1, if_true, if_pos (show (0 : Int) ≤ (i : Int) by omega), if_pos (show ((i : Int) < (ts.length : Int)) by omega)]
    refine hD.bind ?_
    simp only [nxtFrom]
    change Ev _ (nxtFrom ts p q r d (i + 1) (nxt1 (rd_T33 ts (i : Int)) (due19 (rd_T33 ts (i : Int)).f0 (rd_T33 ts (i : Int)).f1 (rd_T33 ts (i : Int)).f2 (rd_T33 ts (i : Int)).f3 (rd_T33 ts (i : Int)).f4.f0 (rd_T33 ts (i : Int)).f4.f1 (rd_T33 ts (i : Int)).f4.f2 p q r) s))
    generalize due19 (rd_T33 ts (i : Int)).f0 (rd_T33 ts (i : Int)).f1 (rd_T33 ts (i : Int)).f2 (rd_T33 ts (i : Int)).f3 (rd_T33 ts (i : Int)).f4.f0 (rd_T33 ts (i : Int)).f4.f1 (rd_T33 ts (i : Int)).f4.f2 p q r = D
    have hj : ∀ b : Bool, Ev (fun k => spec_NextDue.j2 k s.1 s.2.1 s.2.2 (i : Int) b ts cs ds p q r D.2.1 D.2.2.1 D.2.2.2.1) (nxtFrom ts p q r d (i + 1) (if b = true then ((rd_T33 ts (i : Int)).f0, D.2.2.1, true) else s)) := by
      intro b
      refine ev_succ ?_
      cases b with
      | true =>
        simp only [spec_NextDue.j2, if_true, if_pos (show (0 : Int) ≤ (i : Int) by omega), if_pos (show ((i : Int) < (ts.length : Int)) by omega), w64s i (by omega)]
        exact ih (i + 1) ((rd_T33 ts (i : Int)).f0, D.2.2.1, true) (by omega)
      | false =>
        simp only [spec_NextDue.j2, Bool.false_eq_true, if_false, w64s i (by omega)]
        exact ih (i + 1) s (by omega)
    unfold nxt1
    by_cases d1 : D.1 = true
    · simp only [if_pos d1]
      simpa using hj false
    · simp only [if_neg d1]
      by_cases d2 : (rd_T33 ts (i : Int)).f2 > 0
      · simp only [if_pos d2]
        by_cases d3 : s.2.2 = true
        · simp only [if_pos d3]
          by_cases d4 : D.2.2.1 < s.2.1
          · simp only [if_pos d4]
            simpa [d4] using hj true
          · simp only [if_neg d4]
            simpa [d4] using hj false
        · simp only [if_neg d3]
          simpa using hj true
      · simp only [if_neg d2]
        simpa using hj false
theorem spec_NextDue_ev : Ev (fun k => spec_NextDue.f k ts cs ds p q r) (next19 ts cs ds p q r) := by
  simp only [spec_NextDue.f]
  unfold next19
  cases hF : fleetB ts cs ds p q r with
  | true =>
    rw [if_pos rfl]
    exact spec_NextDue_l ts cs ds p q r ht htx hc hcx hn hx hF ts.length 0 ((⟨#[]⟩ : ByteArray), 0, false) (by omega)
  | false =>
    rw [if_neg (by decide)]
    have hf := spec_FleetOk_ev ts cs ds p q r ht htx hc hcx hn hx
    rw [hF] at hf
    have hj : Ev (fun k => spec_NextDue.j1 k (⟨#[]⟩ : ByteArray) 0 false 0 false ts cs ds p q r) ((⟨#[]⟩ : ByteArray), 0, false) := by
      refine ev_succ ?_
      simp only [spec_NextDue.j1, Bool.false_eq_true, if_false]
      exact ev_now _
    refine ev_succ ?_
    by_cases h0 : (0 : Int) < (ts.length : Int)
    · simp only [spec_NextDue.l0, if_pos h0]
      exact hf.bind hj
    · simp only [spec_NextDue.l0, if_neg h0]
      exact hj
omit hc hcx hn hx in
theorem impl_NextDue_l (hF : fleetB ts cs ds p q r = true) (d : Nat) : ∀ (i : Nat) (s : Nx), i + d = ts.length → s.2.2 = (s.1.toList != ([] : List UInt8)) → Ev (fun k => impl_NextDue.l0 k s.1 s.2.1 ts (ts.length : Int) (i : Int) ts cs ds p q r) (nxtFrom ts p q r d i s) := by
  induction d with
  | zero =>
    intro i s h ho
    refine ev_succ ?_
    simp only [impl_NextDue.l0, if_neg (show ¬ ((i : Int) < (ts.length : Int)) by omega)]
    refine ev_some ?_
    rw [← ho]
    rfl
  | succ d ih =>
    intro i s h ho
    have hlt : i < ts.length := by omega
    have hne := fleet_name hF i hlt
    have hs : (rd_T33 ts (i : Int)).f0.size ≤ 140737488355328 := by rw [rdiTask hlt]; exact htx _ (List.getElem_mem hlt)
    have hD := impl_Due19_ev _ hs (rd_T33 ts (i : Int)).f1 (rd_T33 ts (i : Int)).f2 (rd_T33 ts (i : Int)).f3 (rd_T33 ts (i : Int)).f4.f0 (rd_T33 ts (i : Int)).f4.f1 (rd_T33 ts (i : Int)).f4.f2 p q r
    refine ev_succ ?_
    simp only [impl_NextDue.l0, if_pos (show ((i : Int) < (ts.length : Int)) by omega), if_pos (show (0 : Int) ≤ (i : Int) by omega)]
    refine hD.bind ?_
    simp only [nxtFrom]
    change Ev _ (nxtFrom ts p q r d (i + 1) (nxt1 (rd_T33 ts (i : Int)) (due19 (rd_T33 ts (i : Int)).f0 (rd_T33 ts (i : Int)).f1 (rd_T33 ts (i : Int)).f2 (rd_T33 ts (i : Int)).f3 (rd_T33 ts (i : Int)).f4.f0 (rd_T33 ts (i : Int)).f4.f1 (rd_T33 ts (i : Int)).f4.f2 p q r) s))
    generalize due19 (rd_T33 ts (i : Int)).f0 (rd_T33 ts (i : Int)).f1 (rd_T33 ts (i : Int)).f2 (rd_T33 ts (i : Int)).f3 (rd_T33 ts (i : Int)).f4.f0 (rd_T33 ts (i : Int)).f4.f1 (rd_T33 ts (i : Int)).f4.f2 p q r = D
    have hj : ∀ b : Bool, Ev (fun k => impl_NextDue.j1 k s.1 s.2.1 ts (ts.length : Int) (i : Int) b ts cs ds p q r (rd_T33 ts (i : Int)).f0 (rd_T33 ts (i : Int)).f1 (rd_T33 ts (i : Int)).f2 (rd_T33 ts (i : Int)).f3 (rd_T33 ts (i : Int)).f4.f0 (rd_T33 ts (i : Int)).f4.f1 (rd_T33 ts (i : Int)).f4.f2 D.2.1 D.2.2.1 D.2.2.2.1) (nxtFrom ts p q r d (i + 1) (if b = true then ((rd_T33 ts (i : Int)).f0, D.2.2.1, true) else s)) := by
      intro b
      refine ev_succ ?_
      cases b with
      | true =>
        simp only [impl_NextDue.j1, if_true, w64s i (by omega)]
        exact ih (i + 1) ((rd_T33 ts (i : Int)).f0, D.2.2.1, true) (by omega) (by simp only; exact (bne_iff_ne.2 hne).symm)
      | false =>
        simp only [impl_NextDue.j1, Bool.false_eq_true, if_false, w64s i (by omega)]
        exact ih (i + 1) s (by omega) ho
    unfold nxt1
    by_cases d2 : (rd_T33 ts (i : Int)).f2 > 0
    · simp only [if_pos d2]
      by_cases d1 : D.1 = true
      · simp only [if_pos d1]
        simpa using hj false
      · simp only [if_neg d1]
        by_cases d3 : s.1.toList = ([] : List UInt8)
        · have e3 : s.2.2 = false := by rw [ho, d3]; rfl
          simp only [if_pos d3, e3, Bool.false_eq_true, if_false]
          simpa using hj true
        · have e3 : s.2.2 = true := by rw [ho]; exact bne_iff_ne.2 d3
          simp only [if_neg d3, e3, if_true]
          by_cases d4 : D.2.2.1 < s.2.1
          · simp only [if_pos d4]
            simpa [d4] using hj true
          · simp only [if_neg d4]
            simpa [d4] using hj false
    · simp only [if_neg d2, ite_self]
      simpa using hj false
theorem impl_NextDue_ev : Ev (fun k => impl_NextDue.f k ts cs ds p q r) (next19 ts cs ds p q r) := by
  simp only [impl_NextDue.f]
  refine (impl_FleetOk_ev ts cs ds p q r ht htx hc hcx hn hx).bind ?_
  unfold next19
  cases hF : fleetB ts cs ds p q r with
  | true =>
    simp only [if_true]
    exact impl_NextDue_l ts cs ds p q r ht htx hF ts.length 0 ((⟨#[]⟩ : ByteArray), 0, false) (by omega) (by rw [ByteArray.toList_eq]; rfl)
  | false =>
    simp only [Bool.false_eq_true, if_false]
    exact ev_now _
end
theorem FnExactNextDue (l0_0 : List (S29)) (l0_1 : List (S92)) (l0_2 : List (S118)) (a0_3 : Int) (a0_4 : Int) (a0_5 : Int) (g0 : ((l0_0.length * 64 ≤ 140737488351232 ∧ ∀ x ∈ l0_0, (x.f0.size ≤ 140737488351232 ∧ (Lit.int .i64 x.f1).wf = true ∧ (Lit.int .i64 x.f2).wf = true ∧ (Lit.int .i64 x.f3).wf = true ∧ (Lit.int .i64 x.f4.f0).wf = true ∧ (Lit.int .i64 x.f4.f1).wf = true ∧ (Lit.int .i64 x.f4.f2).wf = true)) ∧ (l0_1.length * 32 ≤ 140737488351232 ∧ ∀ x ∈ l0_1, (x.f0.size ≤ 140737488351232 ∧ (Lit.int .i64 x.f1).wf = true ∧ (Lit.int .i64 x.f2).wf = true)) ∧ (l0_2.length * 32 ≤ 140737488351232 ∧ ∀ x ∈ l0_2, (x.f0.size ≤ 140737488351232 ∧ (Lit.int .i64 x.f1).wf = true ∧ (Lit.int .i64 x.f2).wf = true)) ∧ ((Lit.int .i64 a0_3).wf = true ∧ (Lit.int .i64 a0_4).wf = true ∧ (Lit.int .i64 a0_5).wf = true))) : ∃ k, laws_FnExactNextDue.f k l0_0 l0_1 l0_2 a0_3 a0_4 a0_5 = some true := by
  obtain ⟨⟨ht0, ht1⟩, ⟨hc0, hc1⟩, ⟨hd0, hd1⟩, hq⟩ := g0
  have ht : l0_0.length ≤ 4398046511104 := by omega
  have hc : l0_1.length ≤ 8796093022208 := by omega
  have hd : l0_2.length ≤ 8796093022208 := by omega
  have htx : ∀ x ∈ l0_0, wTask x ≤ 140737488355328 := fun x hx => by have := (ht1 x hx).1; unfold wTask; omega
  have hcx : ∀ x ∈ l0_1, wCarry x ≤ 140737488355328 := fun x hx => by have := (hc1 x hx).1; unfold wCarry; omega
  have hdx : ∀ x ∈ l0_2, wDefect x ≤ 140737488355328 := fun x hx => by have := (hd1 x hx).1; unfold wDefect; omega
  have mt : ∀ x ∈ l0_0.map convTask, x.f0.size ≤ 140737488355328 := by
    intro x h
    obtain ⟨y, hy, rfl⟩ := List.mem_map.1 h
    exact htx y hy
  have mc : ∀ x ∈ l0_1.map convCarry, x.f0.size ≤ 140737488355328 := by
    intro x h
    obtain ⟨y, hy, rfl⟩ := List.mem_map.1 h
    exact hcx y hy
  have md : ∀ x ∈ l0_2.map convDefect, x.f0.size ≤ 140737488355328 := by
    intro x h
    obtain ⟨y, hy, rfl⟩ := List.mem_map.1 h
    exact hdx y hy
  have lt : (l0_0.map convTask).length ≤ 140737488355328 := by rw [List.length_map]; omega
  have lc : (l0_1.map convCarry).length ≤ 140737488355328 := by rw [List.length_map]; omega
  have ld : (l0_2.map convDefect).length ≤ 140737488355328 := by rw [List.length_map]; omega
  refine Ev.rounds ?_
  simp only [laws_FnExactNextDue.f]
  obtain ⟨v, hv⟩ := szFleet_ev l0_0 l0_1 l0_2 a0_3 a0_4 a0_5 (by omega) htx (by omega) hcx (by omega) hdx
  refine hv.bind ?_
  by_cases hs : v < 0
  · simp only [if_pos hs]
    exact ev_now _
  · simp only [if_neg hs]
    refine (toFleet_ev l0_0 l0_1 l0_2 a0_3 a0_4 a0_5 ht hc hd).bind ?_
    refine (spec_NextDue_ev _ _ _ a0_3 a0_4 a0_5 lt mt lc mc ld md).bind ?_
    refine (toFleet_ev l0_0 l0_1 l0_2 a0_3 a0_4 a0_5 ht hc hd).bind ?_
    refine (impl_NextDue_ev _ _ _ a0_3 a0_4 a0_5 lt mt lc mc ld md).bind ?_
    simp only [if_true, bne_self_eq_false]
    refine ev_succ ?_
    simp only [laws_FnExactNextDue.j0, Bool.false_eq_true, if_false]
    refine (toFleet_ev l0_0 l0_1 l0_2 a0_3 a0_4 a0_5 ht hc hd).bind ?_
    exact (eqFleet_self _ _ _ a0_3 a0_4 a0_5 lt lc ld).bind (f := fun _ t => if t = true then some true else some false) (ev_now _)
end Go.Proofs.Ytbgdibbgngpggaa.Pure
