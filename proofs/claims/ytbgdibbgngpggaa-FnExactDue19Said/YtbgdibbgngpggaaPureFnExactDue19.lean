/- The program's Due19 answers as the reference's at every argument. No condition. -/
import Derived.Test.YtbgdibbgngpggaaPFnExactDue19x6
import Derived.Test.YtbgdibbgngpggaaBase
set_option linter.unusedVariables false
set_option linter.unusedSimpArgs false
namespace Go.Proofs.Ytbgdibbgngpggaa.Pure
open Go.RowKit Go.Proofs.Ytbgdibbgngpggaa.PFnExactDue19 Go.Proofs.Ytbgdibbgngpggaa.Base Go.Proofs.YtbgdibbgngpggaaW.PrintWords Go.Proofs.YtbgdibbgngpggaaW.PrintLast
theorem impl_in_eq (a b c : Int) : impl_in.f a b c = some (inB a b c) := in_form a b c
theorem spec_in_eq (a b c : Int) : spec_l1In.f a b c = some (inB a b c) := in_form a b c
theorem impl_allIn_l (b c : Int) (xs : List Int) (hn : xs.length < 4611686018427387904) (d : Nat) : ∀ i : Nat, i + d = xs.length →
    Ev (fun k => impl_allIn.l0 k b c xs (xs.length : Int) (i : Int)) (allB (xs.drop i) b c) := by
  induction d with
  | zero =>
    intro i h
    refine ev_succ ?_
    simp only [impl_allIn.l0, if_neg (show ¬ ((i : Int) < (xs.length : Int)) by omega)]
    rw [List.drop_of_length_le (by omega)]
    exact ev_now _
  | succ d ih =>
    intro i h
    refine ev_succ ?_
    simp only [impl_allIn.l0, if_pos (show ((i : Int) < (xs.length : Int)) by omega), if_pos (show (0 : Int) ≤ (i : Int) by omega), impl_in_eq, Option.bind_some, w64s i (by omega)]
    rw [drop_rd (show i < xs.length by omega)]
    cases hb : inB (rd xs (i : Int)) b c with
    | true => simpa [allB, hb] using ih (i + 1) (by omega)
    | false => simpa [allB, hb] using ev_now false
theorem impl_allIn_ev (b c : Int) (xs : List Int) (hn : xs.length < 4611686018427387904) : Ev (fun k => impl_allIn.f k xs b c) (allB xs b c) := by
  simpa [impl_allIn.f] using impl_allIn_l b c xs hn xs.length 0 (by omega)
/-! Names: 1 to 20 letters, digits and dashes. -/
def Alnum (c : Int) : Prop := (97 ≤ c ∧ c ≤ 122) ∨ (65 ≤ c ∧ c ≤ 90) ∨ (48 ≤ c ∧ c ≤ 57)
instance (c : Int) : Decidable (Alnum c) := by unfold Alnum; exact inferInstance
def charB (c : Int) : Bool := decide (Alnum c) || (c == 45)
def charsB (s : ByteArray) : Nat → Nat → Bool
  | 0, _ => true
  | d + 1, i => charB (bt s (i : Int)) && charsB s d (i + 1)
def nameB (s : ByteArray) : Bool := charsB s s.size 0 && inB (s.size : Int) 1 20
theorem impl_isName_l (s : ByteArray) (hn : s.size ≤ 140737488355328) (d : Nat) : ∀ i : Nat, i + d = s.size → Ev (fun k => impl_isName.l0 k s (s.size : Int) (i : Int)) (charsB s d i && inB (s.size : Int) 1 20) := by
  induction d with
  | zero =>
    intro i h
    refine ev_succ ?_
    simp only [impl_isName.l0, if_neg (show ¬ ((i : Int) < (s.size : Int)) by omega), impl_in_eq, Option.bind_some, charsB, Bool.true_and]
    exact ev_now _
  | succ d ih =>
    intro i h
    have hi := ih (i + 1) (by omega)
    refine ev_succ ?_
    simp only [impl_isName.l0, if_pos (show ((i : Int) < (s.size : Int)) by omega), if_pos (show (0 : Int) ≤ (i : Int) by omega)]
    unfold charsB
    generalize bt s (i : Int) = c
    refine Ev.congr (f := fun k => impl_isName.j1 k s (s.size : Int) (i : Int) (!charB c)) (fun k => ?_) ?_
    · by_cases hc : Alnum c
      · rw [show charB c = true by simp [charB, hc]]
        unfold Alnum at hc
        repeat' split
        all_goals first | rfl | (exfalso; omega)
      · rw [show charB c = (c == 45) by simp [charB, hc]]
        unfold Alnum at hc
        repeat' split
        all_goals first | rfl | (exfalso; omega)
    · refine ev_succ ?_
      cases charB c with
      | true => simpa only [impl_isName.j1, Bool.not_true, Bool.false_eq_true, if_false, w64s i (show i < 9223372036854775807 by omega), Bool.true_and] using hi
      | false => simpa only [impl_isName.j1, Bool.not_false, if_true, Bool.false_and] using ev_now false
theorem impl_isName_ev (s : ByteArray) (hn : s.size ≤ 140737488355328) : Ev (fun k => impl_isName.f k s) (nameB s) := by
  simpa [impl_isName.f, nameB] using impl_isName_l s hn s.size 0 (by omega)
theorem spec_l1Name_l (s : ByteArray) (hn : s.size ≤ 140737488355328) (d : Nat) : ∀ i : Nat, i + d = s.size → Ev (fun k => spec_l1Name.l0 k s (i : Int)) (charsB s d i && inB (s.size : Int) 1 20) := by
  induction d with
  | zero =>
    intro i h
    refine ev_succ ?_
    simp only [spec_l1Name.l0, if_neg (show ¬ ((i : Int) < (s.size : Int)) by omega), spec_in_eq, Option.bind_some, charsB, Bool.true_and]
    exact ev_now _
  | succ d ih =>
    intro i h
    have hi := ih (i + 1) (by omega)
    refine ev_succ ?_
    have hb := bt_range s (i : Int)
    simp only [spec_l1Name.l0, if_pos (show ((i : Int) < (s.size : Int)) by omega), if_pos (show (0 : Int) ≤ (i : Int) by omega), spec_in_eq, Option.bind_some, w64 (show -9223372036854775808 ≤ bt s (i : Int) by omega) (show bt s (i : Int) ≤ 9223372036854775807 by omega)]
    unfold charsB
    generalize bt s (i : Int) = c
    refine Ev.congr (f := fun k => spec_l1Name.j1 k s (i : Int) (!charB c)) (fun k => ?_) ?_
    · by_cases hc : Alnum c
      · rw [show charB c = true by simp [charB, hc]]
        unfold Alnum at hc
        repeat' split
        all_goals first | rfl | (rename_i a1 a2 a3; rw [inB_iff] at a1 a2 a3; exfalso; omega)
      · rw [show charB c = (c == 45) by simp [charB, hc]]
        unfold Alnum at hc
        have n1 : inB c 97 122 = false := by rw [Bool.eq_false_iff, ne_eq, inB_iff]; omega
        have n2 : inB c 65 90 = false := by rw [Bool.eq_false_iff, ne_eq, inB_iff]; omega
        have n3 : inB c 48 57 = false := by rw [Bool.eq_false_iff, ne_eq, inB_iff]; omega
        simp only [n1, n2, n3, Bool.false_eq_true, if_false]
        rfl
    · refine ev_succ ?_
      cases charB c with
      | true => simpa only [spec_l1Name.j1, Bool.not_true, Bool.false_eq_true, if_false, w64s i (show i < 9223372036854775807 by omega), Bool.true_and] using hi
      | false => simpa only [spec_l1Name.j1, Bool.not_false, if_true, Bool.false_and] using ev_now false
theorem spec_l1Name_ev (s : ByteArray) (hn : s.size ≤ 140737488355328) : Ev (fun k => spec_l1Name.f k s) (nameB s) := by
  simpa [spec_l1Name.f, nameB] using spec_l1Name_l s hn s.size 0 (by omega)
def clockB (a b c : Int) : Bool := inB a 0 1000000 && (inB b 0 1000000 && inB c 0 1000000)
theorem clockB_in {a b c : Int} (h : clockB a b c = true) : (0 ≤ a ∧ a ≤ 1000000) ∧ (0 ≤ b ∧ b ≤ 1000000) ∧ 0 ≤ c ∧ c ≤ 1000000 := by
  simp [clockB, inB] at h
  omega
theorem impl_ClockOk_ev (a b c : Int) : Ev (fun k => impl_ClockOk.f k a b c) (clockB a b c) := by
  simp only [impl_ClockOk.f, impl_Clock_numbers.f, Option.bind_some]
  refine (impl_allIn_ev 0 1000000 [a, b, c] (by simp)).bind (f := fun _ t => some t) (ev_some ?_)
  simp [allB, clockB]
theorem spec_ClockOk_eq (a b c : Int) : spec_ClockOk.f a b c = some (clockB a b c) := by
  simp only [spec_ClockOk.f, spec_in_eq, Option.bind_some, clockB]
  cases inB a 0 1000000 <;> cases inB b 0 1000000 <;> simp
def taskB (n : ByteArray) (h c d p q r : Int) : Bool := nameB n && (inB h 0 100000 && (inB c 0 100000 && (inB d 0 100000 && (decide (h + c + d > 0) && clockB p q r))))
theorem taskB_in {n : ByteArray} {h c d p q r : Int} (k : taskB n h c d p q r = true) : nameB n = true ∧ ((0 ≤ h ∧ h ≤ 100000) ∧ (0 ≤ c ∧ c ≤ 100000) ∧ 0 ≤ d ∧ d ≤ 100000) ∧ (h + c + d > 0) ∧ clockB p q r = true := by
  simp only [taskB, Bool.and_eq_true, inB_iff, decide_eq_true_eq] at k
  exact ⟨k.1, ⟨k.2.1, k.2.2.1, k.2.2.2.1⟩, k.2.2.2.2.1, k.2.2.2.2.2⟩
theorem spec_TaskOk_ev (n : ByteArray) (hn : n.size ≤ 140737488355328) (h c d p q r : Int) : Ev (fun k => spec_TaskOk.f k n h c d p q r) (taskB n h c d p q r) := by
  simp only [spec_TaskOk.f, spec_in_eq, spec_ClockOk_eq, Option.bind_some]
  refine (spec_l1Name_ev n hn).bind ?_
  unfold taskB
  cases nameB n with
  | false => simpa using ev_now false
  | true =>
    cases h1 : inB h 0 100000 with
    | false => simpa using ev_now false
    | true =>
      cases h2 : inB c 0 100000 with
      | false => simpa using ev_now false
      | true =>
        cases h3 : inB d 0 100000 with
        | false => simpa using ev_now false
        | true =>
          rw [inB_iff] at h1 h2 h3
          simp only [if_true, Bool.true_and, w64 (show -9223372036854775808 ≤ h + c by omega) (by omega), w64 (show -9223372036854775808 ≤ h + c + d by omega) (by omega)]
          by_cases h4 : h + c + d > 0
          · simp only [if_pos h4, h4, decide_true, Bool.true_and]; exact ev_now _
          · simp only [if_neg h4, h4, decide_false, Bool.false_and]; exact ev_now _
theorem slices_Max_ev (a b c : Int) : Ev (fun k => slices_Max_int_int.f k [a, b, c]) (mx (mx a b) c) := by
  have e : (([a, b, c] : List Int).length : Int) = 3 := rfl
  simp only [slices_Max_int_int.f, e, if_neg (show ¬ ((3 : Int) < 1) by omega), if_pos (show (0 : Int) < 3 by omega)]
  refine ev_succ ?_
  simp only [slices_Max_int_int.l0, e, if_pos (show (1 : Int) < 3 by omega), if_pos (show (0 : Int) ≤ 1 by omega), w64 (n := (1 : Int) + 1) (by omega) (by omega)]
  refine ev_succ ?_
  simp only [slices_Max_int_int.l0, e, if_pos (show (1 : Int) + 1 < 3 by omega), if_pos (show (0 : Int) ≤ 1 + 1 by omega), w64 (n := (1 : Int) + 1 + 1) (by omega) (by omega)]
  refine ev_succ ?_
  simp only [slices_Max_int_int.l0, e, if_neg (show ¬ ((1 : Int) + 1 + 1 < 3) by omega)]
  exact ev_now _
theorem impl_TaskOk_ev (n : ByteArray) (hn : n.size ≤ 140737488355328) (h c d p q r : Int) : Ev (fun k => impl_TaskOk.f k n h c d p q r) (taskB n h c d p q r) := by
  simp only [impl_TaskOk.f, impl_Task_numbers.f, Option.bind_some]
  refine (impl_isName_ev n hn).bind ?_
  unfold taskB
  cases nameB n with
  | false => simpa using ev_now false
  | true =>
    simp only [if_true, Bool.true_and]
    refine (impl_allIn_ev 0 100000 [h, c, d] (by simp)).bind ?_
    have e : allB [h, c, d] 0 100000 = (inB h 0 100000 && (inB c 0 100000 && inB d 0 100000)) := by simp [allB]
    rw [e]
    cases h1 : inB h 0 100000 with
    | false => simpa using ev_now false
    | true =>
      cases h2 : inB c 0 100000 with
      | false => simpa using ev_now false
      | true =>
        cases h3 : inB d 0 100000 with
        | false => simpa using ev_now false
        | true =>
          rw [inB_iff] at h1 h2 h3
          simp only [if_true, Bool.and_self, Bool.true_and]
          refine (slices_Max_ev h c d).bind ?_
          by_cases h4 : h + c + d > 0
          · simp only [if_pos (show mx (mx h c) d > 0 by unfold mx; repeat' split <;> omega), h4, decide_true, Bool.true_and]
            exact (impl_ClockOk_ev p q r).bind (f := fun _ t => some t) (ev_now _)
          · simp only [if_neg (show ¬ mx (mx h c) d > 0 by unfold mx; repeat' split <;> omega), h4, decide_false, Bool.false_and]
            exact ev_now _
/-! A task's being due. -/
def leftI (b p : Int) : Int := mx (b - p) 0
def dueB (h c d p q r : Int) : Bool := (decide (h > 0) && decide (p ≥ h)) || ((decide (c > 0) && decide (q ≥ c)) || (decide (d > 0) && decide (r ≥ d)))
def behindB (p q r p' q' r' : Int) : Bool := decide (p ≤ p') && (decide (q ≤ q') && decide (r ≤ r'))
def due19 (n : ByteArray) (h c d p q r p' q' r' : Int) : Bool × Int × Int × Int × Bool :=
  if (taskB n h c d p q r && (clockB p' q' r' && behindB p q r p' q' r')) = true then (dueB h c d (p' - p) (q' - q) (r' - r), leftI h (p' - p), leftI c (q' - q), leftI d (r' - r), true) else (false, 0, 0, 0, false)
theorem spec_l19Left_eq (b p : Int) (h : 0 ≤ b ∧ b ≤ 100000) (hp : 0 ≤ p ∧ p ≤ 1000000) : spec_l19Left.f b p = some (leftI b p) := by
  simp only [spec_l19Left.f, spec_l1Max.f, w64 (n := b - p) (by omega) (by omega), leftI, mx]
  by_cases h0 : b = 0
  · rw [if_pos h0]; congr 1; split <;> omega
  · rw [if_neg h0]
    by_cases h1 : (0 : Int) > b - p
    · rw [if_pos h1, if_pos (by omega)]; rfl
    · rw [if_neg h1, if_neg (by omega)]; rfl
theorem spec_Due19_ev (n : ByteArray) (hn : n.size ≤ 140737488355328) (h c d p q r p' q' r' : Int) : Ev (fun k => spec_Due19.f k n h c d p q r p' q' r') (due19 n h c d p q r p' q' r') := by
  simp only [spec_Due19.f, spec_ClockOk_eq, spec_l19Behind.f, Option.bind_some]
  refine (spec_TaskOk_ev n hn h c d p q r).bind ?_
  have hj : ∀ b : Bool, (b = true ∨ (taskB n h c d p q r = true ∧ clockB p' q' r' = true ∧ behindB p q r p' q' r' = true)) → Ev (fun k => spec_Due19.j0 k b n h c d p q r p' q' r') (if b = true then (false, 0, 0, 0, false) else (dueB h c d (p' - p) (q' - q) (r' - r), leftI h (p' - p), leftI c (q' - q), leftI d (r' - r), true)) := by
    intro b hb
    refine ev_succ ?_
    cases b with
    | true => simpa only [spec_Due19.j0, if_true] using ev_now _
    | false =>
      obtain ⟨h1, h2, h3⟩ := hb.resolve_left (by simp)
      obtain ⟨-, ⟨a1, a2, a3⟩, -, a4⟩ := taskB_in h1
      have a4 := clockB_in a4
      have a5 := clockB_in h2
      simp only [behindB, Bool.and_eq_true, decide_eq_true_eq] at h3
      have hk : ∀ b : Bool, Ev (fun k => spec_Due19.j1 k (p' - p) (q' - q) (r' - r) b n h c d p q r) (b, leftI h (p' - p), leftI c (q' - q), leftI d (r' - r), true) := by
        intro b
        refine ev_succ ?_
        simp only [spec_Due19.j1, spec_l19Left_eq h (p' - p) a1 (by omega), spec_l19Left_eq c (q' - q) a2 (by omega), spec_l19Left_eq d (r' - r) a3 (by omega), Option.bind_some]
        exact ev_now _
      simp only [spec_Due19.j0, Bool.false_eq_true, if_false, w64 (n := p' - p) (by omega) (by omega), w64 (n := q' - q) (by omega) (by omega), w64 (n := r' - r) (by omega) (by omega)]
      refine Ev.congr (f := fun k => spec_Due19.j1 k (p' - p) (q' - q) (r' - r) (dueB h c d (p' - p) (q' - q) (r' - r)) n h c d p q r) (fun k => ?_) (hk _)
      unfold dueB
      by_cases x1 : h > 0 <;> by_cases x2 : p' - p ≥ h <;> by_cases x3 : c > 0 <;> by_cases x4 : q' - q ≥ c <;> by_cases x5 : d > 0 <;> simp only [x1, x2, x3, x4, x5, if_true, if_false, decide_true, decide_false, Bool.true_and, Bool.false_and, Bool.true_or, Bool.false_or]
  unfold due19
  cases h1 : taskB n h c d p q r with
  | false => simpa using hj true (.inl rfl)
  | true =>
    cases h2 : clockB p' q' r' with
    | false => simpa using hj true (.inl rfl)
    | true =>
      simp only [if_true, Bool.true_and]
      have e : (if p ≤ p' then (if q ≤ q' then some (decide (r ≤ r')) else some false) else some false) = some (behindB p q r p' q' r') := by
        unfold behindB
        by_cases x1 : p ≤ p' <;> by_cases x2 : q ≤ q' <;> simp [x1, x2]
      rw [e]
      simp only [Option.bind_some]
      cases h3 : behindB p q r p' q' r' with
      | false => simpa using hj true (.inl rfl)
      | true => simpa using hj false (.inr ⟨h1, h2, h3⟩)
theorem impl_passed_ev (p q r p' q' r' : Int) : Ev (fun k => impl_passed.f k p q r p' q' r') ([wrap64 (p' - p), wrap64 (q' - q), wrap64 (r' - r)], decide (mn (mn (wrap64 (p' - p)) (wrap64 (q' - q))) (wrap64 (r' - r)) ≥ 0)) := by
  simp only [impl_passed.f, Option.bind_some]
  generalize wrap64 (p' - p) = a
  generalize wrap64 (q' - q) = b
  generalize wrap64 (r' - r) = c
  have hm : Ev (fun k => slices_Min_int_int.f k [a, b, c]) (mn (mn a b) c) := by
    have e : (([a, b, c] : List Int).length : Int) = 3 := rfl
    simp only [slices_Min_int_int.f, e, if_neg (show ¬ ((3 : Int) < 1) by omega), if_pos (show (0 : Int) < 3 by omega)]
    refine ev_succ ?_
    simp only [slices_Min_int_int.l0, e, if_pos (show (1 : Int) < 3 by omega), if_pos (show (0 : Int) ≤ 1 by omega), w64 (n := (1 : Int) + 1) (by omega) (by omega)]
    refine ev_succ ?_
    simp only [slices_Min_int_int.l0, e, if_pos (show (1 : Int) + 1 < 3 by omega), if_pos (show (0 : Int) ≤ 1 + 1 by omega), w64 (n := (1 : Int) + 1 + 1) (by omega) (by omega)]
    refine ev_succ ?_
    simp only [slices_Min_int_int.l0, e, if_neg (show ¬ ((1 : Int) + 1 + 1 < 3) by omega)]
    exact ev_now _
  exact hm.bind (f := fun _ t => some (([a, b, c] : List Int), decide (t ≥ 0))) (ev_now _)
theorem impl_isDue_ev (h c d p q r : Int) : Ev (fun k => impl_isDue.f k [h, c, d] [p, q, r]) (dueB h c d p q r) := by
  have e : (([h, c, d] : List Int).length : Int) = 3 := rfl
  have e' : (([p, q, r] : List Int).length : Int) = 3 := rfl
  have w1 : wrap64 ((0 : Int) + 1) = 1 := by unfold wrap64; omega
  have w2 : wrap64 ((1 : Int) + 1) = 2 := by unfold wrap64; omega
  have w3 : wrap64 ((2 : Int) + 1) = 3 := by unfold wrap64; omega
  have r0 : rd [h, c, d] 0 = h := rfl
  have r1 : rd [h, c, d] 1 = c := rfl
  have r2 : rd [h, c, d] 2 = d := rfl
  have s0 : rd [p, q, r] 0 = p := rfl
  have s1 : rd [p, q, r] 1 = q := rfl
  have s2 : rd [p, q, r] 2 = r := rfl
  simp only [impl_isDue.f, e]
  have k3 : Ev (fun k => impl_isDue.l0 k [p, q, r] [h, c, d] 3 3) false := by
    refine ev_succ ?_
    simp only [impl_isDue.l0, if_neg (show ¬ ((3 : Int) < 3) by omega)]
    exact ev_now _
  have k2 : Ev (fun k => impl_isDue.l0 k [p, q, r] [h, c, d] 3 2) (decide (d > 0) && decide (r ≥ d)) := by
    refine ev_succ ?_
    simp only [impl_isDue.l0, e, e', if_pos (show (2 : Int) < 3 by omega), if_pos (show (0 : Int) ≤ 2 by omega), r2, s2, w3]
    by_cases x1 : d > 0
    · by_cases x2 : r ≥ d
      · simpa only [x1, x2, if_true, decide_true, Bool.and_self] using ev_now _
      · simpa only [x1, x2, if_true, if_false, decide_true, decide_false, Bool.and_false] using k3
    · simpa only [x1, if_false, decide_false, Bool.false_and] using k3
  have k1 : Ev (fun k => impl_isDue.l0 k [p, q, r] [h, c, d] 3 1) ((decide (c > 0) && decide (q ≥ c)) || (decide (d > 0) && decide (r ≥ d))) := by
    refine ev_succ ?_
    simp only [impl_isDue.l0, e, e', if_pos (show (1 : Int) < 3 by omega), if_pos (show (0 : Int) ≤ 1 by omega), r1, s1, w2]
    by_cases x1 : c > 0
    · by_cases x2 : q ≥ c
      · simpa only [x1, x2, if_true, decide_true, Bool.and_self, Bool.true_or] using ev_now _
      · simpa only [x1, x2, if_true, if_false, decide_true, decide_false, Bool.and_false, Bool.false_or] using k2
    · simpa only [x1, if_false, decide_false, Bool.false_and, Bool.false_or] using k2
  refine ev_succ ?_
  simp only [impl_isDue.l0, e, e', if_pos (show (0 : Int) < 3 by omega), if_pos (show (0 : Int) ≤ 0 by omega), r0, s0, w1]
  unfold dueB
  by_cases x1 : h > 0
  · by_cases x2 : p ≥ h
    · simpa only [x1, x2, if_true, decide_true, Bool.and_self, Bool.true_or] using ev_now _
    · simpa only [x1, x2, if_true, if_false, decide_true, decide_false, Bool.and_false, Bool.false_or] using k1
  · simpa only [x1, if_false, decide_false, Bool.false_and, Bool.false_or] using k1
theorem impl_Due19_l (n : ByteArray) (h c d p q r a1 a2 a3 : Int) : Ev (fun k => impl_Due19.j0 k [a1, a2, a3] false n h c d p q r) (dueB h c d a1 a2 a3, mx (wrap64 (h - a1)) 0, mx (wrap64 (c - a2)) 0, mx (wrap64 (d - a3)) 0, true) := by
  have e : (([h, c, d] : List Int).length : Int) = 3 := rfl
  have e' : (([a1, a2, a3] : List Int).length : Int) = 3 := rfl
  have w1 : wrap64 ((0 : Int) + 1) = 1 := by unfold wrap64; omega
  have w2 : wrap64 ((1 : Int) + 1) = 2 := by unfold wrap64; omega
  have w3 : wrap64 ((2 : Int) + 1) = 3 := by unfold wrap64; omega
  have r0 : rd [h, c, d] 0 = h := rfl
  have r1 : rd [h, c, d] 1 = c := rfl
  have r2 : rd [h, c, d] 2 = d := rfl
  have s0 : rd [a1, a2, a3] 0 = a1 := rfl
  have s1 : rd [a1, a2, a3] 1 = a2 := rfl
  have s2 : rd [a1, a2, a3] 2 = a3 := rfl
  refine ev_succ ?_
  simp only [impl_Due19.j0, impl_Task_numbers.f, Option.bind_some, Bool.false_eq_true, if_false, e]
  refine ev_succ ?_
  simp only [impl_Due19.l0, e, e', if_pos (show (0 : Int) < 3 by omega), if_pos (show (0 : Int) ≤ 0 by omega), r0, s0, w1, if_pos (show ([] : List Int).length < 17592186044416 by simp), List.nil_append]
  generalize mx (wrap64 (h - a1)) 0 = b1
  refine ev_succ ?_
  simp only [impl_Due19.l0, e, e', if_pos (show (1 : Int) < 3 by omega), if_pos (show (0 : Int) ≤ 1 by omega), r1, s1, w2, if_pos (show ([b1] : List Int).length < 17592186044416 by simp), List.cons_append, List.nil_append]
  generalize mx (wrap64 (c - a2)) 0 = b2
  refine ev_succ ?_
  simp only [impl_Due19.l0, e, e', if_pos (show (2 : Int) < 3 by omega), if_pos (show (0 : Int) ≤ 2 by omega), r2, s2, w3, if_pos (show ([b1, b2] : List Int).length < 17592186044416 by simp), List.cons_append, List.nil_append]
  generalize mx (wrap64 (d - a3)) 0 = b3
  refine ev_succ ?_
  have eb : (([b1, b2, b3] : List Int).length : Int) = 3 := rfl
  simp only [impl_Due19.l0, if_neg (show ¬ ((3 : Int) < 3) by omega), impl_Task_numbers.f, Option.bind_some, eb, if_pos (show (0 : Int) < 3 by omega), if_pos (show (1 : Int) < 3 by omega), if_pos (show (2 : Int) < 3 by omega)]
  exact (impl_isDue_ev h c d a1 a2 a3).bind (f := fun _ t => some (t, rd [b1, b2, b3] 0, rd [b1, b2, b3] 1, rd [b1, b2, b3] 2, true)) (ev_now _)
theorem impl_Due19_ev (n : ByteArray) (hn : n.size ≤ 140737488355328) (h c d p q r p' q' r' : Int) : Ev (fun k => impl_Due19.f k n h c d p q r p' q' r') (due19 n h c d p q r p' q' r') := by
  simp only [impl_Due19.f]
  refine (impl_passed_ev p q r p' q' r').bind ?_
  refine (impl_TaskOk_ev n hn h c d p q r).bind ?_
  have hno : ∀ ys, Ev (fun k => impl_Due19.j0 k ys true n h c d p q r) (false, 0, 0, 0, false) := by
    intro ys
    refine ev_succ ?_
    simpa only [impl_Due19.j0, if_true] using ev_now _
  unfold due19
  cases h1 : taskB n h c d p q r with
  | false => simpa using hno _
  | true =>
    simp only [if_true, Bool.true_and]
    refine (impl_ClockOk_ev p' q' r').bind ?_
    cases h2 : clockB p' q' r' with
    | false => simpa using hno _
    | true =>
      simp only [if_true, Bool.true_and]
      obtain ⟨-, ⟨b1, b2, b3⟩, -, b4⟩ := taskB_in h1
      have b4 := clockB_in b4
      have b5 := clockB_in h2
      simp only [w64 (n := p' - p) (by omega) (by omega), w64 (n := q' - q) (by omega) (by omega), w64 (n := r' - r) (by omega) (by omega)]
      have e : decide (mn (mn (p' - p) (q' - q)) (r' - r) ≥ 0) = behindB p q r p' q' r' := by
        unfold behindB mn
        rw [Bool.eq_iff_iff]
        simp only [Bool.and_eq_true, decide_eq_true_eq]
        repeat' split
        all_goals omega
      rw [e]
      cases h3 : behindB p q r p' q' r' with
      | false => simpa using hno _
      | true =>
        simp only [behindB, Bool.and_eq_true, decide_eq_true_eq] at h3
        have := impl_Due19_l n h c d p q r (p' - p) (q' - q) (r' - r)
        rw [w64 (n := h - (p' - p)) (by omega) (by omega), w64 (n := c - (q' - q)) (by omega) (by omega), w64 (n := d - (r' - r)) (by omega) (by omega)] at this
        simpa only [Bool.not_true, if_true, leftI] using this
theorem FnExactDue19 (a0_0 : ByteArray) (a0_1 : Int) (a0_2 : Int) (a0_3 : Int) (a0_4 : Int) (a0_5 : Int) (a0_6 : Int) (a1_0 : Int) (a1_1 : Int) (a1_2 : Int) (g0 : (a0_0.size ≤ 140737488351232 ∧ (Lit.int .i64 a0_1).wf = true ∧ (Lit.int .i64 a0_2).wf = true ∧ (Lit.int .i64 a0_3).wf = true ∧ ((Lit.int .i64 a0_4).wf = true ∧ (Lit.int .i64 a0_5).wf = true ∧ (Lit.int .i64 a0_6).wf = true))) (g1 : ((Lit.int .i64 a1_0).wf = true ∧ (Lit.int .i64 a1_1).wf = true ∧ (Lit.int .i64 a1_2).wf = true)) : ∃ k, laws_FnExactDue19.f k a0_0 a0_1 a0_2 a0_3 a0_4 a0_5 a0_6 a1_0 a1_1 a1_2 = some true := by
  have hn : a0_0.size ≤ 140737488355328 := by omega
  refine Ev.rounds ?_
  simp only [laws_FnExactDue19.f, laws_szTask.f, laws_toTask.f, laws_toClock.f, Option.bind_some]
  rw [w64 (by omega) (by omega)]
  by_cases hs : (1048576 : Int) - (a0_0.size : Int) < 0
  · simp only [if_pos hs, Option.bind_some, if_pos (show (-1 : Int) < 0 by omega)]
    exact ev_now _
  · simp only [if_neg hs, Option.bind_some]
    refine (spec_Due19_ev a0_0 hn a0_1 a0_2 a0_3 a0_4 a0_5 a0_6 a1_0 a1_1 a1_2).bind ?_
    refine (impl_Due19_ev a0_0 hn a0_1 a0_2 a0_3 a0_4 a0_5 a0_6 a1_0 a1_1 a1_2).bind ?_
    simp only [bne_self_eq_false, Bool.false_eq_true, if_false, laws_eqClock.f, if_true, Option.bind_some]
    refine ev_succ ?_
    simp only [laws_FnExactDue19.j0, Bool.false_eq_true, if_false]
    exact ev_now _
end Go.Proofs.Ytbgdibbgngpggaa.Pure
