/- The program's Left6 answers as the reference's at every argument. No condition. -/
import Derived.Test.YtfhielgfgmcdiaaPFnExactLeft6x5
import Derived.Test.YtfhielgfgmcdiaaBase
set_option linter.unusedVariables false
set_option linter.unusedSimpArgs false
namespace Go.Proofs.Ytfhielgfgmcdiaa.Pure
open Go.RowKit Go.Proofs.Ytfhielgfgmcdiaa.PFnExactLeft6 Go.Proofs.Ytfhielgfgmcdiaa.Base Go.Proofs.YtfhielgfgmcdiaaW.PrintWords Go.Proofs.YtfhielgfgmcdiaaW.PrintLast
theorem impl_in_eq (a b c : Int) : impl_in.f a b c = some (inB a b c) := in_form a b c
theorem spec_in_eq (a b c : Int) : spec_l1In.f a b c = some (inB a b c) := in_form a b c
theorem impl_allIn_l (b c : Int) (xs : List Int) (hn : xs.length < 4611686018427387904) (d : Nat) : ∀ i : Nat, i + d = xs.length →
    Ev (fun k => impl_allIn.l0 k b c xs (xs.length : Int) (i : Int)) (allB (xs.drop i) b c) := by
  induction d with
  | zero =>
    intro i h
    refine ev_succ ?_
    simp only [impl_allIn.l0, if_neg (show ¬ ((i : Int) < (xs.length : Int)) by omega)]
    rw [List.drop_of_length_le (by omega)]
    exact ev_now _
  | succ d ih =>
    intro i h
    refine ev_succ ?_
    simp only [impl_allIn.l0, if_pos (show ((i : Int) < (xs.length : Int)) by omega), if_pos (show (0 : Int) ≤ (i : Int) by omega), impl_in_eq, Option.bind_some, w64s i (by omega)]
    rw [drop_rd (show i < xs.length by omega)]
    cases hb : inB (rd xs (i : Int)) b c with
    | true => simpa [allB, hb] using ih (i + 1) (by omega)
    | false => simpa [allB, hb] using ev_now false
theorem impl_allIn_ev (b c : Int) (xs : List Int) (hn : xs.length < 4611686018427387904) : Ev (fun k => impl_allIn.f k xs b c) (allB xs b c) := by
  simpa [impl_allIn.f] using impl_allIn_l b c xs hn xs.length 0 (by omega)
/-! Names: 1 to 20 letters, digits and dashes. -/
def Alnum (c : Int) : Prop := (97 ≤ c ∧ c ≤ 122) ∨ (65 ≤ c ∧ c ≤ 90) ∨ (48 ≤ c ∧ c ≤ 57)
instance (c : Int) : Decidable (Alnum c) := by unfold Alnum; exact inferInstance
def charB (c : Int) : Bool := decide (Alnum c) || (c == 45)
def charsB (s : ByteArray) : Nat → Nat → Bool
  | 0, _ => true
  | d + 1, i => charB (bt s (i : Int)) && charsB s d (i + 1)
def nameB (s : ByteArray) : Bool := charsB s s.size 0 && inB (s.size : Int) 1 20
theorem impl_isName_l (s : ByteArray) (hn : s.size ≤ 140737488355328) (d : Nat) : ∀ i : Nat, i + d = s.size → Ev (fun k => impl_isName.l0 k s (s.size : Int) (i : Int)) (charsB s d i && inB (s.size : Int) 1 20) := by
  induction d with
  | zero =>
    intro i h
    refine ev_succ ?_
    simp only [impl_isName.l0, if_neg (show ¬ ((i : Int) < (s.size : Int)) by omega), impl_in_eq, Option.bind_some, charsB, Bool.true_and]
    exact ev_now _
  | succ d ih =>
    intro i h
    have hi := ih (i + 1) (by omega)
    refine ev_succ ?_
    simp only [impl_isName.l0, if_pos (show ((i : Int) < (s.size : Int)) by omega), if_pos (show (0 : Int) ≤ (i : Int) by omega)]
    unfold charsB
    generalize bt s (i : Int) = c
    refine Ev.congr (f := fun k => impl_isName.j1 k s (s.size : Int) (i : Int) (!charB c)) (fun k => ?_) ?_
    · by_cases hc : Alnum c
      · rw [show charB c = true by simp [charB, hc]]
        unfold Alnum at hc
        repeat' split
        all_goals first | rfl | (exfalso; omega)
      · rw [show charB c = (c == 45) by simp [charB, hc]]
        unfold Alnum at hc
        repeat' split
        all_goals first | rfl | (exfalso; omega)
    · refine ev_succ ?_
      cases charB c with
      | true => simpa only [impl_isName.j1, Bool.not_true, Bool.false_eq_true, if_false, w64s i (show i < 9223372036854775807 by omega), Bool.true_and] using hi
      | false => simpa only [impl_isName.j1, Bool.not_false, if_true, Bool.false_and] using ev_now false
theorem impl_isName_ev (s : ByteArray) (hn : s.size ≤ 140737488355328) : Ev (fun k => impl_isName.f k s) (nameB s) := by
  simpa [impl_isName.f, nameB] using impl_isName_l s hn s.size 0 (by omega)
theorem spec_l1Name_l (s : ByteArray) (hn : s.size ≤ 140737488355328) (d : Nat) : ∀ i : Nat, i + d = s.size → Ev (fun k => spec_l1Name.l0 k s (i : Int)) (charsB s d i && inB (s.size : Int) 1 20) := by
  induction d with
  | zero =>
    intro i h
    refine ev_succ ?_
    simp only [spec_l1Name.l0, if_neg (show ¬ ((i : Int) < (s.size : Int)) by omega), spec_in_eq, Option.bind_some, charsB, Bool.true_and]
    exact ev_now _
  | succ d ih =>
    intro i h
    have hi := ih (i + 1) (by omega)
    refine ev_succ ?_
    have hb := bt_range s (i : Int)
    simp only [spec_l1Name.l0, if_pos (show ((i : Int) < (s.size : Int)) by omega), if_pos (show (0 : Int) ≤ (i : Int) by omega), spec_in_eq, Option.bind_some, w64 (show -9223372036854775808 ≤ bt s (i : Int) by omega) (show bt s (i : Int) ≤ 9223372036854775807 by omega)]
    unfold charsB
    generalize bt s (i : Int) = c
    refine Ev.congr (f := fun k => spec_l1Name.j1 k s (i : Int) (!charB c)) (fun k => ?_) ?_
    · by_cases hc : Alnum c
      · rw [show charB c = true by simp [charB, hc]]
        unfold Alnum at hc
        repeat' split
        all_goals first | rfl | (rename_i a1 a2 a3; rw [inB_iff] at a1 a2 a3; exfalso; omega)
      · rw [show charB c = (c == 45) by simp [charB, hc]]
        unfold Alnum at hc
        have n1 : inB c 97 122 = false := by rw [Bool.eq_false_iff, ne_eq, inB_iff]; omega
        have n2 : inB c 65 90 = false := by rw [Bool.eq_false_iff, ne_eq, inB_iff]; omega
        have n3 : inB c 48 57 = false := by rw [Bool.eq_false_iff, ne_eq, inB_iff]; omega
        simp only [n1, n2, n3, Bool.false_eq_true, if_false]
        rfl
    · refine ev_succ ?_
      cases charB c with
      | true => simpa only [spec_l1Name.j1, Bool.not_true, Bool.false_eq_true, if_false, w64s i (show i < 9223372036854775807 by omega), Bool.true_and] using hi
      | false => simpa only [spec_l1Name.j1, Bool.not_false, if_true, Bool.false_and] using ev_now false
theorem spec_l1Name_ev (s : ByteArray) (hn : s.size ≤ 140737488355328) : Ev (fun k => spec_l1Name.f k s) (nameB s) := by
  simpa [spec_l1Name.f, nameB] using spec_l1Name_l s hn s.size 0 (by omega)
/-! What is left of a life, by the number that is nearest to its bound. -/
def life6 (n : ByteArray) (a b c : Int) : Bool := nameB n && (inB a 0 1000000 && (inB b 0 1000000 && inB c 0 1000000))
def stay6 (n : ByteArray) (a b c : Int) : Bool := nameB n && (inB a 0 10000000 && (inB b 0 10000000 && inB c 0 10000000))
theorem spec_l6Life_ev (n : ByteArray) (hn : n.size ≤ 140737488355328) (a b c : Int) : Ev (fun k => spec_l6Life.f k n a b c) (life6 n a b c) := by
  simp only [spec_l6Life.f, spec_in_eq, Option.bind_some]
  refine (spec_l1Name_ev n hn).bind ?_
  unfold life6
  cases nameB n <;> cases inB a 0 1000000 <;> cases inB b 0 1000000 <;> simpa using ev_now _
theorem spec_l6Stay_ev (n : ByteArray) (hn : n.size ≤ 140737488355328) (a b c : Int) : Ev (fun k => spec_l6Stay.f k n a b c) (stay6 n a b c) := by
  simp only [spec_l6Stay.f, spec_in_eq, Option.bind_some]
  refine (spec_l1Name_ev n hn).bind ?_
  unfold stay6
  cases nameB n <;> cases inB a 0 10000000 <;> cases inB b 0 10000000 <;> simpa using ev_now _
theorem impl_lifeOk_ev (n : ByteArray) (hn : n.size ≤ 140737488355328) (a b c : Int) : Ev (fun k => impl_lifeOk.f k n a b c) (life6 n a b c) := by
  simp only [impl_lifeOk.f, impl_Life_numbers.f, Option.bind_some]
  refine (impl_isName_ev n hn).bind ?_
  unfold life6
  cases nameB n with
  | false => simpa using ev_now _
  | true =>
    simp only [if_true, Bool.true_and]
    refine (impl_allIn_ev 0 1000000 [a, b, c] (by simp)).bind (f := fun _ t => some t) (ev_some ?_)
    simp [allB]
theorem impl_stayOk_ev (n : ByteArray) (hn : n.size ≤ 140737488355328) (a b c : Int) : Ev (fun k => impl_stayOk.f k n a b c) (stay6 n a b c) := by
  simp only [impl_stayOk.f, impl_Stay_numbers.f, Option.bind_some]
  refine (impl_isName_ev n hn).bind ?_
  unfold stay6
  cases nameB n with
  | false => simpa using ev_now _
  | true =>
    simp only [if_true, Bool.true_and]
    refine (impl_allIn_ev 0 10000000 [a, b, c] (by simp)).bind (f := fun _ t => some t) (ev_some ?_)
    simp [allB]
def pick6 (X Y : List Int) (i b : Int) : Bool := decide (rd X i > 0) && (decide (b < 0) || decide (wrap64 (rd Y i * rd X b) > wrap64 (rd Y b * rd X i)))
def left6From (X Y : List Int) : Nat → Nat → Int → Int × Int × Bool
  | 0, _, b => if b < 0 then (-1, 0, false) else (b, wrap64 (rd X b - rd Y b), true)
  | d + 1, i, b => left6From X Y d (i + 1) (if pick6 X Y i b = true then (i : Int) else b)
theorem spec_Left6_l (X Y : List Int) (hx : X.length = 3) (hy : Y.length = 3) (d : Nat) : ∀ (i : Nat) (b : Int), i + d = 3 → b < (i : Int) → Ev (fun k => spec_Left6.l0 k X Y b (i : Int)) (left6From X Y d i b) := by
  induction d with
  | zero =>
    intro i b h hb
    refine ev_succ ?_
    simp only [spec_Left6.l0, if_neg (show ¬ ((i : Int) < 3) by omega), hx, hy, left6From]
    by_cases h0 : b < 0
    · simpa only [if_pos h0] using ev_now _
    · simpa only [if_neg h0, if_pos (show 0 ≤ b by omega), if_pos (show b < ((3 : Nat) : Int) by omega)] using ev_now _
  | succ d ih =>
    intro i b h hb
    have hj : ∀ t : Bool, Ev (fun k => spec_Left6.j2 k X Y b (i : Int) t) (left6From X Y d (i + 1) (if t = true then (i : Int) else b)) := by
      intro t
      refine ev_succ ?_
      cases t with
      | true => simpa only [spec_Left6.j2, if_true, w64s i (by omega)] using ih (i + 1) (i : Int) (by omega) (by omega)
      | false => simpa only [spec_Left6.j2, Bool.false_eq_true, if_false, w64s i (by omega)] using ih (i + 1) b (by omega) (by omega)
    refine ev_succ ?_
    simp only [spec_Left6.l0, if_pos (show ((i : Int) < 3) by omega), if_pos (show (0 : Int) ≤ (i : Int) by omega), hx, hy, if_pos (show (i : Int) < ((3 : Nat) : Int) by omega), left6From]
    by_cases h1 : rd X (i : Int) > 0
    · by_cases h2 : b < 0
      · simpa only [if_true, if_false, Bool.false_eq_true, pick6, h1, h2, decide_true, Bool.true_or, Bool.and_self] using hj true
      · simpa only [if_true, if_false, Bool.false_eq_true, pick6, h1, h2, decide_true, decide_false, Bool.false_or, Bool.true_and, if_pos (show 0 ≤ b by omega), if_pos (show b < ((3 : Nat) : Int) by omega)] using hj _
    · simpa only [if_true, if_false, Bool.false_eq_true, pick6, h1, decide_false, Bool.false_and] using hj false
theorem impl_Left6_l (X Y : List Int) (hx : X.length = 3) (hy : Y.length = 3) (d : Nat) : ∀ (i : Nat) (b : Int), i + d = 3 → b < (i : Int) → Ev (fun k => impl_Left6.l0 k b X Y X 3 (i : Int)) (left6From X Y d i b) := by
  induction d with
  | zero =>
    intro i b h hb
    refine ev_succ ?_
    simp only [impl_Left6.l0, if_neg (show ¬ ((i : Int) < 3) by omega), hx, hy, left6From]
    by_cases h0 : b < 0
    · simpa only [if_pos h0] using ev_now _
    · simpa only [if_neg h0, if_pos (show 0 ≤ b by omega), if_pos (show b < ((3 : Nat) : Int) by omega)] using ev_now _
  | succ d ih =>
    intro i b h hb
    have hj : ∀ t : Bool, Ev (fun k => impl_Left6.j2 k b X Y (i : Int) X 3 (i : Int) t) (left6From X Y d (i + 1) (if t = true then (i : Int) else b)) := by
      intro t
      refine ev_succ ?_
      cases t with
      | true => simpa only [impl_Left6.j2, if_true, w64s i (by omega)] using ih (i + 1) (i : Int) (by omega) (by omega)
      | false => simpa only [impl_Left6.j2, Bool.false_eq_true, if_false, w64s i (by omega)] using ih (i + 1) b (by omega) (by omega)
    refine ev_succ ?_
    simp only [impl_Left6.l0, if_pos (show ((i : Int) < 3) by omega), if_pos (show (0 : Int) ≤ (i : Int) by omega), hx, hy, if_pos (show (i : Int) < ((3 : Nat) : Int) by omega), left6From]
    by_cases h1 : rd X (i : Int) > 0
    · by_cases h2 : b < 0
      · simpa only [if_true, if_false, Bool.false_eq_true, pick6, h1, h2, decide_true, Bool.true_or, Bool.and_self] using hj true
      · simpa only [if_true, if_false, Bool.false_eq_true, pick6, h1, h2, decide_true, decide_false, Bool.false_or, Bool.true_and, if_pos (show 0 ≤ b by omega), if_pos (show b < ((3 : Nat) : Int) by omega)] using hj _
    · simpa only [if_true, if_false, Bool.false_eq_true, pick6, h1, decide_false, Bool.false_and] using hj false
def left6 (n : ByteArray) (a b c : Int) (m : ByteArray) (p q r : Int) : Int × Int × Bool :=
  if (life6 n a b c && (stay6 m p q r && !(n.toList != m.toList))) = true then left6From [a, b, c] [p, q, r] 3 0 (-1) else (-1, 0, false)
theorem spec_Left6_ev (n : ByteArray) (hn : n.size ≤ 140737488355328) (a b c : Int) (m : ByteArray) (hm : m.size ≤ 140737488355328) (p q r : Int) : Ev (fun k => spec_Left6.f k n a b c m p q r) (left6 n a b c m p q r) := by
  simp only [spec_Left6.f]
  refine (spec_l6Life_ev n hn a b c).bind ?_
  have ht : Ev (fun k => spec_Left6.j0 k true n a b c m p q r) (-1, 0, false) := by
    refine ev_succ ?_
    simpa only [spec_Left6.j0, if_true] using ev_now _
  unfold left6
  cases life6 n a b c with
  | false => simpa using ht
  | true =>
    simp only [if_true, Bool.true_and]
    refine (spec_l6Stay_ev m hm p q r).bind ?_
    cases stay6 m p q r with
    | false => simpa using ht
    | true =>
      simp only [if_true, Bool.true_and]
      cases n.toList != m.toList with
      | true => simpa using ht
      | false =>
        simp only [Bool.not_false, if_true]
        refine ev_succ ?_
        simp only [spec_Left6.j0, Bool.false_eq_true, if_false]
        exact spec_Left6_l [a, b, c] [p, q, r] rfl rfl 3 0 (-1) (by omega) (by omega)
theorem impl_Left6_ev (n : ByteArray) (hn : n.size ≤ 140737488355328) (a b c : Int) (m : ByteArray) (hm : m.size ≤ 140737488355328) (p q r : Int) : Ev (fun k => impl_Left6.f k n a b c m p q r) (left6 n a b c m p q r) := by
  simp only [impl_Left6.f]
  refine (impl_lifeOk_ev n hn a b c).bind ?_
  have ht : Ev (fun k => impl_Left6.j0 k true n a b c m p q r) (-1, 0, false) := by
    refine ev_succ ?_
    simpa only [impl_Left6.j0, if_true] using ev_now _
  unfold left6
  cases life6 n a b c with
  | false => simpa using ht
  | true =>
    simp only [if_true, Bool.true_and]
    refine (impl_stayOk_ev m hm p q r).bind ?_
    cases stay6 m p q r with
    | false => simpa using ht
    | true =>
      simp only [if_true, Bool.true_and]
      cases n.toList != m.toList with
      | true => simpa using ht
      | false =>
        simp only [Bool.not_false, if_true]
        refine ev_succ ?_
        simp only [impl_Left6.j0, Bool.false_eq_true, if_false, impl_Life_numbers.f, impl_Stay_numbers.f, Option.bind_some]
        exact impl_Left6_l [a, b, c] [p, q, r] rfl rfl 3 0 (-1) (by omega) (by omega)
theorem FnExactLeft6 (a0_0 : ByteArray) (a0_1 : Int) (a0_2 : Int) (a0_3 : Int) (a1_0 : ByteArray) (a1_1 : Int) (a1_2 : Int) (a1_3 : Int) (g0 : (a0_0.size ≤ 140737488351232 ∧ (Lit.int .i64 a0_1).wf = true ∧ (Lit.int .i64 a0_2).wf = true ∧ (Lit.int .i64 a0_3).wf = true)) (g1 : (a1_0.size ≤ 140737488351232 ∧ (Lit.int .i64 a1_1).wf = true ∧ (Lit.int .i64 a1_2).wf = true ∧ (Lit.int .i64 a1_3).wf = true)) : ∃ k, laws_FnExactLeft6.f k a0_0 a0_1 a0_2 a0_3 a1_0 a1_1 a1_2 a1_3 = some true := by
  have hn : a0_0.size ≤ 140737488355328 := by omega
  have hm : a1_0.size ≤ 140737488355328 := by omega
  refine Ev.rounds ?_
  simp only [laws_FnExactLeft6.f, laws_szLife.f, laws_szStay.f, laws_toLife.f, laws_toStay.f, Option.bind_some]
  rw [w64 (n := 1048576 - (a0_0.size : Int)) (by omega) (by omega)]
  by_cases hs : (1048576 : Int) - (a0_0.size : Int) < 0
  · simp only [if_pos hs, Option.bind_some, if_pos (show (-1 : Int) < 0 by omega)]
    exact ev_now _
  · simp only [if_neg hs, Option.bind_some]
    rw [w64 (n := 1048576 - (a0_0.size : Int) - (a1_0.size : Int)) (by omega) (by omega)]
    by_cases hs' : (1048576 : Int) - (a0_0.size : Int) - (a1_0.size : Int) < 0
    · simp only [if_pos hs', Option.bind_some, if_pos (show (-1 : Int) < 0 by omega)]
      exact ev_now _
    · simp only [if_neg hs', Option.bind_some]
      refine (spec_Left6_ev a0_0 hn a0_1 a0_2 a0_3 a1_0 hm a1_1 a1_2 a1_3).bind ?_
      refine (impl_Left6_ev a0_0 hn a0_1 a0_2 a0_3 a1_0 hm a1_1 a1_2 a1_3).bind ?_
      simp only [bne_self_eq_false, if_true]
      refine ev_succ ?_
      simp only [laws_FnExactLeft6.j0, Bool.false_eq_true, if_false]
      exact ev_now _
end Go.Proofs.Ytfhielgfgmcdiaa.Pure
