/- The program's CarryOk answers as the reference's at every argument. No condition. -/
import Derived.Test.YtbgdibbgngpggaaPFnExactCarryOkx5
import Derived.Test.YtbgdibbgngpggaaBase
set_option linter.unusedVariables false
set_option linter.unusedSimpArgs false
namespace Go.Proofs.Ytbgdibbgngpggaa.Pure
open Go.RowKit Go.Proofs.Ytbgdibbgngpggaa.PFnExactCarryOk Go.Proofs.Ytbgdibbgngpggaa.Base Go.Proofs.YtbgdibbgngpggaaW.PrintWords Go.Proofs.YtbgdibbgngpggaaW.PrintLast
theorem impl_in_eq (a b c : Int) : impl_in.f a b c = some (inB a b c) := in_form a b c
theorem spec_in_eq (a b c : Int) : spec_l1In.f a b c = some (inB a b c) := in_form a b c
/-! Names: 1 to 20 letters, digits and dashes. -/
def Alnum (c : Int) : Prop := (97 ≤ c ∧ c ≤ 122) ∨ (65 ≤ c ∧ c ≤ 90) ∨ (48 ≤ c ∧ c ≤ 57)
instance (c : Int) : Decidable (Alnum c) := by unfold Alnum; exact inferInstance
def charB (c : Int) : Bool := decide (Alnum c) || (c == 45)
def charsB (s : ByteArray) : Nat → Nat → Bool
  | 0, _ => true
  | d + 1, i => charB (bt s (i : Int)) && charsB s d (i + 1)
def nameB (s : ByteArray) : Bool := charsB s s.size 0 && inB (s.size : Int) 1 20
theorem impl_isName_l (s : ByteArray) (hn : s.size ≤ 140737488355328) (d : Nat) : ∀ i : Nat, i + d = s.size → Ev (fun k => impl_isName.l0 k s (s.size : Int) (i : Int)) (charsB s d i && inB (s.size : Int) 1 20) := by
  induction d with
  | zero =>
    intro i h
    refine ev_succ ?_
    simp only [impl_isName.l0, if_neg (show ¬ ((i : Int) < (s.size : Int)) by omega), impl_in_eq, Option.bind_some, charsB, Bool.true_and]
    exact ev_now _
  | succ d ih =>
    intro i h
    have hi := ih (i + 1) (by omega)
    refine ev_succ ?_
    simp only [impl_isName.l0, if_pos (show ((i : Int) < (s.size : Int)) by omega), if_pos (show (0 : Int) ≤ (i : Int) by omega)]
    unfold charsB
    generalize bt s (i : Int) = c
    refine Ev.congr (f := fun k => impl_isName.j1 k s (s.size : Int) (i : Int) (!charB c)) (fun k => ?_) ?_
    · by_cases hc : Alnum c
      · rw [show charB c = true by simp [charB, hc]]
        unfold Alnum at hc
        repeat' split
        all_goals first | rfl | (exfalso; omega)
      · rw [show charB c = (c == 45) by simp [charB, hc]]
        unfold Alnum at hc
        repeat' split
        all_goals first | rfl | (exfalso; omega)
    · refine ev_succ ?_
      cases charB c with
      | true => simpa only [impl_isName.j1, Bool.not_true, Bool.false_eq_true, if_false, w64s i (show i < 9223372036854775807 by omega), Bool.true_and] using hi
      | false => simpa only [impl_isName.j1, Bool.not_false, if_true, Bool.false_and] using ev_now false
theorem impl_isName_ev (s : ByteArray) (hn : s.size ≤ 140737488355328) : Ev (fun k => impl_isName.f k s) (nameB s) := by
  simpa [impl_isName.f, nameB] using impl_isName_l s hn s.size 0 (by omega)
theorem spec_l1Name_l (s : ByteArray) (hn : s.size ≤ 140737488355328) (d : Nat) : ∀ i : Nat, i + d = s.size → Ev (fun k => spec_l1Name.l0 k s (i : Int)) (charsB s d i && inB (s.size : Int) 1 20) := by
  induction d with
  | zero =>
    intro i h
    refine ev_succ ?_
    simp only [spec_l1Name.l0, if_neg (show ¬ ((i : Int) < (s.size : Int)) by omega), spec_in_eq, Option.bind_some, charsB, Bool.true_and]
    exact ev_now _
  | succ d ih =>
    intro i h
    have hi := ih (i + 1) (by omega)
    refine ev_succ ?_
    have hb := bt_range s (i : Int)
    simp only [spec_l1Name.l0, if_pos (show ((i : Int) < (s.size : Int)) by omega), if_pos (show (0 : Int) ≤ (i : Int) by omega), spec_in_eq, Option.bind_some, w64 (show -9223372036854775808 ≤ bt s (i : Int) by omega) (show bt s (i : Int) ≤ 9223372036854775807 by omega)]
    unfold charsB
    generalize bt s (i : Int) = c
    refine Ev.congr (f := fun k => spec_l1Name.j1 k s (i : Int) (!charB c)) (fun k => ?_) ?_
    · by_cases hc : Alnum c
      · rw [show charB c = true by simp [charB, hc]]
        unfold Alnum at hc
        repeat' split
        all_goals first | rfl | (rename_i a1 a2 a3; rw [inB_iff] at a1 a2 a3; exfalso; omega)
      · rw [show charB c = (c == 45) by simp [charB, hc]]
        unfold Alnum at hc
        have n1 : inB c 97 122 = false := by rw [Bool.eq_false_iff, ne_eq, inB_iff]; omega
        have n2 : inB c 65 90 = false := by rw [Bool.eq_false_iff, ne_eq, inB_iff]; omega
        have n3 : inB c 48 57 = false := by rw [Bool.eq_false_iff, ne_eq, inB_iff]; omega
        simp only [n1, n2, n3, Bool.false_eq_true, if_false]
        rfl
    · refine ev_succ ?_
      cases charB c with
      | true => simpa only [spec_l1Name.j1, Bool.not_true, Bool.false_eq_true, if_false, w64s i (show i < 9223372036854775807 by omega), Bool.true_and] using hi
      | false => simpa only [spec_l1Name.j1, Bool.not_false, if_true, Bool.false_and] using ev_now false
theorem spec_l1Name_ev (s : ByteArray) (hn : s.size ≤ 140737488355328) : Ev (fun k => spec_l1Name.f k s) (nameB s) := by
  simpa [spec_l1Name.f, nameB] using spec_l1Name_l s hn s.size 0 (by omega)
theorem rdwCarry {xs : List S92} {i : Nat} (h : i < xs.length) : rd_T92 xs (i : Int) = xs[i] := by
  simp [rd_T92, List.getD_eq_getElem?_getD, h]
def wCarry (x : S92) : Nat := x.f0.size
theorem szCarry_eq (x : S92) (left : Int) (h0 : 0 ≤ left) (h1 : left ≤ 1048576) (hw : wCarry x ≤ 140737488355328) : laws_szCarry.f x.f0 x.f1 x.f2 left = some (if left - (wCarry x : Int) < 0 then -1 else left - (wCarry x : Int)) := by
  unfold wCarry at hw ⊢
  unfold laws_szCarry.f
  rw [w64 (by omega) (by omega)]
  split <;> rfl
theorem szCarryS_l (xs : List S92) (hn : xs.length ≤ 140737488355328) (hx : ∀ x ∈ xs, wCarry x ≤ 140737488355328) (d : Nat) : ∀ (i : Nat) (left : Int), i + d = xs.length → 0 ≤ left → left ≤ 1048576 →
    ∃ v, Ev (fun k => laws_szCarryS.l0 k xs left (i : Int)) v ∧ (v < 0 ∨ (0 ≤ v ∧ v + (((xs.drop i).map wCarry).sum : Nat) = left)) := by
  induction d with
  | zero =>
    intro i left h h0 h1
    refine ⟨left, ev_succ ?_, .inr ⟨h0, ?_⟩⟩
    · simp only [laws_szCarryS.l0, if_neg (show ¬ ((i : Int) < (xs.length : Int)) by omega)]
      exact ev_now _
    · rw [List.drop_of_length_le (by omega)]; simp
  | succ d ih =>
    intro i left h h0 h1
    have hlt : i < xs.length := by omega
    have hxi := hx _ (List.getElem_mem hlt)
    by_cases hs : left - (wCarry (xs[i]) : Int) < 0
    · refine ⟨-1, ev_succ ?_, .inl (by omega)⟩
      simp only [laws_szCarryS.l0, if_pos (show ((i : Int) < (xs.length : Int)) by omega), if_pos (show (0 : Int) ≤ (i : Int) by omega), rdwCarry hlt, szCarry_eq _ left h0 h1 hxi, if_pos hs, Option.bind_some, if_pos (show (-1 : Int) < 0 by omega)]
      exact ev_now _
    · obtain ⟨v, hv, hr⟩ := ih (i + 1) (left - (wCarry (xs[i]) : Int)) (by omega) (by omega) (by omega)
      refine ⟨v, ev_succ ?_, ?_⟩
      · simp only [laws_szCarryS.l0, if_pos (show ((i : Int) < (xs.length : Int)) by omega), if_pos (show (0 : Int) ≤ (i : Int) by omega), rdwCarry hlt, szCarry_eq _ left h0 h1 hxi, if_neg hs, Option.bind_some, w64s i (by omega)]
        exact hv
      · rcases hr with hr | ⟨hr0, hr⟩
        · exact .inl hr
        · refine .inr ⟨hr0, ?_⟩
          rw [List.drop_eq_getElem_cons hlt, List.map_cons, List.sum_cons]
          omega
theorem szCarryS_ev (xs : List S92) (left : Int) (h0 : 0 ≤ left) (h1 : left ≤ 1048576) (hn : xs.length ≤ 140737488355328) (hx : ∀ x ∈ xs, wCarry x ≤ 140737488355328) :
    ∃ v, Ev (fun k => laws_szCarryS.f k xs left) v ∧ (v < 0 ∨ (0 ≤ v ∧ v + (xs.length : Int) + ((xs.map wCarry).sum : Nat) = left)) := by
  simp only [laws_szCarryS.f]
  rw [w64 (by omega) (by omega)]
  by_cases hs : left - (xs.length : Int) < 0
  · simp only [if_pos hs]
    exact ⟨-1, ev_now _, .inl (by omega)⟩
  · simp only [if_neg hs]
    obtain ⟨v, hv, hr⟩ := szCarryS_l xs hn hx xs.length 0 (left - (xs.length : Int)) (by omega) (by omega) (by omega)
    refine ⟨v, hv, ?_⟩
    rcases hr with hr | ⟨hr0, hr⟩
    · exact .inl hr
    · rw [List.drop_zero] at hr
      exact .inr ⟨hr0, by omega⟩
/-! The helpers over Carrys. -/
def convCarry (x : S92) : S70 := ⟨x.f0, x.f1, x.f2⟩
theorem rdlCarry {xs : List S92} {i : Nat} (h : i < xs.length) : rd_T92 xs (i : Int) = xs[i] := by
  simp [rd_T92, List.getD_eq_getElem?_getD, h]
theorem rdiCarry {xs : List S70} {i : Nat} (h : i < xs.length) : rd_T70 xs (i : Int) = xs[i] := by
  simp [rd_T70, List.getD_eq_getElem?_getD, h]
theorem dropCarry {xs : List S70} {i : Nat} (h : i < xs.length) : xs.drop i = rd_T70 xs (i : Int) :: xs.drop (i + 1) := by
  rw [List.drop_eq_getElem_cons h, rdiCarry h]
theorem toCarryS_l (xs : List S92) (hn : xs.length ≤ 8796093022208) (d : Nat) : ∀ i : Nat, i + d = xs.length →
    Ev (fun k => laws_toCarryS.l0 k xs ((xs.map convCarry).take i ++ List.replicate (xs.length - i) z70) (i : Int)) (xs.map convCarry) := by
  induction d with
  | zero =>
    intro i h
    refine ev_succ ?_
    simp only [laws_toCarryS.l0, if_neg (show ¬ ((i : Int) < (xs.length : Int)) by omega)]
    exact ev_some (by rw [List.take_of_length_le (by simp; omega), show xs.length - i = 0 by omega]; simp)
  | succ d ih =>
    intro i h
    refine ev_succ ?_
    have hlt : i < xs.length := by omega
    have hl : (((xs.map convCarry).take i ++ List.replicate (xs.length - i) z70).length : Int) = (xs.length : Int) := by simp; omega
    have hs := take_setG (xs := xs) (c := convCarry) hlt z70
    simp only [laws_toCarryS.l0, if_pos (show ((i : Int) < (xs.length : Int)) by omega), if_pos (show (0 : Int) ≤ (i : Int) by omega), hl, w64s i (by omega), Int.toNat_natCast, rdlCarry hlt, laws_toCarry.f, Option.bind_some]
    rw [show ((xs.map convCarry).take i ++ List.replicate (xs.length - i) z70).set i ⟨(xs[i]).f0, (xs[i]).f1, (xs[i]).f2⟩ = _ from hs]
    exact ih (i + 1) (by omega)
theorem toCarryS_ev (xs : List S92) (hn : xs.length ≤ 8796093022208) : Ev (fun k => laws_toCarryS.f k xs) (xs.map convCarry) := by
  simp only [laws_toCarryS.f, if_pos (show (0 : Int) ≤ (xs.length : Int) by omega), Int.toNat_natCast, if_pos hn]
  simpa using toCarryS_l xs hn xs.length 0 (by omega)
theorem eqCarryS_l (xs : List S70) (hn : xs.length ≤ 140737488355328) (d : Nat) : ∀ i : Nat, i + d = xs.length →
    Ev (fun k => laws_eqCarryS.l0 k xs xs (i : Int)) true := by
  induction d with
  | zero =>
    intro i h
    refine ev_succ ?_
    simp only [laws_eqCarryS.l0, if_neg (show ¬ ((i : Int) < (xs.length : Int)) by omega)]
    exact ev_now _
  | succ d ih =>
    intro i h
    refine ev_succ ?_
    simp only [laws_eqCarryS.l0, if_pos (show ((i : Int) < (xs.length : Int)) by omega), if_pos (show (0 : Int) ≤ (i : Int) by omega), w64s i (by omega), laws_eqCarry.f, Option.bind_some, if_true]
    exact ih (i + 1) (by omega)
theorem eqCarryS_self (xs : List S70) (hn : xs.length ≤ 140737488355328) : Ev (fun k => laws_eqCarryS.f k xs xs) true := by
  simp only [laws_eqCarryS.f, if_true]
  simpa using eqCarryS_l xs hn xs.length 0 (by omega)
/-! The list of carried defects. -/
abbrev Cr := S70
def carryAt (xs : List Cr) (i : Int) : Bool := nameB (rd_T70 xs i).f0 && (inB (rd_T70 xs i).f1 0 10 && (inB (rd_T70 xs i).f2 0 120 && (decide (¬ i > 0) || Op.bytesLess (rd_T70 xs (i - 1)).f0.toList (rd_T70 xs i).f0.toList)))
def carryFrom (xs : List Cr) : Nat → Nat → Bool
  | 0, _ => decide ((xs.length : Int) ≤ 20)
  | d + 1, i => carryAt xs (i : Int) && carryFrom xs d (i + 1)
def carryB (xs : List Cr) : Bool := carryFrom xs xs.length 0
theorem spec_CarryOk_l (xs : List Cr) (hn : xs.length ≤ 140737488355328) (hx : ∀ x ∈ xs, x.f0.size ≤ 140737488355328) (d : Nat) : ∀ i : Nat, i + d = xs.length → Ev (fun k => spec_CarryOk.l0 k xs (i : Int)) (carryFrom xs d i) := by
  induction d with
  | zero =>
    intro i h
    refine ev_succ ?_
    simp only [spec_CarryOk.l0, if_neg (show ¬ ((i : Int) < (xs.length : Int)) by omega)]
    exact ev_now _
  | succ d ih =>
    intro i h
    have hlt : i < xs.length := by omega
    have hs : (rd_T70 xs (i : Int)).f0.size ≤ 140737488355328 := by rw [rdiCarry hlt]; exact hx _ (List.getElem_mem hlt)
    have hw : wrap64 ((i : Int) - 1) = (i : Int) - 1 := w64 (by omega) (by omega)
    have hj : ∀ b : Bool, Ev (fun k => spec_CarryOk.j1 k xs (i : Int) b) (!b && carryFrom xs d (i + 1)) := by
      intro b
      refine ev_succ ?_
      cases b with
      | true => simpa only [spec_CarryOk.j1, if_true, Bool.not_true, Bool.false_and] using ev_now false
      | false => simpa only [spec_CarryOk.j1, Bool.false_eq_true, if_false, Bool.not_false, Bool.true_and, w64s i (by omega)] using ih (i + 1) (by omega)
    refine ev_succ ?_
    simp only [spec_CarryOk.l0, if_pos (show ((i : Int) < (xs.length : Int)) by omega), if_pos (show (0 : Int) ≤ (i : Int) by omega), hw, spec_in_eq, Option.bind_some]
    refine (spec_l1Name_ev _ hs).bind ?_
    unfold carryFrom carryAt
    cases nameB (rd_T70 xs (i : Int)).f0 with
    | false => simpa using hj true
    | true =>
      simp only [if_true, Bool.true_and]
      by_cases h0 : (i : Int) > 0
      · simp only [if_pos h0, if_pos (show (0 : Int) ≤ (i : Int) - 1 by omega), if_pos (show (i : Int) - 1 < (xs.length : Int) by omega), h0, not_true_eq_false, decide_false, Bool.false_or]
        cases Op.bytesLess (rd_T70 xs ((i : Int) - 1)).f0.toList (rd_T70 xs (i : Int)).f0.toList with
        | false => simpa using hj true
        | true =>
          cases inB (rd_T70 xs (i : Int)).f1 0 10 with
          | false => simpa using hj true
          | true =>
            cases inB (rd_T70 xs (i : Int)).f2 0 120 with
            | false => simpa using hj true
            | true => simpa using hj false
      · simp only [if_neg h0, h0, not_false_eq_true, decide_true, Bool.true_or]
        cases inB (rd_T70 xs (i : Int)).f1 0 10 with
        | false => simpa using hj true
        | true =>
          cases inB (rd_T70 xs (i : Int)).f2 0 120 with
          | false => simpa using hj true
          | true => simpa using hj false
theorem spec_CarryOk_ev (xs : List Cr) (hn : xs.length ≤ 140737488355328) (hx : ∀ x ∈ xs, x.f0.size ≤ 140737488355328) : Ev (fun k => spec_CarryOk.f k xs) (carryB xs) := by
  simpa [spec_CarryOk.f, carryB] using spec_CarryOk_l xs hn hx xs.length 0 (by omega)
theorem impl_CarryOk_l (xs : List Cr) (hn : xs.length ≤ 140737488355328) (hx : ∀ x ∈ xs, x.f0.size ≤ 140737488355328) (d : Nat) : ∀ i : Nat, i + d = xs.length → Ev (fun k => impl_CarryOk.l0 k xs xs (xs.length : Int) (i : Int)) (carryFrom xs d i) := by
  induction d with
  | zero =>
    intro i h
    refine ev_succ ?_
    simp only [impl_CarryOk.l0, if_neg (show ¬ ((i : Int) < (xs.length : Int)) by omega)]
    exact ev_now _
  | succ d ih =>
    intro i h
    have hlt : i < xs.length := by omega
    have hs : (rd_T70 xs (i : Int)).f0.size ≤ 140737488355328 := by rw [rdiCarry hlt]; exact hx _ (List.getElem_mem hlt)
    have hw : wrap64 ((i : Int) - 1) = (i : Int) - 1 := w64 (by omega) (by omega)
    have hj : ∀ b : Bool, Ev (fun k => impl_CarryOk.j1 k xs xs (xs.length : Int) (i : Int) b) (!b && carryFrom xs d (i + 1)) := by
      intro b
      refine ev_succ ?_
      cases b with
      | true => simpa only [impl_CarryOk.j1, if_true, Bool.not_true, Bool.false_and] using ev_now false
      | false => simpa only [impl_CarryOk.j1, Bool.false_eq_true, if_false, Bool.not_false, Bool.true_and, w64s i (by omega)] using ih (i + 1) (by omega)
    refine ev_succ ?_
    simp only [impl_CarryOk.l0, if_pos (show ((i : Int) < (xs.length : Int)) by omega), if_pos (show (0 : Int) ≤ (i : Int) by omega), hw, impl_in_eq, Option.bind_some]
    refine (impl_isName_ev _ hs).bind ?_
    unfold carryFrom carryAt
    cases nameB (rd_T70 xs (i : Int)).f0 with
    | false => simpa using hj true
    | true =>
      simp only [if_true, Bool.true_and]
      cases inB (rd_T70 xs (i : Int)).f1 0 10 with
      | false => simpa using hj true
      | true =>
        cases inB (rd_T70 xs (i : Int)).f2 0 120 with
        | false => simpa using hj true
        | true =>
          simp only [if_true, Bool.true_and]
          by_cases h0 : (i : Int) > 0
          · simp only [if_pos h0, if_pos (show (0 : Int) ≤ (i : Int) - 1 by omega), if_pos (show (i : Int) - 1 < (xs.length : Int) by omega), h0, not_true_eq_false, decide_false, Bool.false_or]
            have := hj (!Op.bytesLess (rd_T70 xs ((i : Int) - 1)).f0.toList (rd_T70 xs (i : Int)).f0.toList)
            rwa [Bool.not_not] at this
          · simp only [if_neg h0, h0, not_false_eq_true, decide_true, Bool.true_or]
            exact hj false
theorem impl_CarryOk_ev (xs : List Cr) (hn : xs.length ≤ 140737488355328) (hx : ∀ x ∈ xs, x.f0.size ≤ 140737488355328) : Ev (fun k => impl_CarryOk.f k xs) (carryB xs) := by
  simpa [impl_CarryOk.f, carryB] using impl_CarryOk_l xs hn hx xs.length 0 (by omega)
theorem FnExactCarryOk (l0 : List (S92)) (g0 : (l0.length * 32 ≤ 140737488351232 ∧ ∀ x ∈ l0, (x.f0.size ≤ 140737488351232 ∧ (Lit.int .i64 x.f1).wf = true ∧ (Lit.int .i64 x.f2).wf = true))) : ∃ k, laws_FnExactCarryOk.f k l0 = some true := by
  have hn : l0.length ≤ 8796093022208 := by omega
  have hx : ∀ x ∈ l0, wCarry x ≤ 140737488355328 := fun x hx => by have := (g0.2 x hx).1; unfold wCarry; omega
  have hm : ∀ x ∈ l0.map convCarry, x.f0.size ≤ 140737488355328 := by
    intro x h
    obtain ⟨y, hy, rfl⟩ := List.mem_map.1 h
    exact hx y hy
  have hl : (l0.map convCarry).length ≤ 140737488355328 := by rw [List.length_map]; omega
  refine Ev.rounds ?_
  simp only [laws_FnExactCarryOk.f]
  obtain ⟨v, hv, hr⟩ := szCarryS_ev l0 1048576 (by omega) (by omega) (by omega) hx
  refine hv.bind ?_
  by_cases hs : v < 0
  · simp only [if_pos hs]
    exact ev_now _
  · simp only [if_neg hs]
    refine (toCarryS_ev l0 hn).bind ?_
    refine (spec_CarryOk_ev _ hl hm).bind ?_
    refine (toCarryS_ev l0 hn).bind ?_
    refine (impl_CarryOk_ev _ hl hm).bind ?_
    simp only [bne_self_eq_false, Bool.false_eq_true, if_false]
    refine (toCarryS_ev l0 hn).bind ?_
    exact (eqCarryS_self _ hl).bind (f := fun _ t => if t = true then some true else some false) (ev_now _)
end Go.Proofs.Ytbgdibbgngpggaa.Pure
