/- The program's DoWork answers as the reference's at every argument, writes into no argument and owns its answer. No condition. -/
import Derived.Test.YtdimdlifjdbgnaaPFnExactDoWorkx20
import Derived.Test.YtdimdlifjdbgnaaBase
set_option linter.unusedVariables false
set_option linter.unusedSimpArgs false
namespace Go.Proofs.Ytdimdlifjdbgnaa.Pure
open Go.RowKit Go.Proofs.Ytdimdlifjdbgnaa.PFnExactDoWork Go.Proofs.Ytdimdlifjdbgnaa.Base Go.Proofs.YtdimdlifjdbgnaaW.PrintWords Go.Proofs.YtdimdlifjdbgnaaW.PrintLast
theorem rdwTask {xs : List S134} {i : Nat} (h : i < xs.length) : rd_T134 xs (i : Int) = xs[i] := by
  simp [rd_T134, List.getD_eq_getElem?_getD, h]
def wTask (x : S134) : Nat := x.f0.size
theorem szTask_eq (x : S134) (left : Int) (h0 : 0 ≤ left) (h1 : left ≤ 1048576) (hw : wTask x ≤ 140737488355328) : laws_szTask.f x.f0 x.f1 x.f2 x.f3 x.f4.f0 x.f4.f1 x.f4.f2 left = some (if left - (wTask x : Int) < 0 then -1 else left - (wTask x : Int)) := by
  unfold wTask at hw ⊢
  unfold laws_szTask.f
  rw [w64 (by omega) (by omega)]
  split <;> rfl
theorem szTaskS_l (xs : List S134) (hn : xs.length ≤ 140737488355328) (hx : ∀ x ∈ xs, wTask x ≤ 140737488355328) (d : Nat) : ∀ (i : Nat) (left : Int), i + d = xs.length → 0 ≤ left → left ≤ 1048576 →
    ∃ v, Ev (fun k => laws_szTaskS.l0 k xs left (i : Int)) v ∧ (v < 0 ∨ (0 ≤ v ∧ v + (((xs.drop i).map wTask).sum : Nat) = left)) := by
  induction d with
  | zero =>
    intro i left h h0 h1
    refine ⟨left, ev_succ ?_, .inr ⟨h0, ?_⟩⟩
    · simp only [laws_szTaskS.l0, if_neg (show ¬ ((i : Int) < (xs.length : Int)) by omega)]
      exact ev_now _
    · rw [List.drop_of_length_le (by omega)]; simp
  | succ d ih =>
    intro i left h h0 h1
    have hlt : i < xs.length := by omega
    have hxi := hx _ (List.getElem_mem hlt)
    by_cases hs : left - (wTask (xs[i]) : Int) < 0
    · refine ⟨-1, ev_succ ?_, .inl (by omega)⟩
      simp only [laws_szTaskS.l0, if_pos (show ((i : Int) < (xs.length : Int)) by omega), if_pos (show (0 : Int) ≤ (i : Int) by omega), rdwTask hlt, szTask_eq _ left h0 h1 hxi, if_pos hs, Option.bind_some, if_pos (show (-1 : Int) < 0 by omega)]
      exact ev_now _
    · obtain ⟨v, hv, hr⟩ := ih (i + 1) (left - (wTask (xs[i]) : Int)) (by omega) (by omega) (by omega)
      refine ⟨v, ev_succ ?_, ?_⟩
      · simp only [laws_szTaskS.l0, if_pos (show ((i : Int) < (xs.length : Int)) by omega), if_pos (show (0 : Int) ≤ (i : Int) by omega), rdwTask hlt, szTask_eq _ left h0 h1 hxi, if_neg hs, Option.bind_some, w64s i (by omega)]
        exact hv
      · rcases hr with hr | ⟨hr0, hr⟩
        · exact .inl hr
        · refine .inr ⟨hr0, ?_⟩
          rw [List.drop_eq_getElem_cons hlt, List.map_cons, List.sum_cons]
          omega
theorem szTaskS_ev (xs : List S134) (left : Int) (h0 : 0 ≤ left) (h1 : left ≤ 1048576) (hn : xs.length ≤ 140737488355328) (hx : ∀ x ∈ xs, wTask x ≤ 140737488355328) :
    ∃ v, Ev (fun k => laws_szTaskS.f k xs left) v ∧ (v < 0 ∨ (0 ≤ v ∧ v + (xs.length : Int) + ((xs.map wTask).sum : Nat) = left)) := by
  simp only [laws_szTaskS.f]
  rw [w64 (by omega) (by omega)]
  by_cases hs : left - (xs.length : Int) < 0
  · simp only [if_pos hs]
    exact ⟨-1, ev_now _, .inl (by omega)⟩
  · simp only [if_neg hs]
    obtain ⟨v, hv, hr⟩ := szTaskS_l xs hn hx xs.length 0 (left - (xs.length : Int)) (by omega) (by omega) (by omega)
    refine ⟨v, hv, ?_⟩
    rcases hr with hr | ⟨hr0, hr⟩
    · exact .inl hr
    · rw [List.drop_zero] at hr
      exact .inr ⟨hr0, by omega⟩
/-! The helpers over Tasks. -/
def convTask (x : S134) : S44 := ⟨x.f0, x.f1, x.f2, x.f3, ⟨x.f4.f0, x.f4.f1, x.f4.f2⟩⟩
theorem rdlTask {xs : List S134} {i : Nat} (h : i < xs.length) : rd_T134 xs (i : Int) = xs[i] := by
  simp [rd_T134, List.getD_eq_getElem?_getD, h]
theorem rdiTask {xs : List S44} {i : Nat} (h : i < xs.length) : rd_T44 xs (i : Int) = xs[i] := by
  simp [rd_T44, List.getD_eq_getElem?_getD, h]
theorem dropTask {xs : List S44} {i : Nat} (h : i < xs.length) : xs.drop i = rd_T44 xs (i : Int) :: xs.drop (i + 1) := by
  rw [List.drop_eq_getElem_cons h, rdiTask h]
theorem toTaskS_l (xs : List S134) (hn : xs.length ≤ 4398046511104) (d : Nat) : ∀ i : Nat, i + d = xs.length →
    Ev (fun k => laws_toTaskS.l0 k xs ((xs.map convTask).take i ++ List.replicate (xs.length - i) z44) (i : Int)) (xs.map convTask) := by
  induction d with
  | zero =>
    intro i h
    refine ev_succ ?_
    simp only [laws_toTaskS.l0, if_neg (show ¬ ((i : Int) < (xs.length : Int)) by omega)]
    exact ev_some (by rw [List.take_of_length_le (by simp; omega), show xs.length - i = 0 by omega]; simp)
  | succ d ih =>
    intro i h
    refine ev_succ ?_
    have hlt : i < xs.length := by omega
    have hl : (((xs.map convTask).take i ++ List.replicate (xs.length - i) z44).length : Int) = (xs.length : Int) := by simp; omega
    have hs := take_setG (xs := xs) (c := convTask) hlt z44
    simp only [laws_toTaskS.l0, if_pos (show ((i : Int) < (xs.length : Int)) by omega), if_pos (show (0 : Int) ≤ (i : Int) by omega), hl, w64s i (by omega), Int.toNat_natCast, rdlTask hlt, laws_toTask.f, laws_toClock.f, Option.bind_some]
    rw [show ((xs.map convTask).take i ++ List.replicate (xs.length - i) z44).set i ⟨(xs[i]).f0, (xs[i]).f1, (xs[i]).f2, (xs[i]).f3, ⟨(xs[i]).f4.f0, (xs[i]).f4.f1, (xs[i]).f4.f2⟩⟩ = _ from hs]
    exact ih (i + 1) (by omega)
theorem toTaskS_ev (xs : List S134) (hn : xs.length ≤ 4398046511104) : Ev (fun k => laws_toTaskS.f k xs) (xs.map convTask) := by
  simp only [laws_toTaskS.f, if_pos (show (0 : Int) ≤ (xs.length : Int) by omega), Int.toNat_natCast, if_pos hn]
  simpa using toTaskS_l xs hn xs.length 0 (by omega)
theorem eqTaskS_l (xs : List S44) (hn : xs.length ≤ 140737488355328) (d : Nat) : ∀ i : Nat, i + d = xs.length →
    Ev (fun k => laws_eqTaskS.l0 k xs xs (i : Int)) true := by
  induction d with
  | zero =>
    intro i h
    refine ev_succ ?_
    simp only [laws_eqTaskS.l0, if_neg (show ¬ ((i : Int) < (xs.length : Int)) by omega)]
    exact ev_now _
  | succ d ih =>
    intro i h
    refine ev_succ ?_
    simp only [laws_eqTaskS.l0, if_pos (show ((i : Int) < (xs.length : Int)) by omega), if_pos (show (0 : Int) ≤ (i : Int) by omega), w64s i (by omega), laws_eqTask.f, laws_eqClock.f, Option.bind_some, if_true]
    exact ih (i + 1) (by omega)
theorem eqTaskS_self (xs : List S44) (hn : xs.length ≤ 140737488355328) : Ev (fun k => laws_eqTaskS.f k xs xs) true := by
  simp only [laws_eqTaskS.f, if_true]
  simpa using eqTaskS_l xs hn xs.length 0 (by omega)
theorem rdwCarry {xs : List S136} {i : Nat} (h : i < xs.length) : rd_T136 xs (i : Int) = xs[i] := by
  simp [rd_T136, List.getD_eq_getElem?_getD, h]
def wCarry (x : S136) : Nat := x.f0.size
theorem szCarry_eq (x : S136) (left : Int) (h0 : 0 ≤ left) (h1 : left ≤ 1048576) (hw : wCarry x ≤ 140737488355328) : laws_szCarry.f x.f0 x.f1 x.f2 left = some (if left - (wCarry x : Int) < 0 then -1 else left - (wCarry x : Int)) := by
  unfold wCarry at hw ⊢
  unfold laws_szCarry.f
  rw [w64 (by omega) (by omega)]
  split <;> rfl
theorem szCarryS_l (xs : List S136) (hn : xs.length ≤ 140737488355328) (hx : ∀ x ∈ xs, wCarry x ≤ 140737488355328) (d : Nat) : ∀ (i : Nat) (left : Int), i + d = xs.length → 0 ≤ left → left ≤ 1048576 →
    ∃ v, Ev (fun k => laws_szCarryS.l0 k xs left (i : Int)) v ∧ (v < 0 ∨ (0 ≤ v ∧ v + (((xs.drop i).map wCarry).sum : Nat) = left)) := by
  induction d with
  | zero =>
    intro i left h h0 h1
    refine ⟨left, ev_succ ?_, .inr ⟨h0, ?_⟩⟩
    · simp only [laws_szCarryS.l0, if_neg (show ¬ ((i : Int) < (xs.length : Int)) by omega)]
      exact ev_now _
    · rw [List.drop_of_length_le (by omega)]; simp
  | succ d ih =>
    intro i left h h0 h1
    have hlt : i < xs.length := by omega
    have hxi := hx _ (List.getElem_mem hlt)
    by_cases hs : left - (wCarry (xs[i]) : Int) < 0
    · refine ⟨-1, ev_succ ?_, .inl (by omega)⟩
      simp only [laws_szCarryS.l0, if_pos (show ((i : Int) < (xs.length : Int)) by omega), if_pos (show (0 : Int) ≤ (i : Int) by omega), rdwCarry hlt, szCarry_eq _ left h0 h1 hxi, if_pos hs, Option.bind_some, if_pos (show (-1 : Int) < 0 by omega)]
      exact ev_now _
    · obtain ⟨v, hv, hr⟩ := ih (i + 1) (left - (wCarry (xs[i]) : Int)) (by omega) (by omega) (by omega)
      refine ⟨v, ev_succ ?_, ?_⟩
      · simp only [laws_szCarryS.l0, if_pos (show ((i : Int) < (xs.length : Int)) by omega), if_pos (show (0 : Int) ≤ (i : Int) by omega), rdwCarry hlt, szCarry_eq _ left h0 h1 hxi, if_neg hs, Option.bind_some, w64s i (by omega)]
        exact hv
      · rcases hr with hr | ⟨hr0, hr⟩
        · exact .inl hr
        · refine .inr ⟨hr0, ?_⟩
          rw [List.drop_eq_getElem_cons hlt, List.map_cons, List.sum_cons]
          omega
theorem szCarryS_ev (xs : List S136) (left : Int) (h0 : 0 ≤ left) (h1 : left ≤ 1048576) (hn : xs.length ≤ 140737488355328) (hx : ∀ x ∈ xs, wCarry x ≤ 140737488355328) :
    ∃ v, Ev (fun k => laws_szCarryS.f k xs left) v ∧ (v < 0 ∨ (0 ≤ v ∧ v + (xs.length : Int) + ((xs.map wCarry).sum : Nat) = left)) := by
  simp only [laws_szCarryS.f]
  rw [w64 (by omega) (by omega)]
  by_cases hs : left - (xs.length : Int) < 0
  · simp only [if_pos hs]
    exact ⟨-1, ev_now _, .inl (by omega)⟩
  · simp only [if_neg hs]
    obtain ⟨v, hv, hr⟩ := szCarryS_l xs hn hx xs.length 0 (left - (xs.length : Int)) (by omega) (by omega) (by omega)
    refine ⟨v, hv, ?_⟩
    rcases hr with hr | ⟨hr0, hr⟩
    · exact .inl hr
    · rw [List.drop_zero] at hr
      exact .inr ⟨hr0, by omega⟩
/-! The helpers over Carrys. -/
def convCarry (x : S136) : S84 := ⟨x.f0, x.f1, x.f2⟩
theorem rdlCarry {xs : List S136} {i : Nat} (h : i < xs.length) : rd_T136 xs (i : Int) = xs[i] := by
  simp [rd_T136, List.getD_eq_getElem?_getD, h]
theorem rdiCarry {xs : List S84} {i : Nat} (h : i < xs.length) : rd_T84 xs (i : Int) = xs[i] := by
  simp [rd_T84, List.getD_eq_getElem?_getD, h]
theorem dropCarry {xs : List S84} {i : Nat} (h : i < xs.length) : xs.drop i = rd_T84 xs (i : Int) :: xs.drop (i + 1) := by
  rw [List.drop_eq_getElem_cons h, rdiCarry h]
theorem toCarryS_l (xs : List S136) (hn : xs.length ≤ 8796093022208) (d : Nat) : ∀ i : Nat, i + d = xs.length →
    Ev (fun k => laws_toCarryS.l0 k xs ((xs.map convCarry).take i ++ List.replicate (xs.length - i) z84) (i : Int)) (xs.map convCarry) := by
  induction d with
  | zero =>
    intro i h
    refine ev_succ ?_
    simp only [laws_toCarryS.l0, if_neg (show ¬ ((i : Int) < (xs.length : Int)) by omega)]
    exact ev_some (by rw [List.take_of_length_le (by simp; omega), show xs.length - i = 0 by omega]; simp)
  | succ d ih =>
    intro i h
    refine ev_succ ?_
    have hlt : i < xs.length := by omega
    have hl : (((xs.map convCarry).take i ++ List.replicate (xs.length - i) z84).length : Int) = (xs.length : Int) := by simp; omega
    have hs := take_setG (xs := xs) (c := convCarry) hlt z84
    simp only [laws_toCarryS.l0, if_pos (show ((i : Int) < (xs.length : Int)) by omega), if_pos (show (0 : Int) ≤ (i : Int) by omega), hl, w64s i (by omega), Int.toNat_natCast, rdlCarry hlt, laws_toCarry.f, Option.bind_some]
    rw [show ((xs.map convCarry).take i ++ List.replicate (xs.length - i) z84).set i ⟨(xs[i]).f0, (xs[i]).f1, (xs[i]).f2⟩ = _ from hs]
    exact ih (i + 1) (by omega)
theorem toCarryS_ev (xs : List S136) (hn : xs.length ≤ 8796093022208) : Ev (fun k => laws_toCarryS.f k xs) (xs.map convCarry) := by
  simp only [laws_toCarryS.f, if_pos (show (0 : Int) ≤ (xs.length : Int) by omega), Int.toNat_natCast, if_pos hn]
  simpa using toCarryS_l xs hn xs.length 0 (by omega)
theorem eqCarryS_l (xs : List S84) (hn : xs.length ≤ 140737488355328) (d : Nat) : ∀ i : Nat, i + d = xs.length →
    Ev (fun k => laws_eqCarryS.l0 k xs xs (i : Int)) true := by
  induction d with
  | zero =>
    intro i h
    refine ev_succ ?_
    simp only [laws_eqCarryS.l0, if_neg (show ¬ ((i : Int) < (xs.length : Int)) by omega)]
    exact ev_now _
  | succ d ih =>
    intro i h
    refine ev_succ ?_
    simp only [laws_eqCarryS.l0, if_pos (show ((i : Int) < (xs.length : Int)) by omega), if_pos (show (0 : Int) ≤ (i : Int) by omega), w64s i (by omega), laws_eqCarry.f, Option.bind_some, if_true]
    exact ih (i + 1) (by omega)
theorem eqCarryS_self (xs : List S84) (hn : xs.length ≤ 140737488355328) : Ev (fun k => laws_eqCarryS.f k xs xs) true := by
  simp only [laws_eqCarryS.f, if_true]
  simpa using eqCarryS_l xs hn xs.length 0 (by omega)
theorem rdwDefect {xs : List S138} {i : Nat} (h : i < xs.length) : rd_T138 xs (i : Int) = xs[i] := by
  simp [rd_T138, List.getD_eq_getElem?_getD, h]
def wDefect (x : S138) : Nat := x.f0.size
theorem szDefect_eq (x : S138) (left : Int) (h0 : 0 ≤ left) (h1 : left ≤ 1048576) (hw : wDefect x ≤ 140737488355328) : laws_szDefect.f x.f0 x.f1 x.f2 left = some (if left - (wDefect x : Int) < 0 then -1 else left - (wDefect x : Int)) := by
  unfold wDefect at hw ⊢
  unfold laws_szDefect.f
  rw [w64 (by omega) (by omega)]
  split <;> rfl
theorem szDefectS_l (xs : List S138) (hn : xs.length ≤ 140737488355328) (hx : ∀ x ∈ xs, wDefect x ≤ 140737488355328) (d : Nat) : ∀ (i : Nat) (left : Int), i + d = xs.length → 0 ≤ left → left ≤ 1048576 →
    ∃ v, Ev (fun k => laws_szDefectS.l0 k xs left (i : Int)) v ∧ (v < 0 ∨ (0 ≤ v ∧ v + (((xs.drop i).map wDefect).sum : Nat) = left)) := by
  induction d with
  | zero =>
    intro i left h h0 h1
    refine ⟨left, ev_succ ?_, .inr ⟨h0, ?_⟩⟩
    · simp only [laws_szDefectS.l0, if_neg (show ¬ ((i : Int) < (xs.length : Int)) by omega)]
      exact ev_now _
    · rw [List.drop_of_length_le (by omega)]; simp
  | succ d ih =>
    intro i left h h0 h1
    have hlt : i < xs.length := by omega
    have hxi := hx _ (List.getElem_mem hlt)
    by_cases hs : left - (wDefect (xs[i]) : Int) < 0
    · refine ⟨-1, ev_succ ?_, .inl (by omega)⟩
      simp only [laws_szDefectS.l0, if_pos (show ((i : Int) < (xs.length : Int)) by omega), if_pos (show (0 : Int) ≤ (i : Int) by omega), rdwDefect hlt, szDefect_eq _ left h0 h1 hxi, if_pos hs, Option.bind_some, if_pos (show (-1 : Int) < 0 by omega)]
      exact ev_now _
    · obtain ⟨v, hv, hr⟩ := ih (i + 1) (left - (wDefect (xs[i]) : Int)) (by omega) (by omega) (by omega)
      refine ⟨v, ev_succ ?_, ?_⟩
      · simp only [laws_szDefectS.l0, if_pos (show ((i : Int) < (xs.length : Int)) by omega), if_pos (show (0 : Int) ≤ (i : Int) by omega), rdwDefect hlt, szDefect_eq _ left h0 h1 hxi, if_neg hs, Option.bind_some, w64s i (by omega)]
        exact hv
      · rcases hr with hr | ⟨hr0, hr⟩
        · exact .inl hr
        · refine .inr ⟨hr0, ?_⟩
          rw [List.drop_eq_getElem_cons hlt, List.map_cons, List.sum_cons]
          omega
theorem szDefectS_ev (xs : List S138) (left : Int) (h0 : 0 ≤ left) (h1 : left ≤ 1048576) (hn : xs.length ≤ 140737488355328) (hx : ∀ x ∈ xs, wDefect x ≤ 140737488355328) :
    ∃ v, Ev (fun k => laws_szDefectS.f k xs left) v ∧ (v < 0 ∨ (0 ≤ v ∧ v + (xs.length : Int) + ((xs.map wDefect).sum : Nat) = left)) := by
  simp only [laws_szDefectS.f]
  rw [w64 (by omega) (by omega)]
  by_cases hs : left - (xs.length : Int) < 0
  · simp only [if_pos hs]
    exact ⟨-1, ev_now _, .inl (by omega)⟩
  · simp only [if_neg hs]
    obtain ⟨v, hv, hr⟩ := szDefectS_l xs hn hx xs.length 0 (left - (xs.length : Int)) (by omega) (by omega) (by omega)
    refine ⟨v, hv, ?_⟩
    rcases hr with hr | ⟨hr0, hr⟩
    · exact .inl hr
    · rw [List.drop_zero] at hr
      exact .inr ⟨hr0, by omega⟩
/-! The helpers over Defects. -/
def convDefect (x : S138) : S57 := ⟨x.f0, x.f1, x.f2⟩
theorem rdlDefect {xs : List S138} {i : Nat} (h : i < xs.length) : rd_T138 xs (i : Int) = xs[i] := by
  simp [rd_T138, List.getD_eq_getElem?_getD, h]
theorem rdiDefect {xs : List S57} {i : Nat} (h : i < xs.length) : rd_T57 xs (i : Int) = xs[i] := by
  simp [rd_T57, List.getD_eq_getElem?_getD, h]
theorem dropDefect {xs : List S57} {i : Nat} (h : i < xs.length) : xs.drop i = rd_T57 xs (i : Int) :: xs.drop (i + 1) := by
  rw [List.drop_eq_getElem_cons h, rdiDefect h]
theorem toDefectS_l (xs : List S138) (hn : xs.length ≤ 8796093022208) (d : Nat) : ∀ i : Nat, i + d = xs.length →
    Ev (fun k => laws_toDefectS.l0 k xs ((xs.map convDefect).take i ++ List.replicate (xs.length - i) z57) (i : Int)) (xs.map convDefect) := by
  induction d with
  | zero =>
    intro i h
    refine ev_succ ?_
    simp only [laws_toDefectS.l0, if_neg (show ¬ ((i : Int) < (xs.length : Int)) by omega)]
    exact ev_some (by rw [List.take_of_length_le (by simp; omega), show xs.length - i = 0 by omega]; simp)
  | succ d ih =>
    intro i h
    refine ev_succ ?_
    have hlt : i < xs.length := by omega
    have hl : (((xs.map convDefect).take i ++ List.replicate (xs.length - i) z57).length : Int) = (xs.length : Int) := by simp; omega
    have hs := take_setG (xs := xs) (c := convDefect) hlt z57
    simp only [laws_toDefectS.l0, if_pos (show ((i : Int) < (xs.length : Int)) by omega), if_pos (show (0 : Int) ≤ (i : Int) by omega), hl, w64s i (by omega), Int.toNat_natCast, rdlDefect hlt, laws_toDefect.f, Option.bind_some]
    rw [show ((xs.map convDefect).take i ++ List.replicate (xs.length - i) z57).set i ⟨(xs[i]).f0, (xs[i]).f1, (xs[i]).f2⟩ = _ from hs]
    exact ih (i + 1) (by omega)
theorem toDefectS_ev (xs : List S138) (hn : xs.length ≤ 8796093022208) : Ev (fun k => laws_toDefectS.f k xs) (xs.map convDefect) := by
  simp only [laws_toDefectS.f, if_pos (show (0 : Int) ≤ (xs.length : Int) by omega), Int.toNat_natCast, if_pos hn]
  simpa using toDefectS_l xs hn xs.length 0 (by omega)
theorem eqDefectS_l (xs : List S57) (hn : xs.length ≤ 140737488355328) (d : Nat) : ∀ i : Nat, i + d = xs.length →
    Ev (fun k => laws_eqDefectS.l0 k xs xs (i : Int)) true := by
  induction d with
  | zero =>
    intro i h
    refine ev_succ ?_
    simp only [laws_eqDefectS.l0, if_neg (show ¬ ((i : Int) < (xs.length : Int)) by omega)]
    exact ev_now _
  | succ d ih =>
    intro i h
    refine ev_succ ?_
    simp only [laws_eqDefectS.l0, if_pos (show ((i : Int) < (xs.length : Int)) by omega), if_pos (show (0 : Int) ≤ (i : Int) by omega), w64s i (by omega), laws_eqDefect.f, Option.bind_some, if_true]
    exact ih (i + 1) (by omega)
theorem eqDefectS_self (xs : List S57) (hn : xs.length ≤ 140737488355328) : Ev (fun k => laws_eqDefectS.f k xs xs) true := by
  simp only [laws_eqDefectS.f, if_true]
  simpa using eqDefectS_l xs hn xs.length 0 (by omega)
theorem toFleet_ev (ts : List S134) (cs : List S136) (ds : List S138) (p q r : Int) (ht : ts.length ≤ 4398046511104) (hc : cs.length ≤ 8796093022208) (hd : ds.length ≤ 8796093022208) : Ev (fun k => laws_toFleet.f k ts cs ds p q r) (ts.map convTask, cs.map convCarry, ds.map convDefect, p, q, r) := by
  simp only [laws_toFleet.f, laws_toClock.f, Option.bind_some]
  refine (toTaskS_ev ts ht).bind ?_
  refine (toCarryS_ev cs hc).bind ?_
  exact (toDefectS_ev ds hd).bind (f := fun _ t => some (ts.map convTask, cs.map convCarry, t, p, q, r)) (ev_now _)
theorem eqFleet_self (ts : List Tk) (cs : List Cr) (ds : List Df) (p q r : Int) (ht : ts.length ≤ 140737488355328) (hc : cs.length ≤ 140737488355328) (hd : ds.length ≤ 140737488355328) : Ev (fun k => laws_eqFleet.f k ts cs ds p q r ts cs ds p q r) true := by
  simp only [laws_eqFleet.f, laws_eqClock.f, if_true, Option.bind_some]
  refine (eqTaskS_self ts ht).bind ?_
  simp only [if_true]
  refine (eqCarryS_self cs hc).bind ?_
  simp only [if_true]
  exact (eqDefectS_self ds hd).bind (f := fun _ t => if t = true then some true else some false) (ev_now _)
theorem szFleet_ev (ts : List S134) (cs : List S136) (ds : List S138) (p q r : Int) (ht : ts.length ≤ 140737488355328) (htx : ∀ x ∈ ts, wTask x ≤ 140737488355328) (hc : cs.length ≤ 140737488355328) (hcx : ∀ x ∈ cs, wCarry x ≤ 140737488355328) (hd : ds.length ≤ 140737488355328) (hdx : ∀ x ∈ ds, wDefect x ≤ 140737488355328) :
    ∃ v, Ev (fun k => laws_szFleet.f k ts cs ds p q r 1048576) v := by
  simp only [laws_szFleet.f]
  obtain ⟨v1, h1, r1⟩ := szTaskS_ev ts 1048576 (by omega) (by omega) ht htx
  by_cases s1 : v1 < 0
  · refine ⟨-1, h1.bind ?_⟩
    simp only [if_pos s1]
    exact ev_now _
  · obtain ⟨v2, h2, r2⟩ := szCarryS_ev cs v1 (by omega) (by omega) hc hcx
    by_cases s2 : v2 < 0
    · refine ⟨-1, h1.bind ?_⟩
      simp only [if_neg s1]
      refine h2.bind ?_
      simp only [if_pos s2]
      exact ev_now _
    · obtain ⟨v3, h3, r3⟩ := szDefectS_ev ds v2 (by omega) (by omega) hd hdx
      by_cases s3 : v3 < 0
      · refine ⟨-1, h1.bind ?_⟩
        simp only [if_neg s1]
        refine h2.bind ?_
        simp only [if_neg s2]
        refine h3.bind ?_
        simp only [if_pos s3]
        exact ev_now _
      · refine ⟨v3, h1.bind ?_⟩
        simp only [if_neg s1]
        refine h2.bind ?_
        simp only [if_neg s2]
        refine h3.bind ?_
        simp only [if_neg s3]
        exact ev_now _
/-! The text of a mark. -/
def mtL : Nat → Int → ByteArray → ByteArray
  | 0, _, x => (⟨#[109]⟩ : ByteArray) ++ x
  | n + 1, v, x => if v > 0 then mtL n (v / 10) (strOfNums [(wrap64 (48 + (Int.tmod v 10))) % 256] ++ x) else (⟨#[109]⟩ : ByteArray) ++ x
def mtx (v : Int) : ByteArray := mtL 19 v ⟨#[]⟩
theorem mtL_ev : ∀ (n : Nat) (v : Int) (x : ByteArray), 0 ≤ v → v ≤ 9223372036854775807 → v < 10 ^ n → x.size + n ≤ 1000 → Ev (fun k => laws_markText.l0 k v x) (mtL n v x)
  | 0, v, x, h0, _, h1, hx => by
    refine ev_succ ?_
    simp only [laws_markText.l0, if_neg (show ¬ v > 0 by simp at h1; omega), if_pos (show 1 + x.size ≤ 9223372036854775807 by omega)]
    exact ev_now _
  | n + 1, v, x, h0, h2, h1, hx => by
    refine ev_succ ?_
    unfold mtL
    by_cases c : v > 0
    · have hd : Int.tdiv v 10 = v / 10 := Int.tdiv_eq_ediv_of_nonneg h0
      have hs : (strOfNums [(wrap64 (48 + (Int.tmod v 10))) % 256]).size = 1 := rfl
      have hp : v / 10 < 10 ^ n := by rw [Int.pow_succ] at h1; omega
      simp only [laws_markText.l0, if_pos c, Option.bind_some, hs, if_pos (show 1 + x.size ≤ 9223372036854775807 by omega), hd, w64 (n := v / 10) (by omega) (by omega)]
      exact mtL_ev n (v / 10) _ (by omega) (by omega) hp (by rw [ByteArray.size_append, hs]; omega)
    · simp only [laws_markText.l0, if_neg c, if_pos (show 1 + x.size ≤ 9223372036854775807 by omega)]
      exact ev_now _
theorem markText_ev (v : Int) (h0 : 0 < v) (h1 : v ≤ 1152921504606846976) : Ev (fun k => laws_markText.f k v) (mtx v) := by
  simp only [laws_markText.f, if_neg (show ¬ v ≤ 0 by omega)]
  exact mtL_ev 19 v ⟨#[]⟩ (by omega) (by omega) (by omega) (by decide)
/-! The marks of Tasks. -/
def tmarks (k0 : Int) (n : Nat) : List S44 := (List.range n).map fun i : Nat => ⟨mtx (k0 + 7 * (i : Int)), k0 + 7 * (i : Int) + 1, k0 + 7 * (i : Int) + 1 + 1, k0 + 7 * (i : Int) + 1 + 1 + 1, ⟨k0 + 7 * (i : Int) + 1 + 1 + 1 + 1, k0 + 7 * (i : Int) + 1 + 1 + 1 + 1 + 1, k0 + 7 * (i : Int) + 1 + 1 + 1 + 1 + 1 + 1⟩⟩
theorem tmarks_length (k0 : Int) (n : Nat) : (tmarks k0 n).length = n := by simp [tmarks]
theorem trd {xs : List S44} {i : Nat} (h : i < xs.length) : rd_T44 xs (i : Int) = xs[i] := by simp [rd_T44, List.getD_eq_getElem?_getD, h]
theorem trd_set {xs : List S44} {i : Nat} (h : i < xs.length) (a : S44) : rd_T44 (xs.set i a) (i : Int) = a := by rw [trd (by simpa using h)]; simp
theorem tmarks_set {k0 : Int} {xs : List S44} {i : Nat} (h : i < xs.length) : (tmarks k0 i ++ xs.drop i).set i ⟨mtx (k0 + 7 * (i : Int)), k0 + 7 * (i : Int) + 1, k0 + 7 * (i : Int) + 1 + 1, k0 + 7 * (i : Int) + 1 + 1 + 1, ⟨k0 + 7 * (i : Int) + 1 + 1 + 1 + 1, k0 + 7 * (i : Int) + 1 + 1 + 1 + 1 + 1, k0 + 7 * (i : Int) + 1 + 1 + 1 + 1 + 1 + 1⟩⟩ = tmarks k0 (i + 1) ++ xs.drop (i + 1) := by
  rw [List.set_append, if_neg (by rw [tmarks_length]; omega), tmarks_length, Nat.sub_self, List.drop_eq_getElem_cons h, List.set_cons_zero]
  simp [tmarks, List.range_succ]
theorem markTask_l (xs : List S44) (k0 : Int) (h0 : 0 < k0) (h1 : k0 ≤ 1125899906842624) (hn : xs.length ≤ 140737488355328) (d : Nat) : ∀ i : Nat, i + d = xs.length →
    Ev (fun k => laws_markTaskS.l0 k (tmarks k0 i ++ xs.drop i) (k0 + 7 * (i : Int)) (i : Int)) (k0 + 7 * (xs.length : Int), tmarks k0 xs.length) := by
  induction d with
  | zero =>
    intro i h
    obtain rfl : i = xs.length := by omega
    refine ev_succ ?_
    have hl : (tmarks k0 xs.length ++ xs.drop xs.length).length = xs.length := by rw [List.length_append, tmarks_length, List.length_drop]; omega
    simp only [laws_markTaskS.l0, hl, if_neg (show ¬ ((xs.length : Int) < (xs.length : Int)) by omega)]
    exact ev_some (by simp)
  | succ d ih =>
    intro i h
    have hi : i < xs.length := by omega
    have hl : (tmarks k0 i ++ xs.drop i).length = xs.length := by rw [List.length_append, tmarks_length, List.length_drop]; omega
    have hset := tmarks_set (k0 := k0) hi
    have hin := ih (i + 1) (by omega)
    rw [← hset] at hin
    generalize tmarks k0 i ++ xs.drop i = ys at hl hin
    have hiy : i < ys.length := by omega
    refine ev_succ ?_
    simp only [laws_markTaskS.l0, hl, if_pos (show ((i : Int) < (xs.length : Int)) by omega), if_pos (show (0 : Int) ≤ (i : Int) by omega), w64s i (show i < 9223372036854775807 by omega), Int.toNat_natCast, w64 (n := k0 + 7 * (i : Int) + 1) (by omega) (by omega), w64 (n := k0 + 7 * (i : Int) + 1 + 1) (by omega) (by omega), w64 (n := k0 + 7 * (i : Int) + 1 + 1 + 1) (by omega) (by omega), w64 (n := k0 + 7 * (i : Int) + 1 + 1 + 1 + 1) (by omega) (by omega), w64 (n := k0 + 7 * (i : Int) + 1 + 1 + 1 + 1 + 1) (by omega) (by omega), w64 (n := k0 + 7 * (i : Int) + 1 + 1 + 1 + 1 + 1 + 1) (by omega) (by omega), w64 (n := k0 + 7 * (i : Int) + 1 + 1 + 1 + 1 + 1 + 1 + 1) (by omega) (by omega)]
    refine (markText_ev (k0 + 7 * (i : Int)) (by omega) (by omega)).bind ?_
    simp only [Option.bind_some, trd_set hiy, List.set_set]
    have hb : ∀ a, rd_T44 (ys.set i a) (i : Int) = a := fun a => trd_set hiy a
    (try simp only [hb, List.set_set])
    rw [show k0 + 7 * ((i + 1 : Nat) : Int) = k0 + 7 * (i : Int) + 1 + 1 + 1 + 1 + 1 + 1 + 1 by omega] at hin
    exact hin
theorem markTask_ev (xs : List S44) (k0 : Int) (h0 : 0 < k0) (h1 : k0 ≤ 1125899906842624) (hn : xs.length ≤ 140737488355328) : Ev (fun k => laws_markTaskS.f k xs k0) (k0 + 7 * (xs.length : Int), tmarks k0 xs.length) := by
  have := markTask_l xs k0 h0 h1 hn xs.length 0 (by omega)
  simpa [laws_markTaskS.f, tmarks] using this
theorem heldTask_l (n : Nat) (k0 : Int) (h0 : 0 < k0) (h1 : k0 ≤ 1125899906842624) (hn : n ≤ 140737488355328) (d : Nat) : ∀ i : Nat, i + d = n →
    Ev (fun k => laws_heldTaskS.l0 k (tmarks k0 n) (k0 + 7 * (i : Int)) (i : Int)) (k0 + 7 * (n : Int)) := by
  induction d with
  | zero =>
    intro i h
    refine ev_succ ?_
    simp only [laws_heldTaskS.l0, tmarks_length, if_neg (show ¬ ((i : Int) < (n : Int)) by omega)]
    exact ev_some (by omega)
  | succ d ih =>
    intro i h
    have hr : rd_T44 (tmarks k0 n) (i : Int) = ⟨mtx (k0 + 7 * (i : Int)), k0 + 7 * (i : Int) + 1, k0 + 7 * (i : Int) + 1 + 1, k0 + 7 * (i : Int) + 1 + 1 + 1, ⟨k0 + 7 * (i : Int) + 1 + 1 + 1 + 1, k0 + 7 * (i : Int) + 1 + 1 + 1 + 1 + 1, k0 + 7 * (i : Int) + 1 + 1 + 1 + 1 + 1 + 1⟩⟩ := by
      rw [trd (by rw [tmarks_length]; omega)]
      simp [tmarks]
    refine ev_succ ?_
    simp only [laws_heldTaskS.l0, tmarks_length, hr, if_pos (show ((i : Int) < (n : Int)) by omega), if_pos (show (0 : Int) ≤ (i : Int) by omega), w64s i (by omega), w64 (n := k0 + 7 * (i : Int) + 1) (by omega) (by omega), w64 (n := k0 + 7 * (i : Int) + 1 + 1) (by omega) (by omega), w64 (n := k0 + 7 * (i : Int) + 1 + 1 + 1) (by omega) (by omega), w64 (n := k0 + 7 * (i : Int) + 1 + 1 + 1 + 1) (by omega) (by omega), w64 (n := k0 + 7 * (i : Int) + 1 + 1 + 1 + 1 + 1) (by omega) (by omega), w64 (n := k0 + 7 * (i : Int) + 1 + 1 + 1 + 1 + 1 + 1) (by omega) (by omega), w64 (n := k0 + 7 * (i : Int) + 1 + 1 + 1 + 1 + 1 + 1 + 1) (by omega) (by omega)]
    refine (markText_ev (k0 + 7 * (i : Int)) (by omega) (by omega)).bind ?_
    simp only [if_true]
    have := ih (i + 1) (by omega)
    rw [show k0 + 7 * ((i + 1 : Nat) : Int) = k0 + 7 * (i : Int) + 1 + 1 + 1 + 1 + 1 + 1 + 1 by omega] at this
    exact this
theorem heldTask_ev (n : Nat) (k0 : Int) (h0 : 0 < k0) (h1 : k0 ≤ 1125899906842624) (hn : n ≤ 140737488355328) : Ev (fun k => laws_heldTaskS.f k (tmarks k0 n) k0) (k0 + 7 * (n : Int)) := by
  have := heldTask_l n k0 h0 h1 hn n 0 (by omega)
  simpa [laws_heldTaskS.f] using this
/-! The marks of Carrys. -/
def cmarks (k0 : Int) (n : Nat) : List S84 := (List.range n).map fun i : Nat => ⟨mtx (k0 + 3 * (i : Int)), k0 + 3 * (i : Int) + 1, k0 + 3 * (i : Int) + 1 + 1⟩
theorem cmarks_length (k0 : Int) (n : Nat) : (cmarks k0 n).length = n := by simp [cmarks]
theorem crd {xs : List S84} {i : Nat} (h : i < xs.length) : rd_T84 xs (i : Int) = xs[i] := by simp [rd_T84, List.getD_eq_getElem?_getD, h]
theorem crd_set {xs : List S84} {i : Nat} (h : i < xs.length) (a : S84) : rd_T84 (xs.set i a) (i : Int) = a := by rw [crd (by simpa using h)]; simp
theorem cmarks_set {k0 : Int} {xs : List S84} {i : Nat} (h : i < xs.length) : (cmarks k0 i ++ xs.drop i).set i ⟨mtx (k0 + 3 * (i : Int)), k0 + 3 * (i : Int) + 1, k0 + 3 * (i : Int) + 1 + 1⟩ = cmarks k0 (i + 1) ++ xs.drop (i + 1) := by
  rw [List.set_append, if_neg (by rw [cmarks_length]; omega), cmarks_length, Nat.sub_self, List.drop_eq_getElem_cons h, List.set_cons_zero]
  simp [cmarks, List.range_succ]
theorem markCarry_l (xs : List S84) (k0 : Int) (h0 : 0 < k0) (h1 : k0 ≤ 1125899906842624) (hn : xs.length ≤ 140737488355328) (d : Nat) : ∀ i : Nat, i + d = xs.length →
    Ev (fun k => laws_markCarryS.l0 k (cmarks k0 i ++ xs.drop i) (k0 + 3 * (i : Int)) (i : Int)) (k0 + 3 * (xs.length : Int), cmarks k0 xs.length) := by
  induction d with
  | zero =>
    intro i h
    obtain rfl : i = xs.length := by omega
    refine ev_succ ?_
    have hl : (cmarks k0 xs.length ++ xs.drop xs.length).length = xs.length := by rw [List.length_append, cmarks_length, List.length_drop]; omega
    simp only [laws_markCarryS.l0, hl, if_neg (show ¬ ((xs.length : Int) < (xs.length : Int)) by omega)]
    exact ev_some (by simp)
  | succ d ih =>
    intro i h
    have hi : i < xs.length := by omega
    have hl : (cmarks k0 i ++ xs.drop i).length = xs.length := by rw [List.length_append, cmarks_length, List.length_drop]; omega
    have hset := cmarks_set (k0 := k0) hi
    have hin := ih (i + 1) (by omega)
    rw [← hset] at hin
    generalize cmarks k0 i ++ xs.drop i = ys at hl hin
    have hiy : i < ys.length := by omega
    refine ev_succ ?_
    simp only [laws_markCarryS.l0, hl, if_pos (show ((i : Int) < (xs.length : Int)) by omega), if_pos (show (0 : Int) ≤ (i : Int) by omega), w64s i (show i < 9223372036854775807 by omega), Int.toNat_natCast, w64 (n := k0 + 3 * (i : Int) + 1) (by omega) (by omega), w64 (n := k0 + 3 * (i : Int) + 1 + 1) (by omega) (by omega), w64 (n := k0 + 3 * (i : Int) + 1 + 1 + 1) (by omega) (by omega)]
    refine (markText_ev (k0 + 3 * (i : Int)) (by omega) (by omega)).bind ?_
    simp only [Option.bind_some, crd_set hiy, List.set_set]
    have hb : ∀ a, rd_T84 (ys.set i a) (i : Int) = a := fun a => crd_set hiy a
    (try simp only [hb, List.set_set])
    rw [show k0 + 3 * ((i + 1 : Nat) : Int) = k0 + 3 * (i : Int) + 1 + 1 + 1 by omega] at hin
    exact hin
theorem markCarry_ev (xs : List S84) (k0 : Int) (h0 : 0 < k0) (h1 : k0 ≤ 1125899906842624) (hn : xs.length ≤ 140737488355328) : Ev (fun k => laws_markCarryS.f k xs k0) (k0 + 3 * (xs.length : Int), cmarks k0 xs.length) := by
  have := markCarry_l xs k0 h0 h1 hn xs.length 0 (by omega)
  simpa [laws_markCarryS.f, cmarks] using this
theorem heldCarry_l (n : Nat) (k0 : Int) (h0 : 0 < k0) (h1 : k0 ≤ 1125899906842624) (hn : n ≤ 140737488355328) (d : Nat) : ∀ i : Nat, i + d = n →
    Ev (fun k => laws_heldCarryS.l0 k (cmarks k0 n) (k0 + 3 * (i : Int)) (i : Int)) (k0 + 3 * (n : Int)) := by
  induction d with
  | zero =>
    intro i h
    refine ev_succ ?_
    simp only [laws_heldCarryS.l0, cmarks_length, if_neg (show ¬ ((i : Int) < (n : Int)) by omega)]
    exact ev_some (by omega)
  | succ d ih =>
    intro i h
    have hr : rd_T84 (cmarks k0 n) (i : Int) = ⟨mtx (k0 + 3 * (i : Int)), k0 + 3 * (i : Int) + 1, k0 + 3 * (i : Int) + 1 + 1⟩ := by
      rw [crd (by rw [cmarks_length]; omega)]
      simp [cmarks]
    refine ev_succ ?_
    simp only [laws_heldCarryS.l0, cmarks_length, hr, if_pos (show ((i : Int) < (n : Int)) by omega), if_pos (show (0 : Int) ≤ (i : Int) by omega), w64s i (by omega), w64 (n := k0 + 3 * (i : Int) + 1) (by omega) (by omega), w64 (n := k0 + 3 * (i : Int) + 1 + 1) (by omega) (by omega), w64 (n := k0 + 3 * (i : Int) + 1 + 1 + 1) (by omega) (by omega)]
    refine (markText_ev (k0 + 3 * (i : Int)) (by omega) (by omega)).bind ?_
    simp only [if_true]
    have := ih (i + 1) (by omega)
    rw [show k0 + 3 * ((i + 1 : Nat) : Int) = k0 + 3 * (i : Int) + 1 + 1 + 1 by omega] at this
    exact this
theorem heldCarry_ev (n : Nat) (k0 : Int) (h0 : 0 < k0) (h1 : k0 ≤ 1125899906842624) (hn : n ≤ 140737488355328) : Ev (fun k => laws_heldCarryS.f k (cmarks k0 n) k0) (k0 + 3 * (n : Int)) := by
  have := heldCarry_l n k0 h0 h1 hn n 0 (by omega)
  simpa [laws_heldCarryS.f] using this
/-! The marks of Defects. -/
def fmarks (k0 : Int) (n : Nat) : List S57 := (List.range n).map fun i : Nat => ⟨mtx (k0 + 3 * (i : Int)), k0 + 3 * (i : Int) + 1, k0 + 3 * (i : Int) + 1 + 1⟩
theorem fmarks_length (k0 : Int) (n : Nat) : (fmarks k0 n).length = n := by simp [fmarks]
theorem frd {xs : List S57} {i : Nat} (h : i < xs.length) : rd_T57 xs (i : Int) = xs[i] := by simp [rd_T57, List.getD_eq_getElem?_getD, h]
theorem frd_set {xs : List S57} {i : Nat} (h : i < xs.length) (a : S57) : rd_T57 (xs.set i a) (i : Int) = a := by rw [frd (by simpa using h)]; simp
theorem fmarks_set {k0 : Int} {xs : List S57} {i : Nat} (h : i < xs.length) : (fmarks k0 i ++ xs.drop i).set i ⟨mtx (k0 + 3 * (i : Int)), k0 + 3 * (i : Int) + 1, k0 + 3 * (i : Int) + 1 + 1⟩ = fmarks k0 (i + 1) ++ xs.drop (i + 1) := by
  rw [List.set_append, if_neg (by rw [fmarks_length]; omega), fmarks_length, Nat.sub_self, List.drop_eq_getElem_cons h, List.set_cons_zero]
  simp [fmarks, List.range_succ]
theorem markDefect_l (xs : List S57) (k0 : Int) (h0 : 0 < k0) (h1 : k0 ≤ 1125899906842624) (hn : xs.length ≤ 140737488355328) (d : Nat) : ∀ i : Nat, i + d = xs.length →
    Ev (fun k => laws_markDefectS.l0 k (fmarks k0 i ++ xs.drop i) (k0 + 3 * (i : Int)) (i : Int)) (k0 + 3 * (xs.length : Int), fmarks k0 xs.length) := by
  induction d with
  | zero =>
    intro i h
    obtain rfl : i = xs.length := by omega
    refine ev_succ ?_
    have hl : (fmarks k0 xs.length ++ xs.drop xs.length).length = xs.length := by rw [List.length_append, fmarks_length, List.length_drop]; omega
    simp only [laws_markDefectS.l0, hl, if_neg (show ¬ ((xs.length : Int) < (xs.length : Int)) by omega)]
    exact ev_some (by simp)
  | succ d ih =>
    intro i h
    have hi : i < xs.length := by omega
    have hl : (fmarks k0 i ++ xs.drop i).length = xs.length := by rw [List.length_append, fmarks_length, List.length_drop]; omega
    have hset := fmarks_set (k0 := k0) hi
    have hin := ih (i + 1) (by omega)
    rw [← hset] at hin
    generalize fmarks k0 i ++ xs.drop i = ys at hl hin
    have hiy : i < ys.length := by omega
    refine ev_succ ?_
    simp only [laws_markDefectS.l0, hl, if_pos (show ((i : Int) < (xs.length : Int)) by omega), if_pos (show (0 : Int) ≤ (i : Int) by omega), w64s i (show i < 9223372036854775807 by omega), Int.toNat_natCast, w64 (n := k0 + 3 * (i : Int) + 1) (by omega) (by omega), w64 (n := k0 + 3 * (i : Int) + 1 + 1) (by omega) (by omega), w64 (n := k0 + 3 * (i : Int) + 1 + 1 + 1) (by omega) (by omega)]
    refine (markText_ev (k0 + 3 * (i : Int)) (by omega) (by omega)).bind ?_
    simp only [Option.bind_some, frd_set hiy, List.set_set]
    have hb : ∀ a, rd_T57 (ys.set i a) (i : Int) = a := fun a => frd_set hiy a
    (try simp only [hb, List.set_set])
    rw [show k0 + 3 * ((i + 1 : Nat) : Int) = k0 + 3 * (i : Int) + 1 + 1 + 1 by omega] at hin
    exact hin
theorem markDefect_ev (xs : List S57) (k0 : Int) (h0 : 0 < k0) (h1 : k0 ≤ 1125899906842624) (hn : xs.length ≤ 140737488355328) : Ev (fun k => laws_markDefectS.f k xs k0) (k0 + 3 * (xs.length : Int), fmarks k0 xs.length) := by
  have := markDefect_l xs k0 h0 h1 hn xs.length 0 (by omega)
  simpa [laws_markDefectS.f, fmarks] using this
theorem heldDefect_l (n : Nat) (k0 : Int) (h0 : 0 < k0) (h1 : k0 ≤ 1125899906842624) (hn : n ≤ 140737488355328) (d : Nat) : ∀ i : Nat, i + d = n →
    Ev (fun k => laws_heldDefectS.l0 k (fmarks k0 n) (k0 + 3 * (i : Int)) (i : Int)) (k0 + 3 * (n : Int)) := by
  induction d with
  | zero =>
    intro i h
    refine ev_succ ?_
    simp only [laws_heldDefectS.l0, fmarks_length, if_neg (show ¬ ((i : Int) < (n : Int)) by omega)]
    exact ev_some (by omega)
  | succ d ih =>
    intro i h
    have hr : rd_T57 (fmarks k0 n) (i : Int) = ⟨mtx (k0 + 3 * (i : Int)), k0 + 3 * (i : Int) + 1, k0 + 3 * (i : Int) + 1 + 1⟩ := by
      rw [frd (by rw [fmarks_length]; omega)]
      simp [fmarks]
    refine ev_succ ?_
    simp only [laws_heldDefectS.l0, fmarks_length, hr, if_pos (show ((i : Int) < (n : Int)) by omega), if_pos (show (0 : Int) ≤ (i : Int) by omega), w64s i (by omega), w64 (n := k0 + 3 * (i : Int) + 1) (by omega) (by omega), w64 (n := k0 + 3 * (i : Int) + 1 + 1) (by omega) (by omega), w64 (n := k0 + 3 * (i : Int) + 1 + 1 + 1) (by omega) (by omega)]
    refine (markText_ev (k0 + 3 * (i : Int)) (by omega) (by omega)).bind ?_
    simp only [if_true]
    have := ih (i + 1) (by omega)
    rw [show k0 + 3 * ((i + 1 : Nat) : Int) = k0 + 3 * (i : Int) + 1 + 1 + 1 by omega] at this
    exact this
theorem heldDefect_ev (n : Nat) (k0 : Int) (h0 : 0 < k0) (h1 : k0 ≤ 1125899906842624) (hn : n ≤ 140737488355328) : Ev (fun k => laws_heldDefectS.f k (fmarks k0 n) k0) (k0 + 3 * (n : Int)) := by
  have := heldDefect_l n k0 h0 h1 hn n 0 (by omega)
  simpa [laws_heldDefectS.f] using this
theorem markFleet_ev (ts : List Tk) (cs : List Cr) (ds : List Df) (p q r : Int) (ht : ts.length ≤ 4398046511104) (hc : cs.length ≤ 8796093022208) (hd : ds.length ≤ 8796093022208) : Ev (fun k => laws_markFleet.f k ts cs ds p q r 1) (1 + 7 * (ts.length : Int) + 3 * (cs.length : Int) + 3 * (ds.length : Int), tmarks 1 ts.length, cmarks (1 + 7 * (ts.length : Int)) cs.length, fmarks (1 + 7 * (ts.length : Int) + 3 * (cs.length : Int)) ds.length) := by
  simp only [laws_markFleet.f]
  refine (markTask_ev ts 1 (by omega) (by omega) (by omega)).bind ?_
  refine (markCarry_ev cs _ (by omega) (by omega) (by omega)).bind ?_
  refine (markDefect_ev ds _ (by omega) (by omega) (by omega)).bind ?_
  exact ev_now _
theorem heldFleet_ev (a b c : Nat) (p q r : Int) (ht : a ≤ 4398046511104) (hc : b ≤ 8796093022208) (hd : c ≤ 8796093022208) : Ev (fun k => laws_heldFleet.f k (tmarks 1 a) (cmarks (1 + 7 * (a : Int)) b) (fmarks (1 + 7 * (a : Int) + 3 * (b : Int)) c) p q r 1) (1 + 7 * (a : Int) + 3 * (b : Int) + 3 * (c : Int)) := by
  simp only [laws_heldFleet.f]
  refine (heldTask_ev a 1 (by omega) (by omega) (by omega)).bind ?_
  simp only [if_neg (show ¬ (1 + 7 * (a : Int)) < 0 by omega)]
  refine (heldCarry_ev b _ (by omega) (by omega) (by omega)).bind ?_
  simp only [if_neg (show ¬ (1 + 7 * (a : Int) + 3 * (b : Int)) < 0 by omega)]
  refine (heldDefect_ev c _ (by omega) (by omega) (by omega)).bind ?_
  simp only [if_neg (show ¬ (1 + 7 * (a : Int) + 3 * (b : Int) + 3 * (c : Int)) < 0 by omega)]
  exact ev_now _
/-! What a DoWork leaves is as good as what it was given. -/
abbrev Dd := S42
theorem rd_atD {l : List Dd} {i : Nat} (h : i < l.length) : rd_T42 l (i : Int) = l[i] := by simp [rd_T42, List.getD_eq_getElem?_getD, h]
def Good (ts : List Tk) (cs : List Cr) (ds : List Df) : Prop := fleetSzB ts cs ds = true ∧ fleetCopyB ts cs ds = true
theorem copy_iff {ts : List Tk} {cs : List Cr} {ds : List Df} : fleetCopyB ts cs ds = true ↔ ts.length < 2199023255552 ∧ cs.length < 4398046511104 ∧ ds.length < 4398046511104 := by
  unfold fleetCopyB; simp only [Bool.and_eq_true, decide_eq_true_eq]
theorem mem_set_of {α : Type} {l : List α} {k : Nat} {a x : α} (h : x ∈ l.set k a) : x = a ∨ x ∈ l := by
  rcases List.mem_or_eq_of_mem_set h with h | h
  · exact .inr h
  · exact .inl h
theorem doF_shape {ts : List Tk} {cs : List Cr} {ds : List Df} {p q r d0 : Int} {d1 : ByteArray} {d2 d3 : Int} {ts' : List Tk} {ds' : List Df} {p' q' r' : Int} (h : doF ts cs ds p q r d0 d1 d2 d3 = some (ts', ds', p', q', r')) :
    (ts' = ts ∨ (ts' = workT ts d1 p q r ∧ cutAt (cmpT d1) ts < ts.length)) ∧ (ds' = ds ∨ (∃ k, ds' = ds.take k ++ ⟨d1, d2, r⟩ :: ds.drop k ∧ ds.length < 20) ∨ ∃ k, ds' = ds.eraseIdx k) := by
  unfold doF at h
  by_cases e1 : d0 = 1
  · rw [if_pos e1] at h
    split at h
    · simp only [Option.some.injEq, Prod.mk.injEq] at h
      exact ⟨.inl h.1.symm, .inl h.2.1.symm⟩
    · cases h
  rw [if_neg e1] at h
  by_cases e2 : d0 = 2
  · rw [if_pos e2] at h
    split at h
    · rename_i hb
      simp only [Option.some.injEq, Prod.mk.injEq] at h
      obtain ⟨hm, _⟩ := bsHit_at hb
      exact ⟨.inr ⟨h.1.symm, hm⟩, .inl h.2.1.symm⟩
    · cases h
  rw [if_neg e2] at h
  by_cases e3 : d0 = 3
  · rw [if_pos e3] at h
    split at h
    · rename_i hb
      simp only [Option.some.injEq, Prod.mk.injEq] at h
      simp only [Bool.and_eq_true, decide_eq_true_eq] at hb
      exact ⟨.inl h.1.symm, .inr (.inl ⟨_, h.2.1.symm, hb.2.2.2⟩)⟩
    · cases h
  rw [if_neg e3] at h
  by_cases e4 : d0 = 4
  · rw [if_pos e4] at h
    split at h
    · simp only [Option.some.injEq, Prod.mk.injEq] at h
      exact ⟨.inl h.1.symm, .inr (.inr ⟨_, h.2.1.symm⟩)⟩
    · cases h
  rw [if_neg e4] at h
  split at h
  · split at h
    · simp only [Option.some.injEq, Prod.mk.injEq] at h
      exact ⟨.inl h.1.symm, .inl h.2.1.symm⟩
    · cases h
  · cases h
theorem doF_good {ts : List Tk} {cs : List Cr} {ds : List Df} {p q r d0 : Int} {d1 : ByteArray} {d2 d3 : Int} {ts' : List Tk} {ds' : List Df} {p' q' r' : Int} (hg : Good ts cs ds) (hs : d1.size ≤ 140737488355328) (h : doF ts cs ds p q r d0 d1 d2 d3 = some (ts', ds', p', q', r')) : Good ts' cs ds' := by
  obtain ⟨h1, h2⟩ := doF_shape h
  have z := fleetSz_of.1 hg.1
  have y := copy_iff.1 hg.2
  have T : (∀ x ∈ ts', x.f0.size ≤ 140737488355328) ∧ ts'.length = ts.length := by
    rcases h1 with rfl | ⟨rfl, hm⟩
    · exact ⟨z.t, rfl⟩
    · refine ⟨fun x hx => ?_, by unfold workT; rw [List.length_set]⟩
      rcases mem_set_of hx with rfl | hx
      · show (rd_T44 ts _).f0.size ≤ _
        rw [rd_at44 hm]
        exact z.t _ (List.getElem_mem hm)
      · exact z.t x hx
  have D : (∀ x ∈ ds', x.f0.size ≤ 140737488355328) ∧ ds'.length ≤ max ds.length 20 := by
    rcases h2 with rfl | ⟨k, rfl, hk⟩ | ⟨k, rfl⟩
    · exact ⟨z.d, Nat.le_max_left _ _⟩
    · refine ⟨fun x hx => ?_, ?_⟩
      · rcases List.mem_append.1 hx with hx | hx
        · exact z.d x (List.mem_of_mem_take hx)
        · rcases List.mem_cons.1 hx with rfl | hx
          · exact hs
          · exact z.d x (List.mem_of_mem_drop hx)
      · simp only [List.length_append, List.length_take, List.length_cons, List.length_drop]; omega
    · refine ⟨fun x hx => z.d x (List.mem_of_mem_eraseIdx hx), ?_⟩
      have := List.length_eraseIdx_le ds k
      omega
  exact ⟨fleetSz_of.2 ⟨T.1, z.c, D.1, by rw [T.2]; exact z.tn, z.cn, by have := z.dn; omega⟩, copy_iff.2 ⟨by omega, y.2.1, by omega⟩⟩
theorem workF_good {ts : List Tk} {cs : List Cr} {ds : List Df} {p q r d0 : Int} {d1 : ByteArray} {d2 d3 : Int} (hg : Good ts cs ds) (hs : d1.size ≤ 140737488355328) : (workF ts cs ds p q r d0 d1 d2 d3).2.1 = cs ∧ Good (workF ts cs ds p q r d0 d1 d2 d3).1 cs (workF ts cs ds p q r d0 d1 d2 d3).2.2.1 := by
  by_cases h : (workF ts cs ds p q r d0 d1 d2 d3).2.2.2.2.2.2 = true
  · obtain ⟨_, ts', ds', p', q', r', hD, _, hW⟩ := workF_true h
    rw [hW]
    exact ⟨rfl, doF_good hg hs hD⟩
  · rw [(workF_false h).1]
    exact ⟨rfl, hg⟩
theorem FnExactDoWork (l0_0 : List (S134)) (l0_1 : List (S136)) (l0_2 : List (S138)) (a0_3 : Int) (a0_4 : Int) (a0_5 : Int) (a1_0 : Int) (a1_1 : ByteArray) (a1_2 : Int) (a1_3 : Int) (g0 : ((l0_0.length * 64 ≤ 140737488351232 ∧ ∀ x ∈ l0_0, (x.f0.size ≤ 140737488351232 ∧ (Lit.int .i64 x.f1).wf = true ∧ (Lit.int .i64 x.f2).wf = true ∧ (Lit.int .i64 x.f3).wf = true ∧ (Lit.int .i64 x.f4.f0).wf = true ∧ (Lit.int .i64 x.f4.f1).wf = true ∧ (Lit.int .i64 x.f4.f2).wf = true)) ∧ (l0_1.length * 32 ≤ 140737488351232 ∧ ∀ x ∈ l0_1, (x.f0.size ≤ 140737488351232 ∧ (Lit.int .i64 x.f1).wf = true ∧ (Lit.int .i64 x.f2).wf = true)) ∧ (l0_2.length * 32 ≤ 140737488351232 ∧ ∀ x ∈ l0_2, (x.f0.size ≤ 140737488351232 ∧ (Lit.int .i64 x.f1).wf = true ∧ (Lit.int .i64 x.f2).wf = true)) ∧ ((Lit.int .i64 a0_3).wf = true ∧ (Lit.int .i64 a0_4).wf = true ∧ (Lit.int .i64 a0_5).wf = true))) (g1 : ((Lit.int .i64 a1_0).wf = true ∧ a1_1.size ≤ 140737488351232 ∧ (Lit.int .i64 a1_2).wf = true ∧ (Lit.int .i64 a1_3).wf = true)) : ∃ k, laws_FnExactDoWork.f k l0_0 l0_1 l0_2 a0_3 a0_4 a0_5 a1_0 a1_1 a1_2 a1_3 = some true := by
  obtain ⟨⟨ht0, ht1⟩, ⟨hc0, hc1⟩, ⟨hd0, hd1⟩, hq⟩ := g0
  obtain ⟨_, hs0, _⟩ := g1
  have ht : l0_0.length ≤ 4398046511104 := by omega
  have hc : l0_1.length ≤ 8796093022208 := by omega
  have hd : l0_2.length ≤ 8796093022208 := by omega
  have htx : ∀ x ∈ l0_0, wTask x ≤ 140737488355328 := fun x hx => by have := (ht1 x hx).1; unfold wTask; omega
  have hcx : ∀ x ∈ l0_1, wCarry x ≤ 140737488355328 := fun x hx => by have := (hc1 x hx).1; unfold wCarry; omega
  have hdx : ∀ x ∈ l0_2, wDefect x ≤ 140737488355328 := fun x hx => by have := (hd1 x hx).1; unfold wDefect; omega
  have mt : ∀ x ∈ l0_0.map convTask, x.f0.size ≤ 140737488355328 := by
    intro x h
    obtain ⟨y, hy, rfl⟩ := List.mem_map.1 h
    exact htx y hy
  have mc : ∀ x ∈ l0_1.map convCarry, x.f0.size ≤ 140737488355328 := by
    intro x h
    obtain ⟨y, hy, rfl⟩ := List.mem_map.1 h
    exact hcx y hy
  have md : ∀ x ∈ l0_2.map convDefect, x.f0.size ≤ 140737488355328 := by
    intro x h
    obtain ⟨y, hy, rfl⟩ := List.mem_map.1 h
    exact hdx y hy
  have lt : (l0_0.map convTask).length ≤ 140737488355328 := by rw [List.length_map]; omega
  have lc : (l0_1.map convCarry).length ≤ 140737488355328 := by rw [List.length_map]; omega
  have ld : (l0_2.map convDefect).length ≤ 140737488355328 := by rw [List.length_map]; omega
  have hz : fleetSzB (l0_0.map convTask) (l0_1.map convCarry) (l0_2.map convDefect) = true := fleetSz_of.2 ⟨mt, mc, md, lt, lc, ld⟩
  have hs : a1_1.size ≤ 140737488355328 := by omega
  have hg : Good (l0_0.map convTask) (l0_1.map convCarry) (l0_2.map convDefect) := ⟨hz, copy_iff.2 ⟨by rw [List.length_map]; omega, by rw [List.length_map]; omega, by rw [List.length_map]; omega⟩⟩
  have hw := workF_good (p := a0_3) (q := a0_4) (r := a0_5) (d0 := a1_0) (d1 := a1_1) (d2 := a1_2) (d3 := a1_3) hg hs
  obtain ⟨⟨t, c, d, p2, q2, r2, ok⟩, hO⟩ : ∃ o, workF (l0_0.map convTask) (l0_1.map convCarry) (l0_2.map convDefect) a0_3 a0_4 a0_5 a1_0 a1_1 a1_2 a1_3 = o := ⟨_, rfl⟩
  rw [hO] at hw
  obtain ⟨hwc, hwg⟩ := hw
  dsimp only at hwc hwg
  rw [← hwc] at hwg
  have y := copy_iff.1 hwg.2
  have y0 := copy_iff.1 hg.2
  obtain ⟨z1, hv⟩ := szFleet_ev l0_0 l0_1 l0_2 a0_3 a0_4 a0_5 (by omega) htx (by omega) hcx (by omega) hdx
  obtain ⟨k1, e1⟩ := hv.rounds
  obtain ⟨k2, e2⟩ := (toFleet_ev l0_0 l0_1 l0_2 a0_3 a0_4 a0_5 ht hc hd).rounds
  obtain ⟨k3, e3⟩ := (eqFleet_self t c d p2 q2 r2 (by omega) (by omega) (by omega)).rounds
  obtain ⟨k4, e4⟩ := (eqFleet_self _ _ _ a0_3 a0_4 a0_5 lt lc ld).rounds
  obtain ⟨k5, e5⟩ := (markFleet_ev (l0_0.map convTask) (l0_1.map convCarry) (l0_2.map convDefect) a0_3 a0_4 a0_5 (by omega) (by omega) (by omega)).rounds
  obtain ⟨k6, e6⟩ := (markFleet_ev t c d p2 q2 r2 (by omega) (by omega) (by omega)).rounds
  obtain ⟨k7, e7⟩ := (heldFleet_ev t.length c.length d.length p2 q2 r2 (by omega) (by omega) (by omega)).rounds
  obtain ⟨z2, e8⟩ : ∃ z, laws_szDeed19.f a1_0 a1_1 a1_2 a1_3 z1 = some z := by unfold laws_szDeed19.f; split <;> exact ⟨_, rfl⟩
  refine ⟨0, ?_⟩
  unfold laws_FnExactDoWork.f
  exact if_pos ⟨k1, k2, k3, k4, k5, k6, k7, _, _, _, t, c, d, p2, q2, r2, ok, z1, z2, _, _, _, _, _, _, _, _, e1, e8, e2, fleetSz_of.1 hz, hg.2, hs, hO, e3, e4, e5, e6, e7, by omega, by omega⟩
end Go.Proofs.Ytdimdlifjdbgnaa.Pure
