/- The program's DeskOk answers as the reference's at every argument, and keeps its argument. No condition. -/
import Derived.Test.YtljceaggilpgbaaPFnExactDeskOkx12
import Derived.Test.YtljceaggilpgbaaBase
set_option linter.unusedVariables false
set_option linter.unusedSimpArgs false
namespace Go.Proofs.Ytljceaggilpgbaa.Pure
open Go.RowKit Go.Proofs.Ytljceaggilpgbaa.PFnExactDeskOk Go.Proofs.Ytljceaggilpgbaa.Base Go.Proofs.YtljceaggilpgbaaW.PrintWords Go.Proofs.YtljceaggilpgbaaW.PrintLast
theorem rdwTask {xs : List S142} {i : Nat} (h : i < xs.length) : rd_T142 xs (i : Int) = xs[i] := by
  simp [rd_T142, List.getD_eq_getElem?_getD, h]
def wTask (x : S142) : Nat := x.f0.size
theorem szTask_eq (x : S142) (left : Int) (h0 : 0 ≤ left) (h1 : left ≤ 1048576) (hw : wTask x ≤ 140737488355328) : laws_szTask.f x.f0 x.f1 x.f2 x.f3 x.f4.f0 x.f4.f1 x.f4.f2 left = some (if left - (wTask x : Int) < 0 then -1 else left - (wTask x : Int)) := by
  unfold wTask at hw ⊢
  unfold laws_szTask.f
  rw [w64 (by omega) (by omega)]
  split <;> rfl
theorem szTaskS_l (xs : List S142) (hn : xs.length ≤ 140737488355328) (hx : ∀ x ∈ xs, wTask x ≤ 140737488355328) (d : Nat) : ∀ (i : Nat) (left : Int), i + d = xs.length → 0 ≤ left → left ≤ 1048576 →
    ∃ v, Ev (fun k => laws_szTaskS.l0 k xs left (i : Int)) v ∧ (v < 0 ∨ (0 ≤ v ∧ v + (((xs.drop i).map wTask).sum : Nat) = left)) := by
  induction d with
  | zero =>
    intro i left h h0 h1
    refine ⟨left, ev_succ ?_, .inr ⟨h0, ?_⟩⟩
    · simp only [laws_szTaskS.l0, if_neg (show ¬ ((i : Int) < (xs.length : Int)) by omega)]
      exact ev_now _
    · rw [List.drop_of_length_le (by omega)]; simp
  | succ d ih =>
    intro i left h h0 h1
    have hlt : i < xs.length := by omega
    have hxi := hx _ (List.getElem_mem hlt)
    by_cases hs : left - (wTask (xs[i]) : Int) < 0
    · refine ⟨-1, ev_succ ?_, .inl (by omega)⟩
      simp only [laws_szTaskS.l0, if_pos (show ((i : Int) < (xs.length : Int)) by omega), if_pos (show (0 : Int) ≤ (i : Int) by omega), rdwTask hlt, szTask_eq _ left h0 h1 hxi, if_pos hs, Option.bind_some, if_pos (show (-1 : Int) < 0 by omega)]
      exact ev_now _
    · obtain ⟨v, hv, hr⟩ := ih (i + 1) (left - (wTask (xs[i]) : Int)) (by omega) (by omega) (by omega)
      refine ⟨v, ev_succ ?_, ?_⟩
      · simp only [laws_szTaskS.l0, if_pos (show ((i : Int) < (xs.length : Int)) by omega), if_pos (show (0 : Int) ≤ (i : Int) by omega), rdwTask hlt, szTask_eq _ left h0 h1 hxi, if_neg hs, Option.bind_some, w64s i (by omega)]
        exact hv
      · rcases hr with hr | ⟨hr0, hr⟩
        · exact .inl hr
        · refine .inr ⟨hr0, ?_⟩
          rw [List.drop_eq_getElem_cons hlt, List.map_cons, List.sum_cons]
          omega
theorem szTaskS_ev (xs : List S142) (left : Int) (h0 : 0 ≤ left) (h1 : left ≤ 1048576) (hn : xs.length ≤ 140737488355328) (hx : ∀ x ∈ xs, wTask x ≤ 140737488355328) :
    ∃ v, Ev (fun k => laws_szTaskS.f k xs left) v ∧ (v < 0 ∨ (0 ≤ v ∧ v + (xs.length : Int) + ((xs.map wTask).sum : Nat) = left)) := by
  simp only [laws_szTaskS.f]
  rw [w64 (by omega) (by omega)]
  by_cases hs : left - (xs.length : Int) < 0
  · simp only [if_pos hs]
    exact ⟨-1, ev_now _, .inl (by omega)⟩
  · simp only [if_neg hs]
    obtain ⟨v, hv, hr⟩ := szTaskS_l xs hn hx xs.length 0 (left - (xs.length : Int)) (by omega) (by omega) (by omega)
    refine ⟨v, hv, ?_⟩
    rcases hr with hr | ⟨hr0, hr⟩
    · exact .inl hr
    · rw [List.drop_zero] at hr
      exact .inr ⟨hr0, by omega⟩
/-! The helpers over Tasks. -/
def convTask (x : S142) : S104 := ⟨x.f0, x.f1, x.f2, x.f3, ⟨x.f4.f0, x.f4.f1, x.f4.f2⟩⟩
theorem rdlTask {xs : List S142} {i : Nat} (h : i < xs.length) : rd_T142 xs (i : Int) = xs[i] := by
  simp [rd_T142, List.getD_eq_getElem?_getD, h]
theorem rdiTask {xs : List S104} {i : Nat} (h : i < xs.length) : rd_T104 xs (i : Int) = xs[i] := by
  simp [rd_T104, List.getD_eq_getElem?_getD, h]
theorem dropTask {xs : List S104} {i : Nat} (h : i < xs.length) : xs.drop i = rd_T104 xs (i : Int) :: xs.drop (i + 1) := by
  rw [List.drop_eq_getElem_cons h, rdiTask h]
theorem toTaskS_l (xs : List S142) (hn : xs.length ≤ 4398046511104) (d : Nat) : ∀ i : Nat, i + d = xs.length →
    Ev (fun k => laws_toTaskS.l0 k xs ((xs.map convTask).take i ++ List.replicate (xs.length - i) z104) (i : Int)) (xs.map convTask) := by
  induction d with
  | zero =>
    intro i h
    refine ev_succ ?_
    simp only [laws_toTaskS.l0, if_neg (show ¬ ((i : Int) < (xs.length : Int)) by omega)]
    exact ev_some (by rw [List.take_of_length_le (by simp; omega), show xs.length - i = 0 by omega]; simp)
  | succ d ih =>
    intro i h
    refine ev_succ ?_
    have hlt : i < xs.length := by omega
    have hl : (((xs.map convTask).take i ++ List.replicate (xs.length - i) z104).length : Int) = (xs.length : Int) := by simp; omega
    have hs := take_setG (xs := xs) (c := convTask) hlt z104
    simp only [laws_toTaskS.l0, if_pos (show ((i : Int) < (xs.length : Int)) by omega), if_pos (show (0 : Int) ≤ (i : Int) by omega), hl, w64s i (by omega), Int.toNat_natCast, rdlTask hlt, laws_toTask.f, laws_toClock.f, Option.bind_some]
    rw [show ((xs.map convTask).take i ++ List.replicate (xs.length - i) z104).set i ⟨(xs[i]).f0, (xs[i]).f1, (xs[i]).f2, (xs[i]).f3, ⟨(xs[i]).f4.f0, (xs[i]).f4.f1, (xs[i]).f4.f2⟩⟩ = _ from hs]
    exact ih (i + 1) (by omega)
theorem toTaskS_ev (xs : List S142) (hn : xs.length ≤ 4398046511104) : Ev (fun k => laws_toTaskS.f k xs) (xs.map convTask) := by
  simp only [laws_toTaskS.f, if_pos (show (0 : Int) ≤ (xs.length : Int) by omega), Int.toNat_natCast, if_pos hn]
  simpa using toTaskS_l xs hn xs.length 0 (by omega)
theorem eqTaskS_l (xs : List S104) (hn : xs.length ≤ 140737488355328) (d : Nat) : ∀ i : Nat, i + d = xs.length →
    Ev (fun k => laws_eqTaskS.l0 k xs xs (i : Int)) true := by
  induction d with
  | zero =>
    intro i h
    refine ev_succ ?_
    simp only [laws_eqTaskS.l0, if_neg (show ¬ ((i : Int) < (xs.length : Int)) by omega)]
    exact ev_now _
  | succ d ih =>
    intro i h
    refine ev_succ ?_
    simp only [laws_eqTaskS.l0, if_pos (show ((i : Int) < (xs.length : Int)) by omega), if_pos (show (0 : Int) ≤ (i : Int) by omega), w64s i (by omega), laws_eqTask.f, laws_eqClock.f, Option.bind_some, if_true]
    exact ih (i + 1) (by omega)
theorem eqTaskS_self (xs : List S104) (hn : xs.length ≤ 140737488355328) : Ev (fun k => laws_eqTaskS.f k xs xs) true := by
  simp only [laws_eqTaskS.f, if_true]
  simpa using eqTaskS_l xs hn xs.length 0 (by omega)
theorem rdwCarry {xs : List S144} {i : Nat} (h : i < xs.length) : rd_T144 xs (i : Int) = xs[i] := by
  simp [rd_T144, List.getD_eq_getElem?_getD, h]
def wCarry (x : S144) : Nat := x.f0.size
theorem szCarry_eq (x : S144) (left : Int) (h0 : 0 ≤ left) (h1 : left ≤ 1048576) (hw : wCarry x ≤ 140737488355328) : laws_szCarry.f x.f0 x.f1 x.f2 left = some (if left - (wCarry x : Int) < 0 then -1 else left - (wCarry x : Int)) := by
  unfold wCarry at hw ⊢
  unfold laws_szCarry.f
  rw [w64 (by omega) (by omega)]
  split <;> rfl
theorem szCarryS_l (xs : List S144) (hn : xs.length ≤ 140737488355328) (hx : ∀ x ∈ xs, wCarry x ≤ 140737488355328) (d : Nat) : ∀ (i : Nat) (left : Int), i + d = xs.length → 0 ≤ left → left ≤ 1048576 →
    ∃ v, Ev (fun k => laws_szCarryS.l0 k xs left (i : Int)) v ∧ (v < 0 ∨ (0 ≤ v ∧ v + (((xs.drop i).map wCarry).sum : Nat) = left)) := by
  induction d with
  | zero =>
    intro i left h h0 h1
    refine ⟨left, ev_succ ?_, .inr ⟨h0, ?_⟩⟩
    · simp only [laws_szCarryS.l0, if_neg (show ¬ ((i : Int) < (xs.length : Int)) by omega)]
      exact ev_now _
    · rw [List.drop_of_length_le (by omega)]; simp
  | succ d ih =>
    intro i left h h0 h1
    have hlt : i < xs.length := by omega
    have hxi := hx _ (List.getElem_mem hlt)
    by_cases hs : left - (wCarry (xs[i]) : Int) < 0
    · refine ⟨-1, ev_succ ?_, .inl (by omega)⟩
      simp only [laws_szCarryS.l0, if_pos (show ((i : Int) < (xs.length : Int)) by omega), if_pos (show (0 : Int) ≤ (i : Int) by omega), rdwCarry hlt, szCarry_eq _ left h0 h1 hxi, if_pos hs, Option.bind_some, if_pos (show (-1 : Int) < 0 by omega)]
      exact ev_now _
    · obtain ⟨v, hv, hr⟩ := ih (i + 1) (left - (wCarry (xs[i]) : Int)) (by omega) (by omega) (by omega)
      refine ⟨v, ev_succ ?_, ?_⟩
      · simp only [laws_szCarryS.l0, if_pos (show ((i : Int) < (xs.length : Int)) by omega), if_pos (show (0 : Int) ≤ (i : Int) by omega), rdwCarry hlt, szCarry_eq _ left h0 h1 hxi, if_neg hs, Option.bind_some, w64s i (by omega)]
        exact hv
      · rcases hr with hr | ⟨hr0, hr⟩
        · exact .inl hr
        · refine .inr ⟨hr0, ?_⟩
          rw [List.drop_eq_getElem_cons hlt, List.map_cons, List.sum_cons]
          omega
theorem szCarryS_ev (xs : List S144) (left : Int) (h0 : 0 ≤ left) (h1 : left ≤ 1048576) (hn : xs.length ≤ 140737488355328) (hx : ∀ x ∈ xs, wCarry x ≤ 140737488355328) :
    ∃ v, Ev (fun k => laws_szCarryS.f k xs left) v ∧ (v < 0 ∨ (0 ≤ v ∧ v + (xs.length : Int) + ((xs.map wCarry).sum : Nat) = left)) := by
  simp only [laws_szCarryS.f]
  rw [w64 (by omega) (by omega)]
  by_cases hs : left - (xs.length : Int) < 0
  · simp only [if_pos hs]
    exact ⟨-1, ev_now _, .inl (by omega)⟩
  · simp only [if_neg hs]
    obtain ⟨v, hv, hr⟩ := szCarryS_l xs hn hx xs.length 0 (left - (xs.length : Int)) (by omega) (by omega) (by omega)
    refine ⟨v, hv, ?_⟩
    rcases hr with hr | ⟨hr0, hr⟩
    · exact .inl hr
    · rw [List.drop_zero] at hr
      exact .inr ⟨hr0, by omega⟩
/-! The helpers over Carrys. -/
def convCarry (x : S144) : S137 := ⟨x.f0, x.f1, x.f2⟩
theorem rdlCarry {xs : List S144} {i : Nat} (h : i < xs.length) : rd_T144 xs (i : Int) = xs[i] := by
  simp [rd_T144, List.getD_eq_getElem?_getD, h]
theorem rdiCarry {xs : List S137} {i : Nat} (h : i < xs.length) : rd_T137 xs (i : Int) = xs[i] := by
  simp [rd_T137, List.getD_eq_getElem?_getD, h]
theorem dropCarry {xs : List S137} {i : Nat} (h : i < xs.length) : xs.drop i = rd_T137 xs (i : Int) :: xs.drop (i + 1) := by
  rw [List.drop_eq_getElem_cons h, rdiCarry h]
theorem toCarryS_l (xs : List S144) (hn : xs.length ≤ 8796093022208) (d : Nat) : ∀ i : Nat, i + d = xs.length →
    Ev (fun k => laws_toCarryS.l0 k xs ((xs.map convCarry).take i ++ List.replicate (xs.length - i) z137) (i : Int)) (xs.map convCarry) := by
  induction d with
  | zero =>
    intro i h
    refine ev_succ ?_
    simp only [laws_toCarryS.l0, if_neg (show ¬ ((i : Int) < (xs.length : Int)) by omega)]
    exact ev_some (by rw [List.take_of_length_le (by simp; omega), show xs.length - i = 0 by omega]; simp)
  | succ d ih =>
    intro i h
    refine ev_succ ?_
    have hlt : i < xs.length := by omega
    have hl : (((xs.map convCarry).take i ++ List.replicate (xs.length - i) z137).length : Int) = (xs.length : Int) := by simp; omega
    have hs := take_setG (xs := xs) (c := convCarry) hlt z137
    simp only [laws_toCarryS.l0, if_pos (show ((i : Int) < (xs.length : Int)) by omega), if_pos (show (0 : Int) ≤ (i : Int) by omega), hl, w64s i (by omega), Int.toNat_natCast, rdlCarry hlt, laws_toCarry.f, Option.bind_some]
    rw [show ((xs.map convCarry).take i ++ List.replicate (xs.length - i) z137).set i ⟨(xs[i]).f0, (xs[i]).f1, (xs[i]).f2⟩ = _ from hs]
    exact ih (i + 1) (by omega)
theorem toCarryS_ev (xs : List S144) (hn : xs.length ≤ 8796093022208) : Ev (fun k => laws_toCarryS.f k xs) (xs.map convCarry) := by
  simp only [laws_toCarryS.f, if_pos (show (0 : Int) ≤ (xs.length : Int) by omega), Int.toNat_natCast, if_pos hn]
  simpa using toCarryS_l xs hn xs.length 0 (by omega)
theorem eqCarryS_l (xs : List S137) (hn : xs.length ≤ 140737488355328) (d : Nat) : ∀ i : Nat, i + d = xs.length →
    Ev (fun k => laws_eqCarryS.l0 k xs xs (i : Int)) true := by
  induction d with
  | zero =>
    intro i h
    refine ev_succ ?_
    simp only [laws_eqCarryS.l0, if_neg (show ¬ ((i : Int) < (xs.length : Int)) by omega)]
    exact ev_now _
  | succ d ih =>
    intro i h
    refine ev_succ ?_
    simp only [laws_eqCarryS.l0, if_pos (show ((i : Int) < (xs.length : Int)) by omega), if_pos (show (0 : Int) ≤ (i : Int) by omega), w64s i (by omega), laws_eqCarry.f, Option.bind_some, if_true]
    exact ih (i + 1) (by omega)
theorem eqCarryS_self (xs : List S137) (hn : xs.length ≤ 140737488355328) : Ev (fun k => laws_eqCarryS.f k xs xs) true := by
  simp only [laws_eqCarryS.f, if_true]
  simpa using eqCarryS_l xs hn xs.length 0 (by omega)
theorem rdwDefect {xs : List S146} {i : Nat} (h : i < xs.length) : rd_T146 xs (i : Int) = xs[i] := by
  simp [rd_T146, List.getD_eq_getElem?_getD, h]
def wDefect (x : S146) : Nat := x.f0.size
theorem szDefect_eq (x : S146) (left : Int) (h0 : 0 ≤ left) (h1 : left ≤ 1048576) (hw : wDefect x ≤ 140737488355328) : laws_szDefect.f x.f0 x.f1 x.f2 left = some (if left - (wDefect x : Int) < 0 then -1 else left - (wDefect x : Int)) := by
  unfold wDefect at hw ⊢
  unfold laws_szDefect.f
  rw [w64 (by omega) (by omega)]
  split <;> rfl
theorem szDefectS_l (xs : List S146) (hn : xs.length ≤ 140737488355328) (hx : ∀ x ∈ xs, wDefect x ≤ 140737488355328) (d : Nat) : ∀ (i : Nat) (left : Int), i + d = xs.length → 0 ≤ left → left ≤ 1048576 →
    ∃ v, Ev (fun k => laws_szDefectS.l0 k xs left (i : Int)) v ∧ (v < 0 ∨ (0 ≤ v ∧ v + (((xs.drop i).map wDefect).sum : Nat) = left)) := by
  induction d with
  | zero =>
    intro i left h h0 h1
    refine ⟨left, ev_succ ?_, .inr ⟨h0, ?_⟩⟩
    · simp only [laws_szDefectS.l0, if_neg (show ¬ ((i : Int) < (xs.length : Int)) by omega)]
      exact ev_now _
    · rw [List.drop_of_length_le (by omega)]; simp
  | succ d ih =>
    intro i left h h0 h1
    have hlt : i < xs.length := by omega
    have hxi := hx _ (List.getElem_mem hlt)
    by_cases hs : left - (wDefect (xs[i]) : Int) < 0
    · refine ⟨-1, ev_succ ?_, .inl (by omega)⟩
      simp only [laws_szDefectS.l0, if_pos (show ((i : Int) < (xs.length : Int)) by omega), if_pos (show (0 : Int) ≤ (i : Int) by omega), rdwDefect hlt, szDefect_eq _ left h0 h1 hxi, if_pos hs, Option.bind_some, if_pos (show (-1 : Int) < 0 by omega)]
      exact ev_now _
    · obtain ⟨v, hv, hr⟩ := ih (i + 1) (left - (wDefect (xs[i]) : Int)) (by omega) (by omega) (by omega)
      refine ⟨v, ev_succ ?_, ?_⟩
      · simp only [laws_szDefectS.l0, if_pos (show ((i : Int) < (xs.length : Int)) by omega), if_pos (show (0 : Int) ≤ (i : Int) by omega), rdwDefect hlt, szDefect_eq _ left h0 h1 hxi, if_neg hs, Option.bind_some, w64s i (by omega)]
        exact hv
      · rcases hr with hr | ⟨hr0, hr⟩
        · exact .inl hr
        · refine .inr ⟨hr0, ?_⟩
          rw [List.drop_eq_getElem_cons hlt, List.map_cons, List.sum_cons]
          omega
theorem szDefectS_ev (xs : List S146) (left : Int) (h0 : 0 ≤ left) (h1 : left ≤ 1048576) (hn : xs.length ≤ 140737488355328) (hx : ∀ x ∈ xs, wDefect x ≤ 140737488355328) :
    ∃ v, Ev (fun k => laws_szDefectS.f k xs left) v ∧ (v < 0 ∨ (0 ≤ v ∧ v + (xs.length : Int) + ((xs.map wDefect).sum : Nat) = left)) := by
  simp only [laws_szDefectS.f]
  rw [w64 (by omega) (by omega)]
  by_cases hs : left - (xs.length : Int) < 0
  · simp only [if_pos hs]
    exact ⟨-1, ev_now _, .inl (by omega)⟩
  · simp only [if_neg hs]
    obtain ⟨v, hv, hr⟩ := szDefectS_l xs hn hx xs.length 0 (left - (xs.length : Int)) (by omega) (by omega) (by omega)
    refine ⟨v, hv, ?_⟩
    rcases hr with hr | ⟨hr0, hr⟩
    · exact .inl hr
    · rw [List.drop_zero] at hr
      exact .inr ⟨hr0, by omega⟩
/-! The helpers over Defects. -/
def convDefect (x : S146) : S63 := ⟨x.f0, x.f1, x.f2⟩
theorem rdlDefect {xs : List S146} {i : Nat} (h : i < xs.length) : rd_T146 xs (i : Int) = xs[i] := by
  simp [rd_T146, List.getD_eq_getElem?_getD, h]
theorem rdiDefect {xs : List S63} {i : Nat} (h : i < xs.length) : rd_T63 xs (i : Int) = xs[i] := by
  simp [rd_T63, List.getD_eq_getElem?_getD, h]
theorem dropDefect {xs : List S63} {i : Nat} (h : i < xs.length) : xs.drop i = rd_T63 xs (i : Int) :: xs.drop (i + 1) := by
  rw [List.drop_eq_getElem_cons h, rdiDefect h]
theorem toDefectS_l (xs : List S146) (hn : xs.length ≤ 8796093022208) (d : Nat) : ∀ i : Nat, i + d = xs.length →
    Ev (fun k => laws_toDefectS.l0 k xs ((xs.map convDefect).take i ++ List.replicate (xs.length - i) z63) (i : Int)) (xs.map convDefect) := by
  induction d with
  | zero =>
    intro i h
    refine ev_succ ?_
    simp only [laws_toDefectS.l0, if_neg (show ¬ ((i : Int) < (xs.length : Int)) by omega)]
    exact ev_some (by rw [List.take_of_length_le (by simp; omega), show xs.length - i = 0 by omega]; simp)
  | succ d ih =>
    intro i h
    refine ev_succ ?_
    have hlt : i < xs.length := by omega
    have hl : (((xs.map convDefect).take i ++ List.replicate (xs.length - i) z63).length : Int) = (xs.length : Int) := by simp; omega
    have hs := take_setG (xs := xs) (c := convDefect) hlt z63
    simp only [laws_toDefectS.l0, if_pos (show ((i : Int) < (xs.length : Int)) by omega), if_pos (show (0 : Int) ≤ (i : Int) by omega), hl, w64s i (by omega), Int.toNat_natCast, rdlDefect hlt, laws_toDefect.f, Option.bind_some]
    rw [show ((xs.map convDefect).take i ++ List.replicate (xs.length - i) z63).set i ⟨(xs[i]).f0, (xs[i]).f1, (xs[i]).f2⟩ = _ from hs]
    exact ih (i + 1) (by omega)
theorem toDefectS_ev (xs : List S146) (hn : xs.length ≤ 8796093022208) : Ev (fun k => laws_toDefectS.f k xs) (xs.map convDefect) := by
  simp only [laws_toDefectS.f, if_pos (show (0 : Int) ≤ (xs.length : Int) by omega), Int.toNat_natCast, if_pos hn]
  simpa using toDefectS_l xs hn xs.length 0 (by omega)
theorem eqDefectS_l (xs : List S63) (hn : xs.length ≤ 140737488355328) (d : Nat) : ∀ i : Nat, i + d = xs.length →
    Ev (fun k => laws_eqDefectS.l0 k xs xs (i : Int)) true := by
  induction d with
  | zero =>
    intro i h
    refine ev_succ ?_
    simp only [laws_eqDefectS.l0, if_neg (show ¬ ((i : Int) < (xs.length : Int)) by omega)]
    exact ev_now _
  | succ d ih =>
    intro i h
    refine ev_succ ?_
    simp only [laws_eqDefectS.l0, if_pos (show ((i : Int) < (xs.length : Int)) by omega), if_pos (show (0 : Int) ≤ (i : Int) by omega), w64s i (by omega), laws_eqDefect.f, Option.bind_some, if_true]
    exact ih (i + 1) (by omega)
theorem eqDefectS_self (xs : List S63) (hn : xs.length ≤ 140737488355328) : Ev (fun k => laws_eqDefectS.f k xs xs) true := by
  simp only [laws_eqDefectS.f, if_true]
  simpa using eqDefectS_l xs hn xs.length 0 (by omega)
theorem toFleet_ev (ts : List S142) (cs : List S144) (ds : List S146) (p q r : Int) (ht : ts.length ≤ 4398046511104) (hc : cs.length ≤ 8796093022208) (hd : ds.length ≤ 8796093022208) : Ev (fun k => laws_toFleet.f k ts cs ds p q r) (ts.map convTask, cs.map convCarry, ds.map convDefect, p, q, r) := by
  simp only [laws_toFleet.f, laws_toClock.f, Option.bind_some]
  refine (toTaskS_ev ts ht).bind ?_
  refine (toCarryS_ev cs hc).bind ?_
  exact (toDefectS_ev ds hd).bind (f := fun _ t => some (ts.map convTask, cs.map convCarry, t, p, q, r)) (ev_now _)
theorem eqFleet_self (ts : List Tk) (cs : List Cr) (ds : List Df) (p q r : Int) (ht : ts.length ≤ 140737488355328) (hc : cs.length ≤ 140737488355328) (hd : ds.length ≤ 140737488355328) : Ev (fun k => laws_eqFleet.f k ts cs ds p q r ts cs ds p q r) true := by
  simp only [laws_eqFleet.f, laws_eqClock.f, if_true, Option.bind_some]
  refine (eqTaskS_self ts ht).bind ?_
  simp only [if_true]
  refine (eqCarryS_self cs hc).bind ?_
  simp only [if_true]
  exact (eqDefectS_self ds hd).bind (f := fun _ t => if t = true then some true else some false) (ev_now _)
theorem szFleet_ev (ts : List S142) (cs : List S144) (ds : List S146) (p q r : Int) (ht : ts.length ≤ 140737488355328) (htx : ∀ x ∈ ts, wTask x ≤ 140737488355328) (hc : cs.length ≤ 140737488355328) (hcx : ∀ x ∈ cs, wCarry x ≤ 140737488355328) (hd : ds.length ≤ 140737488355328) (hdx : ∀ x ∈ ds, wDefect x ≤ 140737488355328) :
    ∃ v, Ev (fun k => laws_szFleet.f k ts cs ds p q r 1048576) v := by
  simp only [laws_szFleet.f]
  obtain ⟨v1, h1, r1⟩ := szTaskS_ev ts 1048576 (by omega) (by omega) ht htx
  by_cases s1 : v1 < 0
  · refine ⟨-1, h1.bind ?_⟩
    simp only [if_pos s1]
    exact ev_now _
  · obtain ⟨v2, h2, r2⟩ := szCarryS_ev cs v1 (by omega) (by omega) hc hcx
    by_cases s2 : v2 < 0
    · refine ⟨-1, h1.bind ?_⟩
      simp only [if_neg s1]
      refine h2.bind ?_
      simp only [if_pos s2]
      exact ev_now _
    · obtain ⟨v3, h3, r3⟩ := szDefectS_ev ds v2 (by omega) (by omega) hd hdx
      by_cases s3 : v3 < 0
      · refine ⟨-1, h1.bind ?_⟩
        simp only [if_neg s1]
        refine h2.bind ?_
        simp only [if_neg s2]
        refine h3.bind ?_
        simp only [if_pos s3]
        exact ev_now _
      · refine ⟨v3, h1.bind ?_⟩
        simp only [if_neg s1]
        refine h2.bind ?_
        simp only [if_neg s2]
        refine h3.bind ?_
        simp only [if_neg s3]
        exact ev_now _
theorem szLegS_eq (xs : List S109) (left : Int) (h0 : 0 ≤ left) (h1 : left ≤ 1048576) (hn : xs.length ≤ 140737488355328) : laws_szLegS.f xs left = some (if left - (xs.length : Int) < 0 then -1 else left - (xs.length : Int)) := by
  unfold laws_szLegS.f
  rw [w64 (by omega) (by omega)]
  split <;> rfl
/-! The helpers over Legs. -/
def convLeg (x : S109) : S71 := ⟨x.f0, x.f1, x.f2, x.f3⟩
theorem rdlLeg {xs : List S109} {i : Nat} (h : i < xs.length) : rd_T109 xs (i : Int) = xs[i] := by
  simp [rd_T109, List.getD_eq_getElem?_getD, h]
theorem rdiLeg {xs : List S71} {i : Nat} (h : i < xs.length) : rd_T71 xs (i : Int) = xs[i] := by
  simp [rd_T71, List.getD_eq_getElem?_getD, h]
theorem dropLeg {xs : List S71} {i : Nat} (h : i < xs.length) : xs.drop i = rd_T71 xs (i : Int) :: xs.drop (i + 1) := by
  rw [List.drop_eq_getElem_cons h, rdiLeg h]
theorem toLegS_l (xs : List S109) (hn : xs.length ≤ 8796093022208) (d : Nat) : ∀ i : Nat, i + d = xs.length →
    Ev (fun k => laws_toLegS.l0 k xs ((xs.map convLeg).take i ++ List.replicate (xs.length - i) z71) (i : Int)) (xs.map convLeg) := by
  induction d with
  | zero =>
    intro i h
    refine ev_succ ?_
    simp only [laws_toLegS.l0, if_neg (show ¬ ((i : Int) < (xs.length : Int)) by omega)]
    exact ev_some (by rw [List.take_of_length_le (by simp; omega), show xs.length - i = 0 by omega]; simp)
  | succ d ih =>
    intro i h
    refine ev_succ ?_
    have hlt : i < xs.length := by omega
    have hl : (((xs.map convLeg).take i ++ List.replicate (xs.length - i) z71).length : Int) = (xs.length : Int) := by simp; omega
    have hs := take_setG (xs := xs) (c := convLeg) hlt z71
    simp only [laws_toLegS.l0, if_pos (show ((i : Int) < (xs.length : Int)) by omega), if_pos (show (0 : Int) ≤ (i : Int) by omega), hl, w64s i (by omega), Int.toNat_natCast, rdlLeg hlt, laws_toLeg.f, Option.bind_some]
    rw [show ((xs.map convLeg).take i ++ List.replicate (xs.length - i) z71).set i ⟨(xs[i]).f0, (xs[i]).f1, (xs[i]).f2, (xs[i]).f3⟩ = _ from hs]
    exact ih (i + 1) (by omega)
theorem toLegS_ev (xs : List S109) (hn : xs.length ≤ 8796093022208) : Ev (fun k => laws_toLegS.f k xs) (xs.map convLeg) := by
  simp only [laws_toLegS.f, if_pos (show (0 : Int) ≤ (xs.length : Int) by omega), Int.toNat_natCast, if_pos hn]
  simpa using toLegS_l xs hn xs.length 0 (by omega)
theorem eqLegS_l (xs : List S71) (hn : xs.length ≤ 140737488355328) (d : Nat) : ∀ i : Nat, i + d = xs.length →
    Ev (fun k => laws_eqLegS.l0 k xs xs (i : Int)) true := by
  induction d with
  | zero =>
    intro i h
    refine ev_succ ?_
    simp only [laws_eqLegS.l0, if_neg (show ¬ ((i : Int) < (xs.length : Int)) by omega)]
    exact ev_now _
  | succ d ih =>
    intro i h
    refine ev_succ ?_
    simp only [laws_eqLegS.l0, if_pos (show ((i : Int) < (xs.length : Int)) by omega), if_pos (show (0 : Int) ≤ (i : Int) by omega), w64s i (by omega), laws_eqLeg.f, Option.bind_some, if_true]
    exact ih (i + 1) (by omega)
theorem eqLegS_self (xs : List S71) (hn : xs.length ≤ 140737488355328) : Ev (fun k => laws_eqLegS.f k xs xs) true := by
  simp only [laws_eqLegS.f, if_true]
  simpa using eqLegS_l xs hn xs.length 0 (by omega)
/-! Legs, the craft, the pilot, the desk. -/
theorem impl_isDir_eq (x : Int) : impl_isDir.f x = some (inB x 0 7) := by simp only [impl_isDir.f, impl_in_eq, Option.bind_some]
theorem ite_and_ (b c : Bool) : (if b = true then some c else some false) = some (b && c) := by cases b <;> rfl
theorem spec_LegOk_eq (x : S71) : spec_LegOk.f x.f0 x.f1 x.f2 x.f3 = some (legB x) := by
  have e2 : (if x.f2 = -1 then some true else some (x.f2 == 1)) = some (x.f2 == -1 || x.f2 == 1) := by
    by_cases h : x.f2 = -1
    · rw [if_pos h, h]; rfl
    · rw [if_neg h, show (x.f2 == -1) = false from beq_eq_false_iff_ne.2 h]; rfl
  simp only [spec_LegOk.f, legB, spec_in_eq, Option.bind_some, e2, ite_and_, inB]
  by_cases c1 : x.f0 = 1
  · simp only [if_pos c1]
  simp only [if_neg c1]
  by_cases c2 : x.f0 = 2
  · simp only [if_pos c2]
  simp only [if_neg c2]
  by_cases c3 : x.f0 = 3
  · simp only [if_pos c3]
  simp only [if_neg c3]
  by_cases c4 : x.f0 = 4
  · simp only [if_pos c4]
  simp only [if_neg c4]
  by_cases c5 : x.f0 = 5
  · simp only [if_pos c5]
  · simp only [if_neg c5]
def craftB (a b c d e : Int) : Bool := inB a (-1000) 1000 && (inB b (-1000) 1000 && (inB c 0 7 && (inB d 0 2000 && inB e (-20) 20)))
theorem spec_CraftOk_eq (a b c d e : Int) : spec_CraftOk.f a b c d e = some (craftB a b c d e) := by
  simp only [spec_CraftOk.f, spec_in_eq, Option.bind_some, craftB]
  cases inB a (-1000) 1000 <;> cases inB b (-1000) 1000 <;> cases inB c 0 7 <;> cases inB d 0 2000 <;> simp
theorem impl_CraftOk_eq (a b c d e : Int) : impl_CraftOk.f a b c d e = some (craftB a b c d e) := by
  simp only [impl_CraftOk.f, impl_in_eq, impl_isDir_eq, Option.bind_some, craftB]
  cases inB a (-1000) 1000 <;> cases inB b (-1000) 1000 <;> cases inB c 0 7 <;> cases inB d 0 2000 <;> simp
def pilotB (a b c d e f g h : Int) : Bool := inB a 0 4 && (inB b 0 3 && (inB c 0 60000 && (inB d 0 60000 && (inB e (-100) 100 && (inB f 0 359 && (inB g 0 359 && inB h (-10000) 10000))))))
theorem spec_PilotOk_eq (a b c d e f g h : Int) (z : Bool) : spec_PilotOk.f a b c d e f g h z = some (pilotB a b c d e f g h) := by
  simp only [spec_PilotOk.f, spec_in_eq, Option.bind_some, pilotB]
  cases inB a 0 4 <;> cases inB b 0 3 <;> cases inB c 0 60000 <;> cases inB d 0 60000 <;> cases inB e (-100) 100 <;> cases inB f 0 359 <;> cases inB g 0 359 <;> simp
theorem impl_PilotOk_ev (a b c d e f g h : Int) (z : Bool) : Ev (fun k => impl_PilotOk.f k a b c d e f g h z) (pilotB a b c d e f g h) := by
  have j1 : ∀ x y : Bool, Ev (fun k => impl_PilotOk.j1 k x y a b c d e f g h z) (x && (y && (inB f 0 359 && (inB g 0 359 && inB h (-10000) 10000)))) := by
    intro x y
    refine ev_succ ?_
    simp only [impl_PilotOk.j1, impl_in_eq, Option.bind_some]
    cases x <;> cases y <;> cases inB f 0 359 <;> cases inB g 0 359 <;> simp <;> exact ev_now _
  have j0 : ∀ x : Bool, Ev (fun k => impl_PilotOk.j0 k x a b c d e f g h z) (x && (inB c 0 60000 && (inB d 0 60000 && (inB e (-100) 100 && (inB f 0 359 && (inB g 0 359 && inB h (-10000) 10000)))))) := by
    intro x
    refine ev_succ ?_
    simp only [impl_PilotOk.j0, impl_in_eq, Option.bind_some]
    cases c1 : inB c 0 60000 with
    | false => simp only [Bool.false_eq_true, if_false]; exact ev_val (j1 x false) (by simp)
    | true =>
      simp only [if_true]
      cases c2 : inB d 0 60000 with
      | false => simp only [Bool.false_eq_true, if_false]; exact ev_val (j1 x false) (by simp)
      | true => simp only [if_true]; exact ev_val (j1 x _) (by simp)
  simp only [impl_PilotOk.f, impl_in_eq, Option.bind_some, pilotB]
  cases c1 : inB a 0 4 with
  | false => simp only [Bool.false_eq_true, if_false]; exact ev_val (j0 false) (by simp)
  | true => simp only [if_true]; exact ev_val (j0 _) (by simp)
abbrev Lg := S71
def deskB (a0 a1 a2 a3 a4 : Int) (ls : List Lg) (b0 b1 b2 b3 b4 b5 b6 b7 : Int) (ts : List Tk) (cs : List Cr) (ds : List Df) (p q r : Int) : Bool :=
  ls.all legB && (craftB a0 a1 a2 a3 a4 && (decide ((ls.length : Int) ≤ 30) && (pilotB b0 b1 b2 b3 b4 b5 b6 b7 && fleetB ts cs ds p q r)))
section
variable (a0 a1 a2 a3 a4 : Int) (ls : List Lg) (b0 b1 b2 b3 b4 b5 b6 b7 : Int) (z : Bool) (ts : List Tk) (cs : List Cr) (ds : List Df) (p q r : Int) (hl : ls.length ≤ 140737488355328) (ht : ts.length ≤ 140737488355328) (htx : ∀ x ∈ ts, x.f0.size ≤ 140737488355328) (hc : cs.length ≤ 140737488355328) (hcx : ∀ x ∈ cs, x.f0.size ≤ 140737488355328) (hd : ds.length ≤ 140737488355328) (hdx : ∀ x ∈ ds, x.f0.size ≤ 140737488355328)
include hl ht htx hc hcx hd hdx
theorem spec_DeskOk_l (d : Nat) : ∀ i : Nat, i + d = ls.length → Ev (fun k => spec_DeskOk.l0 k (i : Int) a0 a1 a2 a3 a4 ls b0 b1 b2 b3 b4 b5 b6 b7 z ts cs ds p q r) ((ls.drop i).all legB && (craftB a0 a1 a2 a3 a4 && (decide ((ls.length : Int) ≤ 30) && (pilotB b0 b1 b2 b3 b4 b5 b6 b7 && fleetB ts cs ds p q r)))) := by
  induction d with
  | zero =>
    intro i h
    refine ev_succ ?_
    rw [List.drop_of_length_le (by omega), List.all_nil, Bool.true_and]
    simp only [spec_DeskOk.l0, if_neg (show ¬ ((i : Int) < (ls.length : Int)) by omega), spec_CraftOk_eq, spec_PilotOk_eq, Option.bind_some]
    cases craftB a0 a1 a2 a3 a4 with
    | false => simp only [Bool.false_eq_true, if_false]; exact ev_now _
    | true =>
      simp only [if_true]
      by_cases c : (ls.length : Int) ≤ 30
      · simp only [if_pos c, decide_eq_true c]
        cases pilotB b0 b1 b2 b3 b4 b5 b6 b7 with
        | false => simp only [Bool.false_eq_true, if_false]; exact ev_now _
        | true =>
          simp only [if_true]
          have hz : fleetSzB ts cs ds = true := fleetSz_of.2 ⟨htx, hcx, hdx, ht, hc, hd⟩
          simp only [spec_FleetOk.f, if_pos hz, Option.bind_some]
          exact ev_some (by simp)
      · simp only [if_neg c, decide_eq_false c]; exact ev_now _
  | succ d ih =>
    intro i h
    have hi : i < ls.length := by omega
    refine ev_succ ?_
    rw [List.drop_eq_getElem_cons hi, List.all_cons]
    simp only [spec_DeskOk.l0, if_pos (show (i : Int) < (ls.length : Int) by omega), if_pos (show (0 : Int) ≤ (i : Int) by omega), rdiLeg hi, spec_LegOk_eq, Option.bind_some, w64s i (by omega)]
    cases legB ls[i] with
    | false => simp only [Bool.false_eq_true, if_false]; exact ev_now _
    | true => simp only [if_true]; exact ev_val (ih (i + 1) (by omega)) (by simp)
theorem spec_DeskOk_ev : Ev (fun k => spec_DeskOk.f k a0 a1 a2 a3 a4 ls b0 b1 b2 b3 b4 b5 b6 b7 z ts cs ds p q r) (deskB a0 a1 a2 a3 a4 ls b0 b1 b2 b3 b4 b5 b6 b7 ts cs ds p q r) := by
  simp only [spec_DeskOk.f, deskB]
  simpa using spec_DeskOk_l a0 a1 a2 a3 a4 ls b0 b1 b2 b3 b4 b5 b6 b7 z ts cs ds p q r hl ht htx hc hcx hd hdx ls.length 0 (by omega)
theorem impl_DeskOk_ev : Ev (fun k => impl_DeskOk.f k a0 a1 a2 a3 a4 ls b0 b1 b2 b3 b4 b5 b6 b7 z ts cs ds p q r) (deskB a0 a1 a2 a3 a4 ls b0 b1 b2 b3 b4 b5 b6 b7 ts cs ds p q r) := by
  have hany : (ls.any fun x => !legB x) = !ls.all legB := by
    induction ls with
    | nil => rfl
    | cons x r ih => rw [List.any_cons, List.all_cons, ih (by simp at hl; omega)]; cases legB x <;> simp
  simp only [impl_DeskOk.f, deskB, slices_ContainsFunc_DeskOk_1.f, if_pos (show ls.length ≤ 1152921504606846976 by omega), impl_CraftOk_eq, Option.bind_some, hany]
  cases craftB a0 a1 a2 a3 a4 with
  | false => simp only [Bool.false_eq_true, if_false]; exact ev_some (by simp)
  | true =>
    simp only [if_true]
    by_cases c : (ls.length : Int) ≤ 30
    · simp only [if_pos c, decide_eq_true c]
      cases ls.all legB with
      | false => simp only [Bool.not_false, if_true]; exact ev_some (by simp)
      | true =>
        simp only [Bool.not_true, Bool.false_eq_true, if_false]
        refine (impl_PilotOk_ev b0 b1 b2 b3 b4 b5 b6 b7 z).bind ?_
        cases pilotB b0 b1 b2 b3 b4 b5 b6 b7 with
        | false => simp only [Bool.false_eq_true, if_false]; exact ev_some (by simp)
        | true =>
          simp only [if_true]
          have hz : fleetSzB ts cs ds = true := fleetSz_of.2 ⟨htx, hcx, hdx, ht, hc, hd⟩
          simp only [impl_FleetOk.f, if_pos hz, Option.bind_some]
          exact ev_some (by simp)
    · simp only [if_neg c, decide_eq_false c]; exact ev_some (by simp)
end
theorem eqDesk_self (a0 a1 a2 a3 a4 : Int) (ls : List Lg) (b0 b1 b2 b3 b4 b5 b6 b7 : Int) (z : Bool) (ts : List Tk) (cs : List Cr) (ds : List Df) (p q r : Int) (hl : ls.length ≤ 140737488355328) (ht : ts.length ≤ 140737488355328) (hc : cs.length ≤ 140737488355328) (hd : ds.length ≤ 140737488355328) :
    Ev (fun k => laws_eqDesk.f k a0 a1 a2 a3 a4 ls b0 b1 b2 b3 b4 b5 b6 b7 z ts cs ds p q r a0 a1 a2 a3 a4 ls b0 b1 b2 b3 b4 b5 b6 b7 z ts cs ds p q r) true := by
  simp only [laws_eqDesk.f, laws_eqCraft.f, laws_eqPilot.f, if_true, Option.bind_some, bne_self_eq_false, Bool.false_eq_true, if_false]
  refine (eqLegS_self ls hl).bind ?_
  simp only [if_true]
  exact (eqFleet_self ts cs ds p q r ht hc hd).bind (f := fun _ t => if t = true then some true else some false) (ev_now _)
theorem szFleet_evL (left : Int) (h0 : 0 ≤ left) (h1 : left ≤ 1048576) (ts : List S142) (cs : List S144) (ds : List S146) (p q r : Int) (ht : ts.length ≤ 140737488355328) (htx : ∀ x ∈ ts, wTask x ≤ 140737488355328) (hc : cs.length ≤ 140737488355328) (hcx : ∀ x ∈ cs, wCarry x ≤ 140737488355328) (hd : ds.length ≤ 140737488355328) (hdx : ∀ x ∈ ds, wDefect x ≤ 140737488355328) :
    ∃ v, Ev (fun k => laws_szFleet.f k ts cs ds p q r left) v := by
  simp only [laws_szFleet.f]
  obtain ⟨v1, e1, r1⟩ := szTaskS_ev ts left (by omega) (by omega) ht htx
  by_cases s1 : v1 < 0
  · refine ⟨-1, e1.bind ?_⟩
    simp only [if_pos s1]
    exact ev_now _
  · obtain ⟨v2, e2, r2⟩ := szCarryS_ev cs v1 (by omega) (by omega) hc hcx
    by_cases s2 : v2 < 0
    · refine ⟨-1, e1.bind ?_⟩
      simp only [if_neg s1]
      refine e2.bind ?_
      simp only [if_pos s2]
      exact ev_now _
    · obtain ⟨v3, e3, r3⟩ := szDefectS_ev ds v2 (by omega) (by omega) hd hdx
      by_cases s3 : v3 < 0
      · refine ⟨-1, e1.bind ?_⟩
        simp only [if_neg s1]
        refine e2.bind ?_
        simp only [if_neg s2]
        refine e3.bind ?_
        simp only [if_pos s3]
        exact ev_now _
      · refine ⟨v3, e1.bind ?_⟩
        simp only [if_neg s1]
        refine e2.bind ?_
        simp only [if_neg s2]
        refine e3.bind ?_
        simp only [if_neg s3]
        exact ev_now _
theorem FnExactDeskOk (a0_0 : Int) (a0_1 : Int) (a0_2 : Int) (a0_3 : Int) (a0_4 : Int) (l0_5 : List (S109)) (a0_6 : Int) (a0_7 : Int) (a0_8 : Int) (a0_9 : Int) (a0_10 : Int) (a0_11 : Int) (a0_12 : Int) (a0_13 : Int) (a0_14 : Bool) (l0_15 : List (S142)) (l0_16 : List (S144)) (l0_17 : List (S146)) (a0_18 : Int) (a0_19 : Int) (a0_20 : Int) (g0 : (((Lit.int .i64 a0_0).wf = true ∧ (Lit.int .i64 a0_1).wf = true ∧ (Lit.int .i64 a0_2).wf = true ∧ (Lit.int .i64 a0_3).wf = true ∧ (Lit.int .i64 a0_4).wf = true) ∧ (l0_5.length * 32 ≤ 140737488351232 ∧ ∀ x ∈ l0_5, ((Lit.int .i64 x.f0).wf = true ∧ (Lit.int .i64 x.f1).wf = true ∧ (Lit.int .i64 x.f2).wf = true ∧ (Lit.int .i64 x.f3).wf = true)) ∧ ((Lit.int .i64 a0_6).wf = true ∧ (Lit.int .i64 a0_7).wf = true ∧ (Lit.int .i64 a0_8).wf = true ∧ (Lit.int .i64 a0_9).wf = true ∧ (Lit.int .i64 a0_10).wf = true ∧ (Lit.int .i64 a0_11).wf = true ∧ (Lit.int .i64 a0_12).wf = true ∧ (Lit.int .i64 a0_13).wf = true ∧ True) ∧ ((l0_15.length * 64 ≤ 140737488351232 ∧ ∀ x ∈ l0_15, (x.f0.size ≤ 140737488351232 ∧ (Lit.int .i64 x.f1).wf = true ∧ (Lit.int .i64 x.f2).wf = true ∧ (Lit.int .i64 x.f3).wf = true ∧ (Lit.int .i64 x.f4.f0).wf = true ∧ (Lit.int .i64 x.f4.f1).wf = true ∧ (Lit.int .i64 x.f4.f2).wf = true)) ∧ (l0_16.length * 32 ≤ 140737488351232 ∧ ∀ x ∈ l0_16, (x.f0.size ≤ 140737488351232 ∧ (Lit.int .i64 x.f1).wf = true ∧ (Lit.int .i64 x.f2).wf = true)) ∧ (l0_17.length * 32 ≤ 140737488351232 ∧ ∀ x ∈ l0_17, (x.f0.size ≤ 140737488351232 ∧ (Lit.int .i64 x.f1).wf = true ∧ (Lit.int .i64 x.f2).wf = true)) ∧ ((Lit.int .i64 a0_18).wf = true ∧ (Lit.int .i64 a0_19).wf = true ∧ (Lit.int .i64 a0_20).wf = true)))) : ∃ k, laws_FnExactDeskOk.f k a0_0 a0_1 a0_2 a0_3 a0_4 l0_5 a0_6 a0_7 a0_8 a0_9 a0_10 a0_11 a0_12 a0_13 a0_14 l0_15 l0_16 l0_17 a0_18 a0_19 a0_20 = some true := by
  obtain ⟨_, ⟨hl0, _⟩, _, ⟨ht0, ht1⟩, ⟨hc0, hc1⟩, ⟨hd0, hd1⟩, hq⟩ := g0
  have hl : l0_5.length ≤ 8796093022208 := by omega
  have ht : l0_15.length ≤ 4398046511104 := by omega
  have hc : l0_16.length ≤ 8796093022208 := by omega
  have hd : l0_17.length ≤ 8796093022208 := by omega
  have htx : ∀ x ∈ l0_15, wTask x ≤ 140737488355328 := fun x hx => by have := (ht1 x hx).1; unfold wTask; omega
  have hcx : ∀ x ∈ l0_16, wCarry x ≤ 140737488355328 := fun x hx => by have := (hc1 x hx).1; unfold wCarry; omega
  have hdx : ∀ x ∈ l0_17, wDefect x ≤ 140737488355328 := fun x hx => by have := (hd1 x hx).1; unfold wDefect; omega
  have mt : ∀ x ∈ l0_15.map convTask, x.f0.size ≤ 140737488355328 := by
    intro x h
    obtain ⟨y, hy, rfl⟩ := List.mem_map.1 h
    exact htx y hy
  have mc : ∀ x ∈ l0_16.map convCarry, x.f0.size ≤ 140737488355328 := by
    intro x h
    obtain ⟨y, hy, rfl⟩ := List.mem_map.1 h
    exact hcx y hy
  have md : ∀ x ∈ l0_17.map convDefect, x.f0.size ≤ 140737488355328 := by
    intro x h
    obtain ⟨y, hy, rfl⟩ := List.mem_map.1 h
    exact hdx y hy
  have ll : (l0_5.map convLeg).length ≤ 140737488355328 := by rw [List.length_map]; omega
  have lt : (l0_15.map convTask).length ≤ 140737488355328 := by rw [List.length_map]; omega
  have lc : (l0_16.map convCarry).length ≤ 140737488355328 := by rw [List.length_map]; omega
  have ld : (l0_17.map convDefect).length ≤ 140737488355328 := by rw [List.length_map]; omega
  have hto : Ev (fun k => laws_toDesk.f k a0_0 a0_1 a0_2 a0_3 a0_4 l0_5 a0_6 a0_7 a0_8 a0_9 a0_10 a0_11 a0_12 a0_13 a0_14 l0_15 l0_16 l0_17 a0_18 a0_19 a0_20) (a0_0, a0_1, a0_2, a0_3, a0_4, l0_5.map convLeg, a0_6, a0_7, a0_8, a0_9, a0_10, a0_11, a0_12, a0_13, a0_14, l0_15.map convTask, l0_16.map convCarry, l0_17.map convDefect, a0_18, a0_19, a0_20) := by
    simp only [laws_toDesk.f, laws_toCraft.f, laws_toPilot.f, Option.bind_some]
    refine (toLegS_ev l0_5 hl).bind ?_
    refine (toFleet_ev l0_15 l0_16 l0_17 a0_18 a0_19 a0_20 ht hc hd).bind ?_
    exact ev_now _
  have sz : ∃ v, Ev (fun k => laws_szDesk.f k a0_0 a0_1 a0_2 a0_3 a0_4 l0_5 a0_6 a0_7 a0_8 a0_9 a0_10 a0_11 a0_12 a0_13 a0_14 l0_15 l0_16 l0_17 a0_18 a0_19 a0_20 1048576) v := by
    simp only [laws_szDesk.f, szLegS_eq l0_5 1048576 (by omega) (by omega) (by omega), Option.bind_some]
    by_cases c : (1048576 : Int) - (l0_5.length : Int) < 0
    · simp only [if_pos c, if_pos (show (-1 : Int) < 0 by omega)]
      exact ⟨-1, ev_now _⟩
    · simp only [if_neg c]
      obtain ⟨v, hv⟩ := szFleet_evL ((1048576 : Int) - (l0_5.length : Int)) (by omega) (by omega) l0_15 l0_16 l0_17 a0_18 a0_19 a0_20 (by omega) htx (by omega) hcx (by omega) hdx
      by_cases s : v < 0
      · refine ⟨-1, hv.bind ?_⟩
        simp only [if_pos s]
        exact ev_now _
      · refine ⟨v, hv.bind ?_⟩
        simp only [if_neg s]
        exact ev_now _
  refine Ev.rounds ?_
  simp only [laws_FnExactDeskOk.f]
  obtain ⟨v, hv⟩ := sz
  refine hv.bind ?_
  by_cases hs : v < 0
  · simp only [if_pos hs]
    exact ev_now _
  · simp only [if_neg hs]
    refine hto.bind ?_
    refine (spec_DeskOk_ev a0_0 a0_1 a0_2 a0_3 a0_4 _ a0_6 a0_7 a0_8 a0_9 a0_10 a0_11 a0_12 a0_13 a0_14 _ _ _ a0_18 a0_19 a0_20 ll lt mt lc mc ld md).bind ?_
    refine hto.bind ?_
    refine (impl_DeskOk_ev a0_0 a0_1 a0_2 a0_3 a0_4 _ a0_6 a0_7 a0_8 a0_9 a0_10 a0_11 a0_12 a0_13 a0_14 _ _ _ a0_18 a0_19 a0_20 ll lt mt lc mc ld md).bind ?_
    simp only [bne_self_eq_false, Bool.false_eq_true, if_false]
    refine hto.bind ?_
    exact (eqDesk_self a0_0 a0_1 a0_2 a0_3 a0_4 _ a0_6 a0_7 a0_8 a0_9 a0_10 a0_11 a0_12 a0_13 a0_14 _ _ _ a0_18 a0_19 a0_20 ll lt lc ld).bind (f := fun _ t => if t = true then some true else some false) (ev_now _)
end Go.Proofs.Ytljceaggilpgbaa.Pure
