/- The program's Release answers as the reference's at every argument. No condition. -/
import Derived.Test.YtbgdibbgngpggaaPFnExactReleasex12
import Derived.Test.YtbgdibbgngpggaaBase
set_option linter.unusedVariables false
set_option linter.unusedSimpArgs false
namespace Go.Proofs.Ytbgdibbgngpggaa.Pure
open Go.RowKit Go.Proofs.Ytbgdibbgngpggaa.PFnExactRelease Go.Proofs.Ytbgdibbgngpggaa.Base Go.Proofs.YtbgdibbgngpggaaW.PrintWords Go.Proofs.YtbgdibbgngpggaaW.PrintLast
theorem rdwTask {xs : List S29} {i : Nat} (h : i < xs.length) : rd_T29 xs (i : Int) = xs[i] := by
  simp [rd_T29, List.getD_eq_getElem?_getD, h]
def wTask (x : S29) : Nat := x.f0.size
theorem szTask_eq (x : S29) (left : Int) (h0 : 0 ≤ left) (h1 : left ≤ 1048576) (hw : wTask x ≤ 140737488355328) : laws_szTask.f x.f0 x.f1 x.f2 x.f3 x.f4.f0 x.f4.f1 x.f4.f2 left = some (if left - (wTask x : Int) < 0 then -1 else left - (wTask x : Int)) := by
  unfold wTask at hw ⊢
  unfold laws_szTask.f
  rw [w64 (by omega) (by omega)]
  split <;> rfl
theorem szTaskS_l (xs : List S29) (hn : xs.length ≤ 140737488355328) (hx : ∀ x ∈ xs, wTask x ≤ 140737488355328) (d : Nat) : ∀ (i : Nat) (left : Int), i + d = xs.length → 0 ≤ left → left ≤ 1048576 →
    ∃ v, Ev (fun k => laws_szTaskS.l0 k xs left (i : Int)) v ∧ (v < 0 ∨ (0 ≤ v ∧ v + (((xs.drop i).map wTask).sum : Nat) = left)) := by
  induction d with
  | zero =>
    intro i left h h0 h1
    refine ⟨left, ev_succ ?_, .inr ⟨h0, ?_⟩⟩
    · simp only [laws_szTaskS.l0, if_neg (show ¬ ((i : Int) < (xs.length : Int)) by omega)]
      exact ev_now _
    · rw [List.drop_of_length_le (by omega)]; simp
  | succ d ih =>
    intro i left h h0 h1
    have hlt : i < xs.length := by omega
    have hxi := hx _ (List.getElem_mem hlt)
    by_cases hs : left - (wTask (xs[i]) : Int) < 0
    · refine ⟨-1, ev_succ ?_, .inl (by omega)⟩
      simp only [laws_szTaskS.l0, if_pos (show ((i : Int) < (xs.length : Int)) by omega), if_pos (show (0 : Int) ≤ (i : Int) by omega), rdwTask hlt, szTask_eq _ left h0 h1 hxi, if_pos hs, Option.bind_some, if_pos (show (-1 : Int) < 0 by omega)]
      exact ev_now _
    · obtain ⟨v, hv, hr⟩ := ih (i + 1) (left - (wTask (xs[i]) : Int)) (by omega) (by omega) (by omega)
      refine ⟨v, ev_succ ?_, ?_⟩
      · simp only [laws_szTaskS.l0, if_pos (show ((i : Int) < (xs.length : Int)) by omega), if_pos (show (0 : Int) ≤ (i : Int) by omega), rdwTask hlt, szTask_eq _ left h0 h1 hxi, if_neg hs, Option.bind_some, w64s i (by omega)]
        exact hv
      · rcases hr with hr | ⟨hr0, hr⟩
        · exact .inl hr
        · refine .inr ⟨hr0, ?_⟩
          rw [List.drop_eq_getElem_cons hlt, List.map_cons, List.sum_cons]
          omega
theorem szTaskS_ev (xs : List S29) (left : Int) (h0 : 0 ≤ left) (h1 : left ≤ 1048576) (hn : xs.length ≤ 140737488355328) (hx : ∀ x ∈ xs, wTask x ≤ 140737488355328) :
    ∃ v, Ev (fun k => laws_szTaskS.f k xs left) v ∧ (v < 0 ∨ (0 ≤ v ∧ v + (xs.length : Int) + ((xs.map wTask).sum : Nat) = left)) := by
  simp only [laws_szTaskS.f]
  rw [w64 (by omega) (by omega)]
  by_cases hs : left - (xs.length : Int) < 0
  · simp only [if_pos hs]
    exact ⟨-1, ev_now _, .inl (by omega)⟩
  · simp only [if_neg hs]
    obtain ⟨v, hv, hr⟩ := szTaskS_l xs hn hx xs.length 0 (left - (xs.length : Int)) (by omega) (by omega) (by omega)
    refine ⟨v, hv, ?_⟩
    rcases hr with hr | ⟨hr0, hr⟩
    · exact .inl hr
    · rw [List.drop_zero] at hr
      exact .inr ⟨hr0, by omega⟩
/-! The helpers over Tasks. -/
def convTask (x : S29) : S33 := ⟨x.f0, x.f1, x.f2, x.f3, ⟨x.f4.f0, x.f4.f1, x.f4.f2⟩⟩
theorem rdlTask {xs : List S29} {i : Nat} (h : i < xs.length) : rd_T29 xs (i : Int) = xs[i] := by
  simp [rd_T29, List.getD_eq_getElem?_getD, h]
theorem rdiTask {xs : List S33} {i : Nat} (h : i < xs.length) : rd_T33 xs (i : Int) = xs[i] := by
  simp [rd_T33, List.getD_eq_getElem?_getD, h]
theorem dropTask {xs : List S33} {i : Nat} (h : i < xs.length) : xs.drop i = rd_T33 xs (i : Int) :: xs.drop (i + 1) := by
  rw [List.drop_eq_getElem_cons h, rdiTask h]
theorem toTaskS_l (xs : List S29) (hn : xs.length ≤ 4398046511104) (d : Nat) : ∀ i : Nat, i + d = xs.length →
    Ev (fun k => laws_toTaskS.l0 k xs ((xs.map convTask).take i ++ List.replicate (xs.length - i) z33) (i : Int)) (xs.map convTask) := by
  induction d with
  | zero =>
    intro i h
    refine ev_succ ?_
    simp only [laws_toTaskS.l0, if_neg (show ¬ ((i : Int) < (xs.length : Int)) by omega)]
    exact ev_some (by rw [List.take_of_length_le (by simp; omega), show xs.length - i = 0 by omega]; simp)
  | succ d ih =>
    intro i h
    refine ev_succ ?_
    have hlt : i < xs.length := by omega
    have hl : (((xs.map convTask).take i ++ List.replicate (xs.length - i) z33).length : Int) = (xs.length : Int) := by simp; omega
    have hs := take_setG (xs := xs) (c := convTask) hlt z33
    simp only [laws_toTaskS.l0, if_pos (show ((i : Int) < (xs.length : Int)) by omega), if_pos (show (0 : Int) ≤ (i : Int) by omega), hl, w64s i (by omega), Int.toNat_natCast, rdlTask hlt, laws_toTask.f, laws_toClock.f, Option.bind_some]
    rw [show ((xs.map convTask).take i ++ List.replicate (xs.length - i) z33).set i ⟨(xs[i]).f0, (xs[i]).f1, (xs[i]).f2, (xs[i]).f3, ⟨(xs[i]).f4.f0, (xs[i]).f4.f1, (xs[i]).f4.f2⟩⟩ = _ from hs]
    exact ih (i + 1) (by omega)
theorem toTaskS_ev (xs : List S29) (hn : xs.length ≤ 4398046511104) : Ev (fun k => laws_toTaskS.f k xs) (xs.map convTask) := by
  simp only [laws_toTaskS.f, if_pos (show (0 : Int) ≤ (xs.length : Int) by omega), Int.toNat_natCast, if_pos hn]
  simpa using toTaskS_l xs hn xs.length 0 (by omega)
theorem eqTaskS_l (xs : List S33) (hn : xs.length ≤ 140737488355328) (d : Nat) : ∀ i : Nat, i + d = xs.length →
    Ev (fun k => laws_eqTaskS.l0 k xs xs (i : Int)) true := by
  induction d with
  | zero =>
    intro i h
    refine ev_succ ?_
    simp only [laws_eqTaskS.l0, if_neg (show ¬ ((i : Int) < (xs.length : Int)) by omega)]
    exact ev_now _
  | succ d ih =>
    intro i h
    refine ev_succ ?_
    simp only [laws_eqTaskS.l0, if_pos (show ((i : Int) < (xs.length : Int)) by omega), if_pos (show (0 : Int) ≤ (i : Int) by omega), w64s i (by omega), laws_eqTask.f, laws_eqClock.f, Option.bind_some, if_true]
    exact ih (i + 1) (by omega)
theorem eqTaskS_self (xs : List S33) (hn : xs.length ≤ 140737488355328) : Ev (fun k => laws_eqTaskS.f k xs xs) true := by
  simp only [laws_eqTaskS.f, if_true]
  simpa using eqTaskS_l xs hn xs.length 0 (by omega)
theorem rdwCarry {xs : List S92} {i : Nat} (h : i < xs.length) : rd_T92 xs (i : Int) = xs[i] := by
  simp [rd_T92, List.getD_eq_getElem?_getD, h]
def wCarry (x : S92) : Nat := x.f0.size
theorem szCarry_eq (x : S92) (left : Int) (h0 : 0 ≤ left) (h1 : left ≤ 1048576) (hw : wCarry x ≤ 140737488355328) : laws_szCarry.f x.f0 x.f1 x.f2 left = some (if left - (wCarry x : Int) < 0 then -1 else left - (wCarry x : Int)) := by
  unfold wCarry at hw ⊢
  unfold laws_szCarry.f
  rw [w64 (by omega) (by omega)]
  split <;> rfl
theorem szCarryS_l (xs : List S92) (hn : xs.length ≤ 140737488355328) (hx : ∀ x ∈ xs, wCarry x ≤ 140737488355328) (d : Nat) : ∀ (i : Nat) (left : Int), i + d = xs.length → 0 ≤ left → left ≤ 1048576 →
    ∃ v, Ev (fun k => laws_szCarryS.l0 k xs left (i : Int)) v ∧ (v < 0 ∨ (0 ≤ v ∧ v + (((xs.drop i).map wCarry).sum : Nat) = left)) := by
  induction d with
  | zero =>
    intro i left h h0 h1
    refine ⟨left, ev_succ ?_, .inr ⟨h0, ?_⟩⟩
    · simp only [laws_szCarryS.l0, if_neg (show ¬ ((i : Int) < (xs.length : Int)) by omega)]
      exact ev_now _
    · rw [List.drop_of_length_le (by omega)]; simp
  | succ d ih =>
    intro i left h h0 h1
    have hlt : i < xs.length := by omega
    have hxi := hx _ (List.getElem_mem hlt)
    by_cases hs : left - (wCarry (xs[i]) : Int) < 0
    · refine ⟨-1, ev_succ ?_, .inl (by omega)⟩
      simp only [laws_szCarryS.l0, if_pos (show ((i : Int) < (xs.length : Int)) by omega), if_pos (show (0 : Int) ≤ (i : Int) by omega), rdwCarry hlt, szCarry_eq _ left h0 h1 hxi, if_pos hs, Option.bind_some, if_pos (show (-1 : Int) < 0 by omega)]
      exact ev_now _
    · obtain ⟨v, hv, hr⟩ := ih (i + 1) (left - (wCarry (xs[i]) : Int)) (by omega) (by omega) (by omega)
      refine ⟨v, ev_succ ?_, ?_⟩
      · simp only [laws_szCarryS.l0, if_pos (show ((i : Int) < (xs.length : Int)) by omega), if_pos (show (0 : Int) ≤ (i : Int) by omega), rdwCarry hlt, szCarry_eq _ left h0 h1 hxi, if_neg hs, Option.bind_some, w64s i (by omega)]
        exact hv
      · rcases hr with hr | ⟨hr0, hr⟩
        · exact .inl hr
        · refine .inr ⟨hr0, ?_⟩
          rw [List.drop_eq_getElem_cons hlt, List.map_cons, List.sum_cons]
          omega
theorem szCarryS_ev (xs : List S92) (left : Int) (h0 : 0 ≤ left) (h1 : left ≤ 1048576) (hn : xs.length ≤ 140737488355328) (hx : ∀ x ∈ xs, wCarry x ≤ 140737488355328) :
    ∃ v, Ev (fun k => laws_szCarryS.f k xs left) v ∧ (v < 0 ∨ (0 ≤ v ∧ v + (xs.length : Int) + ((xs.map wCarry).sum : Nat) = left)) := by
  simp only [laws_szCarryS.f]
  rw [w64 (by omega) (by omega)]
  by_cases hs : left - (xs.length : Int) < 0
  · simp only [if_pos hs]
    exact ⟨-1, ev_now _, .inl (by omega)⟩
  · simp only [if_neg hs]
    obtain ⟨v, hv, hr⟩ := szCarryS_l xs hn hx xs.length 0 (left - (xs.length : Int)) (by omega) (by omega) (by omega)
    refine ⟨v, hv, ?_⟩
    rcases hr with hr | ⟨hr0, hr⟩
    · exact .inl hr
    · rw [List.drop_zero] at hr
      exact .inr ⟨hr0, by omega⟩
/-! The helpers over Carrys. -/
def convCarry (x : S92) : S70 := ⟨x.f0, x.f1, x.f2⟩
theorem rdlCarry {xs : List S92} {i : Nat} (h : i < xs.length) : rd_T92 xs (i : Int) = xs[i] := by
  simp [rd_T92, List.getD_eq_getElem?_getD, h]
theorem rdiCarry {xs : List S70} {i : Nat} (h : i < xs.length) : rd_T70 xs (i : Int) = xs[i] := by
  simp [rd_T70, List.getD_eq_getElem?_getD, h]
theorem dropCarry {xs : List S70} {i : Nat} (h : i < xs.length) : xs.drop i = rd_T70 xs (i : Int) :: xs.drop (i + 1) := by
  rw [List.drop_eq_getElem_cons h, rdiCarry h]
theorem toCarryS_l (xs : List S92) (hn : xs.length ≤ 8796093022208) (d : Nat) : ∀ i : Nat, i + d = xs.length →
    Ev (fun k => laws_toCarryS.l0 k xs ((xs.map convCarry).take i ++ List.replicate (xs.length - i) z70) (i : Int)) (xs.map convCarry) := by
  induction d with
  | zero =>
    intro i h
    refine ev_succ ?_
    simp only [laws_toCarryS.l0, if_neg (show ¬ ((i : Int) < (xs.length : Int)) by omega)]
    exact ev_some (by rw [List.take_of_length_le (by simp; omega), show xs.length - i = 0 by omega]; simp)
  | succ d ih =>
    intro i h
    refine ev_succ ?_
    have hlt : i < xs.length := by omega
    have hl : (((xs.map convCarry).take i ++ List.replicate (xs.length - i) z70).length : Int) = (xs.length : Int) := by simp; omega
    have hs := take_setG (xs := xs) (c := convCarry) hlt z70
    simp only [laws_toCarryS.l0, if_pos (show ((i : Int) < (xs.length : Int)) by omega), if_pos (show (0 : Int) ≤ (i : Int) by omega), hl, w64s i (by omega), Int.toNat_natCast, rdlCarry hlt, laws_toCarry.f, Option.bind_some]
    rw [show ((xs.map convCarry).take i ++ List.replicate (xs.length - i) z70).set i ⟨(xs[i]).f0, (xs[i]).f1, (xs[i]).f2⟩ = _ from hs]
    exact ih (i + 1) (by omega)
theorem toCarryS_ev (xs : List S92) (hn : xs.length ≤ 8796093022208) : Ev (fun k => laws_toCarryS.f k xs) (xs.map convCarry) := by
  simp only [laws_toCarryS.f, if_pos (show (0 : Int) ≤ (xs.length : Int) by omega), Int.toNat_natCast, if_pos hn]
  simpa using toCarryS_l xs hn xs.length 0 (by omega)
theorem eqCarryS_l (xs : List S70) (hn : xs.length ≤ 140737488355328) (d : Nat) : ∀ i : Nat, i + d = xs.length →
    Ev (fun k => laws_eqCarryS.l0 k xs xs (i : Int)) true := by
  induction d with
  | zero =>
    intro i h
    refine ev_succ ?_
    simp only [laws_eqCarryS.l0, if_neg (show ¬ ((i : Int) < (xs.length : Int)) by omega)]
    exact ev_now _
  | succ d ih =>
    intro i h
    refine ev_succ ?_
    simp only [laws_eqCarryS.l0, if_pos (show ((i : Int) < (xs.length : Int)) by omega), if_pos (show (0 : Int) ≤ (i : Int) by omega), w64s i (by omega), laws_eqCarry.f, Option.bind_some, if_true]
    exact ih (i + 1) (by omega)
theorem eqCarryS_self (xs : List S70) (hn : xs.length ≤ 140737488355328) : Ev (fun k => laws_eqCarryS.f k xs xs) true := by
  simp only [laws_eqCarryS.f, if_true]
  simpa using eqCarryS_l xs hn xs.length 0 (by omega)
theorem rdwDefect {xs : List S118} {i : Nat} (h : i < xs.length) : rd_T118 xs (i : Int) = xs[i] := by
  simp [rd_T118, List.getD_eq_getElem?_getD, h]
def wDefect (x : S118) : Nat := x.f0.size
theorem szDefect_eq (x : S118) (left : Int) (h0 : 0 ≤ left) (h1 : left ≤ 1048576) (hw : wDefect x ≤ 140737488355328) : laws_szDefect.f x.f0 x.f1 x.f2 left = some (if left - (wDefect x : Int) < 0 then -1 else left - (wDefect x : Int)) := by
  unfold wDefect at hw ⊢
  unfold laws_szDefect.f
  rw [w64 (by omega) (by omega)]
  split <;> rfl
theorem szDefectS_l (xs : List S118) (hn : xs.length ≤ 140737488355328) (hx : ∀ x ∈ xs, wDefect x ≤ 140737488355328) (d : Nat) : ∀ (i : Nat) (left : Int), i + d = xs.length → 0 ≤ left → left ≤ 1048576 →
    ∃ v, Ev (fun k => laws_szDefectS.l0 k xs left (i : Int)) v ∧ (v < 0 ∨ (0 ≤ v ∧ v + (((xs.drop i).map wDefect).sum : Nat) = left)) := by
  induction d with
  | zero =>
    intro i left h h0 h1
    refine ⟨left, ev_succ ?_, .inr ⟨h0, ?_⟩⟩
    · simp only [laws_szDefectS.l0, if_neg (show ¬ ((i : Int) < (xs.length : Int)) by omega)]
      exact ev_now _
    · rw [List.drop_of_length_le (by omega)]; simp
  | succ d ih =>
    intro i left h h0 h1
    have hlt : i < xs.length := by omega
    have hxi := hx _ (List.getElem_mem hlt)
    by_cases hs : left - (wDefect (xs[i]) : Int) < 0
    · refine ⟨-1, ev_succ ?_, .inl (by omega)⟩
      simp only [laws_szDefectS.l0, if_pos (show ((i : Int) < (xs.length : Int)) by omega), if_pos (show (0 : Int) ≤ (i : Int) by omega), rdwDefect hlt, szDefect_eq _ left h0 h1 hxi, if_pos hs, Option.bind_some, if_pos (show (-1 : Int) < 0 by omega)]
      exact ev_now _
    · obtain ⟨v, hv, hr⟩ := ih (i + 1) (left - (wDefect (xs[i]) : Int)) (by omega) (by omega) (by omega)
      refine ⟨v, ev_succ ?_, ?_⟩
      · simp only [laws_szDefectS.l0, if_pos (show ((i : Int) < (xs.length : Int)) by omega), if_pos (show (0 : Int) ≤ (i : Int) by omega), rdwDefect hlt, szDefect_eq _ left h0 h1 hxi, if_neg hs, Option.bind_some, w64s i (by omega)]
        exact hv
      · rcases hr with hr | ⟨hr0, hr⟩
        · exact .inl hr
        · refine .inr ⟨hr0, ?_⟩
          rw [List.drop_eq_getElem_cons hlt, List.map_cons, List.sum_cons]
          omega
theorem szDefectS_ev (xs : List S118) (left : Int) (h0 : 0 ≤ left) (h1 : left ≤ 1048576) (hn : xs.length ≤ 140737488355328) (hx : ∀ x ∈ xs, wDefect x ≤ 140737488355328) :
    ∃ v, Ev (fun k => laws_szDefectS.f k xs left) v ∧ (v < 0 ∨ (0 ≤ v ∧ v + (xs.length : Int) + ((xs.map wDefect).sum : Nat) = left)) := by
  simp only [laws_szDefectS.f]
  rw [w64 (by omega) (by omega)]
  by_cases hs : left - (xs.length : Int) < 0
  · simp only [if_pos hs]
    exact ⟨-1, ev_now _, .inl (by omega)⟩
  · simp only [if_neg hs]
    obtain ⟨v, hv, hr⟩ := szDefectS_l xs hn hx xs.length 0 (left - (xs.length : Int)) (by omega) (by omega) (by omega)
    refine ⟨v, hv, ?_⟩
    rcases hr with hr | ⟨hr0, hr⟩
    · exact .inl hr
    · rw [List.drop_zero] at hr
      exact .inr ⟨hr0, by omega⟩
/-! The helpers over Defects. -/
def convDefect (x : S118) : S72 := ⟨x.f0, x.f1, x.f2⟩
theorem rdlDefect {xs : List S118} {i : Nat} (h : i < xs.length) : rd_T118 xs (i : Int) = xs[i] := by
  simp [rd_T118, List.getD_eq_getElem?_getD, h]
theorem rdiDefect {xs : List S72} {i : Nat} (h : i < xs.length) : rd_T72 xs (i : Int) = xs[i] := by
  simp [rd_T72, List.getD_eq_getElem?_getD, h]
theorem dropDefect {xs : List S72} {i : Nat} (h : i < xs.length) : xs.drop i = rd_T72 xs (i : Int) :: xs.drop (i + 1) := by
  rw [List.drop_eq_getElem_cons h, rdiDefect h]
theorem toDefectS_l (xs : List S118) (hn : xs.length ≤ 8796093022208) (d : Nat) : ∀ i : Nat, i + d = xs.length →
    Ev (fun k => laws_toDefectS.l0 k xs ((xs.map convDefect).take i ++ List.replicate (xs.length - i) z72) (i : Int)) (xs.map convDefect) := by
  induction d with
  | zero =>
    intro i h
    refine ev_succ ?_
    simp only [laws_toDefectS.l0, if_neg (show ¬ ((i : Int) < (xs.length : Int)) by omega)]
    exact ev_some (by rw [List.take_of_length_le (by simp; omega), show xs.length - i = 0 by omega]; simp)
  | succ d ih =>
    intro i h
    refine ev_succ ?_
    have hlt : i < xs.length := by omega
    have hl : (((xs.map convDefect).take i ++ List.replicate (xs.length - i) z72).length : Int) = (xs.length : Int) := by simp; omega
    have hs := take_setG (xs := xs) (c := convDefect) hlt z72
    simp only [laws_toDefectS.l0, if_pos (show ((i : Int) < (xs.length : Int)) by omega), if_pos (show (0 : Int) ≤ (i : Int) by omega), hl, w64s i (by omega), Int.toNat_natCast, rdlDefect hlt, laws_toDefect.f, Option.bind_some]
    rw [show ((xs.map convDefect).take i ++ List.replicate (xs.length - i) z72).set i ⟨(xs[i]).f0, (xs[i]).f1, (xs[i]).f2⟩ = _ from hs]
    exact ih (i + 1) (by omega)
theorem toDefectS_ev (xs : List S118) (hn : xs.length ≤ 8796093022208) : Ev (fun k => laws_toDefectS.f k xs) (xs.map convDefect) := by
  simp only [laws_toDefectS.f, if_pos (show (0 : Int) ≤ (xs.length : Int) by omega), Int.toNat_natCast, if_pos hn]
  simpa using toDefectS_l xs hn xs.length 0 (by omega)
theorem eqDefectS_l (xs : List S72) (hn : xs.length ≤ 140737488355328) (d : Nat) : ∀ i : Nat, i + d = xs.length →
    Ev (fun k => laws_eqDefectS.l0 k xs xs (i : Int)) true := by
  induction d with
  | zero =>
    intro i h
    refine ev_succ ?_
    simp only [laws_eqDefectS.l0, if_neg (show ¬ ((i : Int) < (xs.length : Int)) by omega)]
    exact ev_now _
  | succ d ih =>
    intro i h
    refine ev_succ ?_
    simp only [laws_eqDefectS.l0, if_pos (show ((i : Int) < (xs.length : Int)) by omega), if_pos (show (0 : Int) ≤ (i : Int) by omega), w64s i (by omega), laws_eqDefect.f, Option.bind_some, if_true]
    exact ih (i + 1) (by omega)
theorem eqDefectS_self (xs : List S72) (hn : xs.length ≤ 140737488355328) : Ev (fun k => laws_eqDefectS.f k xs xs) true := by
  simp only [laws_eqDefectS.f, if_true]
  simpa using eqDefectS_l xs hn xs.length 0 (by omega)
theorem toFleet_ev (ts : List S29) (cs : List S92) (ds : List S118) (p q r : Int) (ht : ts.length ≤ 4398046511104) (hc : cs.length ≤ 8796093022208) (hd : ds.length ≤ 8796093022208) : Ev (fun k => laws_toFleet.f k ts cs ds p q r) (ts.map convTask, cs.map convCarry, ds.map convDefect, p, q, r) := by
  simp only [laws_toFleet.f, laws_toClock.f, Option.bind_some]
  refine (toTaskS_ev ts ht).bind ?_
  refine (toCarryS_ev cs hc).bind ?_
  exact (toDefectS_ev ds hd).bind (f := fun _ t => some (ts.map convTask, cs.map convCarry, t, p, q, r)) (ev_now _)
theorem eqFleet_self (ts : List Tk) (cs : List Cr) (ds : List Df) (p q r : Int) (ht : ts.length ≤ 140737488355328) (hc : cs.length ≤ 140737488355328) (hd : ds.length ≤ 140737488355328) : Ev (fun k => laws_eqFleet.f k ts cs ds p q r ts cs ds p q r) true := by
  simp only [laws_eqFleet.f, laws_eqClock.f, if_true, Option.bind_some]
  refine (eqTaskS_self ts ht).bind ?_
  simp only [if_true]
  refine (eqCarryS_self cs hc).bind ?_
  simp only [if_true]
  exact (eqDefectS_self ds hd).bind (f := fun _ t => if t = true then some true else some false) (ev_now _)
theorem szFleet_ev (ts : List S29) (cs : List S92) (ds : List S118) (p q r : Int) (ht : ts.length ≤ 140737488355328) (htx : ∀ x ∈ ts, wTask x ≤ 140737488355328) (hc : cs.length ≤ 140737488355328) (hcx : ∀ x ∈ cs, wCarry x ≤ 140737488355328) (hd : ds.length ≤ 140737488355328) (hdx : ∀ x ∈ ds, wDefect x ≤ 140737488355328) :
    ∃ v, Ev (fun k => laws_szFleet.f k ts cs ds p q r 1048576) v := by
  simp only [laws_szFleet.f]
  obtain ⟨v1, h1, r1⟩ := szTaskS_ev ts 1048576 (by omega) (by omega) ht htx
  by_cases s1 : v1 < 0
  · refine ⟨-1, h1.bind ?_⟩
    simp only [if_pos s1]
    exact ev_now _
  · obtain ⟨v2, h2, r2⟩ := szCarryS_ev cs v1 (by omega) (by omega) hc hcx
    by_cases s2 : v2 < 0
    · refine ⟨-1, h1.bind ?_⟩
      simp only [if_neg s1]
      refine h2.bind ?_
      simp only [if_pos s2]
      exact ev_now _
    · obtain ⟨v3, h3, r3⟩ := szDefectS_ev ds v2 (by omega) (by omega) hd hdx
      by_cases s3 : v3 < 0
      · refine ⟨-1, h1.bind ?_⟩
        simp only [if_neg s1]
        refine h2.bind ?_
        simp only [if_neg s2]
        refine h3.bind ?_
        simp only [if_pos s3]
        exact ev_now _
      · refine ⟨v3, h1.bind ?_⟩
        simp only [if_neg s1]
        refine h2.bind ?_
        simp only [if_neg s2]
        refine h3.bind ?_
        simp only [if_neg s3]
        exact ev_now _
theorem FnExactRelease (l0_0 : List (S29)) (l0_1 : List (S92)) (l0_2 : List (S118)) (a0_3 : Int) (a0_4 : Int) (a0_5 : Int) (g0 : ((l0_0.length * 64 ≤ 140737488351232 ∧ ∀ x ∈ l0_0, (x.f0.size ≤ 140737488351232 ∧ (Lit.int .i64 x.f1).wf = true ∧ (Lit.int .i64 x.f2).wf = true ∧ (Lit.int .i64 x.f3).wf = true ∧ (Lit.int .i64 x.f4.f0).wf = true ∧ (Lit.int .i64 x.f4.f1).wf = true ∧ (Lit.int .i64 x.f4.f2).wf = true)) ∧ (l0_1.length * 32 ≤ 140737488351232 ∧ ∀ x ∈ l0_1, (x.f0.size ≤ 140737488351232 ∧ (Lit.int .i64 x.f1).wf = true ∧ (Lit.int .i64 x.f2).wf = true)) ∧ (l0_2.length * 32 ≤ 140737488351232 ∧ ∀ x ∈ l0_2, (x.f0.size ≤ 140737488351232 ∧ (Lit.int .i64 x.f1).wf = true ∧ (Lit.int .i64 x.f2).wf = true)) ∧ ((Lit.int .i64 a0_3).wf = true ∧ (Lit.int .i64 a0_4).wf = true ∧ (Lit.int .i64 a0_5).wf = true))) : ∃ k, laws_FnExactRelease.f k l0_0 l0_1 l0_2 a0_3 a0_4 a0_5 = some true := by
  obtain ⟨⟨ht0, ht1⟩, ⟨hc0, hc1⟩, ⟨hd0, hd1⟩, hq⟩ := g0
  have ht : l0_0.length ≤ 4398046511104 := by omega
  have hc : l0_1.length ≤ 8796093022208 := by omega
  have hd : l0_2.length ≤ 8796093022208 := by omega
  have htx : ∀ x ∈ l0_0, wTask x ≤ 140737488355328 := fun x hx => by have := (ht1 x hx).1; unfold wTask; omega
  have hcx : ∀ x ∈ l0_1, wCarry x ≤ 140737488355328 := fun x hx => by have := (hc1 x hx).1; unfold wCarry; omega
  have hdx : ∀ x ∈ l0_2, wDefect x ≤ 140737488355328 := fun x hx => by have := (hd1 x hx).1; unfold wDefect; omega
  have mt : ∀ x ∈ l0_0.map convTask, x.f0.size ≤ 140737488355328 := by
    intro x h
    obtain ⟨y, hy, rfl⟩ := List.mem_map.1 h
    exact htx y hy
  have mc : ∀ x ∈ l0_1.map convCarry, x.f0.size ≤ 140737488355328 := by
    intro x h
    obtain ⟨y, hy, rfl⟩ := List.mem_map.1 h
    exact hcx y hy
  have md : ∀ x ∈ l0_2.map convDefect, x.f0.size ≤ 140737488355328 := by
    intro x h
    obtain ⟨y, hy, rfl⟩ := List.mem_map.1 h
    exact hdx y hy
  have lt : (l0_0.map convTask).length ≤ 140737488355328 := by rw [List.length_map]; omega
  have lc : (l0_1.map convCarry).length ≤ 140737488355328 := by rw [List.length_map]; omega
  have ld : (l0_2.map convDefect).length ≤ 140737488355328 := by rw [List.length_map]; omega
  have hz : fleetSzB (l0_0.map convTask) (l0_1.map convCarry) (l0_2.map convDefect) = true := fleetSz_of.2 ⟨mt, mc, md, lt, lc, ld⟩
  refine Ev.rounds ?_
  simp only [laws_FnExactRelease.f]
  obtain ⟨v, hv⟩ := szFleet_ev l0_0 l0_1 l0_2 a0_3 a0_4 a0_5 (by omega) htx (by omega) hcx (by omega) hdx
  refine hv.bind ?_
  by_cases hs : v < 0
  · simp only [if_pos hs]
    exact ev_now _
  · simp only [if_neg hs]
    refine (toFleet_ev l0_0 l0_1 l0_2 a0_3 a0_4 a0_5 ht hc hd).bind ?_
    simp only [spec_Release.f, impl_Release.f, if_pos hz, Option.bind_some]
    refine (toFleet_ev l0_0 l0_1 l0_2 a0_3 a0_4 a0_5 ht hc hd).bind ?_
    simp only [if_pos hz, Option.bind_some, if_true, bne_self_eq_false]
    refine ev_succ ?_
    simp only [laws_FnExactRelease.j0, Bool.false_eq_true, if_false]
    refine (toFleet_ev l0_0 l0_1 l0_2 a0_3 a0_4 a0_5 ht hc hd).bind ?_
    exact (eqFleet_self _ _ _ a0_3 a0_4 a0_5 lt lc ld).bind (f := fun _ t => if t = true then some true else some false) (ev_now _)
end Go.Proofs.Ytbgdibbgngpggaa.Pure
