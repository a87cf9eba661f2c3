/- The program's RunWork answers as the reference's at every argument, writes into no argument and owns its answer. No condition. -/
import Derived.Test.YtdimdlifjdbgnaaGreatPFnExactRunWorkx19
import Derived.Test.YtdimdlifjdbgnaaGreatBase
set_option linter.unusedVariables false
set_option linter.unusedSimpArgs false
namespace Go.Proofs.YtdimdlifjdbgnaaGreat.Pure
open Go.RowKit Go.Proofs.YtdimdlifjdbgnaaGreat.PFnExactRunWork Go.Proofs.YtdimdlifjdbgnaaGreat.Base Go.Proofs.YtdimdlifjdbgnaaGreatW.PrintWords Go.Proofs.YtdimdlifjdbgnaaGreatW.PrintLast
theorem rdwTask {xs : List S77} {i : Nat} (h : i < xs.length) : rd_T77 xs (i : Int) = xs[i] := by
  simp [rd_T77, List.getD_eq_getElem?_getD, h]
def wTask (x : S77) : Nat := x.f0.size
theorem szTask_eq (x : S77) (left : Int) (h0 : 0 ≤ left) (h1 : left ≤ 1048576) (hw : wTask x ≤ 140737488355328) : laws_szTask.f x.f0 x.f1 x.f2 x.f3 x.f4.f0 x.f4.f1 x.f4.f2 left = some (if left - (wTask x : Int) < 0 then -1 else left - (wTask x : Int)) := by
  unfold wTask at hw ⊢
  unfold laws_szTask.f
  rw [w64 (by omega) (by omega)]
  split <;> rfl
theorem szTaskS_l (xs : List S77) (hn : xs.length ≤ 140737488355328) (hx : ∀ x ∈ xs, wTask x ≤ 140737488355328) (d : Nat) : ∀ (i : Nat) (left : Int), i + d = xs.length → 0 ≤ left → left ≤ 1048576 →
    ∃ v, Ev (fun k => laws_szTaskS.l0 k xs left (i : Int)) v ∧ (v < 0 ∨ (0 ≤ v ∧ v + (((xs.drop i).map wTask).sum : Nat) = left)) := by
  induction d with
  | zero =>
    intro i left h h0 h1
    refine ⟨left, ev_succ ?_, .inr ⟨h0, ?_⟩⟩
    · simp only [laws_szTaskS.l0, if_neg (show ¬ ((i : Int) < (xs.length : Int)) by omega)]
      exact ev_now _
    · rw [List.drop_of_length_le (by omega)]; simp
  | succ d ih =>
    intro i left h h0 h1
    have hlt : i < xs.length := by omega
    have hxi := hx _ (List.getElem_mem hlt)
    by_cases hs : left - (wTask (xs[i]) : Int) < 0
    · refine ⟨-1, ev_succ ?_, .inl (by omega)⟩
      simp only [laws_szTaskS.l0, if_pos (show ((i : Int) < (xs.length : Int)) by omega), if_pos (show (0 : Int) ≤ (i : Int) by omega), rdwTask hlt, szTask_eq _ left h0 h1 hxi, if_pos hs, Option.bind_some, if_pos (show (-1 : Int) < 0 by omega)]
      exact ev_now _
    · obtain ⟨v, hv, hr⟩ := ih (i + 1) (left - (wTask (xs[i]) : Int)) (by omega) (by omega) (by omega)
      refine ⟨v, ev_succ ?_, ?_⟩
      · simp only [laws_szTaskS.l0, if_pos (show ((i : Int) < (xs.length : Int)) by omega), if_pos (show (0 : Int) ≤ (i : Int) by omega), rdwTask hlt, szTask_eq _ left h0 h1 hxi, if_neg hs, Option.bind_some, w64s i (by omega)]
        exact hv
      · rcases hr with hr | ⟨hr0, hr⟩
        · exact .inl hr
        · refine .inr ⟨hr0, ?_⟩
          rw [List.drop_eq_getElem_cons hlt, List.map_cons, List.sum_cons]
          omega
theorem szTaskS_ev (xs : List S77) (left : Int) (h0 : 0 ≤ left) (h1 : left ≤ 1048576) (hn : xs.length ≤ 140737488355328) (hx : ∀ x ∈ xs, wTask x ≤ 140737488355328) :
    ∃ v, Ev (fun k => laws_szTaskS.f k xs left) v ∧ (v < 0 ∨ (0 ≤ v ∧ v + (xs.length : Int) + ((xs.map wTask).sum : Nat) = left)) := by
  simp only [laws_szTaskS.f]
  rw [w64 (by omega) (by omega)]
  by_cases hs : left - (xs.length : Int) < 0
  · simp only [if_pos hs]
    exact ⟨-1, ev_now _, .inl (by omega)⟩
  · simp only [if_neg hs]
    obtain ⟨v, hv, hr⟩ := szTaskS_l xs hn hx xs.length 0 (left - (xs.length : Int)) (by omega) (by omega) (by omega)
    refine ⟨v, hv, ?_⟩
    rcases hr with hr | ⟨hr0, hr⟩
    · exact .inl hr
    · rw [List.drop_zero] at hr
      exact .inr ⟨hr0, by omega⟩
/-! The helpers over Tasks. -/
def convTask (x : S77) : S86 := ⟨x.f0, x.f1, x.f2, x.f3, ⟨x.f4.f0, x.f4.f1, x.f4.f2⟩⟩
theorem rdlTask {xs : List S77} {i : Nat} (h : i < xs.length) : rd_T77 xs (i : Int) = xs[i] := by
  simp [rd_T77, List.getD_eq_getElem?_getD, h]
theorem rdiTask {xs : List S86} {i : Nat} (h : i < xs.length) : rd_T86 xs (i : Int) = xs[i] := by
  simp [rd_T86, List.getD_eq_getElem?_getD, h]
theorem dropTask {xs : List S86} {i : Nat} (h : i < xs.length) : xs.drop i = rd_T86 xs (i : Int) :: xs.drop (i + 1) := by
  rw [List.drop_eq_getElem_cons h, rdiTask h]
theorem toTaskS_l (xs : List S77) (hn : xs.length ≤ 4398046511104) (d : Nat) : ∀ i : Nat, i + d = xs.length →
    Ev (fun k => laws_toTaskS.l0 k xs ((xs.map convTask).take i ++ List.replicate (xs.length - i) z86) (i : Int)) (xs.map convTask) := by
  induction d with
  | zero =>
    intro i h
    refine ev_succ ?_
    simp only [laws_toTaskS.l0, if_neg (show ¬ ((i : Int) < (xs.length : Int)) by omega)]
    exact ev_some (by rw [List.take_of_length_le (by simp; omega), show xs.length - i = 0 by omega]; simp)
  | succ d ih =>
    intro i h
    refine ev_succ ?_
    have hlt : i < xs.length := by omega
    have hl : (((xs.map convTask).take i ++ List.replicate (xs.length - i) z86).length : Int) = (xs.length : Int) := by simp; omega
    have hs := take_setG (xs := xs) (c := convTask) hlt z86
    simp only [laws_toTaskS.l0, if_pos (show ((i : Int) < (xs.length : Int)) by omega), if_pos (show (0 : Int) ≤ (i : Int) by omega), hl, w64s i (by omega), Int.toNat_natCast, rdlTask hlt, laws_toTask.f, laws_toClock.f, Option.bind_some]
    rw [show ((xs.map convTask).take i ++ List.replicate (xs.length - i) z86).set i ⟨(xs[i]).f0, (xs[i]).f1, (xs[i]).f2, (xs[i]).f3, ⟨(xs[i]).f4.f0, (xs[i]).f4.f1, (xs[i]).f4.f2⟩⟩ = _ from hs]
    exact ih (i + 1) (by omega)
theorem toTaskS_ev (xs : List S77) (hn : xs.length ≤ 4398046511104) : Ev (fun k => laws_toTaskS.f k xs) (xs.map convTask) := by
  simp only [laws_toTaskS.f, if_pos (show (0 : Int) ≤ (xs.length : Int) by omega), Int.toNat_natCast, if_pos hn]
  simpa using toTaskS_l xs hn xs.length 0 (by omega)
theorem eqTaskS_l (xs : List S86) (hn : xs.length ≤ 140737488355328) (d : Nat) : ∀ i : Nat, i + d = xs.length →
    Ev (fun k => laws_eqTaskS.l0 k xs xs (i : Int)) true := by
  induction d with
  | zero =>
    intro i h
    refine ev_succ ?_
    simp only [laws_eqTaskS.l0, if_neg (show ¬ ((i : Int) < (xs.length : Int)) by omega)]
    exact ev_now _
  | succ d ih =>
    intro i h
    refine ev_succ ?_
    simp only [laws_eqTaskS.l0, if_pos (show ((i : Int) < (xs.length : Int)) by omega), if_pos (show (0 : Int) ≤ (i : Int) by omega), w64s i (by omega), laws_eqTask.f, laws_eqClock.f, Option.bind_some, if_true]
    exact ih (i + 1) (by omega)
theorem eqTaskS_self (xs : List S86) (hn : xs.length ≤ 140737488355328) : Ev (fun k => laws_eqTaskS.f k xs xs) true := by
  simp only [laws_eqTaskS.f, if_true]
  simpa using eqTaskS_l xs hn xs.length 0 (by omega)
theorem rdwCarry {xs : List S80} {i : Nat} (h : i < xs.length) : rd_T80 xs (i : Int) = xs[i] := by
  simp [rd_T80, List.getD_eq_getElem?_getD, h]
def wCarry (x : S80) : Nat := x.f0.size
theorem szCarry_eq (x : S80) (left : Int) (h0 : 0 ≤ left) (h1 : left ≤ 1048576) (hw : wCarry x ≤ 140737488355328) : laws_szCarry.f x.f0 x.f1 x.f2 left = some (if left - (wCarry x : Int) < 0 then -1 else left - (wCarry x : Int)) := by
  unfold wCarry at hw ⊢
  unfold laws_szCarry.f
  rw [w64 (by omega) (by omega)]
  split <;> rfl
theorem szCarryS_l (xs : List S80) (hn : xs.length ≤ 140737488355328) (hx : ∀ x ∈ xs, wCarry x ≤ 140737488355328) (d : Nat) : ∀ (i : Nat) (left : Int), i + d = xs.length → 0 ≤ left → left ≤ 1048576 →
    ∃ v, Ev (fun k => laws_szCarryS.l0 k xs left (i : Int)) v ∧ (v < 0 ∨ (0 ≤ v ∧ v + (((xs.drop i).map wCarry).sum : Nat) = left)) := by
  induction d with
  | zero =>
    intro i left h h0 h1
    refine ⟨left, ev_succ ?_, .inr ⟨h0, ?_⟩⟩
    · simp only [laws_szCarryS.l0, if_neg (show ¬ ((i : Int) < (xs.length : Int)) by omega)]
      exact ev_now _
    · rw [List.drop_of_length_le (by omega)]; simp
  | succ d ih =>
    intro i left h h0 h1
    have hlt : i < xs.length := by omega
    have hxi := hx _ (List.getElem_mem hlt)
    by_cases hs : left - (wCarry (xs[i]) : Int) < 0
    · refine ⟨-1, ev_succ ?_, .inl (by omega)⟩
      simp only [laws_szCarryS.l0, if_pos (show ((i : Int) < (xs.length : Int)) by omega), if_pos (show (0 : Int) ≤ (i : Int) by omega), rdwCarry hlt, szCarry_eq _ left h0 h1 hxi, if_pos hs, Option.bind_some, if_pos (show (-1 : Int) < 0 by omega)]
      exact ev_now _
    · obtain ⟨v, hv, hr⟩ := ih (i + 1) (left - (wCarry (xs[i]) : Int)) (by omega) (by omega) (by omega)
      refine ⟨v, ev_succ ?_, ?_⟩
      · simp only [laws_szCarryS.l0, if_pos (show ((i : Int) < (xs.length : Int)) by omega), if_pos (show (0 : Int) ≤ (i : Int) by omega), rdwCarry hlt, szCarry_eq _ left h0 h1 hxi, if_neg hs, Option.bind_some, w64s i (by omega)]
        exact hv
      · rcases hr with hr | ⟨hr0, hr⟩
        · exact .inl hr
        · refine .inr ⟨hr0, ?_⟩
          rw [List.drop_eq_getElem_cons hlt, List.map_cons, List.sum_cons]
          omega
theorem szCarryS_ev (xs : List S80) (left : Int) (h0 : 0 ≤ left) (h1 : left ≤ 1048576) (hn : xs.length ≤ 140737488355328) (hx : ∀ x ∈ xs, wCarry x ≤ 140737488355328) :
    ∃ v, Ev (fun k => laws_szCarryS.f k xs left) v ∧ (v < 0 ∨ (0 ≤ v ∧ v + (xs.length : Int) + ((xs.map wCarry).sum : Nat) = left)) := by
  simp only [laws_szCarryS.f]
  rw [w64 (by omega) (by omega)]
  by_cases hs : left - (xs.length : Int) < 0
  · simp only [if_pos hs]
    exact ⟨-1, ev_now _, .inl (by omega)⟩
  · simp only [if_neg hs]
    obtain ⟨v, hv, hr⟩ := szCarryS_l xs hn hx xs.length 0 (left - (xs.length : Int)) (by omega) (by omega) (by omega)
    refine ⟨v, hv, ?_⟩
    rcases hr with hr | ⟨hr0, hr⟩
    · exact .inl hr
    · rw [List.drop_zero] at hr
      exact .inr ⟨hr0, by omega⟩
/-! The helpers over Carrys. -/
def convCarry (x : S80) : S88 := ⟨x.f0, x.f1, x.f2⟩
theorem rdlCarry {xs : List S80} {i : Nat} (h : i < xs.length) : rd_T80 xs (i : Int) = xs[i] := by
  simp [rd_T80, List.getD_eq_getElem?_getD, h]
theorem rdiCarry {xs : List S88} {i : Nat} (h : i < xs.length) : rd_T88 xs (i : Int) = xs[i] := by
  simp [rd_T88, List.getD_eq_getElem?_getD, h]
theorem dropCarry {xs : List S88} {i : Nat} (h : i < xs.length) : xs.drop i = rd_T88 xs (i : Int) :: xs.drop (i + 1) := by
  rw [List.drop_eq_getElem_cons h, rdiCarry h]
theorem toCarryS_l (xs : List S80) (hn : xs.length ≤ 8796093022208) (d : Nat) : ∀ i : Nat, i + d = xs.length →
    Ev (fun k => laws_toCarryS.l0 k xs ((xs.map convCarry).take i ++ List.replicate (xs.length - i) z88) (i : Int)) (xs.map convCarry) := by
  induction d with
  | zero =>
    intro i h
    refine ev_succ ?_
    simp only [laws_toCarryS.l0, if_neg (show ¬ ((i : Int) < (xs.length : Int)) by omega)]
    exact ev_some (by rw [List.take_of_length_le (by simp; omega), show xs.length - i = 0 by omega]; simp)
  | succ d ih =>
    intro i h
    refine ev_succ ?_
    have hlt : i < xs.length := by omega
    have hl : (((xs.map convCarry).take i ++ List.replicate (xs.length - i) z88).length : Int) = (xs.length : Int) := by simp; omega
    have hs := take_setG (xs := xs) (c := convCarry) hlt z88
    simp only [laws_toCarryS.l0, if_pos (show ((i : Int) < (xs.length : Int)) by omega), if_pos (show (0 : Int) ≤ (i : Int) by omega), hl, w64s i (by omega), Int.toNat_natCast, rdlCarry hlt, laws_toCarry.f, Option.bind_some]
    rw [show ((xs.map convCarry).take i ++ List.replicate (xs.length - i) z88).set i ⟨(xs[i]).f0, (xs[i]).f1, (xs[i]).f2⟩ = _ from hs]
    exact ih (i + 1) (by omega)
theorem toCarryS_ev (xs : List S80) (hn : xs.length ≤ 8796093022208) : Ev (fun k => laws_toCarryS.f k xs) (xs.map convCarry) := by
  simp only [laws_toCarryS.f, if_pos (show (0 : Int) ≤ (xs.length : Int) by omega), Int.toNat_natCast, if_pos hn]
  simpa using toCarryS_l xs hn xs.length 0 (by omega)
theorem eqCarryS_l (xs : List S88) (hn : xs.length ≤ 140737488355328) (d : Nat) : ∀ i : Nat, i + d = xs.length →
    Ev (fun k => laws_eqCarryS.l0 k xs xs (i : Int)) true := by
  induction d with
  | zero =>
    intro i h
    refine ev_succ ?_
    simp only [laws_eqCarryS.l0, if_neg (show ¬ ((i : Int) < (xs.length : Int)) by omega)]
    exact ev_now _
  | succ d ih =>
    intro i h
    refine ev_succ ?_
    simp only [laws_eqCarryS.l0, if_pos (show ((i : Int) < (xs.length : Int)) by omega), if_pos (show (0 : Int) ≤ (i : Int) by omega), w64s i (by omega), laws_eqCarry.f, Option.bind_some, if_true]
    exact ih (i + 1) (by omega)
theorem eqCarryS_self (xs : List S88) (hn : xs.length ≤ 140737488355328) : Ev (fun k => laws_eqCarryS.f k xs xs) true := by
  simp only [laws_eqCarryS.f, if_true]
  simpa using eqCarryS_l xs hn xs.length 0 (by omega)
theorem rdwDefect {xs : List S83} {i : Nat} (h : i < xs.length) : rd_T83 xs (i : Int) = xs[i] := by
  simp [rd_T83, List.getD_eq_getElem?_getD, h]
def wDefect (x : S83) : Nat := x.f0.size
theorem szDefect_eq (x : S83) (left : Int) (h0 : 0 ≤ left) (h1 : left ≤ 1048576) (hw : wDefect x ≤ 140737488355328) : laws_szDefect.f x.f0 x.f1 x.f2 left = some (if left - (wDefect x : Int) < 0 then -1 else left - (wDefect x : Int)) := by
  unfold wDefect at hw ⊢
  unfold laws_szDefect.f
  rw [w64 (by omega) (by omega)]
  split <;> rfl
theorem szDefectS_l (xs : List S83) (hn : xs.length ≤ 140737488355328) (hx : ∀ x ∈ xs, wDefect x ≤ 140737488355328) (d : Nat) : ∀ (i : Nat) (left : Int), i + d = xs.length → 0 ≤ left → left ≤ 1048576 →
    ∃ v, Ev (fun k => laws_szDefectS.l0 k xs left (i : Int)) v ∧ (v < 0 ∨ (0 ≤ v ∧ v + (((xs.drop i).map wDefect).sum : Nat) = left)) := by
  induction d with
  | zero =>
    intro i left h h0 h1
    refine ⟨left, ev_succ ?_, .inr ⟨h0, ?_⟩⟩
    · simp only [laws_szDefectS.l0, if_neg (show ¬ ((i : Int) < (xs.length : Int)) by omega)]
      exact ev_now _
    · rw [List.drop_of_length_le (by omega)]; simp
  | succ d ih =>
    intro i left h h0 h1
    have hlt : i < xs.length := by omega
    have hxi := hx _ (List.getElem_mem hlt)
    by_cases hs : left - (wDefect (xs[i]) : Int) < 0
    · refine ⟨-1, ev_succ ?_, .inl (by omega)⟩
      simp only [laws_szDefectS.l0, if_pos (show ((i : Int) < (xs.length : Int)) by omega), if_pos (show (0 : Int) ≤ (i : Int) by omega), rdwDefect hlt, szDefect_eq _ left h0 h1 hxi, if_pos hs, Option.bind_some, if_pos (show (-1 : Int) < 0 by omega)]
      exact ev_now _
    · obtain ⟨v, hv, hr⟩ := ih (i + 1) (left - (wDefect (xs[i]) : Int)) (by omega) (by omega) (by omega)
      refine ⟨v, ev_succ ?_, ?_⟩
      · simp only [laws_szDefectS.l0, if_pos (show ((i : Int) < (xs.length : Int)) by omega), if_pos (show (0 : Int) ≤ (i : Int) by omega), rdwDefect hlt, szDefect_eq _ left h0 h1 hxi, if_neg hs, Option.bind_some, w64s i (by omega)]
        exact hv
      · rcases hr with hr | ⟨hr0, hr⟩
        · exact .inl hr
        · refine .inr ⟨hr0, ?_⟩
          rw [List.drop_eq_getElem_cons hlt, List.map_cons, List.sum_cons]
          omega
theorem szDefectS_ev (xs : List S83) (left : Int) (h0 : 0 ≤ left) (h1 : left ≤ 1048576) (hn : xs.length ≤ 140737488355328) (hx : ∀ x ∈ xs, wDefect x ≤ 140737488355328) :
    ∃ v, Ev (fun k => laws_szDefectS.f k xs left) v ∧ (v < 0 ∨ (0 ≤ v ∧ v + (xs.length : Int) + ((xs.map wDefect).sum : Nat) = left)) := by
  simp only [laws_szDefectS.f]
  rw [w64 (by omega) (by omega)]
  by_cases hs : left - (xs.length : Int) < 0
  · simp only [if_pos hs]
    exact ⟨-1, ev_now _, .inl (by omega)⟩
  · simp only [if_neg hs]
    obtain ⟨v, hv, hr⟩ := szDefectS_l xs hn hx xs.length 0 (left - (xs.length : Int)) (by omega) (by omega) (by omega)
    refine ⟨v, hv, ?_⟩
    rcases hr with hr | ⟨hr0, hr⟩
    · exact .inl hr
    · rw [List.drop_zero] at hr
      exact .inr ⟨hr0, by omega⟩
/-! The helpers over Defects. -/
def convDefect (x : S83) : S90 := ⟨x.f0, x.f1, x.f2⟩
theorem rdlDefect {xs : List S83} {i : Nat} (h : i < xs.length) : rd_T83 xs (i : Int) = xs[i] := by
  simp [rd_T83, List.getD_eq_getElem?_getD, h]
theorem rdiDefect {xs : List S90} {i : Nat} (h : i < xs.length) : rd_T90 xs (i : Int) = xs[i] := by
  simp [rd_T90, List.getD_eq_getElem?_getD, h]
theorem dropDefect {xs : List S90} {i : Nat} (h : i < xs.length) : xs.drop i = rd_T90 xs (i : Int) :: xs.drop (i + 1) := by
  rw [List.drop_eq_getElem_cons h, rdiDefect h]
theorem toDefectS_l (xs : List S83) (hn : xs.length ≤ 8796093022208) (d : Nat) : ∀ i : Nat, i + d = xs.length →
    Ev (fun k => laws_toDefectS.l0 k xs ((xs.map convDefect).take i ++ List.replicate (xs.length - i) z90) (i : Int)) (xs.map convDefect) := by
  induction d with
  | zero =>
    intro i h
    refine ev_succ ?_
    simp only [laws_toDefectS.l0, if_neg (show ¬ ((i : Int) < (xs.length : Int)) by omega)]
    exact ev_some (by rw [List.take_of_length_le (by simp; omega), show xs.length - i = 0 by omega]; simp)
  | succ d ih =>
    intro i h
    refine ev_succ ?_
    have hlt : i < xs.length := by omega
    have hl : (((xs.map convDefect).take i ++ List.replicate (xs.length - i) z90).length : Int) = (xs.length : Int) := by simp; omega
    have hs := take_setG (xs := xs) (c := convDefect) hlt z90
    simp only [laws_toDefectS.l0, if_pos (show ((i : Int) < (xs.length : Int)) by omega), if_pos (show (0 : Int) ≤ (i : Int) by omega), hl, w64s i (by omega), Int.toNat_natCast, rdlDefect hlt, laws_toDefect.f, Option.bind_some]
    rw [show ((xs.map convDefect).take i ++ List.replicate (xs.length - i) z90).set i ⟨(xs[i]).f0, (xs[i]).f1, (xs[i]).f2⟩ = _ from hs]
    exact ih (i + 1) (by omega)
theorem toDefectS_ev (xs : List S83) (hn : xs.length ≤ 8796093022208) : Ev (fun k => laws_toDefectS.f k xs) (xs.map convDefect) := by
  simp only [laws_toDefectS.f, if_pos (show (0 : Int) ≤ (xs.length : Int) by omega), Int.toNat_natCast, if_pos hn]
  simpa using toDefectS_l xs hn xs.length 0 (by omega)
theorem eqDefectS_l (xs : List S90) (hn : xs.length ≤ 140737488355328) (d : Nat) : ∀ i : Nat, i + d = xs.length →
    Ev (fun k => laws_eqDefectS.l0 k xs xs (i : Int)) true := by
  induction d with
  | zero =>
    intro i h
    refine ev_succ ?_
    simp only [laws_eqDefectS.l0, if_neg (show ¬ ((i : Int) < (xs.length : Int)) by omega)]
    exact ev_now _
  | succ d ih =>
    intro i h
    refine ev_succ ?_
    simp only [laws_eqDefectS.l0, if_pos (show ((i : Int) < (xs.length : Int)) by omega), if_pos (show (0 : Int) ≤ (i : Int) by omega), w64s i (by omega), laws_eqDefect.f, Option.bind_some, if_true]
    exact ih (i + 1) (by omega)
theorem eqDefectS_self (xs : List S90) (hn : xs.length ≤ 140737488355328) : Ev (fun k => laws_eqDefectS.f k xs xs) true := by
  simp only [laws_eqDefectS.f, if_true]
  simpa using eqDefectS_l xs hn xs.length 0 (by omega)
theorem rdwDeed19 {xs : List S56} {i : Nat} (h : i < xs.length) : rd_T56 xs (i : Int) = xs[i] := by
  simp [rd_T56, List.getD_eq_getElem?_getD, h]
def wDeed19 (x : S56) : Nat := x.f1.size
theorem szDeed19_eq (x : S56) (left : Int) (h0 : 0 ≤ left) (h1 : left ≤ 1048576) (hw : wDeed19 x ≤ 140737488355328) : laws_szDeed19.f x.f0 x.f1 x.f2 x.f3 left = some (if left - (wDeed19 x : Int) < 0 then -1 else left - (wDeed19 x : Int)) := by
  unfold wDeed19 at hw ⊢
  unfold laws_szDeed19.f
  rw [w64 (by omega) (by omega)]
  split <;> rfl
theorem szDeed19S_l (xs : List S56) (hn : xs.length ≤ 140737488355328) (hx : ∀ x ∈ xs, wDeed19 x ≤ 140737488355328) (d : Nat) : ∀ (i : Nat) (left : Int), i + d = xs.length → 0 ≤ left → left ≤ 1048576 →
    ∃ v, Ev (fun k => laws_szDeed19S.l0 k xs left (i : Int)) v ∧ (v < 0 ∨ (0 ≤ v ∧ v + (((xs.drop i).map wDeed19).sum : Nat) = left)) := by
  induction d with
  | zero =>
    intro i left h h0 h1
    refine ⟨left, ev_succ ?_, .inr ⟨h0, ?_⟩⟩
    · simp only [laws_szDeed19S.l0, if_neg (show ¬ ((i : Int) < (xs.length : Int)) by omega)]
      exact ev_now _
    · rw [List.drop_of_length_le (by omega)]; simp
  | succ d ih =>
    intro i left h h0 h1
    have hlt : i < xs.length := by omega
    have hxi := hx _ (List.getElem_mem hlt)
    by_cases hs : left - (wDeed19 (xs[i]) : Int) < 0
    · refine ⟨-1, ev_succ ?_, .inl (by omega)⟩
      simp only [laws_szDeed19S.l0, if_pos (show ((i : Int) < (xs.length : Int)) by omega), if_pos (show (0 : Int) ≤ (i : Int) by omega), rdwDeed19 hlt, szDeed19_eq _ left h0 h1 hxi, if_pos hs, Option.bind_some, if_pos (show (-1 : Int) < 0 by omega)]
      exact ev_now _
    · obtain ⟨v, hv, hr⟩ := ih (i + 1) (left - (wDeed19 (xs[i]) : Int)) (by omega) (by omega) (by omega)
      refine ⟨v, ev_succ ?_, ?_⟩
      · simp only [laws_szDeed19S.l0, if_pos (show ((i : Int) < (xs.length : Int)) by omega), if_pos (show (0 : Int) ≤ (i : Int) by omega), rdwDeed19 hlt, szDeed19_eq _ left h0 h1 hxi, if_neg hs, Option.bind_some, w64s i (by omega)]
        exact hv
      · rcases hr with hr | ⟨hr0, hr⟩
        · exact .inl hr
        · refine .inr ⟨hr0, ?_⟩
          rw [List.drop_eq_getElem_cons hlt, List.map_cons, List.sum_cons]
          omega
theorem szDeed19S_ev (xs : List S56) (left : Int) (h0 : 0 ≤ left) (h1 : left ≤ 1048576) (hn : xs.length ≤ 140737488355328) (hx : ∀ x ∈ xs, wDeed19 x ≤ 140737488355328) :
    ∃ v, Ev (fun k => laws_szDeed19S.f k xs left) v ∧ (v < 0 ∨ (0 ≤ v ∧ v + (xs.length : Int) + ((xs.map wDeed19).sum : Nat) = left)) := by
  simp only [laws_szDeed19S.f]
  rw [w64 (by omega) (by omega)]
  by_cases hs : left - (xs.length : Int) < 0
  · simp only [if_pos hs]
    exact ⟨-1, ev_now _, .inl (by omega)⟩
  · simp only [if_neg hs]
    obtain ⟨v, hv, hr⟩ := szDeed19S_l xs hn hx xs.length 0 (left - (xs.length : Int)) (by omega) (by omega) (by omega)
    refine ⟨v, hv, ?_⟩
    rcases hr with hr | ⟨hr0, hr⟩
    · exact .inl hr
    · rw [List.drop_zero] at hr
      exact .inr ⟨hr0, by omega⟩
/-! The helpers over Deed19s. -/
def convDeed19 (x : S56) : S60 := ⟨x.f0, x.f1, x.f2, x.f3⟩
theorem rdlDeed19 {xs : List S56} {i : Nat} (h : i < xs.length) : rd_T56 xs (i : Int) = xs[i] := by
  simp [rd_T56, List.getD_eq_getElem?_getD, h]
theorem rdiDeed19 {xs : List S60} {i : Nat} (h : i < xs.length) : rd_T60 xs (i : Int) = xs[i] := by
  simp [rd_T60, List.getD_eq_getElem?_getD, h]
theorem dropDeed19 {xs : List S60} {i : Nat} (h : i < xs.length) : xs.drop i = rd_T60 xs (i : Int) :: xs.drop (i + 1) := by
  rw [List.drop_eq_getElem_cons h, rdiDeed19 h]
theorem toDeed19S_l (xs : List S56) (hn : xs.length ≤ 7036874417766) (d : Nat) : ∀ i : Nat, i + d = xs.length →
    Ev (fun k => laws_toDeed19S.l0 k xs ((xs.map convDeed19).take i ++ List.replicate (xs.length - i) z60) (i : Int)) (xs.map convDeed19) := by
  induction d with
  | zero =>
    intro i h
    refine ev_succ ?_
    simp only [laws_toDeed19S.l0, if_neg (show ¬ ((i : Int) < (xs.length : Int)) by omega)]
    exact ev_some (by rw [List.take_of_length_le (by simp; omega), show xs.length - i = 0 by omega]; simp)
  | succ d ih =>
    intro i h
    refine ev_succ ?_
    have hlt : i < xs.length := by omega
    have hl : (((xs.map convDeed19).take i ++ List.replicate (xs.length - i) z60).length : Int) = (xs.length : Int) := by simp; omega
    have hs := take_setG (xs := xs) (c := convDeed19) hlt z60
    simp only [laws_toDeed19S.l0, if_pos (show ((i : Int) < (xs.length : Int)) by omega), if_pos (show (0 : Int) ≤ (i : Int) by omega), hl, w64s i (by omega), Int.toNat_natCast, rdlDeed19 hlt, laws_toDeed19.f, Option.bind_some]
    rw [show ((xs.map convDeed19).take i ++ List.replicate (xs.length - i) z60).set i ⟨(xs[i]).f0, (xs[i]).f1, (xs[i]).f2, (xs[i]).f3⟩ = _ from hs]
    exact ih (i + 1) (by omega)
theorem toDeed19S_ev (xs : List S56) (hn : xs.length ≤ 7036874417766) : Ev (fun k => laws_toDeed19S.f k xs) (xs.map convDeed19) := by
  simp only [laws_toDeed19S.f, if_pos (show (0 : Int) ≤ (xs.length : Int) by omega), Int.toNat_natCast, if_pos hn]
  simpa using toDeed19S_l xs hn xs.length 0 (by omega)
theorem eqDeed19S_l (xs : List S60) (hn : xs.length ≤ 140737488355328) (d : Nat) : ∀ i : Nat, i + d = xs.length →
    Ev (fun k => laws_eqDeed19S.l0 k xs xs (i : Int)) true := by
  induction d with
  | zero =>
    intro i h
    refine ev_succ ?_
    simp only [laws_eqDeed19S.l0, if_neg (show ¬ ((i : Int) < (xs.length : Int)) by omega)]
    exact ev_now _
  | succ d ih =>
    intro i h
    refine ev_succ ?_
    simp only [laws_eqDeed19S.l0, if_pos (show ((i : Int) < (xs.length : Int)) by omega), if_pos (show (0 : Int) ≤ (i : Int) by omega), w64s i (by omega), laws_eqDeed19.f, Option.bind_some, if_true]
    exact ih (i + 1) (by omega)
theorem eqDeed19S_self (xs : List S60) (hn : xs.length ≤ 140737488355328) : Ev (fun k => laws_eqDeed19S.f k xs xs) true := by
  simp only [laws_eqDeed19S.f, if_true]
  simpa using eqDeed19S_l xs hn xs.length 0 (by omega)
theorem toFleet_ev (ts : List S77) (cs : List S80) (ds : List S83) (p q r : Int) (ht : ts.length ≤ 4398046511104) (hc : cs.length ≤ 8796093022208) (hd : ds.length ≤ 8796093022208) : Ev (fun k => laws_toFleet.f k ts cs ds p q r) (ts.map convTask, cs.map convCarry, ds.map convDefect, p, q, r) := by
  simp only [laws_toFleet.f, laws_toClock.f, Option.bind_some]
  refine (toTaskS_ev ts ht).bind ?_
  refine (toCarryS_ev cs hc).bind ?_
  exact (toDefectS_ev ds hd).bind (f := fun _ t => some (ts.map convTask, cs.map convCarry, t, p, q, r)) (ev_now _)
theorem eqFleet_self (ts : List Tk) (cs : List Cr) (ds : List Df) (p q r : Int) (ht : ts.length ≤ 140737488355328) (hc : cs.length ≤ 140737488355328) (hd : ds.length ≤ 140737488355328) : Ev (fun k => laws_eqFleet.f k ts cs ds p q r ts cs ds p q r) true := by
  simp only [laws_eqFleet.f, laws_eqClock.f, if_true, Option.bind_some]
  refine (eqTaskS_self ts ht).bind ?_
  simp only [if_true]
  refine (eqCarryS_self cs hc).bind ?_
  simp only [if_true]
  exact (eqDefectS_self ds hd).bind (f := fun _ t => if t = true then some true else some false) (ev_now _)
theorem szFleet_ev0 (ts : List S77) (cs : List S80) (ds : List S83) (p q r : Int) (ht : ts.length ≤ 140737488355328) (htx : ∀ x ∈ ts, wTask x ≤ 140737488355328) (hc : cs.length ≤ 140737488355328) (hcx : ∀ x ∈ cs, wCarry x ≤ 140737488355328) (hd : ds.length ≤ 140737488355328) (hdx : ∀ x ∈ ds, wDefect x ≤ 140737488355328) :
    ∃ v, Ev (fun k => laws_szFleet.f k ts cs ds p q r 1048576) v ∧ (v = -1 ∨ (0 ≤ v ∧ v ≤ 1048576)) := by
  simp only [laws_szFleet.f]
  obtain ⟨v1, h1, r1⟩ := szTaskS_ev ts 1048576 (by omega) (by omega) ht htx
  by_cases s1 : v1 < 0
  · refine ⟨-1, h1.bind ?_, .inl rfl⟩
    simp only [if_pos s1]
    exact ev_now _
  · obtain ⟨v2, h2, r2⟩ := szCarryS_ev cs v1 (by omega) (by omega) hc hcx
    by_cases s2 : v2 < 0
    · refine ⟨-1, h1.bind ?_, .inl rfl⟩
      simp only [if_neg s1]
      refine h2.bind ?_
      simp only [if_pos s2]
      exact ev_now _
    · obtain ⟨v3, h3, r3⟩ := szDefectS_ev ds v2 (by omega) (by omega) hd hdx
      by_cases s3 : v3 < 0
      · refine ⟨-1, h1.bind ?_, .inl rfl⟩
        simp only [if_neg s1]
        refine h2.bind ?_
        simp only [if_neg s2]
        refine h3.bind ?_
        simp only [if_pos s3]
        exact ev_now _
      · refine ⟨v3, h1.bind ?_, .inr (by omega)⟩
        simp only [if_neg s1]
        refine h2.bind ?_
        simp only [if_neg s2]
        refine h3.bind ?_
        simp only [if_neg s3]
        exact ev_now _
theorem markFleet_ev (ts : List Tk) (cs : List Cr) (ds : List Df) (p q r : Int) (ht : ts.length ≤ 4398046511104) (hc : cs.length ≤ 8796093022208) (hd : ds.length ≤ 8796093022208) : Ev (fun k => laws_markFleet.f k ts cs ds p q r 1) (1 + 7 * (ts.length : Int) + 3 * (cs.length : Int) + 3 * (ds.length : Int), tmarks 1 ts.length, cmarks (1 + 7 * (ts.length : Int)) cs.length, fmarks (1 + 7 * (ts.length : Int) + 3 * (cs.length : Int)) ds.length) := by
  simp only [laws_markFleet.f]
  refine (markTask_ev ts 1 (by omega) (by omega) (by omega)).bind ?_
  refine (markCarry_ev cs _ (by omega) (by omega) (by omega)).bind ?_
  refine (markDefect_ev ds _ (by omega) (by omega) (by omega)).bind ?_
  exact ev_now _
theorem heldFleet_ev (a b c : Nat) (p q r : Int) (ht : a ≤ 4398046511104) (hc : b ≤ 8796093022208) (hd : c ≤ 8796093022208) : Ev (fun k => laws_heldFleet.f k (tmarks 1 a) (cmarks (1 + 7 * (a : Int)) b) (fmarks (1 + 7 * (a : Int) + 3 * (b : Int)) c) p q r 1) (1 + 7 * (a : Int) + 3 * (b : Int) + 3 * (c : Int)) := by
  simp only [laws_heldFleet.f]
  refine (heldTask_ev a 1 (by omega) (by omega) (by omega)).bind ?_
  simp only [if_neg (show ¬ (1 + 7 * (a : Int)) < 0 by omega)]
  refine (heldCarry_ev b _ (by omega) (by omega) (by omega)).bind ?_
  simp only [if_neg (show ¬ (1 + 7 * (a : Int) + 3 * (b : Int)) < 0 by omega)]
  refine (heldDefect_ev c _ (by omega) (by omega) (by omega)).bind ?_
  simp only [if_neg (show ¬ (1 + 7 * (a : Int) + 3 * (b : Int) + 3 * (c : Int)) < 0 by omega)]
  exact ev_now _
/-! Rows of bools. -/
theorem eqBoolS_l (xs : List Bool) (hn : xs.length ≤ 140737488355328) (d : Nat) : ∀ i : Nat, i + d = xs.length → Ev (fun k => laws_eqBoolS.l0 k xs xs (i : Int)) true := by
  induction d with
  | zero =>
    intro i h
    refine ev_succ ?_
    simp only [laws_eqBoolS.l0, if_neg (show ¬ ((i : Int) < (xs.length : Int)) by omega)]
    exact ev_now _
  | succ d ih =>
    intro i h
    refine ev_succ ?_
    simp only [laws_eqBoolS.l0, if_pos (show ((i : Int) < (xs.length : Int)) by omega), if_pos (show (0 : Int) ≤ (i : Int) by omega), w64s i (by omega), bne_self_eq_false, Bool.false_eq_true, if_false]
    exact ih (i + 1) (by omega)
theorem eqBoolS_self (xs : List Bool) (hn : xs.length ≤ 140737488355328) : Ev (fun k => laws_eqBoolS.f k xs xs) true := by
  simp only [laws_eqBoolS.f, if_true]
  simpa using eqBoolS_l xs hn xs.length 0 (by omega)
def bmarks (k0 : Int) (n : Nat) : List Bool := (List.range n).map fun i : Nat => (Int.tmod (k0 + (i : Int)) 3 == 0)
theorem bmarks_length (k0 : Int) (n : Nat) : (bmarks k0 n).length = n := by simp [bmarks]
theorem bmarks_set {k0 : Int} {xs : List Bool} {i : Nat} (h : i < xs.length) : (bmarks k0 i ++ xs.drop i).set i (Int.tmod (k0 + (i : Int)) 3 == 0) = bmarks k0 (i + 1) ++ xs.drop (i + 1) := by
  rw [List.set_append, if_neg (by rw [bmarks_length]; omega), bmarks_length, Nat.sub_self, List.drop_eq_getElem_cons h, List.set_cons_zero]
  simp [bmarks, List.range_succ]
theorem markBool_l (xs : List Bool) (k0 : Int) (h0 : 0 < k0) (h1 : k0 ≤ 1125899906842624) (hn : xs.length ≤ 140737488355328) (d : Nat) : ∀ i : Nat, i + d = xs.length →
    Ev (fun k => laws_markBoolS.l0 k (bmarks k0 i ++ xs.drop i) (k0 + (i : Int)) (i : Int)) (k0 + (xs.length : Int), bmarks k0 xs.length) := by
  induction d with
  | zero =>
    intro i h
    obtain rfl : i = xs.length := by omega
    refine ev_succ ?_
    have hl : (bmarks k0 xs.length ++ xs.drop xs.length).length = xs.length := by rw [List.length_append, bmarks_length, List.length_drop]; omega
    simp only [laws_markBoolS.l0, hl, if_neg (show ¬ ((xs.length : Int) < (xs.length : Int)) by omega)]
    exact ev_some (by simp)
  | succ d ih =>
    intro i h
    have hi : i < xs.length := by omega
    have hl : (bmarks k0 i ++ xs.drop i).length = xs.length := by rw [List.length_append, bmarks_length, List.length_drop]; omega
    have hin := ih (i + 1) (by omega)
    refine ev_succ ?_
    simp only [laws_markBoolS.l0, hl, if_pos (show ((i : Int) < (xs.length : Int)) by omega), if_pos (show (0 : Int) ≤ (i : Int) by omega), w64s i (show i < 9223372036854775807 by omega), Int.toNat_natCast, w64 (n := k0 + (i : Int) + 1) (by omega) (by omega), bmarks_set hi]
    rw [show k0 + ((i + 1 : Nat) : Int) = k0 + (i : Int) + 1 by omega] at hin
    exact hin
theorem markBool_ev (xs : List Bool) (k0 : Int) (h0 : 0 < k0) (h1 : k0 ≤ 1125899906842624) (hn : xs.length ≤ 140737488355328) : Ev (fun k => laws_markBoolS.f k xs k0) (k0 + (xs.length : Int), bmarks k0 xs.length) := by
  have := markBool_l xs k0 h0 h1 hn xs.length 0 (by omega)
  simpa [laws_markBoolS.f, bmarks] using this
theorem heldBool_l (n : Nat) (k0 : Int) (h0 : 0 < k0) (h1 : k0 ≤ 1125899906842624) (hn : n ≤ 140737488355328) (d : Nat) : ∀ i : Nat, i + d = n →
    Ev (fun k => laws_heldBoolS.l0 k (bmarks k0 n) (k0 + (i : Int)) (i : Int)) (k0 + (n : Int)) := by
  induction d with
  | zero =>
    intro i h
    refine ev_succ ?_
    simp only [laws_heldBoolS.l0, bmarks_length, if_neg (show ¬ ((i : Int) < (n : Int)) by omega)]
    exact ev_some (by omega)
  | succ d ih =>
    intro i h
    have hr : rdOf false (bmarks k0 n) (i : Int) = (Int.tmod (k0 + (i : Int)) 3 == 0) := by
      simp [rdOf, bmarks, List.getD_eq_getElem?_getD, show i < n by omega]
    refine ev_succ ?_
    simp only [laws_heldBoolS.l0, bmarks_length, hr, if_pos (show ((i : Int) < (n : Int)) by omega), if_pos (show (0 : Int) ≤ (i : Int) by omega), w64s i (by omega), w64 (n := k0 + (i : Int) + 1) (by omega) (by omega), bne_self_eq_false, Bool.false_eq_true, if_false]
    have := ih (i + 1) (by omega)
    rw [show k0 + ((i + 1 : Nat) : Int) = k0 + (i : Int) + 1 by omega] at this
    exact this
theorem heldBool_ev (n : Nat) (k0 : Int) (h0 : 0 < k0) (h1 : k0 ≤ 1125899906842624) (hn : n ≤ 140737488355328) : Ev (fun k => laws_heldBoolS.f k (bmarks k0 n) k0) (k0 + (n : Int)) := by
  have := heldBool_l n k0 h0 h1 hn n 0 (by omega)
  simpa [laws_heldBoolS.f] using this
theorem runF_good : ∀ (l : List Dd) (ts : List Tk) (cs : List Cr) (ds : List Df) (p q r : Int) (told : List Bool), PFnExactRunWork.Good ts cs ds → (∀ x ∈ l, x.f1.size ≤ 140737488355328) → PFnExactRunWork.Good (runF l ts cs ds p q r told).1 (runF l ts cs ds p q r told).2.1 (runF l ts cs ds p q r told).2.2.1 ∧ (runF l ts cs ds p q r told).2.2.2.2.2.2.length = told.length + l.length
  | [], _, _, _, _, _, _, _, h, _ => ⟨h, rfl⟩
  | d :: l, ts, cs, ds, p, q, r, told, h, hs => by
    obtain ⟨hc, hG⟩ := workF_good (p := p) (q := q) (r := r) (d0 := d.f0) (d1 := d.f1) (d2 := d.f2) (d3 := d.f3) h (hs d List.mem_cons_self)
    rw [runF_cons]
    have hG2 : PFnExactRunWork.Good (workF ts cs ds p q r d.f0 d.f1 d.f2 d.f3).1 (workF ts cs ds p q r d.f0 d.f1 d.f2 d.f3).2.1 (workF ts cs ds p q r d.f0 d.f1 d.f2 d.f3).2.2.1 := by rw [hc]; exact hG
    have := runF_good l (workF ts cs ds p q r d.f0 d.f1 d.f2 d.f3).1 (workF ts cs ds p q r d.f0 d.f1 d.f2 d.f3).2.1 (workF ts cs ds p q r d.f0 d.f1 d.f2 d.f3).2.2.1 (workF ts cs ds p q r d.f0 d.f1 d.f2 d.f3).2.2.2.1 (workF ts cs ds p q r d.f0 d.f1 d.f2 d.f3).2.2.2.2.1 (workF ts cs ds p q r d.f0 d.f1 d.f2 d.f3).2.2.2.2.2.1 (told ++ [(workF ts cs ds p q r d.f0 d.f1 d.f2 d.f3).2.2.2.2.2.2]) hG2 (fun x hx => hs x (List.mem_cons_of_mem _ hx))
    refine ⟨this.1, ?_⟩
    rw [this.2, List.length_append, List.length_cons]
    simp
    omega
theorem runW_good {l : List Dd} {ts : List Tk} {cs : List Cr} {ds : List Df} {p q r : Int} (h : PFnExactRunWork.Good ts cs ds) (hs : ∀ x ∈ l, x.f1.size ≤ 140737488355328) : PFnExactRunWork.Good (runW ts cs ds p q r l).1 (runW ts cs ds p q r l).2.1 (runW ts cs ds p q r l).2.2.1 ∧ (runW ts cs ds p q r l).2.2.2.2.2.2.length ≤ 100 := by
  unfold runW
  split
  · exact ⟨h, Nat.zero_le _⟩
  · rename_i hn
    have := runF_good l ts cs ds p q r [] h hs
    refine ⟨this.1, ?_⟩
    rw [this.2]
    simp
    omega
theorem FnExactRunWork (l0_0 : List (S77)) (l0_1 : List (S80)) (l0_2 : List (S83)) (a0_3 : Int) (a0_4 : Int) (a0_5 : Int) (l1 : List (S56)) (g0 : ((l0_0.length * 64 ≤ 140737488351232 ∧ ∀ x ∈ l0_0, (x.f0.size ≤ 140737488351232 ∧ (Lit.int .i64 x.f1).wf = true ∧ (Lit.int .i64 x.f2).wf = true ∧ (Lit.int .i64 x.f3).wf = true ∧ (Lit.int .i64 x.f4.f0).wf = true ∧ (Lit.int .i64 x.f4.f1).wf = true ∧ (Lit.int .i64 x.f4.f2).wf = true)) ∧ (l0_1.length * 32 ≤ 140737488351232 ∧ ∀ x ∈ l0_1, (x.f0.size ≤ 140737488351232 ∧ (Lit.int .i64 x.f1).wf = true ∧ (Lit.int .i64 x.f2).wf = true)) ∧ (l0_2.length * 32 ≤ 140737488351232 ∧ ∀ x ∈ l0_2, (x.f0.size ≤ 140737488351232 ∧ (Lit.int .i64 x.f1).wf = true ∧ (Lit.int .i64 x.f2).wf = true)) ∧ ((Lit.int .i64 a0_3).wf = true ∧ (Lit.int .i64 a0_4).wf = true ∧ (Lit.int .i64 a0_5).wf = true))) (g1 : (l1.length * 40 ≤ 140737488351232 ∧ ∀ x ∈ l1, ((Lit.int .i64 x.f0).wf = true ∧ x.f1.size ≤ 140737488351232 ∧ (Lit.int .i64 x.f2).wf = true ∧ (Lit.int .i64 x.f3).wf = true))) : ∃ k, laws_FnExactRunWork.f k l0_0 l0_1 l0_2 a0_3 a0_4 a0_5 l1 = some true := by
  obtain ⟨⟨ht0, ht1⟩, ⟨hc0, hc1⟩, ⟨hd0, hd1⟩, hq⟩ := g0
  obtain ⟨hx0, hx1⟩ := g1
  have ht : l0_0.length ≤ 4398046511104 := by omega
  have hc : l0_1.length ≤ 8796093022208 := by omega
  have hd : l0_2.length ≤ 8796093022208 := by omega
  have htx : ∀ x ∈ l0_0, wTask x ≤ 140737488355328 := fun x hx => by have := (ht1 x hx).1; unfold wTask; omega
  have hcx : ∀ x ∈ l0_1, wCarry x ≤ 140737488355328 := fun x hx => by have := (hc1 x hx).1; unfold wCarry; omega
  have hdx : ∀ x ∈ l0_2, wDefect x ≤ 140737488355328 := fun x hx => by have := (hd1 x hx).1; unfold wDefect; omega
  have hex : ∀ x ∈ l1, wDeed19 x ≤ 140737488355328 := fun x hx => by have := (hx1 x hx).2.1; unfold wDeed19; omega
  have mt : ∀ x ∈ l0_0.map convTask, x.f0.size ≤ 140737488355328 := by
    intro x h
    obtain ⟨y, hy, rfl⟩ := List.mem_map.1 h
    exact htx y hy
  have mc : ∀ x ∈ l0_1.map convCarry, x.f0.size ≤ 140737488355328 := by
    intro x h
    obtain ⟨y, hy, rfl⟩ := List.mem_map.1 h
    exact hcx y hy
  have md : ∀ x ∈ l0_2.map convDefect, x.f0.size ≤ 140737488355328 := by
    intro x h
    obtain ⟨y, hy, rfl⟩ := List.mem_map.1 h
    exact hdx y hy
  have hs : ∀ x ∈ l1.map convDeed19, x.f1.size ≤ 140737488355328 := by
    intro x h
    obtain ⟨y, hy, rfl⟩ := List.mem_map.1 h
    exact hex y hy
  have lt : (l0_0.map convTask).length ≤ 140737488355328 := by rw [List.length_map]; omega
  have lc : (l0_1.map convCarry).length ≤ 140737488355328 := by rw [List.length_map]; omega
  have ld : (l0_2.map convDefect).length ≤ 140737488355328 := by rw [List.length_map]; omega
  have lx : (l1.map convDeed19).length ≤ 7036874417766 := by rw [List.length_map]; omega
  have hz : fleetSzB (l0_0.map convTask) (l0_1.map convCarry) (l0_2.map convDefect) = true := fleetSz_of.2 ⟨mt, mc, md, lt, lc, ld⟩
  have hg : PFnExactRunWork.Good (l0_0.map convTask) (l0_1.map convCarry) (l0_2.map convDefect) := ⟨hz, copy_iff.2 ⟨by rw [List.length_map]; omega, by rw [List.length_map]; omega, by rw [List.length_map]; omega⟩⟩
  have hw := runW_good (p := a0_3) (q := a0_4) (r := a0_5) hg hs
  obtain ⟨⟨t, c, d, p2, q2, r2, told⟩, hO⟩ : ∃ o, runW (l0_0.map convTask) (l0_1.map convCarry) (l0_2.map convDefect) a0_3 a0_4 a0_5 (l1.map convDeed19) = o := ⟨_, rfl⟩
  rw [hO] at hw
  obtain ⟨hwg, htl⟩ := hw
  dsimp only at hwg htl
  have y := copy_iff.1 hwg.2
  have y0 := copy_iff.1 hg.2
  obtain ⟨z1, hv⟩ := szFleet_ev0 l0_0 l0_1 l0_2 a0_3 a0_4 a0_5 (by omega) htx (by omega) hcx (by omega) hdx
  obtain ⟨hv, hz1⟩ := hv
  obtain ⟨k1, e1⟩ := hv.rounds
  obtain ⟨z2, k2, e2⟩ : ∃ z2 k2, laws_szDeed19S.f k2 l1 z1 = some z2 := by
    rcases hz1 with h | h
    · refine ⟨-1, 0, ?_⟩
      unfold laws_szDeed19S.f
      rw [h, w64 (by omega) (by omega), if_pos (by omega)]
    · obtain ⟨v, hv, _⟩ := szDeed19S_ev l1 z1 h.1 h.2 (by omega) hex
      obtain ⟨k, e⟩ := hv.rounds
      exact ⟨v, k, e⟩
  obtain ⟨k3, e3⟩ := (toFleet_ev l0_0 l0_1 l0_2 a0_3 a0_4 a0_5 ht hc hd).rounds
  obtain ⟨k4, e4⟩ := (toDeed19S_ev l1 (by omega)).rounds
  obtain ⟨k5, e5⟩ := (eqFleet_self t c d p2 q2 r2 (by omega) (by omega) (by omega)).rounds
  obtain ⟨k6, e6⟩ := (eqFleet_self _ _ _ a0_3 a0_4 a0_5 lt lc ld).rounds
  obtain ⟨k7, e7⟩ := (eqBoolS_self told (by omega)).rounds
  obtain ⟨k8, e8⟩ := (eqDeed19S_self (l1.map convDeed19) (by omega)).rounds
  obtain ⟨k9, e9⟩ := (markFleet_ev (l0_0.map convTask) (l0_1.map convCarry) (l0_2.map convDefect) a0_3 a0_4 a0_5 (by omega) (by omega) (by omega)).rounds
  obtain ⟨k10, e10⟩ := (markDeed19_ev (l1.map convDeed19) (1 + 7 * ((l0_0.map convTask).length : Int) + 3 * ((l0_1.map convCarry).length : Int) + 3 * ((l0_2.map convDefect).length : Int)) (by omega) (by omega) (by omega)).rounds
  obtain ⟨k11, e11⟩ := (markFleet_ev t c d p2 q2 r2 (by omega) (by omega) (by omega)).rounds
  obtain ⟨k12, e12⟩ := (markBool_ev told (1 + 7 * (t.length : Int) + 3 * (c.length : Int) + 3 * (d.length : Int)) (by omega) (by omega) (by omega)).rounds
  obtain ⟨k13, e13⟩ := (heldFleet_ev t.length c.length d.length p2 q2 r2 (by omega) (by omega) (by omega)).rounds
  obtain ⟨k14, e14⟩ := (heldBool_ev told.length (1 + 7 * (t.length : Int) + 3 * (c.length : Int) + 3 * (d.length : Int)) (by omega) (by omega) (by omega)).rounds
  refine ⟨0, ?_⟩
  unfold laws_FnExactRunWork.f
  exact if_pos ⟨k1, k2, k3, k4, k5, k6, k7, k8, k9, k10, k11, k12, k13, k14, _, _, _, _, t, c, d, p2, q2, r2, told, z1, z2, _, _, _, _, _, _, _, _, _, _, _, _, e1, e2, e3, e4, hg, hs, by omega, hO, e5, e6, e7, e8, e9, e10, e11, e12, e13, e14, by omega, by omega, by omega⟩
end Go.Proofs.YtdimdlifjdbgnaaGreat.Pure
