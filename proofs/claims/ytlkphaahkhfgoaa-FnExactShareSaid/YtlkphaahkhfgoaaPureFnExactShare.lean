/- The program's Share answers as the reference's at every argument. No condition. -/
import Derived.Test.YtlkphaahkhfgoaaPFnExactSharex6
import Derived.Test.YtlkphaahkhfgoaaBase
set_option linter.unusedVariables false
set_option linter.unusedSimpArgs false
namespace Go.Proofs.Ytlkphaahkhfgoaa.Pure
open Go.RowKit Go.Proofs.Ytlkphaahkhfgoaa.PFnExactShare Go.Proofs.Ytlkphaahkhfgoaa.Base Go.Proofs.YtlkphaahkhfgoaaW.PrintWords Go.Proofs.YtlkphaahkhfgoaaW.PrintLast
theorem impl_in_eq (a b c : Int) : impl_in.f a b c = some (inB a b c) := in_form a b c
theorem spec_in_eq (a b c : Int) : spec_l1In.f a b c = some (inB a b c) := in_form a b c
theorem szWindowS_eq (xs : List S85) (left : Int) (h0 : 0 ≤ left) (h1 : left ≤ 1048576) (hn : xs.length ≤ 140737488355328) : laws_szWindowS.f xs left = some (if left - (xs.length : Int) < 0 then -1 else left - (xs.length : Int)) := by
  unfold laws_szWindowS.f
  rw [w64 (by omega) (by omega)]
  split <;> rfl
/-! The helpers over Windows. -/
def convWindow (x : S85) : S62 := ⟨x.f0, x.f1, x.f2⟩
theorem rdlWindow {xs : List S85} {i : Nat} (h : i < xs.length) : rd_T85 xs (i : Int) = xs[i] := by
  simp [rd_T85, List.getD_eq_getElem?_getD, h]
theorem rdiWindow {xs : List S62} {i : Nat} (h : i < xs.length) : rd_T62 xs (i : Int) = xs[i] := by
  simp [rd_T62, List.getD_eq_getElem?_getD, h]
theorem dropWindow {xs : List S62} {i : Nat} (h : i < xs.length) : xs.drop i = rd_T62 xs (i : Int) :: xs.drop (i + 1) := by
  rw [List.drop_eq_getElem_cons h, rdiWindow h]
theorem toWindowS_l (xs : List S85) (hn : xs.length ≤ 11728124029610) (d : Nat) : ∀ i : Nat, i + d = xs.length →
    Ev (fun k => laws_toWindowS.l0 k xs ((xs.map convWindow).take i ++ List.replicate (xs.length - i) z62) (i : Int)) (xs.map convWindow) := by
  induction d with
  | zero =>
    intro i h
    refine ev_succ ?_
    simp only [laws_toWindowS.l0, if_neg (show ¬ ((i : Int) < (xs.length : Int)) by omega)]
    exact ev_some (by rw [List.take_of_length_le (by simp; omega), show xs.length - i = 0 by omega]; simp)
  | succ d ih =>
    intro i h
    refine ev_succ ?_
    have hlt : i < xs.length := by omega
    have hl : (((xs.map convWindow).take i ++ List.replicate (xs.length - i) z62).length : Int) = (xs.length : Int) := by simp; omega
    have hs := take_setG (xs := xs) (c := convWindow) hlt z62
    simp only [laws_toWindowS.l0, if_pos (show ((i : Int) < (xs.length : Int)) by omega), if_pos (show (0 : Int) ≤ (i : Int) by omega), hl, w64s i (by omega), Int.toNat_natCast, rdlWindow hlt, laws_toWindow.f, Option.bind_some]
    rw [show ((xs.map convWindow).take i ++ List.replicate (xs.length - i) z62).set i ⟨(xs[i]).f0, (xs[i]).f1, (xs[i]).f2⟩ = _ from hs]
    exact ih (i + 1) (by omega)
theorem toWindowS_ev (xs : List S85) (hn : xs.length ≤ 11728124029610) : Ev (fun k => laws_toWindowS.f k xs) (xs.map convWindow) := by
  simp only [laws_toWindowS.f, if_pos (show (0 : Int) ≤ (xs.length : Int) by omega), Int.toNat_natCast, if_pos hn]
  simpa using toWindowS_l xs hn xs.length 0 (by omega)
theorem eqWindowS_l (xs : List S62) (hn : xs.length ≤ 140737488355328) (d : Nat) : ∀ i : Nat, i + d = xs.length →
    Ev (fun k => laws_eqWindowS.l0 k xs xs (i : Int)) true := by
  induction d with
  | zero =>
    intro i h
    refine ev_succ ?_
    simp only [laws_eqWindowS.l0, if_neg (show ¬ ((i : Int) < (xs.length : Int)) by omega)]
    exact ev_now _
  | succ d ih =>
    intro i h
    refine ev_succ ?_
    simp only [laws_eqWindowS.l0, if_pos (show ((i : Int) < (xs.length : Int)) by omega), if_pos (show (0 : Int) ≤ (i : Int) by omega), w64s i (by omega), laws_eqWindow.f, Option.bind_some, if_true]
    exact ih (i + 1) (by omega)
theorem eqWindowS_self (xs : List S62) (hn : xs.length ≤ 140737488355328) : Ev (fun k => laws_eqWindowS.f k xs xs) true := by
  simp only [laws_eqWindowS.f, if_true]
  simpa using eqWindowS_l xs hn xs.length 0 (by omega)
/-! A plan of windows. -/
abbrev Wn := S62
abbrev wnAt (xs : List Wn) (i : Int) : Wn := rd_T62 xs i
def planFrom (fr pa : Int) (xs : List Wn) : Nat → Nat → Int → Bool
  | 0, _, _ => true
  | d + 1, i, e => inB (wnAt xs i).f0 0 (pa - 1) && (inB (wnAt xs i).f2 1 10000 && (inB (wnAt xs i).f1 e (fr - (wnAt xs i).f2) && planFrom fr pa xs d (i + 1) ((wnAt xs i).f1 + (wnAt xs i).f2)))
def planB (fr pa : Int) (xs : List Wn) : Bool := inB fr 1 100000 && (inB pa 1 10 && (decide ((xs.length : Int) ≤ 40) && planFrom fr pa xs xs.length 0 0))
theorem planFrom_at {fr pa : Int} {xs : List Wn} (d : Nat) : ∀ (i : Nat) (e : Int), 0 ≤ e → planFrom fr pa xs d i e = true → ∀ j : Nat, i ≤ j → j < i + d → (0 ≤ (wnAt xs j).f0 ∧ (wnAt xs j).f0 ≤ pa - 1) ∧ (0 ≤ (wnAt xs j).f1 ∧ (wnAt xs j).f1 + (wnAt xs j).f2 ≤ fr) ∧ (1 ≤ (wnAt xs j).f2 ∧ (wnAt xs j).f2 ≤ 10000) := by
  induction d with
  | zero => intro i e _ _ j h1 h2; omega
  | succ d ih =>
    intro i e he h j h1 h2
    simp only [planFrom, Bool.and_eq_true, inB_iff] at h
    rcases Nat.eq_or_lt_of_le h1 with rfl | h1
    · omega
    · exact ih (i + 1) _ (by omega) h.2.2.2 j h1 (by omega)
theorem planB_at {fr pa : Int} {xs : List Wn} (h : planB fr pa xs = true) : (1 ≤ fr ∧ fr ≤ 100000) ∧ (1 ≤ pa ∧ pa ≤ 10) ∧ xs.length ≤ 40 ∧ ∀ j : Nat, j < xs.length → (0 ≤ (wnAt xs j).f0 ∧ (wnAt xs j).f0 ≤ pa - 1) ∧ (0 ≤ (wnAt xs j).f1 ∧ (wnAt xs j).f1 + (wnAt xs j).f2 ≤ fr) ∧ (1 ≤ (wnAt xs j).f2 ∧ (wnAt xs j).f2 ≤ 10000) := by
  simp only [planB, Bool.and_eq_true, inB_iff, decide_eq_true_eq] at h
  exact ⟨h.1, h.2.1, by omega, fun j hj => planFrom_at xs.length 0 0 (by omega) h.2.2.2 j (by omega) (by omega)⟩
theorem spec_PlanOk_l (fr pa : Int) (xs : List Wn) (hf : 1 ≤ fr ∧ fr ≤ 100000) (hp : 1 ≤ pa ∧ pa ≤ 10) (hn : xs.length ≤ 140737488355328) (d : Nat) : ∀ (i : Nat) (e : Int), 0 ≤ e → e ≤ fr → i + d = xs.length → Ev (fun k => spec_PlanOk.l0 k e (i : Int) fr pa xs) (planFrom fr pa xs d i e) := by
  induction d with
  | zero =>
    intro i e h0 h1 h
    refine ev_succ ?_
    simp only [spec_PlanOk.l0, if_neg (show ¬ ((i : Int) < (xs.length : Int)) by omega)]
    exact ev_now _
  | succ d ih =>
    intro i e h0 h1 h
    refine ev_succ ?_
    simp only [spec_PlanOk.l0, if_pos (show ((i : Int) < (xs.length : Int)) by omega), if_pos (show (0 : Int) ≤ (i : Int) by omega), spec_in_eq, Option.bind_some, w64 (n := pa - 1) (by omega) (by omega)]
    unfold planFrom
    show Ev _ (inB (rd_T62 xs (i : Int)).f0 0 (pa - 1) && (inB (rd_T62 xs (i : Int)).f2 1 10000 && (inB (rd_T62 xs (i : Int)).f1 e (fr - (rd_T62 xs (i : Int)).f2) && planFrom fr pa xs d (i + 1) ((rd_T62 xs (i : Int)).f1 + (rd_T62 xs (i : Int)).f2))))
    generalize rd_T62 xs (i : Int) = x
    cases x1 : inB x.f0 0 (pa - 1) with
    | false => simpa using ev_now false
    | true =>
      cases x2 : inB x.f2 1 10000 with
      | false => simpa using ev_now false
      | true =>
        rw [inB_iff] at x2
        simp only [if_true, Bool.true_and]
        cases x3 : inB x.f1 e fr with
        | false =>
          have : inB x.f1 e (fr - x.f2) = false := by rw [Bool.eq_false_iff, ne_eq, inB_iff] at x3 ⊢; omega
          rw [this]
          simpa using ev_now false
        | true =>
          rw [inB_iff] at x3
          simp only [if_true, w64 (n := x.f1 + x.f2) (by omega) (by omega)]
          by_cases x4 : x.f1 + x.f2 > fr
          · have : inB x.f1 e (fr - x.f2) = false := by rw [Bool.eq_false_iff, ne_eq, inB_iff]; omega
            rw [this]
            simpa only [if_pos x4, Bool.false_and] using ev_now false
          · have : inB x.f1 e (fr - x.f2) = true := by rw [inB_iff]; omega
            rw [this]
            simp only [if_neg x4, Bool.true_and, w64s i (by omega)]
            exact ih (i + 1) _ (by omega) (by omega) (by omega)
theorem spec_PlanOk_ev (fr pa : Int) (xs : List Wn) (hn : xs.length ≤ 140737488355328) : Ev (fun k => spec_PlanOk.f k fr pa xs) (planB fr pa xs) := by
  simp only [spec_PlanOk.f, spec_in_eq, Option.bind_some]
  have ht : Ev (fun k => spec_PlanOk.j0 k true fr pa xs) false := by
    refine ev_succ ?_
    simpa only [spec_PlanOk.j0, if_true] using ev_now _
  unfold planB
  cases x1 : inB fr 1 100000 with
  | false => simpa using ht
  | true =>
    cases x2 : inB pa 1 10 with
    | false => simpa using ht
    | true =>
      rw [inB_iff] at x1 x2
      simp only [if_true, Bool.true_and]
      by_cases x3 : (xs.length : Int) > 40
      · simpa only [x3, decide_true, show ¬ (xs.length : Int) ≤ 40 by omega, decide_false, Bool.false_and] using ht
      · simp only [x3, decide_false, show (xs.length : Int) ≤ 40 by omega, decide_true, Bool.true_and]
        refine ev_succ ?_
        simp only [spec_PlanOk.j0, Bool.false_eq_true, if_false]
        exact spec_PlanOk_l fr pa xs x1 x2 hn xs.length 0 0 (by omega) (by omega) (by omega)
theorem impl_PlanOk_l (fr pa : Int) (xs : List Wn) (hn : xs.length ≤ 140737488355328) (d : Nat) : ∀ (i : Nat) (e : Int), i + d = xs.length → ∃ v, Ev (fun k => impl_PlanOk.l0 k e xs (xs.length : Int) (i : Int) fr pa xs) v ∧ (v = true → (inB fr 1 100000 = true ∧ inB pa 1 10 = true)) ∧ (inB fr 1 100000 = true → inB pa 1 10 = true → 0 ≤ e → e ≤ fr → v = (decide ((xs.length : Int) ≤ 40) && planFrom fr pa xs d i e)) := by
  induction d with
  | zero =>
    intro i e h
    refine ⟨inB fr 1 100000 && (inB pa 1 10 && decide ((xs.length : Int) ≤ 40)), ev_succ ?_, ?_, ?_⟩
    · simp only [impl_PlanOk.l0, if_neg (show ¬ ((i : Int) < (xs.length : Int)) by omega), impl_in_eq, Option.bind_some]
      cases inB fr 1 100000 <;> cases inB pa 1 10 <;> simpa using ev_now _
    · intro hv
      simp only [Bool.and_eq_true] at hv
      exact ⟨hv.1, hv.2.1⟩
    · intro h1 h2 _ _
      simp [h1, h2, planFrom]
  | succ d ih =>
    intro i e h
    by_cases hgood : inB fr 1 100000 = true ∧ inB pa 1 10 = true ∧ 0 ≤ e ∧ e ≤ fr
    · obtain ⟨g1, g2, g3, g4⟩ := hgood
      have g1' := inB_iff.1 g1
      have g2' := inB_iff.1 g2
      have hun : (fun k => impl_PlanOk.l0 (k + 1) e xs (xs.length : Int) (i : Int) fr pa xs) = fun k => if inB (wnAt xs i).f0 0 (pa - 1) = true then (if inB (wnAt xs i).f2 1 10000 = true then (if (wnAt xs i).f1 < e then some false else (if (wnAt xs i).f1 > wrap64 (fr - (wnAt xs i).f2) then some false else impl_PlanOk.l0 k (wrap64 ((wnAt xs i).f1 + (wnAt xs i).f2)) xs (xs.length : Int) ((i + 1 : Nat) : Int) fr pa xs)) else some false) else some false := by
        funext k
        simp only [impl_PlanOk.l0, if_pos (show ((i : Int) < (xs.length : Int)) by omega), if_pos (show (0 : Int) ≤ (i : Int) by omega), impl_in_eq, Option.bind_some, w64s i (by omega), w64 (n := pa - 1) (by omega) (by omega)]
      have hpf : planFrom fr pa xs (d + 1) i e = (inB (wnAt xs i).f0 0 (pa - 1) && (inB (wnAt xs i).f2 1 10000 && (inB (wnAt xs i).f1 e (fr - (wnAt xs i).f2) && planFrom fr pa xs d (i + 1) ((wnAt xs i).f1 + (wnAt xs i).f2)))) := rfl
      rw [hpf]
      have hgo : ∀ v, Ev (fun k => impl_PlanOk.l0 (k + 1) e xs (xs.length : Int) (i : Int) fr pa xs) v → Ev (fun k => impl_PlanOk.l0 k e xs (xs.length : Int) (i : Int) fr pa xs) v := fun v hv => ev_succ hv
      rw [hun] at hgo
      generalize wnAt xs i = x at hgo ⊢
      cases x1 : inB x.f0 0 (pa - 1) with
      | false => exact ⟨false, hgo _ (by simpa [x1] using ev_now false), by simp, by simp⟩
      | true =>
        cases x2 : inB x.f2 1 10000 with
        | false => exact ⟨false, hgo _ (by simpa [x1, x2] using ev_now false), by simp, by simp⟩
        | true =>
          have x2' := inB_iff.1 x2
          have w1 : wrap64 (fr - x.f2) = fr - x.f2 := w64 (by omega) (by omega)
          cases x3 : inB x.f1 e (fr - x.f2) with
          | false =>
            refine ⟨false, hgo _ ?_, by simp, by simp⟩
            rw [Bool.eq_false_iff, ne_eq, inB_iff] at x3
            simp only [x1, x2, if_true, w1]
            by_cases x4 : x.f1 < e
            · simpa only [if_pos x4] using ev_now false
            · simpa only [if_neg x4, if_pos (show x.f1 > fr - x.f2 by omega)] using ev_now false
          | true =>
            rw [inB_iff] at x3
            have w2 : wrap64 (x.f1 + x.f2) = x.f1 + x.f2 := w64 (by omega) (by omega)
            obtain ⟨v, hv, hr1, hr2⟩ := ih (i + 1) (x.f1 + x.f2) (by omega)
            refine ⟨v, hgo _ ?_, hr1, ?_⟩
            · simpa only [x1, x2, if_true, w1, w2, if_neg (show ¬ x.f1 < e by omega), if_neg (show ¬ x.f1 > fr - x.f2 by omega)] using hv
            · intro _ _ _ _
              rw [hr2 g1 g2 (by omega) (by omega)]
              simp
    · have hbad : ∀ v, Ev (fun k => impl_PlanOk.l0 k e xs (xs.length : Int) (i : Int) fr pa xs) v ∧ (v = true → (inB fr 1 100000 = true ∧ inB pa 1 10 = true)) → ∃ v, Ev (fun k => impl_PlanOk.l0 k e xs (xs.length : Int) (i : Int) fr pa xs) v ∧ (v = true → (inB fr 1 100000 = true ∧ inB pa 1 10 = true)) ∧ (inB fr 1 100000 = true → inB pa 1 10 = true → 0 ≤ e → e ≤ fr → v = (decide ((xs.length : Int) ≤ 40) && planFrom fr pa xs (d + 1) i e)) :=
        fun v h => ⟨v, h.1, h.2, fun a b c f => absurd ⟨a, b, c, f⟩ hgood⟩
      have hex : ∃ v, Ev (fun k => impl_PlanOk.l0 k e xs (xs.length : Int) (i : Int) fr pa xs) v ∧ (v = true → (inB fr 1 100000 = true ∧ inB pa 1 10 = true)) := by
        have hgo : ∀ v, Ev (fun k => impl_PlanOk.l0 (k + 1) e xs (xs.length : Int) (i : Int) fr pa xs) v → Ev (fun k => impl_PlanOk.l0 k e xs (xs.length : Int) (i : Int) fr pa xs) v := fun v hv => ev_succ hv
        simp only [impl_PlanOk.l0, if_pos (show ((i : Int) < (xs.length : Int)) by omega), if_pos (show (0 : Int) ≤ (i : Int) by omega), impl_in_eq, Option.bind_some, w64s i (by omega)] at hgo
        cases x1 : inB (rd_T62 xs i).f0 0 (wrap64 (pa - 1)) with
        | false => exact ⟨false, hgo _ (by simpa [x1] using ev_now false), by simp⟩
        | true =>
          cases x2 : inB (rd_T62 xs i).f2 1 10000 with
          | false => exact ⟨false, hgo _ (by simpa [x1, x2] using ev_now false), by simp⟩
          | true =>
            by_cases x3 : (rd_T62 xs i).f1 < e
            · exact ⟨false, hgo _ (by simpa only [x1, x2, if_true, if_pos x3] using ev_now false), by simp⟩
            · by_cases x4 : (rd_T62 xs i).f1 > wrap64 (fr - (rd_T62 xs i).f2)
              · exact ⟨false, hgo _ (by simpa only [x1, x2, if_true, if_neg x3, if_pos x4] using ev_now false), by simp⟩
              · obtain ⟨v, hv, hr1, _⟩ := ih (i + 1) (wrap64 ((rd_T62 xs i).f1 + (rd_T62 xs i).f2)) (by omega)
                exact ⟨v, hgo _ (by simpa only [x1, x2, if_true, if_neg x3, if_neg x4] using hv), hr1⟩
      obtain ⟨v, hv⟩ := hex
      exact hbad v hv
theorem impl_PlanOk_ev (fr pa : Int) (xs : List Wn) (hn : xs.length ≤ 140737488355328) : Ev (fun k => impl_PlanOk.f k fr pa xs) (planB fr pa xs) := by
  obtain ⟨v, hv, h1, h2⟩ := impl_PlanOk_l fr pa xs hn xs.length 0 0 (by omega)
  have e : v = planB fr pa xs := by
    unfold planB
    cases x1 : inB fr 1 100000 with
    | false => cases v with
      | false => rfl
      | true => have := h1 rfl; simp [x1] at this
    | true =>
      cases x2 : inB pa 1 10 with
      | false => cases v with
        | false => rfl
        | true => have := h1 rfl; simp [x2] at this
      | true => have x1' := inB_iff.1 x1; rw [h2 x1 x2 (by omega) (by omega)]; simp
  rw [← e]
  exact hv
theorem toPlan17_ev (fr pa : Int) (xs : List S85) (hn : xs.length ≤ 11728124029610) : Ev (fun k => laws_toPlan17.f k fr pa xs) (fr, pa, xs.map convWindow) := by
  simp only [laws_toPlan17.f]
  exact (toWindowS_ev xs hn).bind (f := fun _ t => some (fr, pa, t)) (ev_now _)
theorem eqPlan17_self (fr pa : Int) (xs : List Wn) (hn : xs.length ≤ 140737488355328) : Ev (fun k => laws_eqPlan17.f k fr pa xs fr pa xs) true := by
  simp only [laws_eqPlan17.f, if_true]
  exact (eqWindowS_self xs hn).bind (f := fun _ t => if t = true then some true else some false) (ev_now _)
theorem szPlan17_eq (fr pa : Int) (xs : List S85) (hn : xs.length ≤ 140737488355328) : laws_szPlan17.f fr pa xs 1048576 = some (if (1048576 : Int) - (xs.length : Int) < 0 then -1 else (1048576 : Int) - (xs.length : Int)) := by
  simp only [laws_szPlan17.f, szWindowS_eq xs 1048576 (by omega) (by omega) hn, Option.bind_some]
  by_cases h : (1048576 : Int) - (xs.length : Int) < 0
  · simp only [if_pos h, if_pos (show (-1 : Int) < 0 by omega)]
  · simp only [if_neg h]
/-! Share: what a partition has, and its greatest gap. -/
theorem spec_l1Max_eq (a b : Int) : spec_l1Max.f a b = some (mx a b) := by
  unfold spec_l1Max.f mx
  by_cases h : a > b
  · rw [if_pos h, if_neg (by omega)]
  · rw [if_neg h]
    by_cases e : a < b
    · rw [if_pos e]
    · rw [if_neg e, show a = b by omega]
def sum17 (xs : List Wn) : Int := (xs.map fun x => x.f2).sum
def gapI : Int → Int → List Wn → Int
  | _, g, [] => g
  | e, g, x :: xs => gapI (x.f1 + x.f2) (mx g (x.f1 - e)) xs
def gapS (first fr : Int) : Int → List Wn → Int
  | g, [] => g
  | g, [x] => mx g (first + fr - x.f1 - x.f2)
  | g, x :: y :: r => gapS first fr (mx g (y.f1 - x.f1 - x.f2)) (y :: r)
def last17 : Wn → List Wn → Wn
  | x, [] => x
  | _, y :: r => last17 y r
theorem mx_mx (a b c : Int) : mx (mx a b) c = mx (mx a c) b := by
  unfold mx; omega
theorem gapI_mx (xs : List Wn) : ∀ e g h, gapI e (mx g h) xs = mx (gapI e g xs) h := by
  induction xs with
  | nil => intro e g h; rfl
  | cons x xs ih => intro e g h; simp only [gapI]; rw [mx_mx, ih]
theorem gapS_gapI (first fr : Int) (xs : List Wn) : ∀ g x, gapS first fr g (x :: xs) = mx (gapI (x.f1 + x.f2) g xs) (first + fr - (last17 x xs).f1 - (last17 x xs).f2) := by
  induction xs with
  | nil => intro g x; rfl
  | cons y xs ih =>
    intro g x
    simp only [gapS, gapI, last17]
    rw [ih, show y.f1 - (x.f1 + x.f2) = y.f1 - x.f1 - x.f2 by omega]
theorem gap17_same (fr : Int) (x : Wn) (xs : List Wn) : gapI ((last17 x xs).f1 + (last17 x xs).f2 - fr) 0 (x :: xs) = gapS x.f1 fr 0 (x :: xs) := by
  rw [gapS_gapI]
  simp only [gapI]
  rw [gapI_mx, show x.f1 - ((last17 x xs).f1 + (last17 x xs).f2 - fr) = x.f1 + fr - (last17 x xs).f1 - (last17 x xs).f2 by omega]
theorem last17_at (xs : List Wn) : ∀ x, wnAt (x :: xs) (((x :: xs).length - 1 : Nat) : Int) = last17 x xs := by
  induction xs with
  | nil => intro x; rfl
  | cons y xs ih =>
    intro x
    rw [last17, ← ih y]
    simp [wnAt, rd_T62]
theorem wnAt_get {xs : List Wn} {i : Nat} (h : i < xs.length) : wnAt xs (i : Int) = xs[i] := by simp [wnAt, rd_T62, List.getD_eq_getElem?_getD, h]
theorem wn_drop {xs : List Wn} {i : Nat} (h : i < xs.length) : xs.drop i = wnAt xs (i : Int) :: xs.drop (i + 1) := by rw [List.drop_eq_getElem_cons h, wnAt_get h]
/-- What windows of a plan are like. -/
def Fit17 (fr : Int) (x : Wn) : Prop := 0 ≤ x.f1 ∧ x.f1 + x.f2 ≤ fr ∧ 1 ≤ x.f2 ∧ x.f2 ≤ 10000
theorem sum17_le {fr : Int} (xs : List Wn) (h : ∀ x ∈ xs, Fit17 fr x) : 0 ≤ sum17 xs ∧ sum17 xs ≤ 10000 * xs.length := by
  induction xs with
  | nil => simp [sum17]
  | cons x xs ih =>
    have h1 := ih (fun y hy => h y (by simp [hy]))
    have h2 := h x (by simp)
    simp only [sum17, List.map_cons, List.sum_cons, List.length_cons, Fit17] at h1 h2 ⊢
    omega
theorem sum17_snoc (xs : List Wn) (x : Wn) : sum17 (xs ++ [x]) = sum17 xs + x.f2 := by simp [sum17]
def mine17 (p : Int) (xs : List Wn) : List Wn := xs.filter fun x => decide (x.f0 = p)
def share17 (fr pa : Int) (xs : List Wn) (p : Int) : Int × Int × Bool :=
  if planB fr pa xs && inB p 0 (pa - 1) then
    match mine17 p xs with
    | [] => (0, fr, true)
    | x :: r => (sum17 (x :: r), gapS x.f1 fr 0 (x :: r), true)
  else (0, 0, false)
theorem mine17_fit {fr pa : Int} {xs : List Wn} (h : planB fr pa xs = true) (p : Int) : ∀ x ∈ mine17 p xs, Fit17 fr x := by
  intro x hx
  obtain ⟨hx, _⟩ := List.mem_filter.1 hx
  obtain ⟨i, hi, rfl⟩ := List.getElem_of_mem hx
  have := (planB_at h).2.2.2 i hi
  rw [wnAt_get hi] at this
  exact ⟨this.2.1.1, this.2.1.2, this.2.2.1, this.2.2.2⟩
theorem spec_Share_l1 (fr pa s : Int) (ms xs : List Wn) (hf : 0 ≤ fr ∧ fr ≤ 100000) (hm : ∀ x ∈ ms, Fit17 fr x) (hn : ms.length ≤ 40) (first : Int) (h1 : 0 < ms.length → (wnAt ms 0).f1 = first) (d : Nat) : ∀ (i : Nat) (g : Int), i + d = ms.length →
    Ev (fun k => spec_Share.l1 k ms s g (i : Int) fr pa xs) (s, gapS first fr g (ms.drop i), true) := by
  induction d with
  | zero =>
    intro i g h
    refine ev_succ ?_
    simp only [spec_Share.l1, if_neg (show ¬ ((i : Int) < (ms.length : Int)) by omega)]
    rw [List.drop_of_length_le (by omega)]
    exact ev_now _
  | succ d ih =>
    intro i g h
    have hi : i < ms.length := by omega
    have hfi := hm _ (List.getElem_mem hi)
    rw [← wnAt_get hi] at hfi
    have hf0 := hm _ (List.getElem_mem (show 0 < ms.length by omega))
    rw [← wnAt_get (show 0 < ms.length by omega)] at hf0
    have h1' := h1 (by omega)
    refine ev_succ ?_
    simp only [spec_Share.l1, if_pos (show ((i : Int) < (ms.length : Int)) by omega), if_pos (show ((0 : Int) < (ms.length : Int)) by omega), w64s i (by omega), if_pos (show (0 : Int) ≤ ((i + 1 : Nat) : Int) by omega), if_pos (show (0 : Int) ≤ (i : Int) by omega), spec_l1Max_eq, Option.bind_some]
    rw [wn_drop hi]
    change Fit17 fr (rd_T62 ms (i : Int)) at hfi
    change Fit17 fr (rd_T62 ms ((0 : Nat) : Int)) at hf0
    change (rd_T62 ms ((0 : Nat) : Int)).f1 = first at h1'
    obtain ⟨a1, a2, a3, a4⟩ := hfi
    obtain ⟨b1, b2, b3, b4⟩ := hf0
    by_cases hl : i + 1 < ms.length
    · have hfj := hm _ (List.getElem_mem hl)
      rw [← wnAt_get hl] at hfj
      obtain ⟨c1, c2, c3, c4⟩ := hfj
      change 0 ≤ (rd_T62 ms ((i + 1 : Nat) : Int)).f1 at c1
      change (rd_T62 ms ((i + 1 : Nat) : Int)).f1 + (rd_T62 ms ((i + 1 : Nat) : Int)).f2 ≤ fr at c2
      change 1 ≤ (rd_T62 ms ((i + 1 : Nat) : Int)).f2 at c3
      simp only [if_pos (show ((i + 1 : Nat) : Int) < (ms.length : Int) by omega)]
      rw [w64 (n := (rd_T62 ms ((i + 1 : Nat) : Int)).f1 - (rd_T62 ms (i : Int)).f1) (by omega) (by omega), w64 (n := (rd_T62 ms ((i + 1 : Nat) : Int)).f1 - (rd_T62 ms (i : Int)).f1 - (rd_T62 ms (i : Int)).f2) (by omega) (by omega)]
      rw [wn_drop hl]
      simp only [gapS]
      rw [← wn_drop hl]
      exact ih (i + 1) _ (by omega)
    · simp only [if_neg (show ¬ ((i + 1 : Nat) : Int) < (ms.length : Int) by omega)]
      rw [show ((0 : Nat) : Int) = 0 from rfl] at h1' b1 b2 b3
      rw [w64 (n := (rd_T62 ms 0).f1 + fr) (by omega) (by omega), w64 (n := (rd_T62 ms 0).f1 + fr - (rd_T62 ms (i : Int)).f1) (by omega) (by omega), w64 (n := (rd_T62 ms 0).f1 + fr - (rd_T62 ms (i : Int)).f1 - (rd_T62 ms (i : Int)).f2) (by omega) (by omega)]
      rw [List.drop_of_length_le (show ms.length ≤ i + 1 by omega)]
      simp only [gapS]
      rw [← h1']
      refine ev_val (ih (i + 1) _ (by omega)) ?_
      rw [List.drop_of_length_le (by omega)]
      rfl
theorem mine17_take {p : Int} {xs : List Wn} {i : Nat} (h : i < xs.length) : mine17 p (xs.take (i + 1)) = if (wnAt xs (i : Int)).f0 = p then mine17 p (xs.take i) ++ [wnAt xs (i : Int)] else mine17 p (xs.take i) := by
  unfold mine17
  rw [List.take_succ_eq_append_getElem h, List.filter_append, wnAt_get h]
  by_cases e : (xs[i]).f0 = p <;> simp [e]
theorem spec_Share_l0 (fr pa p : Int) (xs : List Wn) (hp : planB fr pa xs = true) (d : Nat) : ∀ (i : Nat), i + d = xs.length → ∀ r,
    Ev (fun k => if ((mine17 p xs).length : Int) = 0 then (some (0, fr, true)) else (spec_Share.l1 k (mine17 p xs) (sum17 (mine17 p xs)) 0 0 fr pa xs)) r →
    Ev (fun k => spec_Share.l0 k p (mine17 p (xs.take i)) (sum17 (mine17 p (xs.take i))) (i : Int) fr pa xs) r := by
  obtain ⟨hf, hpa, hn, hat⟩ := planB_at hp
  induction d with
  | zero =>
    intro i h r hr
    refine ev_succ ?_
    simp only [spec_Share.l0, if_neg (show ¬ ((i : Int) < (xs.length : Int)) by omega)]
    rw [List.take_of_length_le (by omega)]
    exact hr
  | succ d ih =>
    intro i h r hr
    have hi : i < xs.length := by omega
    have hnext := ih (i + 1) (by omega) r hr
    rw [mine17_take hi] at hnext
    refine ev_succ ?_
    simp only [spec_Share.l0, if_pos (show ((i : Int) < (xs.length : Int)) by omega), if_pos (show (0 : Int) ≤ (i : Int) by omega), w64s i (by omega)]
    have hw := hat i hi
    have hle := sum17_le (fr := fr) (mine17 p (xs.take i)) (fun x hx => by
      refine mine17_fit hp p x ?_
      obtain ⟨h1, h2⟩ := List.mem_filter.1 hx
      exact List.mem_filter.2 ⟨List.mem_of_mem_take h1, h2⟩)
    have hlen : (mine17 p (xs.take i)).length ≤ i := Nat.le_trans (List.length_filter_le _ _) (List.length_take_le _ _)
    change (0 ≤ (rd_T62 xs (i : Int)).f0 ∧ _) ∧ (0 ≤ (rd_T62 xs (i : Int)).f1 ∧ _) ∧ (1 ≤ (rd_T62 xs (i : Int)).f2 ∧ (rd_T62 xs (i : Int)).f2 ≤ 10000) at hw
    by_cases e : (rd_T62 xs (i : Int)).f0 = p
    · rw [if_pos e] at hnext
      rw [sum17_snoc] at hnext
      simp only [if_pos e, if_pos (show (mine17 p (xs.take i)).length < 5864062014805 by omega)]
      rw [w64 (n := sum17 (mine17 p (xs.take i)) + (rd_T62 xs (i : Int)).f2) (by omega) (by omega)]
      exact hnext
    · rw [if_neg e] at hnext
      simp only [if_neg e]
      exact hnext
theorem spec_Share_ev (fr pa : Int) (xs : List Wn) (p : Int) (hn : xs.length ≤ 140737488355328) : Ev (fun k => spec_Share.f k fr pa xs p) (share17 fr pa xs p) := by
  simp only [spec_Share.f]
  refine (spec_PlanOk_ev fr pa xs hn).bind ?_
  have ht : Ev (fun k => spec_Share.j0 k p true fr pa xs) (0, 0, false) := by
    refine ev_succ ?_
    simpa only [spec_Share.j0, if_true] using ev_now _
  unfold share17
  cases hp : planB fr pa xs with
  | false => simpa using ht
  | true =>
    obtain ⟨hf, hpa, hl, hat⟩ := planB_at hp
    simp only [if_true, Bool.true_and, spec_in_eq, Option.bind_some, w64 (n := pa - 1) (by omega) (by omega)]
    cases hi : inB p 0 (pa - 1) with
    | false => simpa using ht
    | true =>
      simp only [if_true, Bool.not_true]
      refine ev_succ ?_
      simp only [spec_Share.j0, Bool.false_eq_true, if_false]
      have hm := mine17_fit hp p
      have hl0 := spec_Share_l0 fr pa p xs hp xs.length 0 (by omega)
      have hln : (mine17 p xs).length ≤ 40 := Nat.le_trans (List.length_filter_le _ _) hl
      refine hl0 _ ?_
      generalize mine17 p xs = ms at hm hln
      cases ms with
      | nil => simpa using ev_now _
      | cons x r =>
        simp only [if_neg (show ¬ (((x :: r).length : Int) = 0) by simp only [List.length_cons]; omega)]
        exact spec_Share_l1 fr pa _ (x :: r) xs (by omega) hm hln x.f1 (fun _ => rfl) (x :: r).length 0 0 (by omega)
theorem impl_Share_l0 (fr : Int) (ms : List Wn) (hf : 0 ≤ fr ∧ fr ≤ 100000) (hm : ∀ x ∈ ms, Fit17 fr x) (hn : ms.length ≤ 40) (d : Nat) : ∀ (i : Nat) (e g : Int), i + d = ms.length → -100000 ≤ e → e ≤ 100000 →
    Ev (fun k => impl_Share.l0 k (sum17 (ms.take i)) e g ms (ms.length : Int) (i : Int)) (sum17 ms, gapI e g (ms.drop i), true) := by
  induction d with
  | zero =>
    intro i e g h h1 h2
    refine ev_succ ?_
    simp only [impl_Share.l0, if_neg (show ¬ ((i : Int) < (ms.length : Int)) by omega)]
    rw [List.drop_of_length_le (by omega), List.take_of_length_le (by omega)]
    exact ev_now _
  | succ d ih =>
    intro i e g h h1 h2
    have hi : i < ms.length := by omega
    have hfi := hm _ (List.getElem_mem hi)
    rw [← wnAt_get hi] at hfi
    change Fit17 fr (rd_T62 ms (i : Int)) at hfi
    obtain ⟨a1, a2, a3, a4⟩ := hfi
    have hle := sum17_le (fr := fr) (ms.take i) (fun x hx => hm x (List.mem_of_mem_take hx))
    have hlen : (ms.take i).length ≤ 40 := Nat.le_trans (List.length_take_le _ _) (by omega)
    refine ev_succ ?_
    simp only [impl_Share.l0, if_pos (show ((i : Int) < (ms.length : Int)) by omega), if_pos (show (0 : Int) ≤ (i : Int) by omega), w64s i (by omega)]
    rw [w64 (n := sum17 (ms.take i) + (rd_T62 ms (i : Int)).f2) (by omega) (by omega), w64 (n := (rd_T62 ms (i : Int)).f1 + (rd_T62 ms (i : Int)).f2) (by omega) (by omega), w64 (n := (rd_T62 ms (i : Int)).f1 - e) (by omega) (by omega)]
    have hs : sum17 (ms.take i) + (rd_T62 ms (i : Int)).f2 = sum17 (ms.take (i + 1)) := by
      rw [List.take_succ_eq_append_getElem hi, sum17_snoc, ← wnAt_get hi]
    rw [hs, wn_drop hi]
    simp only [gapI]
    exact ih (i + 1) _ _ (by omega) (by omega) (by omega)
theorem impl_Share_ev (fr pa : Int) (xs : List Wn) (p : Int) (hn : xs.length ≤ 140737488355328) : Ev (fun k => impl_Share.f k fr pa xs p) (share17 fr pa xs p) := by
  simp only [impl_Share.f]
  refine (impl_PlanOk_ev fr pa xs hn).bind ?_
  have ht : Ev (fun k => impl_Share.j0 k true fr pa xs p) (0, 0, false) := by
    refine ev_succ ?_
    simpa only [impl_Share.j0, if_true] using ev_now _
  unfold share17
  cases hp : planB fr pa xs with
  | false => simpa using ht
  | true =>
    obtain ⟨hf, hpa, hl, hat⟩ := planB_at hp
    simp only [if_true, Bool.true_and, impl_in_eq, Option.bind_some, w64 (n := pa - 1) (by omega) (by omega)]
    cases hi : inB p 0 (pa - 1) with
    | false => simpa using ht
    | true =>
      simp only [if_true, Bool.not_true]
      refine ev_succ ?_
      have hfil : xs.filter (fun x => !(x.f0 != p)) = mine17 p xs := List.filter_congr (fun x _ => by simp only [bne, Bool.not_not]; by_cases e : x.f0 = p <;> simp [e])
      simp only [impl_Share.j0, Bool.false_eq_true, if_false, impl_Window_45.f, Option.bind_some, List.length_nil, List.nil_append, if_pos (show 0 + xs.length < 5864062014805 by omega), slices_DeleteFunc_Share_1.f, if_pos (show xs.length ≤ 1152921504606846976 by omega), hfil]
      have hm := mine17_fit hp p
      have hln : (mine17 p xs).length ≤ 40 := Nat.le_trans (List.length_filter_le _ _) hl
      generalize mine17 p xs = ms at hm hln
      cases ms with
      | nil => simpa using ev_now _
      | cons x r =>
        have hw : wrap64 (((x :: r).length : Int) - 1) = (((x :: r).length - 1 : Nat) : Int) := by rw [w64 (by omega) (by omega)]; simp only [List.length_cons]; omega
        have hlast := last17_at r x
        change rd_T62 (x :: r) _ = _ at hlast
        have hlm : last17 x r ∈ x :: r := by
          rw [← hlast]
          have := wnAt_get (xs := x :: r) (i := (x :: r).length - 1) (by simp)
          change rd_T62 _ _ = _ at this
          rw [this]
          exact List.getElem_mem _
        obtain ⟨a1, a2, a3, a4⟩ := hm _ hlm
        simp only [if_neg (show ¬ (((x :: r).length : Int) = 0) by simp only [List.length_cons]; omega), hw, if_pos (show (0 : Int) ≤ (((x :: r).length - 1 : Nat) : Int) by omega), if_pos (show (((x :: r).length - 1 : Nat) : Int) < ((x :: r).length : Int) by simp only [List.length_cons]; omega), hlast]
        rw [w64 (n := (last17 x r).f1 + (last17 x r).f2) (by omega) (by omega), w64 (n := (last17 x r).f1 + (last17 x r).f2 - fr) (by omega) (by omega), ← gap17_same]
        exact impl_Share_l0 fr (x :: r) (by omega) hm hln (x :: r).length 0 _ 0 (by omega) (by omega) (by omega)
theorem FnExactShare (a0_0 : Int) (a0_1 : Int) (l0_2 : List (S85)) (a1 : Int) (g0 : ((Lit.int .i64 a0_0).wf = true ∧ (Lit.int .i64 a0_1).wf = true ∧ (l0_2.length * 24 ≤ 140737488351232 ∧ ∀ x ∈ l0_2, ((Lit.int .i64 x.f0).wf = true ∧ (Lit.int .i64 x.f1).wf = true ∧ (Lit.int .i64 x.f2).wf = true)))) (g1 : (Lit.int .i64 a1).wf = true) : ∃ k, laws_FnExactShare.f k a0_0 a0_1 l0_2 a1 = some true := by
  have hn : l0_2.length ≤ 11728124029610 := by omega
  have hl : (l0_2.map convWindow).length ≤ 140737488355328 := by rw [List.length_map]; omega
  refine Ev.rounds ?_
  simp only [laws_FnExactShare.f, szPlan17_eq a0_0 a0_1 l0_2 (by omega), Option.bind_some]
  by_cases hs : (1048576 : Int) - (l0_2.length : Int) < 0
  · simp only [if_pos hs, if_pos (show (-1 : Int) < 0 by omega)]
    exact ev_now _
  · simp only [if_neg hs]
    refine (toPlan17_ev a0_0 a0_1 l0_2 hn).bind ?_
    refine (spec_Share_ev a0_0 a0_1 _ a1 hl).bind ?_
    refine (toPlan17_ev a0_0 a0_1 l0_2 hn).bind ?_
    refine (impl_Share_ev a0_0 a0_1 _ a1 hl).bind ?_
    simp only [bne_self_eq_false, if_true]
    refine ev_succ ?_
    simp only [laws_FnExactShare.j0, Bool.false_eq_true, if_false]
    refine (toPlan17_ev a0_0 a0_1 l0_2 hn).bind ?_
    exact (eqPlan17_self a0_0 a0_1 _ hl).bind (f := fun _ t => if t = true then some true else some false) (ev_now _)
end Go.Proofs.Ytlkphaahkhfgoaa.Pure
