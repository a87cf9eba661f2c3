/- The program's Owner answers as the reference's at every argument. No condition. -/
import Derived.Test.YtlkphaahkhfgoaaPFnExactOwnerx4
import Derived.Test.YtlkphaahkhfgoaaBase
set_option linter.unusedVariables false
set_option linter.unusedSimpArgs false
namespace Go.Proofs.Ytlkphaahkhfgoaa.Pure
open Go.RowKit Go.Proofs.Ytlkphaahkhfgoaa.PFnExactOwner Go.Proofs.Ytlkphaahkhfgoaa.Base Go.Proofs.YtlkphaahkhfgoaaW.PrintWords Go.Proofs.YtlkphaahkhfgoaaW.PrintLast
theorem impl_in_eq (a b c : Int) : impl_in.f a b c = some (inB a b c) := in_form a b c
theorem spec_in_eq (a b c : Int) : spec_l1In.f a b c = some (inB a b c) := in_form a b c
theorem szWindowS_eq (xs : List S85) (left : Int) (h0 : 0 ≤ left) (h1 : left ≤ 1048576) (hn : xs.length ≤ 140737488355328) : laws_szWindowS.f xs left = some (if left - (xs.length : Int) < 0 then -1 else left - (xs.length : Int)) := by
  unfold laws_szWindowS.f
  rw [w64 (by omega) (by omega)]
  split <;> rfl
/-! The helpers over Windows. -/
def convWindow (x : S85) : S62 := ⟨x.f0, x.f1, x.f2⟩
theorem rdlWindow {xs : List S85} {i : Nat} (h : i < xs.length) : rd_T85 xs (i : Int) = xs[i] := by
  simp [rd_T85, List.getD_eq_getElem?_getD, h]
theorem rdiWindow {xs : List S62} {i : Nat} (h : i < xs.length) : rd_T62 xs (i : Int) = xs[i] := by
  simp [rd_T62, List.getD_eq_getElem?_getD, h]
theorem dropWindow {xs : List S62} {i : Nat} (h : i < xs.length) : xs.drop i = rd_T62 xs (i : Int) :: xs.drop (i + 1) := by
  rw [List.drop_eq_getElem_cons h, rdiWindow h]
theorem toWindowS_l (xs : List S85) (hn : xs.length ≤ 11728124029610) (d : Nat) : ∀ i : Nat, i + d = xs.length →
    Ev (fun k => laws_toWindowS.l0 k xs ((xs.map convWindow).take i ++ List.replicate (xs.length - i) z62) (i : Int)) (xs.map convWindow) := by
  induction d with
  | zero =>
    intro i h
    refine ev_succ ?_
    simp only [laws_toWindowS.l0, if_neg (show ¬ ((i : Int) < (xs.length : Int)) by omega)]
    exact ev_some (by rw [List.take_of_length_le (by simp; omega), show xs.length - i = 0 by omega]; simp)
  | succ d ih =>
    intro i h
    refine ev_succ ?_
    have hlt : i < xs.length := by omega
    have hl : (((xs.map convWindow).take i ++ List.replicate (xs.length - i) z62).length : Int) = (xs.length : Int) := by simp; omega
    have hs := take_setG (xs := xs) (c := convWindow) hlt z62
    simp only [laws_toWindowS.l0, if_pos (show ((i : Int) < (xs.length : Int)) by omega), if_pos (show (0 : Int) ≤ (i : Int) by omega), hl, w64s i (by omega), Int.toNat_natCast, rdlWindow hlt, laws_toWindow.f, Option.bind_some]
    rw [show ((xs.map convWindow).take i ++ List.replicate (xs.length - i) z62).set i ⟨(xs[i]).f0, (xs[i]).f1, (xs[i]).f2⟩ = _ from hs]
    exact ih (i + 1) (by omega)
theorem toWindowS_ev (xs : List S85) (hn : xs.length ≤ 11728124029610) : Ev (fun k => laws_toWindowS.f k xs) (xs.map convWindow) := by
  simp only [laws_toWindowS.f, if_pos (show (0 : Int) ≤ (xs.length : Int) by omega), Int.toNat_natCast, if_pos hn]
  simpa using toWindowS_l xs hn xs.length 0 (by omega)
theorem eqWindowS_l (xs : List S62) (hn : xs.length ≤ 140737488355328) (d : Nat) : ∀ i : Nat, i + d = xs.length →
    Ev (fun k => laws_eqWindowS.l0 k xs xs (i : Int)) true := by
  induction d with
  | zero =>
    intro i h
    refine ev_succ ?_
    simp only [laws_eqWindowS.l0, if_neg (show ¬ ((i : Int) < (xs.length : Int)) by omega)]
    exact ev_now _
  | succ d ih =>
    intro i h
    refine ev_succ ?_
    simp only [laws_eqWindowS.l0, if_pos (show ((i : Int) < (xs.length : Int)) by omega), if_pos (show (0 : Int) ≤ (i : Int) by omega), w64s i (by omega), laws_eqWindow.f, Option.bind_some, if_true]
    exact ih (i + 1) (by omega)
theorem eqWindowS_self (xs : List S62) (hn : xs.length ≤ 140737488355328) : Ev (fun k => laws_eqWindowS.f k xs xs) true := by
  simp only [laws_eqWindowS.f, if_true]
  simpa using eqWindowS_l xs hn xs.length 0 (by omega)
/-! A plan of windows. -/
abbrev Wn := S62
abbrev wnAt (xs : List Wn) (i : Int) : Wn := rd_T62 xs i
def planFrom (fr pa : Int) (xs : List Wn) : Nat → Nat → Int → Bool
  | 0, _, _ => true
  | d + 1, i, e => inB (wnAt xs i).f0 0 (pa - 1) && (inB (wnAt xs i).f2 1 10000 && (inB (wnAt xs i).f1 e (fr - (wnAt xs i).f2) && planFrom fr pa xs d (i + 1) ((wnAt xs i).f1 + (wnAt xs i).f2)))
def planB (fr pa : Int) (xs : List Wn) : Bool := inB fr 1 100000 && (inB pa 1 10 && (decide ((xs.length : Int) ≤ 40) && planFrom fr pa xs xs.length 0 0))
theorem planFrom_at {fr pa : Int} {xs : List Wn} (d : Nat) : ∀ (i : Nat) (e : Int), 0 ≤ e → planFrom fr pa xs d i e = true → ∀ j : Nat, i ≤ j → j < i + d → (0 ≤ (wnAt xs j).f0 ∧ (wnAt xs j).f0 ≤ pa - 1) ∧ (0 ≤ (wnAt xs j).f1 ∧ (wnAt xs j).f1 + (wnAt xs j).f2 ≤ fr) ∧ (1 ≤ (wnAt xs j).f2 ∧ (wnAt xs j).f2 ≤ 10000) := by
  induction d with
  | zero => intro i e _ _ j h1 h2; omega
  | succ d ih =>
    intro i e he h j h1 h2
    simp only [planFrom, Bool.and_eq_true, inB_iff] at h
    rcases Nat.eq_or_lt_of_le h1 with rfl | h1
    · omega
    · exact ih (i + 1) _ (by omega) h.2.2.2 j h1 (by omega)
theorem planB_at {fr pa : Int} {xs : List Wn} (h : planB fr pa xs = true) : (1 ≤ fr ∧ fr ≤ 100000) ∧ (1 ≤ pa ∧ pa ≤ 10) ∧ xs.length ≤ 40 ∧ ∀ j : Nat, j < xs.length → (0 ≤ (wnAt xs j).f0 ∧ (wnAt xs j).f0 ≤ pa - 1) ∧ (0 ≤ (wnAt xs j).f1 ∧ (wnAt xs j).f1 + (wnAt xs j).f2 ≤ fr) ∧ (1 ≤ (wnAt xs j).f2 ∧ (wnAt xs j).f2 ≤ 10000) := by
  simp only [planB, Bool.and_eq_true, inB_iff, decide_eq_true_eq] at h
  exact ⟨h.1, h.2.1, by omega, fun j hj => planFrom_at xs.length 0 0 (by omega) h.2.2.2 j (by omega) (by omega)⟩
theorem spec_PlanOk_l (fr pa : Int) (xs : List Wn) (hf : 1 ≤ fr ∧ fr ≤ 100000) (hp : 1 ≤ pa ∧ pa ≤ 10) (hn : xs.length ≤ 140737488355328) (d : Nat) : ∀ (i : Nat) (e : Int), 0 ≤ e → e ≤ fr → i + d = xs.length → Ev (fun k => spec_PlanOk.l0 k e (i : Int) fr pa xs) (planFrom fr pa xs d i e) := by
  induction d with
  | zero =>
    intro i e h0 h1 h
    refine ev_succ ?_
    simp only [spec_PlanOk.l0, if_neg (show ¬ ((i : Int) < (xs.length : Int)) by omega)]
    exact ev_now _
  | succ d ih =>
    intro i e h0 h1 h
    refine ev_succ ?_
    simp only [spec_PlanOk.l0, if_pos (show ((i : Int) < (xs.length : Int)) by omega), if_pos (show (0 : Int) ≤ (i : Int) by omega), spec_in_eq, Option.bind_some, w64 (n := pa - 1) (by omega) (by omega)]
    unfold planFrom
    show Ev _ (inB (rd_T62 xs (i : Int)).f0 0 (pa - 1) && (inB (rd_T62 xs (i : Int)).f2 1 10000 && (inB (rd_T62 xs (i : Int)).f1 e (fr - (rd_T62 xs (i : Int)).f2) && planFrom fr pa xs d (i + 1) ((rd_T62 xs (i : Int)).f1 + (rd_T62 xs (i : Int)).f2))))
    generalize rd_T62 xs (i : Int) = x
    cases x1 : inB x.f0 0 (pa - 1) with
    | false => simpa using ev_now false
    | true =>
      cases x2 : inB x.f2 1 10000 with
      | false => simpa using ev_now false
      | true =>
        rw [inB_iff] at x2
        simp only [if_true, Bool.true_and]
        cases x3 : inB x.f1 e fr with
        | false =>
          have : inB x.f1 e (fr - x.f2) = false := by rw [Bool.eq_false_iff, ne_eq, inB_iff] at x3 ⊢; omega
          rw [this]
          simpa using ev_now false
        | true =>
          rw [inB_iff] at x3
          simp only [if_true, w64 (n := x.f1 + x.f2) (by omega) (by omega)]
          by_cases x4 : x.f1 + x.f2 > fr
          · have : inB x.f1 e (fr - x.f2) = false := by rw [Bool.eq_false_iff, ne_eq, inB_iff]; omega
            rw [this]
            simpa only [if_pos x4, Bool.false_and] using ev_now false
          · have : inB x.f1 e (fr - x.f2) = true := by rw [inB_iff]; omega
            rw [this]
            simp only [if_neg x4, Bool.true_and, w64s i (by omega)]
            exact ih (i + 1) _ (by omega) (by omega) (by omega)
theorem spec_PlanOk_ev (fr pa : Int) (xs : List Wn) (hn : xs.length ≤ 140737488355328) : Ev (fun k => spec_PlanOk.f k fr pa xs) (planB fr pa xs) := by
  simp only [spec_PlanOk.f, spec_in_eq, Option.bind_some]
  have ht : Ev (fun k => spec_PlanOk.j0 k true fr pa xs) false := by
    refine ev_succ ?_
    simpa only [spec_PlanOk.j0, if_true] using ev_now _
  unfold planB
  cases x1 : inB fr 1 100000 with
  | false => simpa using ht
  | true =>
    cases x2 : inB pa 1 10 with
    | false => simpa using ht
    | true =>
      rw [inB_iff] at x1 x2
      simp only [if_true, Bool.true_and]
      by_cases x3 : (xs.length : Int) > 40
      · simpa only [x3, decide_true, show ¬ (xs.length : Int) ≤ 40 by omega, decide_false, Bool.false_and] using ht
      · simp only [x3, decide_false, show (xs.length : Int) ≤ 40 by omega, decide_true, Bool.true_and]
        refine ev_succ ?_
        simp only [spec_PlanOk.j0, Bool.false_eq_true, if_false]
        exact spec_PlanOk_l fr pa xs x1 x2 hn xs.length 0 0 (by omega) (by omega) (by omega)
theorem impl_PlanOk_l (fr pa : Int) (xs : List Wn) (hn : xs.length ≤ 140737488355328) (d : Nat) : ∀ (i : Nat) (e : Int), i + d = xs.length → ∃ v, Ev (fun k => impl_PlanOk.l0 k e xs (xs.length : Int) (i : Int) fr pa xs) v ∧ (v = true → (inB fr 1 100000 = true ∧ inB pa 1 10 = true)) ∧ (inB fr 1 100000 = true → inB pa 1 10 = true → 0 ≤ e → e ≤ fr → v = (decide ((xs.length : Int) ≤ 40) && planFrom fr pa xs d i e)) := by
  induction d with
  | zero =>
    intro i e h
    refine ⟨inB fr 1 100000 && (inB pa 1 10 && decide ((xs.length : Int) ≤ 40)), ev_succ ?_, ?_, ?_⟩
    · simp only [impl_PlanOk.l0, if_neg (show ¬ ((i : Int) < (xs.length : Int)) by omega), impl_in_eq, Option.bind_some]
      cases inB fr 1 100000 <;> cases inB pa 1 10 <;> simpa using ev_now _
    · intro hv
      simp only [Bool.and_eq_true] at hv
      exact ⟨hv.1, hv.2.1⟩
    · intro h1 h2 _ _
      simp [h1, h2, planFrom]
  | succ d ih =>
    intro i e h
    by_cases hgood : inB fr 1 100000 = true ∧ inB pa 1 10 = true ∧ 0 ≤ e ∧ e ≤ fr
    · obtain ⟨g1, g2, g3, g4⟩ := hgood
      have g1' := inB_iff.1 g1
      have g2' := inB_iff.1 g2
      have hun : (fun k => impl_PlanOk.l0 (k + 1) e xs (xs.length : Int) (i : Int) fr pa xs) = fun k => if inB (wnAt xs i).f0 0 (pa - 1) = true then (if inB (wnAt xs i).f2 1 10000 = true then (if (wnAt xs i).f1 < e then some false else (if (wnAt xs i).f1 > wrap64 (fr - (wnAt xs i).f2) then some false else impl_PlanOk.l0 k (wrap64 ((wnAt xs i).f1 + (wnAt xs i).f2)) xs (xs.length : Int) ((i + 1 : Nat) : Int) fr pa xs)) else some false) else some false := by
        funext k
        simp only [impl_PlanOk.l0, if_pos (show ((i : Int) < (xs.length : Int)) by omega), if_pos (show (0 : Int) ≤ (i : Int) by omega), impl_in_eq, Option.bind_some, w64s i (by omega), w64 (n := pa - 1) (by omega) (by omega)]
      have hpf : planFrom fr pa xs (d + 1) i e = (inB (wnAt xs i).f0 0 (pa - 1) && (inB (wnAt xs i).f2 1 10000 && (inB (wnAt xs i).f1 e (fr - (wnAt xs i).f2) && planFrom fr pa xs d (i + 1) ((wnAt xs i).f1 + (wnAt xs i).f2)))) := rfl
      rw [hpf]
      have hgo : ∀ v, Ev (fun k => impl_PlanOk.l0 (k + 1) e xs (xs.length : Int) (i : Int) fr pa xs) v → Ev (fun k => impl_PlanOk.l0 k e xs (xs.length : Int) (i : Int) fr pa xs) v := fun v hv => ev_succ hv
      rw [hun] at hgo
      generalize wnAt xs i = x at hgo ⊢
      cases x1 : inB x.f0 0 (pa - 1) with
      | false => exact ⟨false, hgo _ (by simpa [x1] using ev_now false), by simp, by simp⟩
      | true =>
        cases x2 : inB x.f2 1 10000 with
        | false => exact ⟨false, hgo _ (by simpa [x1, x2] using ev_now false), by simp, by simp⟩
        | true =>
          have x2' := inB_iff.1 x2
          have w1 : wrap64 (fr - x.f2) = fr - x.f2 := w64 (by omega) (by omega)
          cases x3 : inB x.f1 e (fr - x.f2) with
          | false =>
            refine ⟨false, hgo _ ?_, by simp, by simp⟩
            rw [Bool.eq_false_iff, ne_eq, inB_iff] at x3
            simp only [x1, x2, if_true, w1]
            by_cases x4 : x.f1 < e
            · simpa only [if_pos x4] using ev_now false
            · simpa only [if_neg x4, if_pos (show x.f1 > fr - x.f2 by omega)] using ev_now false
          | true =>
            rw [inB_iff] at x3
            have w2 : wrap64 (x.f1 + x.f2) = x.f1 + x.f2 := w64 (by omega) (by omega)
            obtain ⟨v, hv, hr1, hr2⟩ := ih (i + 1) (x.f1 + x.f2) (by omega)
            refine ⟨v, hgo _ ?_, hr1, ?_⟩
            · simpa only [x1, x2, if_true, w1, w2, if_neg (show ¬ x.f1 < e by omega), if_neg (show ¬ x.f1 > fr - x.f2 by omega)] using hv
            · intro _ _ _ _
              rw [hr2 g1 g2 (by omega) (by omega)]
              simp
    · have hbad : ∀ v, Ev (fun k => impl_PlanOk.l0 k e xs (xs.length : Int) (i : Int) fr pa xs) v ∧ (v = true → (inB fr 1 100000 = true ∧ inB pa 1 10 = true)) → ∃ v, Ev (fun k => impl_PlanOk.l0 k e xs (xs.length : Int) (i : Int) fr pa xs) v ∧ (v = true → (inB fr 1 100000 = true ∧ inB pa 1 10 = true)) ∧ (inB fr 1 100000 = true → inB pa 1 10 = true → 0 ≤ e → e ≤ fr → v = (decide ((xs.length : Int) ≤ 40) && planFrom fr pa xs (d + 1) i e)) :=
        fun v h => ⟨v, h.1, h.2, fun a b c f => absurd ⟨a, b, c, f⟩ hgood⟩
      have hex : ∃ v, Ev (fun k => impl_PlanOk.l0 k e xs (xs.length : Int) (i : Int) fr pa xs) v ∧ (v = true → (inB fr 1 100000 = true ∧ inB pa 1 10 = true)) := by
        have hgo : ∀ v, Ev (fun k => impl_PlanOk.l0 (k + 1) e xs (xs.length : Int) (i : Int) fr pa xs) v → Ev (fun k => impl_PlanOk.l0 k e xs (xs.length : Int) (i : Int) fr pa xs) v := fun v hv => ev_succ hv
        simp only [impl_PlanOk.l0, if_pos (show ((i : Int) < (xs.length : Int)) by omega), if_pos (show (0 : Int) ≤ (i : Int) by omega), impl_in_eq, Option.bind_some, w64s i (by omega)] at hgo
        cases x1 : inB (rd_T62 xs i).f0 0 (wrap64 (pa - 1)) with
        | false => exact ⟨false, hgo _ (by simpa [x1] using ev_now false), by simp⟩
        | true =>
          cases x2 : inB (rd_T62 xs i).f2 1 10000 with
          | false => exact ⟨false, hgo _ (by simpa [x1, x2] using ev_now false), by simp⟩
          | true =>
            by_cases x3 : (rd_T62 xs i).f1 < e
            · exact ⟨false, hgo _ (by simpa only [x1, x2, if_true, if_pos x3] using ev_now false), by simp⟩
            · by_cases x4 : (rd_T62 xs i).f1 > wrap64 (fr - (rd_T62 xs i).f2)
              · exact ⟨false, hgo _ (by simpa only [x1, x2, if_true, if_neg x3, if_pos x4] using ev_now false), by simp⟩
              · obtain ⟨v, hv, hr1, _⟩ := ih (i + 1) (wrap64 ((rd_T62 xs i).f1 + (rd_T62 xs i).f2)) (by omega)
                exact ⟨v, hgo _ (by simpa only [x1, x2, if_true, if_neg x3, if_neg x4] using hv), hr1⟩
      obtain ⟨v, hv⟩ := hex
      exact hbad v hv
theorem impl_PlanOk_ev (fr pa : Int) (xs : List Wn) (hn : xs.length ≤ 140737488355328) : Ev (fun k => impl_PlanOk.f k fr pa xs) (planB fr pa xs) := by
  obtain ⟨v, hv, h1, h2⟩ := impl_PlanOk_l fr pa xs hn xs.length 0 0 (by omega)
  have e : v = planB fr pa xs := by
    unfold planB
    cases x1 : inB fr 1 100000 with
    | false => cases v with
      | false => rfl
      | true => have := h1 rfl; simp [x1] at this
    | true =>
      cases x2 : inB pa 1 10 with
      | false => cases v with
        | false => rfl
        | true => have := h1 rfl; simp [x2] at this
      | true => have x1' := inB_iff.1 x1; rw [h2 x1 x2 (by omega) (by omega)]; simp
  rw [← e]
  exact hv
theorem toPlan17_ev (fr pa : Int) (xs : List S85) (hn : xs.length ≤ 11728124029610) : Ev (fun k => laws_toPlan17.f k fr pa xs) (fr, pa, xs.map convWindow) := by
  simp only [laws_toPlan17.f]
  exact (toWindowS_ev xs hn).bind (f := fun _ t => some (fr, pa, t)) (ev_now _)
theorem eqPlan17_self (fr pa : Int) (xs : List Wn) (hn : xs.length ≤ 140737488355328) : Ev (fun k => laws_eqPlan17.f k fr pa xs fr pa xs) true := by
  simp only [laws_eqPlan17.f, if_true]
  exact (eqWindowS_self xs hn).bind (f := fun _ t => if t = true then some true else some false) (ev_now _)
theorem szPlan17_eq (fr pa : Int) (xs : List S85) (hn : xs.length ≤ 140737488355328) : laws_szPlan17.f fr pa xs 1048576 = some (if (1048576 : Int) - (xs.length : Int) < 0 then -1 else (1048576 : Int) - (xs.length : Int)) := by
  simp only [laws_szPlan17.f, szWindowS_eq xs 1048576 (by omega) (by omega) hn, Option.bind_some]
  by_cases h : (1048576 : Int) - (xs.length : Int) < 0
  · simp only [if_pos h, if_pos (show (-1 : Int) < 0 by omega)]
  · simp only [if_neg h]
/-! Who owns a tick. -/
def ownerFrom (xs : List Wn) (t : Int) : Nat → Nat → Int
  | 0, _ => -1
  | d + 1, i => if (wnAt xs i).f1 ≤ t ∧ t < (wnAt xs i).f1 + (wnAt xs i).f2 then (wnAt xs i).f0 else ownerFrom xs t d (i + 1)
theorem spec_Owner_l (fr pa t : Int) (xs : List Wn) (hb : planB fr pa xs = true) (d : Nat) : ∀ i : Nat, i + d = xs.length → Ev (fun k => spec_Owner.l0 k t (i : Int) fr pa xs) (ownerFrom xs t d i, true) := by
  obtain ⟨hf, hp, hl, ha⟩ := planB_at hb
  induction d with
  | zero =>
    intro i h
    refine ev_succ ?_
    simp only [spec_Owner.l0, if_neg (show ¬ ((i : Int) < (xs.length : Int)) by omega)]
    exact ev_now _
  | succ d ih =>
    intro i h
    have hi := ih (i + 1) (by omega)
    have ha := ha i (by omega)
    refine ev_succ ?_
    simp only [spec_Owner.l0, if_pos (show ((i : Int) < (xs.length : Int)) by omega), if_pos (show (0 : Int) ≤ (i : Int) by omega), spec_in_eq, Option.bind_some, w64s i (by omega)]
    unfold ownerFrom
    show Ev _ (if (rd_T62 xs (i : Int)).f1 ≤ t ∧ t < (rd_T62 xs (i : Int)).f1 + (rd_T62 xs (i : Int)).f2 then (rd_T62 xs (i : Int)).f0 else ownerFrom xs t d (i + 1), true)
    change (0 ≤ (rd_T62 xs (i : Int)).f0 ∧ (rd_T62 xs (i : Int)).f0 ≤ pa - 1) ∧ (0 ≤ (rd_T62 xs (i : Int)).f1 ∧ (rd_T62 xs (i : Int)).f1 + (rd_T62 xs (i : Int)).f2 ≤ fr) ∧ (1 ≤ (rd_T62 xs (i : Int)).f2 ∧ (rd_T62 xs (i : Int)).f2 ≤ 10000) at ha
    generalize rd_T62 xs (i : Int) = x at ha ⊢
    rw [w64 (n := x.f1 + x.f2) (by omega) (by omega), w64 (n := x.f1 + x.f2 - 1) (by omega) (by omega)]
    by_cases hx : x.f1 ≤ t ∧ t < x.f1 + x.f2
    · have : inB t x.f1 (x.f1 + x.f2 - 1) = true := by rw [inB_iff]; omega
      simpa only [this, if_pos hx, if_true] using ev_now _
    · have : inB t x.f1 (x.f1 + x.f2 - 1) = false := by rw [Bool.eq_false_iff, ne_eq, inB_iff]; omega
      simpa only [this, if_neg hx, Bool.false_eq_true, if_false] using hi
theorem impl_owner_l (fr pa t : Int) (xs : List Wn) (hb : planB fr pa xs = true) (d : Nat) : ∀ i : Nat, i + d = xs.length → Ev (fun k => impl_owner.l0 k t xs (xs.length : Int) (i : Int)) (ownerFrom xs t d i) := by
  obtain ⟨hf, hp, hl, ha⟩ := planB_at hb
  induction d with
  | zero =>
    intro i h
    refine ev_succ ?_
    simp only [impl_owner.l0, if_neg (show ¬ ((i : Int) < (xs.length : Int)) by omega)]
    exact ev_now _
  | succ d ih =>
    intro i h
    have hi := ih (i + 1) (by omega)
    have ha := ha i (by omega)
    refine ev_succ ?_
    simp only [impl_owner.l0, if_pos (show ((i : Int) < (xs.length : Int)) by omega), if_pos (show (0 : Int) ≤ (i : Int) by omega), w64s i (by omega)]
    unfold ownerFrom
    show Ev _ (if (rd_T62 xs (i : Int)).f1 ≤ t ∧ t < (rd_T62 xs (i : Int)).f1 + (rd_T62 xs (i : Int)).f2 then (rd_T62 xs (i : Int)).f0 else ownerFrom xs t d (i + 1))
    change (0 ≤ (rd_T62 xs (i : Int)).f0 ∧ (rd_T62 xs (i : Int)).f0 ≤ pa - 1) ∧ (0 ≤ (rd_T62 xs (i : Int)).f1 ∧ (rd_T62 xs (i : Int)).f1 + (rd_T62 xs (i : Int)).f2 ≤ fr) ∧ (1 ≤ (rd_T62 xs (i : Int)).f2 ∧ (rd_T62 xs (i : Int)).f2 ≤ 10000) at ha
    generalize rd_T62 xs (i : Int) = x at ha ⊢
    rw [w64 (n := x.f1 + x.f2) (by omega) (by omega)]
    by_cases hx : x.f1 ≤ t ∧ t < x.f1 + x.f2
    · simpa only [if_pos (show t ≥ x.f1 by omega), if_pos hx.2, if_pos hx] using ev_now _
    · rw [if_neg hx]
      by_cases h1 : t ≥ x.f1
      · simpa only [if_pos h1, if_neg (show ¬ t < x.f1 + x.f2 by omega)] using hi
      · simpa only [if_neg h1] using hi
def owner17 (fr pa : Int) (xs : List Wn) (t : Int) : Int × Bool := if (planB fr pa xs && inB t 0 100000000) = true then (ownerFrom xs (Int.tmod t fr) xs.length 0, true) else (-1, false)
theorem spec_Owner_ev (fr pa : Int) (xs : List Wn) (t : Int) (hn : xs.length ≤ 140737488355328) : Ev (fun k => spec_Owner.f k fr pa xs t) (owner17 fr pa xs t) := by
  simp only [spec_Owner.f, spec_l1Tick.f, spec_in_eq, Option.bind_some]
  refine (spec_PlanOk_ev fr pa xs hn).bind ?_
  have ht : Ev (fun k => spec_Owner.j0 k t true fr pa xs) (-1, false) := by
    refine ev_succ ?_
    simpa only [spec_Owner.j0, if_true] using ev_now _
  unfold owner17
  cases x1 : planB fr pa xs with
  | false => simpa using ht
  | true =>
    cases x2 : inB t 0 100000000 with
    | false => simpa using ht
    | true =>
      obtain ⟨hf, _⟩ := planB_at x1
      simp only [if_true, Bool.and_self, Bool.not_true]
      refine ev_succ ?_
      simp only [spec_Owner.j0, Bool.false_eq_true, if_false, if_neg (show ¬ fr = 0 by omega)]
      exact spec_Owner_l fr pa _ xs x1 xs.length 0 (by omega)
theorem impl_Owner_ev (fr pa : Int) (xs : List Wn) (t : Int) (hn : xs.length ≤ 140737488355328) : Ev (fun k => impl_Owner.f k fr pa xs t) (owner17 fr pa xs t) := by
  simp only [impl_Owner.f, impl_isTick.f, impl_in_eq, Option.bind_some]
  refine (impl_PlanOk_ev fr pa xs hn).bind ?_
  unfold owner17
  cases x1 : planB fr pa xs with
  | false => simpa using ev_now _
  | true =>
    cases x2 : inB t 0 100000000 with
    | false => simpa using ev_now _
    | true =>
      obtain ⟨hf, _⟩ := planB_at x1
      simp only [if_true, Bool.and_self, impl_owner.f, if_neg (show ¬ fr = 0 by omega)]
      exact (impl_owner_l fr pa _ xs x1 xs.length 0 (by omega)).bind (f := fun _ t => some (t, true)) (ev_now _)
theorem FnExactOwner (a0_0 : Int) (a0_1 : Int) (l0_2 : List (S85)) (a1 : Int) (g0 : ((Lit.int .i64 a0_0).wf = true ∧ (Lit.int .i64 a0_1).wf = true ∧ (l0_2.length * 24 ≤ 140737488351232 ∧ ∀ x ∈ l0_2, ((Lit.int .i64 x.f0).wf = true ∧ (Lit.int .i64 x.f1).wf = true ∧ (Lit.int .i64 x.f2).wf = true)))) (g1 : (Lit.int .i64 a1).wf = true) : ∃ k, laws_FnExactOwner.f k a0_0 a0_1 l0_2 a1 = some true := by
  have hn : l0_2.length ≤ 11728124029610 := by omega
  have hl : (l0_2.map convWindow).length ≤ 140737488355328 := by rw [List.length_map]; omega
  refine Ev.rounds ?_
  simp only [laws_FnExactOwner.f, szPlan17_eq a0_0 a0_1 l0_2 (by omega), Option.bind_some]
  by_cases hs : (1048576 : Int) - (l0_2.length : Int) < 0
  · simp only [if_pos hs, if_pos (show (-1 : Int) < 0 by omega)]
    exact ev_now _
  · simp only [if_neg hs]
    refine (toPlan17_ev a0_0 a0_1 l0_2 hn).bind ?_
    refine (spec_Owner_ev a0_0 a0_1 _ a1 hl).bind ?_
    refine (toPlan17_ev a0_0 a0_1 l0_2 hn).bind ?_
    refine (impl_Owner_ev a0_0 a0_1 _ a1 hl).bind ?_
    simp only [bne_self_eq_false, if_true]
    refine ev_succ ?_
    simp only [laws_FnExactOwner.j0, Bool.false_eq_true, if_false]
    refine (toPlan17_ev a0_0 a0_1 l0_2 hn).bind ?_
    exact (eqPlan17_self a0_0 a0_1 _ hl).bind (f := fun _ t => if t = true then some true else some false) (ev_now _)
end Go.Proofs.Ytlkphaahkhfgoaa.Pure
