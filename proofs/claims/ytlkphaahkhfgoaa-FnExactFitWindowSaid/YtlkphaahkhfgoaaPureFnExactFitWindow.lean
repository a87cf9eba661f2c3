/- The program's FitWindow answers as the reference's at every argument. No condition. -/
import Derived.Test.YtlkphaahkhfgoaaPFnExactFitWindowx7
import Derived.Test.YtlkphaahkhfgoaaBase
set_option linter.unusedVariables false
set_option linter.unusedSimpArgs false
namespace Go.Proofs.Ytlkphaahkhfgoaa.Pure
open Go.RowKit Go.Proofs.Ytlkphaahkhfgoaa.PFnExactFitWindow Go.Proofs.Ytlkphaahkhfgoaa.Base Go.Proofs.YtlkphaahkhfgoaaW.PrintWords Go.Proofs.YtlkphaahkhfgoaaW.PrintLast
theorem impl_in_eq (a b c : Int) : impl_in.f a b c = some (inB a b c) := in_form a b c
theorem spec_in_eq (a b c : Int) : spec_l1In.f a b c = some (inB a b c) := in_form a b c
theorem szWindowS_eq (xs : List S85) (left : Int) (h0 : 0 ≤ left) (h1 : left ≤ 1048576) (hn : xs.length ≤ 140737488355328) : laws_szWindowS.f xs left = some (if left - (xs.length : Int) < 0 then -1 else left - (xs.length : Int)) := by
  unfold laws_szWindowS.f
  rw [w64 (by omega) (by omega)]
  split <;> rfl
/-! The helpers over Windows. -/
def convWindow (x : S85) : S62 := ⟨x.f0, x.f1, x.f2⟩
theorem rdlWindow {xs : List S85} {i : Nat} (h : i < xs.length) : rd_T85 xs (i : Int) = xs[i] := by
  simp [rd_T85, List.getD_eq_getElem?_getD, h]
theorem rdiWindow {xs : List S62} {i : Nat} (h : i < xs.length) : rd_T62 xs (i : Int) = xs[i] := by
  simp [rd_T62, List.getD_eq_getElem?_getD, h]
theorem dropWindow {xs : List S62} {i : Nat} (h : i < xs.length) : xs.drop i = rd_T62 xs (i : Int) :: xs.drop (i + 1) := by
  rw [List.drop_eq_getElem_cons h, rdiWindow h]
theorem toWindowS_l (xs : List S85) (hn : xs.length ≤ 11728124029610) (d : Nat) : ∀ i : Nat, i + d = xs.length →
    Ev (fun k => laws_toWindowS.l0 k xs ((xs.map convWindow).take i ++ List.replicate (xs.length - i) z62) (i : Int)) (xs.map convWindow) := by
  induction d with
  | zero =>
    intro i h
    refine ev_succ ?_
    simp only [laws_toWindowS.l0, if_neg (show ¬ ((i : Int) < (xs.length : Int)) by omega)]
    exact ev_some (by rw [List.take_of_length_le (by simp; omega), show xs.length - i = 0 by omega]; simp)
  | succ d ih =>
    intro i h
    refine ev_succ ?_
    have hlt : i < xs.length := by omega
    have hl : (((xs.map convWindow).take i ++ List.replicate (xs.length - i) z62).length : Int) = (xs.length : Int) := by simp; omega
    have hs := take_setG (xs := xs) (c := convWindow) hlt z62
    simp only [laws_toWindowS.l0, if_pos (show ((i : Int) < (xs.length : Int)) by omega), if_pos (show (0 : Int) ≤ (i : Int) by omega), hl, w64s i (by omega), Int.toNat_natCast, rdlWindow hlt, laws_toWindow.f, Option.bind_some]
    rw [show ((xs.map convWindow).take i ++ List.replicate (xs.length - i) z62).set i ⟨(xs[i]).f0, (xs[i]).f1, (xs[i]).f2⟩ = _ from hs]
    exact ih (i + 1) (by omega)
theorem toWindowS_ev (xs : List S85) (hn : xs.length ≤ 11728124029610) : Ev (fun k => laws_toWindowS.f k xs) (xs.map convWindow) := by
  simp only [laws_toWindowS.f, if_pos (show (0 : Int) ≤ (xs.length : Int) by omega), Int.toNat_natCast, if_pos hn]
  simpa using toWindowS_l xs hn xs.length 0 (by omega)
theorem eqWindowS_l (xs : List S62) (hn : xs.length ≤ 140737488355328) (d : Nat) : ∀ i : Nat, i + d = xs.length →
    Ev (fun k => laws_eqWindowS.l0 k xs xs (i : Int)) true := by
  induction d with
  | zero =>
    intro i h
    refine ev_succ ?_
    simp only [laws_eqWindowS.l0, if_neg (show ¬ ((i : Int) < (xs.length : Int)) by omega)]
    exact ev_now _
  | succ d ih =>
    intro i h
    refine ev_succ ?_
    simp only [laws_eqWindowS.l0, if_pos (show ((i : Int) < (xs.length : Int)) by omega), if_pos (show (0 : Int) ≤ (i : Int) by omega), w64s i (by omega), laws_eqWindow.f, Option.bind_some, if_true]
    exact ih (i + 1) (by omega)
theorem eqWindowS_self (xs : List S62) (hn : xs.length ≤ 140737488355328) : Ev (fun k => laws_eqWindowS.f k xs xs) true := by
  simp only [laws_eqWindowS.f, if_true]
  simpa using eqWindowS_l xs hn xs.length 0 (by omega)
/-! The marks of Windows, as they stand. -/
def wmarks (k0 : Int) (n : Nat) : List S62 := (List.range n).map fun j : Nat => ⟨k0 + 3 * (j : Int), k0 + 3 * (j : Int) + 1, k0 + 3 * (j : Int) + 2⟩
theorem wmarks_length (k0 : Int) (n : Nat) : (wmarks k0 n).length = n := by simp [wmarks]
theorem wrd_nat {xs : List S62} {i : Nat} (h : i < xs.length) : rd_T62 xs (i : Int) = xs[i] := by simp [rd_T62, List.getD_eq_getElem?_getD, h]
theorem wrd_set {xs : List S62} {i : Nat} (h : i < xs.length) (a : S62) : rd_T62 (xs.set i a) (i : Int) = a := by rw [wrd_nat (by simpa using h)]; simp
theorem wmarks_set {k0 : Int} {xs : List S62} {i : Nat} (h : i < xs.length) : (wmarks k0 i ++ xs.drop i).set i ⟨k0 + 3 * (i : Int), k0 + 3 * (i : Int) + 1, k0 + 3 * (i : Int) + 2⟩ = wmarks k0 (i + 1) ++ xs.drop (i + 1) := by
  rw [List.set_append, if_neg (by rw [wmarks_length]; omega), wmarks_length, Nat.sub_self, List.drop_eq_getElem_cons h, List.set_cons_zero]
  simp [wmarks, List.range_succ]
theorem markSWindow_l (xs : List S62) (k0 : Int) (h0 : 0 ≤ k0) (h1 : k0 ≤ 1125899906842624) (hn : xs.length ≤ 140737488355328) (d : Nat) : ∀ i : Nat, i + d = xs.length →
    Ev (fun k => laws_markWindowS.l0 k (wmarks k0 i ++ xs.drop i) (k0 + 3 * (i : Int)) (i : Int)) (k0 + 3 * (xs.length : Int), wmarks k0 xs.length) := by
  induction d with
  | zero =>
    intro i h
    obtain rfl : i = xs.length := by omega
    refine ev_succ ?_
    have hl : (wmarks k0 xs.length ++ xs.drop xs.length).length = xs.length := by rw [List.length_append, wmarks_length, List.length_drop]; omega
    simp only [laws_markWindowS.l0, hl, if_neg (show ¬ ((xs.length : Int) < (xs.length : Int)) by omega)]
    exact ev_some (by simp)
  | succ d ih =>
    intro i h
    have hi : i < xs.length := by omega
    have hl : (wmarks k0 i ++ xs.drop i).length = xs.length := by rw [List.length_append, wmarks_length, List.length_drop]; omega
    have hset := wmarks_set (k0 := k0) hi
    have hin := ih (i + 1) (by omega)
    rw [← hset] at hin
    generalize wmarks k0 i ++ xs.drop i = ys at hl hin
    refine ev_succ ?_
    simp only [laws_markWindowS.l0, hl, if_pos (show ((i : Int) < (xs.length : Int)) by omega), if_pos (show (0 : Int) ≤ (i : Int) by omega), Option.bind_some, w64s i (show i < 9223372036854775807 by omega), Int.toNat_natCast, w64 (n := k0 + 3 * (i : Int) + 1) (by omega) (by omega), w64 (n := k0 + 3 * (i : Int) + 1 + 1) (by omega) (by omega), w64 (n := k0 + 3 * (i : Int) + 1 + 1 + 1) (by omega) (by omega), wrd_set (show i < ys.length by omega), List.set_set, wrd_set (show i < (ys.set i ⟨k0 + 3 * (i : Int), (rd_T62 ys (i : Int)).f1, (rd_T62 ys (i : Int)).f2⟩).length by rw [List.length_set]; omega)]
    rw [show k0 + 3 * ((i + 1 : Nat) : Int) = k0 + 3 * (i : Int) + 1 + 1 + 1 by omega, show k0 + 3 * (i : Int) + 2 = k0 + 3 * (i : Int) + 1 + 1 by omega] at hin
    exact hin
theorem markSWindow_ev (xs : List S62) (k0 : Int) (h0 : 0 ≤ k0) (h1 : k0 ≤ 1125899906842624) (hn : xs.length ≤ 140737488355328) : Ev (fun k => laws_markWindowS.f k xs k0) (k0 + 3 * (xs.length : Int), wmarks k0 xs.length) := by
  have := markSWindow_l xs k0 h0 h1 hn xs.length 0 (by omega)
  simpa [laws_markWindowS.f, wmarks] using this
theorem heldSWindow_l (n : Nat) (k0 : Int) (h0 : 0 ≤ k0) (h1 : k0 ≤ 1125899906842624) (hn : n ≤ 140737488355328) (d : Nat) : ∀ i : Nat, i + d = n →
    Ev (fun k => laws_heldWindowS.l0 k (wmarks k0 n) (k0 + 3 * (i : Int)) (i : Int)) (k0 + 3 * (n : Int)) := by
  induction d with
  | zero =>
    intro i h
    refine ev_succ ?_
    simp only [laws_heldWindowS.l0, wmarks_length, if_neg (show ¬ ((i : Int) < (n : Int)) by omega)]
    exact ev_some (by omega)
  | succ d ih =>
    intro i h
    have hr : rd_T62 (wmarks k0 n) (i : Int) = ⟨k0 + 3 * (i : Int), k0 + 3 * (i : Int) + 1, k0 + 3 * (i : Int) + 2⟩ := by
      rw [wrd_nat (by rw [wmarks_length]; omega)]
      simp [wmarks]
    refine ev_succ ?_
    simp only [laws_heldWindowS.l0, wmarks_length, hr, if_pos (show ((i : Int) < (n : Int)) by omega), if_pos (show (0 : Int) ≤ (i : Int) by omega), if_true, w64s i (by omega), w64 (n := k0 + 3 * (i : Int) + 1) (by omega) (by omega), w64 (n := k0 + 3 * (i : Int) + 1 + 1) (by omega) (by omega), w64 (n := k0 + 3 * (i : Int) + 1 + 1 + 1) (by omega) (by omega), if_pos (show k0 + 3 * (i : Int) + 2 = k0 + 3 * (i : Int) + 1 + 1 by omega)]
    have := ih (i + 1) (by omega)
    rw [show k0 + 3 * ((i + 1 : Nat) : Int) = k0 + 3 * (i : Int) + 1 + 1 + 1 by omega] at this
    exact this
theorem heldSWindow_ev (n : Nat) (k0 : Int) (h0 : 0 ≤ k0) (h1 : k0 ≤ 1125899906842624) (hn : n ≤ 140737488355328) : Ev (fun k => laws_heldWindowS.f k (wmarks k0 n) k0) (k0 + 3 * (n : Int)) := by
  have := heldSWindow_l n k0 h0 h1 hn n 0 (by omega)
  simpa [laws_heldWindowS.f] using this
/-! A plan of windows. -/
abbrev Wn := S62
abbrev wnAt (xs : List Wn) (i : Int) : Wn := rd_T62 xs i
def planFrom (fr pa : Int) (xs : List Wn) : Nat → Nat → Int → Bool
  | 0, _, _ => true
  | d + 1, i, e => inB (wnAt xs i).f0 0 (pa - 1) && (inB (wnAt xs i).f2 1 10000 && (inB (wnAt xs i).f1 e (fr - (wnAt xs i).f2) && planFrom fr pa xs d (i + 1) ((wnAt xs i).f1 + (wnAt xs i).f2)))
def planB (fr pa : Int) (xs : List Wn) : Bool := inB fr 1 100000 && (inB pa 1 10 && (decide ((xs.length : Int) ≤ 40) && planFrom fr pa xs xs.length 0 0))
theorem planFrom_at {fr pa : Int} {xs : List Wn} (d : Nat) : ∀ (i : Nat) (e : Int), 0 ≤ e → planFrom fr pa xs d i e = true → ∀ j : Nat, i ≤ j → j < i + d → (0 ≤ (wnAt xs j).f0 ∧ (wnAt xs j).f0 ≤ pa - 1) ∧ (0 ≤ (wnAt xs j).f1 ∧ (wnAt xs j).f1 + (wnAt xs j).f2 ≤ fr) ∧ (1 ≤ (wnAt xs j).f2 ∧ (wnAt xs j).f2 ≤ 10000) := by
  induction d with
  | zero => intro i e _ _ j h1 h2; omega
  | succ d ih =>
    intro i e he h j h1 h2
    simp only [planFrom, Bool.and_eq_true, inB_iff] at h
    rcases Nat.eq_or_lt_of_le h1 with rfl | h1
    · omega
    · exact ih (i + 1) _ (by omega) h.2.2.2 j h1 (by omega)
theorem planB_at {fr pa : Int} {xs : List Wn} (h : planB fr pa xs = true) : (1 ≤ fr ∧ fr ≤ 100000) ∧ (1 ≤ pa ∧ pa ≤ 10) ∧ xs.length ≤ 40 ∧ ∀ j : Nat, j < xs.length → (0 ≤ (wnAt xs j).f0 ∧ (wnAt xs j).f0 ≤ pa - 1) ∧ (0 ≤ (wnAt xs j).f1 ∧ (wnAt xs j).f1 + (wnAt xs j).f2 ≤ fr) ∧ (1 ≤ (wnAt xs j).f2 ∧ (wnAt xs j).f2 ≤ 10000) := by
  simp only [planB, Bool.and_eq_true, inB_iff, decide_eq_true_eq] at h
  exact ⟨h.1, h.2.1, by omega, fun j hj => planFrom_at xs.length 0 0 (by omega) h.2.2.2 j (by omega) (by omega)⟩
theorem spec_PlanOk_l (fr pa : Int) (xs : List Wn) (hf : 1 ≤ fr ∧ fr ≤ 100000) (hp : 1 ≤ pa ∧ pa ≤ 10) (hn : xs.length ≤ 140737488355328) (d : Nat) : ∀ (i : Nat) (e : Int), 0 ≤ e → e ≤ fr → i + d = xs.length → Ev (fun k => spec_PlanOk.l0 k e (i : Int) fr pa xs) (planFrom fr pa xs d i e) := by
  induction d with
  | zero =>
    intro i e h0 h1 h
    refine ev_succ ?_
    simp only [spec_PlanOk.l0, if_neg (show ¬ ((i : Int) < (xs.length : Int)) by omega)]
    exact ev_now _
  | succ d ih =>
    intro i e h0 h1 h
    refine ev_succ ?_
    simp only [spec_PlanOk.l0, if_pos (show ((i : Int) < (xs.length : Int)) by omega), if_pos (show (0 : Int) ≤ (i : Int) by omega), spec_in_eq, Option.bind_some, w64 (n := pa - 1) (by omega) (by omega)]
    unfold planFrom
    show Ev _ (inB (rd_T62 xs (i : Int)).f0 0 (pa - 1) && (inB (rd_T62 xs (i : Int)).f2 1 10000 && (inB (rd_T62 xs (i : Int)).f1 e (fr - (rd_T62 xs (i : Int)).f2) && planFrom fr pa xs d (i + 1) ((rd_T62 xs (i : Int)).f1 + (rd_T62 xs (i : Int)).f2))))
    generalize rd_T62 xs (i : Int) = x
    cases x1 : inB x.f0 0 (pa - 1) with
    | false => simpa using ev_now false
    | true =>
      cases x2 : inB x.f2 1 10000 with
      | false => simpa using ev_now false
      | true =>
        rw [inB_iff] at x2
        simp only [if_true, Bool.true_and]
        cases x3 : inB x.f1 e fr with
        | false =>
          have : inB x.f1 e (fr - x.f2) = false := by rw [Bool.eq_false_iff, ne_eq, inB_iff] at x3 ⊢; omega
          rw [this]
          simpa using ev_now false
        | true =>
          rw [inB_iff] at x3
          simp only [if_true, w64 (n := x.f1 + x.f2) (by omega) (by omega)]
          by_cases x4 : x.f1 + x.f2 > fr
          · have : inB x.f1 e (fr - x.f2) = false := by rw [Bool.eq_false_iff, ne_eq, inB_iff]; omega
            rw [this]
            simpa only [if_pos x4, Bool.false_and] using ev_now false
          · have : inB x.f1 e (fr - x.f2) = true := by rw [inB_iff]; omega
            rw [this]
            simp only [if_neg x4, Bool.true_and, w64s i (by omega)]
            exact ih (i + 1) _ (by omega) (by omega) (by omega)
theorem spec_PlanOk_ev (fr pa : Int) (xs : List Wn) (hn : xs.length ≤ 140737488355328) : Ev (fun k => spec_PlanOk.f k fr pa xs) (planB fr pa xs) := by
  simp only [spec_PlanOk.f, spec_in_eq, Option.bind_some]
  have ht : Ev (fun k => spec_PlanOk.j0 k true fr pa xs) false := by
    refine ev_succ ?_
    simpa only [spec_PlanOk.j0, if_true] using ev_now _
  unfold planB
  cases x1 : inB fr 1 100000 with
  | false => simpa using ht
  | true =>
    cases x2 : inB pa 1 10 with
    | false => simpa using ht
    | true =>
      rw [inB_iff] at x1 x2
      simp only [if_true, Bool.true_and]
      by_cases x3 : (xs.length : Int) > 40
      · simpa only [x3, decide_true, show ¬ (xs.length : Int) ≤ 40 by omega, decide_false, Bool.false_and] using ht
      · simp only [x3, decide_false, show (xs.length : Int) ≤ 40 by omega, decide_true, Bool.true_and]
        refine ev_succ ?_
        simp only [spec_PlanOk.j0, Bool.false_eq_true, if_false]
        exact spec_PlanOk_l fr pa xs x1 x2 hn xs.length 0 0 (by omega) (by omega) (by omega)
theorem impl_PlanOk_l (fr pa : Int) (xs : List Wn) (hn : xs.length ≤ 140737488355328) (d : Nat) : ∀ (i : Nat) (e : Int), i + d = xs.length → ∃ v, Ev (fun k => impl_PlanOk.l0 k e xs (xs.length : Int) (i : Int) fr pa xs) v ∧ (v = true → (inB fr 1 100000 = true ∧ inB pa 1 10 = true)) ∧ (inB fr 1 100000 = true → inB pa 1 10 = true → 0 ≤ e → e ≤ fr → v = (decide ((xs.length : Int) ≤ 40) && planFrom fr pa xs d i e)) := by
  induction d with
  | zero =>
    intro i e h
    refine ⟨inB fr 1 100000 && (inB pa 1 10 && decide ((xs.length : Int) ≤ 40)), ev_succ ?_, ?_, ?_⟩
    · simp only [impl_PlanOk.l0, if_neg (show ¬ ((i : Int) < (xs.length : Int)) by omega), impl_in_eq, Option.bind_some]
      cases inB fr 1 100000 <;> cases inB pa 1 10 <;> simpa using ev_now _
    · intro hv
      simp only [Bool.and_eq_true] at hv
      exact ⟨hv.1, hv.2.1⟩
    · intro h1 h2 _ _
      simp [h1, h2, planFrom]
  | succ d ih =>
    intro i e h
    by_cases hgood : inB fr 1 100000 = true ∧ inB pa 1 10 = true ∧ 0 ≤ e ∧ e ≤ fr
    · obtain ⟨g1, g2, g3, g4⟩ := hgood
      have g1' := inB_iff.1 g1
      have g2' := inB_iff.1 g2
      have hun : (fun k => impl_PlanOk.l0 (k + 1) e xs (xs.length : Int) (i : Int) fr pa xs) = fun k => if inB (wnAt xs i).f0 0 (pa - 1) = true then (if inB (wnAt xs i).f2 1 10000 = true then (if (wnAt xs i).f1 < e then some false else (if (wnAt xs i).f1 > wrap64 (fr - (wnAt xs i).f2) then some false else impl_PlanOk.l0 k (wrap64 ((wnAt xs i).f1 + (wnAt xs i).f2)) xs (xs.length : Int) ((i + 1 : Nat) : Int) fr pa xs)) else some false) else some false := by
        funext k
        simp only [impl_PlanOk.l0, if_pos (show ((i : Int) < (xs.length : Int)) by omega), if_pos (show (0 : Int) ≤ (i : Int) by omega), impl_in_eq, Option.bind_some, w64s i (by omega), w64 (n := pa - 1) (by omega) (by omega)]
      have hpf : planFrom fr pa xs (d + 1) i e = (inB (wnAt xs i).f0 0 (pa - 1) && (inB (wnAt xs i).f2 1 10000 && (inB (wnAt xs i).f1 e (fr - (wnAt xs i).f2) && planFrom fr pa xs d (i + 1) ((wnAt xs i).f1 + (wnAt xs i).f2)))) := rfl
      rw [hpf]
      have hgo : ∀ v, Ev (fun k => impl_PlanOk.l0 (k + 1) e xs (xs.length : Int) (i : Int) fr pa xs) v → Ev (fun k => impl_PlanOk.l0 k e xs (xs.length : Int) (i : Int) fr pa xs) v := fun v hv => ev_succ hv
      rw [hun] at hgo
      generalize wnAt xs i = x at hgo ⊢
      cases x1 : inB x.f0 0 (pa - 1) with
      | false => exact ⟨false, hgo _ (by simpa [x1] using ev_now false), by simp, by simp⟩
      | true =>
        cases x2 : inB x.f2 1 10000 with
        | false => exact ⟨false, hgo _ (by simpa [x1, x2] using ev_now false), by simp, by simp⟩
        | true =>
          have x2' := inB_iff.1 x2
          have w1 : wrap64 (fr - x.f2) = fr - x.f2 := w64 (by omega) (by omega)
          cases x3 : inB x.f1 e (fr - x.f2) with
          | false =>
            refine ⟨false, hgo _ ?_, by simp, by simp⟩
            rw [Bool.eq_false_iff, ne_eq, inB_iff] at x3
            simp only [x1, x2, if_true, w1]
            by_cases x4 : x.f1 < e
            · simpa only [if_pos x4] using ev_now false
            · simpa only [if_neg x4, if_pos (show x.f1 > fr - x.f2 by omega)] using ev_now false
          | true =>
            rw [inB_iff] at x3
            have w2 : wrap64 (x.f1 + x.f2) = x.f1 + x.f2 := w64 (by omega) (by omega)
            obtain ⟨v, hv, hr1, hr2⟩ := ih (i + 1) (x.f1 + x.f2) (by omega)
            refine ⟨v, hgo _ ?_, hr1, ?_⟩
            · simpa only [x1, x2, if_true, w1, w2, if_neg (show ¬ x.f1 < e by omega), if_neg (show ¬ x.f1 > fr - x.f2 by omega)] using hv
            · intro _ _ _ _
              rw [hr2 g1 g2 (by omega) (by omega)]
              simp
    · have hbad : ∀ v, Ev (fun k => impl_PlanOk.l0 k e xs (xs.length : Int) (i : Int) fr pa xs) v ∧ (v = true → (inB fr 1 100000 = true ∧ inB pa 1 10 = true)) → ∃ v, Ev (fun k => impl_PlanOk.l0 k e xs (xs.length : Int) (i : Int) fr pa xs) v ∧ (v = true → (inB fr 1 100000 = true ∧ inB pa 1 10 = true)) ∧ (inB fr 1 100000 = true → inB pa 1 10 = true → 0 ≤ e → e ≤ fr → v = (decide ((xs.length : Int) ≤ 40) && planFrom fr pa xs (d + 1) i e)) :=
        fun v h => ⟨v, h.1, h.2, fun a b c f => absurd ⟨a, b, c, f⟩ hgood⟩
      have hex : ∃ v, Ev (fun k => impl_PlanOk.l0 k e xs (xs.length : Int) (i : Int) fr pa xs) v ∧ (v = true → (inB fr 1 100000 = true ∧ inB pa 1 10 = true)) := by
        have hgo : ∀ v, Ev (fun k => impl_PlanOk.l0 (k + 1) e xs (xs.length : Int) (i : Int) fr pa xs) v → Ev (fun k => impl_PlanOk.l0 k e xs (xs.length : Int) (i : Int) fr pa xs) v := fun v hv => ev_succ hv
        simp only [impl_PlanOk.l0, if_pos (show ((i : Int) < (xs.length : Int)) by omega), if_pos (show (0 : Int) ≤ (i : Int) by omega), impl_in_eq, Option.bind_some, w64s i (by omega)] at hgo
        cases x1 : inB (rd_T62 xs i).f0 0 (wrap64 (pa - 1)) with
        | false => exact ⟨false, hgo _ (by simpa [x1] using ev_now false), by simp⟩
        | true =>
          cases x2 : inB (rd_T62 xs i).f2 1 10000 with
          | false => exact ⟨false, hgo _ (by simpa [x1, x2] using ev_now false), by simp⟩
          | true =>
            by_cases x3 : (rd_T62 xs i).f1 < e
            · exact ⟨false, hgo _ (by simpa only [x1, x2, if_true, if_pos x3] using ev_now false), by simp⟩
            · by_cases x4 : (rd_T62 xs i).f1 > wrap64 (fr - (rd_T62 xs i).f2)
              · exact ⟨false, hgo _ (by simpa only [x1, x2, if_true, if_neg x3, if_pos x4] using ev_now false), by simp⟩
              · obtain ⟨v, hv, hr1, _⟩ := ih (i + 1) (wrap64 ((rd_T62 xs i).f1 + (rd_T62 xs i).f2)) (by omega)
                exact ⟨v, hgo _ (by simpa only [x1, x2, if_true, if_neg x3, if_neg x4] using hv), hr1⟩
      obtain ⟨v, hv⟩ := hex
      exact hbad v hv
theorem impl_PlanOk_ev (fr pa : Int) (xs : List Wn) (hn : xs.length ≤ 140737488355328) : Ev (fun k => impl_PlanOk.f k fr pa xs) (planB fr pa xs) := by
  obtain ⟨v, hv, h1, h2⟩ := impl_PlanOk_l fr pa xs hn xs.length 0 0 (by omega)
  have e : v = planB fr pa xs := by
    unfold planB
    cases x1 : inB fr 1 100000 with
    | false => cases v with
      | false => rfl
      | true => have := h1 rfl; simp [x1] at this
    | true =>
      cases x2 : inB pa 1 10 with
      | false => cases v with
        | false => rfl
        | true => have := h1 rfl; simp [x2] at this
      | true => have x1' := inB_iff.1 x1; rw [h2 x1 x2 (by omega) (by omega)]; simp
  rw [← e]
  exact hv
theorem toPlan17_ev (fr pa : Int) (xs : List S85) (hn : xs.length ≤ 11728124029610) : Ev (fun k => laws_toPlan17.f k fr pa xs) (fr, pa, xs.map convWindow) := by
  simp only [laws_toPlan17.f]
  exact (toWindowS_ev xs hn).bind (f := fun _ t => some (fr, pa, t)) (ev_now _)
theorem eqPlan17_self (fr pa : Int) (xs : List Wn) (hn : xs.length ≤ 140737488355328) : Ev (fun k => laws_eqPlan17.f k fr pa xs fr pa xs) true := by
  simp only [laws_eqPlan17.f, if_true]
  exact (eqWindowS_self xs hn).bind (f := fun _ t => if t = true then some true else some false) (ev_now _)
theorem szPlan17_eq (fr pa : Int) (xs : List S85) (hn : xs.length ≤ 140737488355328) : laws_szPlan17.f fr pa xs 1048576 = some (if (1048576 : Int) - (xs.length : Int) < 0 then -1 else (1048576 : Int) - (xs.length : Int)) := by
  simp only [laws_szPlan17.f, szWindowS_eq xs 1048576 (by omega) (by omega) hn, Option.bind_some]
  by_cases h : (1048576 : Int) - (xs.length : Int) < 0
  · simp only [if_pos h, if_pos (show (-1 : Int) < 0 by omega)]
  · simp only [if_neg h]
/-! FitWindow: the first place that is wide enough. -/
theorem wnAt_nat {xs : List Wn} {i : Nat} (h : i < xs.length) : wnAt xs (i : Int) = xs[i] := by simp [wnAt, rd_T62, List.getD_eq_getElem?_getD, h]
def put17 (p lg : Int) (xs : List Wn) (i : Nat) (e : Int) : List Wn := xs.take i ++ ([⟨p, e, lg⟩] ++ xs.drop i)
def fitFrom (fr p lg : Int) (xs : List Wn) : Nat → Nat → Int → List Wn × Bool
  | 0, i, e => if e + lg ≤ fr then (put17 p lg xs i e, true) else (xs, false)
  | d + 1, i, e => if e + lg ≤ (wnAt xs i).f1 then (put17 p lg xs i e, true) else fitFrom fr p lg xs d (i + 1) ((wnAt xs i).f1 + (wnAt xs i).f2)
def fit17 (fr pa : Int) (xs : List Wn) (p lg : Int) : List Wn × Bool :=
  if planB fr pa xs && (!decide ((xs.length : Int) = 40) && (inB p 0 (pa - 1) && inB lg 1 10000)) then fitFrom fr p lg xs xs.length 0 0 else (xs, false)
theorem fitFrom_len (fr p lg : Int) (xs : List Wn) (d : Nat) : ∀ i e, i ≤ xs.length → (fitFrom fr p lg xs d i e).1.length ≤ xs.length + 1 := by
  have hp : ∀ i e, (put17 p lg xs i e).length ≤ xs.length + 1 := fun i e => by simp only [put17, List.length_append, List.length_take, List.length_drop, List.length_cons, List.length_nil]; omega
  induction d with
  | zero => intro i e hi; unfold fitFrom; split
            · exact hp i e
            · exact Nat.le_succ _
  | succ d ih =>
    intro i e hi
    unfold fitFrom
    split
    · exact hp i e
    · by_cases h : i + 1 ≤ xs.length
      · exact ih _ _ h
      · -- past the end: the lists are what they are
        clear ih
        have : ∀ (d : Nat) (i : Nat) (e : Int), xs.length ≤ i → (fitFrom fr p lg xs d i e).1.length ≤ xs.length + 1 := by
          intro d
          induction d with
          | zero => intro i e _; unfold fitFrom; split
                    · exact hp i e
                    · exact Nat.le_succ _
          | succ d ih2 => intro i e h2; unfold fitFrom; split
                          · exact hp i e
                          · exact ih2 _ _ (by omega)
        exact this _ _ _ (by omega)
theorem fit17_len (fr pa : Int) (xs : List Wn) (p lg : Int) : (fit17 fr pa xs p lg).1.length ≤ xs.length + 1 := by
  unfold fit17
  split
  · exact fitFrom_len fr p lg xs _ _ _ (Nat.zero_le _)
  · exact Nat.le_succ _
theorem spec_Fit_l (fr pa p lg : Int) (xs : List Wn) (hp : planB fr pa xs = true) (hlg : 1 ≤ lg ∧ lg ≤ 10000) (d : Nat) : ∀ (i : Nat) (e : Int), i + d = xs.length → 0 ≤ e → e ≤ fr →
    Ev (fun k => spec_FitWindow.l0 k p lg e (i : Int) fr pa xs fr pa xs) (fr, pa, (fitFrom fr p lg xs d i e).1, (fitFrom fr p lg xs d i e).2) := by
  obtain ⟨hf, hpa, hn, hat⟩ := planB_at hp
  induction d with
  | zero =>
    intro i e h h0 h1
    refine ev_succ ?_
    simp only [spec_FitWindow.l0, if_pos (show (i : Int) ≤ (xs.length : Int) by omega), if_neg (show ¬ ((i : Int) < (xs.length : Int)) by omega)]
    refine ev_succ ?_
    unfold fitFrom
    by_cases hle : e + lg ≤ fr
    · simp only [spec_FitWindow.j2, w64 (n := e + lg) (by omega) (by omega), if_pos hle, Option.bind_some, if_pos (show (0 : Int) ≤ (i : Int) by omega), if_pos (show (i : Int) ≤ (xs.length : Int) by omega), Int.toNat_natCast, List.nil_append, List.length_append, List.length_cons, List.length_nil, List.length_drop, List.length_take]
      rw [if_pos (show 0 + 1 + (xs.length - i) < 5864062014805 by omega), if_pos (show 0 + min i xs.length < 5864062014805 by omega), if_pos (show 0 + min i xs.length + (0 + 1 + (xs.length - i)) < 5864062014805 by omega)]
      exact ev_now _
    · simp only [spec_FitWindow.j2, w64 (n := e + lg) (by omega) (by omega), if_neg hle, if_neg (show ¬ ((i : Int) < (xs.length : Int)) by omega), w64s i (by omega)]
      refine ev_succ ?_
      simp only [spec_FitWindow.l0, if_neg (show ¬ ((i + 1 : Nat) : Int) ≤ (xs.length : Int) by omega)]
      exact ev_now _
  | succ d ih =>
    intro i e h h0 h1
    have hi : i < xs.length := by omega
    have hw := hat i hi
    change (0 ≤ (rd_T62 xs (i : Int)).f0 ∧ _) ∧ (0 ≤ (rd_T62 xs (i : Int)).f1 ∧ (rd_T62 xs (i : Int)).f1 + (rd_T62 xs (i : Int)).f2 ≤ fr) ∧ (1 ≤ (rd_T62 xs (i : Int)).f2 ∧ (rd_T62 xs (i : Int)).f2 ≤ 10000) at hw
    refine ev_succ ?_
    simp only [spec_FitWindow.l0, if_pos (show (i : Int) ≤ (xs.length : Int) by omega), if_pos (show ((i : Int) < (xs.length : Int)) by omega), if_pos (show (0 : Int) ≤ (i : Int) by omega)]
    refine ev_succ ?_
    unfold fitFrom
    by_cases hle : e + lg ≤ (wnAt xs i).f1
    · have hle' : e + lg ≤ (rd_T62 xs (i : Int)).f1 := hle
      simp only [if_pos hle]
      simp only [spec_FitWindow.j2, w64 (n := e + lg) (by omega) (by omega), if_pos hle', Option.bind_some, if_pos (show (0 : Int) ≤ (i : Int) by omega), if_pos (show (i : Int) ≤ (xs.length : Int) by omega), Int.toNat_natCast, List.nil_append, List.length_append, List.length_cons, List.length_nil, List.length_drop, List.length_take]
      rw [if_pos (show 0 + 1 + (xs.length - i) < 5864062014805 by omega), if_pos (show 0 + min i xs.length < 5864062014805 by omega), if_pos (show 0 + min i xs.length + (0 + 1 + (xs.length - i)) < 5864062014805 by omega)]
      exact ev_now _
    · have hle' : ¬ e + lg ≤ (rd_T62 xs (i : Int)).f1 := hle
      simp only [if_neg hle]
      simp only [spec_FitWindow.j2, w64 (n := e + lg) (by omega) (by omega), if_neg hle', if_pos (show ((i : Int) < (xs.length : Int)) by omega), if_pos (show (0 : Int) ≤ (i : Int) by omega), w64s i (by omega), w64 (n := (rd_T62 xs (i : Int)).f1 + (rd_T62 xs (i : Int)).f2) (by omega) (by omega)]
      exact ih (i + 1) _ (by omega) (by omega) (by omega)
theorem spec_Fit_ev (fr pa : Int) (xs : List Wn) (p lg : Int) (hn : xs.length ≤ 1048576) : Ev (fun k => spec_FitWindow.f k fr pa xs p lg) (fr, pa, (fit17 fr pa xs p lg).1, (fit17 fr pa xs p lg).2) := by
  simp only [spec_FitWindow.f, Option.bind_some, List.length_nil, List.nil_append]
  simp only [if_pos (show 0 + xs.length < 5864062014805 by omega)]
  refine (spec_PlanOk_ev fr pa xs (by omega)).bind ?_
  have ht : Ev (fun k => spec_FitWindow.j0 k p lg true fr pa xs fr pa xs) (fr, pa, xs, false) := by
    refine ev_succ ?_
    simpa only [spec_FitWindow.j0, if_true] using ev_now _
  unfold fit17
  cases hp : planB fr pa xs with
  | false => simpa using ht
  | true =>
    obtain ⟨hf, hpa, hl, hat⟩ := planB_at hp
    simp only [if_true, Bool.true_and, spec_in_eq, Option.bind_some, w64 (n := pa - 1) (by omega) (by omega)]
    by_cases h40 : (xs.length : Int) = 40
    · simpa [h40] using ht
    · cases hi : inB p 0 (pa - 1) with
      | false => simpa [h40] using ht
      | true =>
        cases hg : inB lg 1 10000 with
        | false => simpa [h40] using ht
        | true =>
          simp only [if_neg h40, if_true, Bool.not_true, decide_false, Bool.not_false, Bool.and_self, h40]
          refine ev_succ ?_
          simp only [spec_FitWindow.j0, Bool.false_eq_true, if_false]
          exact spec_Fit_l fr pa p lg xs hp (inB_iff.1 hg) xs.length 0 0 (by omega) (by omega) (by omega)
theorem impl_Fit_l (fr pa p lg : Int) (xs : List Wn) (hp : planB fr pa xs = true) (hlg : 1 ≤ lg ∧ lg ≤ 10000) (d : Nat) : ∀ (i : Nat) (e : Int), i + d = xs.length → 0 ≤ e → e ≤ fr →
    Ev (fun k => impl_FitWindow.l0 k p lg e ((xs.length : Int) + 1) (i : Int) fr pa xs fr pa xs) (fr, pa, (fitFrom fr p lg xs d i e).1, (fitFrom fr p lg xs d i e).2) := by
  obtain ⟨hf, hpa, hn, hat⟩ := planB_at hp
  have hin : ∀ (i : Nat) (e : Int), i ≤ xs.length → impl_Window_48.f xs (i : Int) [⟨p, e, lg⟩] = some (put17 p lg xs i e) := fun i e hi => by
    simp only [impl_Window_48.f, put17, Int.toNat_natCast, List.append_assoc]
    rw [if_pos (by omega), if_pos (by omega), if_pos (show ([⟨p, e, lg⟩] : List Wn).length = 1 from rfl), if_pos (by omega)]
  induction d with
  | zero =>
    intro i e h h0 h1
    refine ev_succ ?_
    simp only [impl_FitWindow.l0, if_pos (show (i : Int) < (xs.length : Int) + 1 by omega), if_neg (show ¬ ((i : Int) < (xs.length : Int)) by omega)]
    refine ev_succ ?_
    unfold fitFrom
    by_cases hle : e + lg ≤ fr
    · simp only [impl_FitWindow.j2, w64 (n := fr - e) (by omega) (by omega), if_pos hle, if_pos (show fr - e ≥ lg by omega), hin i e (by omega), Option.bind_some]
      exact ev_now _
    · simp only [impl_FitWindow.j2, w64 (n := fr - e) (by omega) (by omega), if_neg hle, if_neg (show ¬ fr - e ≥ lg by omega), if_neg (show ¬ ((i : Int) < (xs.length : Int)) by omega), w64s i (by omega)]
      refine ev_succ ?_
      simp only [impl_FitWindow.l0, if_neg (show ¬ ((i + 1 : Nat) : Int) < (xs.length : Int) + 1 by omega)]
      exact ev_now _
  | succ d ih =>
    intro i e h h0 h1
    have hi : i < xs.length := by omega
    have hw := hat i hi
    change (0 ≤ (rd_T62 xs (i : Int)).f0 ∧ _) ∧ (0 ≤ (rd_T62 xs (i : Int)).f1 ∧ (rd_T62 xs (i : Int)).f1 + (rd_T62 xs (i : Int)).f2 ≤ fr) ∧ (1 ≤ (rd_T62 xs (i : Int)).f2 ∧ (rd_T62 xs (i : Int)).f2 ≤ 10000) at hw
    refine ev_succ ?_
    simp only [impl_FitWindow.l0, if_pos (show (i : Int) < (xs.length : Int) + 1 by omega), if_pos (show ((i : Int) < (xs.length : Int)) by omega), if_pos (show (0 : Int) ≤ (i : Int) by omega)]
    refine ev_succ ?_
    unfold fitFrom
    by_cases hle : e + lg ≤ (wnAt xs i).f1
    · have hle' : e + lg ≤ (rd_T62 xs (i : Int)).f1 := hle
      simp only [if_pos hle]
      simp only [impl_FitWindow.j2, w64 (n := (rd_T62 xs (i : Int)).f1 - e) (by omega) (by omega), if_pos (show (rd_T62 xs (i : Int)).f1 - e ≥ lg by omega), hin i e (by omega), Option.bind_some]
      exact ev_now _
    · have hle' : ¬ e + lg ≤ (rd_T62 xs (i : Int)).f1 := hle
      simp only [if_neg hle]
      simp only [impl_FitWindow.j2, w64 (n := (rd_T62 xs (i : Int)).f1 - e) (by omega) (by omega), if_neg (show ¬ (rd_T62 xs (i : Int)).f1 - e ≥ lg by omega), if_pos (show ((i : Int) < (xs.length : Int)) by omega), if_pos (show (0 : Int) ≤ (i : Int) by omega), w64s i (by omega), w64 (n := (rd_T62 xs (i : Int)).f1 + (rd_T62 xs (i : Int)).f2) (by omega) (by omega)]
      exact ih (i + 1) _ (by omega) (by omega) (by omega)
theorem impl_Fit_ev (fr pa : Int) (xs : List Wn) (p lg : Int) (hn : xs.length ≤ 1048576) : Ev (fun k => impl_FitWindow.f k fr pa xs p lg) (fr, pa, (fit17 fr pa xs p lg).1, (fit17 fr pa xs p lg).2) := by
  simp only [impl_FitWindow.f, impl_clonePlan.f, impl_Window_45.f, Option.bind_some, List.length_nil, List.nil_append]
  simp only [if_pos (show 0 + xs.length < 5864062014805 by omega), Option.bind_some]
  refine (impl_PlanOk_ev fr pa xs (by omega)).bind ?_
  have ht : Ev (fun k => impl_FitWindow.j0 k p lg true fr pa xs fr pa xs) (fr, pa, xs, false) := by
    refine ev_succ ?_
    simpa only [impl_FitWindow.j0, if_true] using ev_now _
  unfold fit17
  cases hp : planB fr pa xs with
  | false => simpa using ht
  | true =>
    obtain ⟨hf, hpa, hl, hat⟩ := planB_at hp
    simp only [if_true, Bool.true_and, impl_in_eq, Option.bind_some, w64 (n := pa - 1) (by omega) (by omega)]
    cases hi : inB p 0 (pa - 1) with
    | false => simpa using ht
    | true =>
      cases hg : inB lg 1 10000 with
      | false => simpa using ht
      | true =>
        by_cases h40 : (xs.length : Int) = 40
        · simpa [h40] using ht
        · simp only [if_true, decide_eq_false (show ¬ (xs.length : Int) ≥ 40 by omega), Bool.not_false, Bool.and_self, h40, decide_false]
          refine ev_succ ?_
          simp only [impl_FitWindow.j0, Bool.false_eq_true, if_false, w64 (n := (xs.length : Int) + 1) (by omega) (by omega)]
          exact impl_Fit_l fr pa p lg xs hp (inB_iff.1 hg) xs.length 0 0 (by omega) (by omega) (by omega)
theorem markPlan17_ev (fr pa : Int) (xs : List Wn) (k0 : Int) (h0 : 0 ≤ k0) (h1 : k0 ≤ 1125899906842624) (hn : xs.length ≤ 140737488355328) : Ev (fun k => laws_markPlan17.f k fr pa xs k0) (k0 + 3 * (xs.length : Int), wmarks k0 xs.length) := by
  simp only [laws_markPlan17.f]
  exact (markSWindow_ev xs k0 h0 h1 hn).bind (f := fun _ t => some (t.1, t.2)) (ev_now _)
theorem heldPlan17_ev (fr pa : Int) (n : Nat) (k0 : Int) (h0 : 0 ≤ k0) (h1 : k0 ≤ 1125899906842624) (hn : n ≤ 140737488355328) : Ev (fun k => laws_heldPlan17.f k fr pa (wmarks k0 n) k0) (k0 + 3 * (n : Int)) := by
  simp only [laws_heldPlan17.f]
  refine (heldSWindow_ev n k0 h0 h1 hn).bind (f := fun _ t => if t < 0 then some (-1) else some t) ?_
  simp only [if_neg (show ¬ (k0 + 3 * (n : Int) < 0) by omega)]
  exact ev_now _
theorem FnExactFitWindow (a0_0 : Int) (a0_1 : Int) (l0_2 : List (S85)) (a1 : Int) (a2 : Int) (g0 : ((Lit.int .i64 a0_0).wf = true ∧ (Lit.int .i64 a0_1).wf = true ∧ (l0_2.length * 24 ≤ 140737488351232 ∧ ∀ x ∈ l0_2, ((Lit.int .i64 x.f0).wf = true ∧ (Lit.int .i64 x.f1).wf = true ∧ (Lit.int .i64 x.f2).wf = true)))) (g1 : (Lit.int .i64 a1).wf = true) (g2 : (Lit.int .i64 a2).wf = true) : ∃ k, laws_FnExactFitWindow.f k a0_0 a0_1 l0_2 a1 a2 = some true := by
  have hn : l0_2.length ≤ 11728124029610 := by omega
  refine Ev.rounds ?_
  simp only [laws_FnExactFitWindow.f, szPlan17_eq a0_0 a0_1 l0_2 (by omega), Option.bind_some]
  by_cases hs : (1048576 : Int) - (l0_2.length : Int) < 0
  · simp only [if_pos hs, if_pos (show (-1 : Int) < 0 by omega)]
    exact ev_now _
  · simp only [if_neg hs]
    have hl : (l0_2.map convWindow).length ≤ 1048576 := by rw [List.length_map]; omega
    have him := impl_Fit_ev a0_0 a0_1 (l0_2.map convWindow) a1 a2 hl
    have hsp := spec_Fit_ev a0_0 a0_1 (l0_2.map convWindow) a1 a2 hl
    have hln := fit17_len a0_0 a0_1 (l0_2.map convWindow) a1 a2
    generalize fit17 a0_0 a0_1 (l0_2.map convWindow) a1 a2 = g at him hsp hln
    obtain ⟨ys, b⟩ := g
    simp only at him hsp hln
    have hself := eqPlan17_self a0_0 a0_1 ys (by omega)
    refine (toPlan17_ev a0_0 a0_1 l0_2 hn).bind ?_
    refine hsp.bind ?_
    refine (toPlan17_ev a0_0 a0_1 l0_2 hn).bind ?_
    refine him.bind ?_
    refine hself.bind ?_
    simp only [if_true, bne_self_eq_false]
    refine ev_succ ?_
    simp only [laws_FnExactFitWindow.j0, Bool.false_eq_true, if_false]
    refine (toPlan17_ev a0_0 a0_1 l0_2 hn).bind ?_
    refine (eqPlan17_self a0_0 a0_1 _ (by omega)).bind ?_
    simp only [if_true]
    refine (markPlan17_ev a0_0 a0_1 _ 1 (by omega) (by omega) (by omega)).bind ?_
    simp only [if_neg (show ¬ ((1 : Int) + 3 * ((l0_2.map convWindow).length : Int) < 0) by omega)]
    refine hself.bind ?_
    simp only [if_true, bne_self_eq_false]
    refine ev_succ ?_
    simp only [laws_FnExactFitWindow.j1, Bool.false_eq_true, if_false]
    refine (markPlan17_ev a0_0 a0_1 ys 1 (by omega) (by omega) (by omega)).bind ?_
    refine (heldPlan17_ev a0_0 a0_1 ys.length 1 (by omega) (by omega) (by omega)).bind ?_
    simp only [if_neg (show ¬ ((1 : Int) + 3 * (ys.length : Int) < 0) by omega), if_true]
    refine (toPlan17_ev a0_0 a0_1 l0_2 hn).bind ?_
    refine him.bind ?_
    refine hself.bind ?_
    simp only [if_true, bne_self_eq_false]
    refine ev_succ ?_
    simp only [laws_FnExactFitWindow.j2, Bool.false_eq_true, if_false]
    refine (heldPlan17_ev a0_0 a0_1 ys.length 1 (by omega) (by omega) (by omega)).bind ?_
    simp only [if_neg (show ¬ ((1 : Int) + 3 * (ys.length : Int) < 0) by omega), if_true]
    exact ev_now _
end Go.Proofs.Ytlkphaahkhfgoaa.Pure
