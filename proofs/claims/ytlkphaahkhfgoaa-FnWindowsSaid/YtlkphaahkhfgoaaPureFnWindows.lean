/- A drawn plan: what each partition has is what it owns; the plan comes over and over; a window that is fitted in takes no other's tick; idle ticks are owned ticks. No condition. -/
import Derived.Test.YtlkphaahkhfgoaaPFnWindowsx8
import Derived.Test.YtlkphaahkhfgoaaBase
set_option linter.unusedVariables false
set_option linter.unusedSimpArgs false
namespace Go.Proofs.Ytlkphaahkhfgoaa.Pure
open Go.RowKit Go.Proofs.Ytlkphaahkhfgoaa.PFnWindows Go.Proofs.Ytlkphaahkhfgoaa.Base Go.Proofs.YtlkphaahkhfgoaaW.PrintWords Go.Proofs.YtlkphaahkhfgoaaW.PrintLast
theorem impl_in_eq (a b c : Int) : impl_in.f a b c = some (inB a b c) := in_form a b c
/-! A plan of windows. -/
abbrev Wn := S62
abbrev wnAt (xs : List Wn) (i : Int) : Wn := rd_T62 xs i
def planFrom (fr pa : Int) (xs : List Wn) : Nat → Nat → Int → Bool
  | 0, _, _ => true
  | d + 1, i, e => inB (wnAt xs i).f0 0 (pa - 1) && (inB (wnAt xs i).f2 1 10000 && (inB (wnAt xs i).f1 e (fr - (wnAt xs i).f2) && planFrom fr pa xs d (i + 1) ((wnAt xs i).f1 + (wnAt xs i).f2)))
def planB (fr pa : Int) (xs : List Wn) : Bool := inB fr 1 100000 && (inB pa 1 10 && (decide ((xs.length : Int) ≤ 40) && planFrom fr pa xs xs.length 0 0))
theorem planFrom_at {fr pa : Int} {xs : List Wn} (d : Nat) : ∀ (i : Nat) (e : Int), 0 ≤ e → planFrom fr pa xs d i e = true → ∀ j : Nat, i ≤ j → j < i + d → (0 ≤ (wnAt xs j).f0 ∧ (wnAt xs j).f0 ≤ pa - 1) ∧ (0 ≤ (wnAt xs j).f1 ∧ (wnAt xs j).f1 + (wnAt xs j).f2 ≤ fr) ∧ (1 ≤ (wnAt xs j).f2 ∧ (wnAt xs j).f2 ≤ 10000) := by
  induction d with
  | zero => intro i e _ _ j h1 h2; omega
  | succ d ih =>
    intro i e he h j h1 h2
    simp only [planFrom, Bool.and_eq_true, inB_iff] at h
    rcases Nat.eq_or_lt_of_le h1 with rfl | h1
    · omega
    · exact ih (i + 1) _ (by omega) h.2.2.2 j h1 (by omega)
theorem planB_at {fr pa : Int} {xs : List Wn} (h : planB fr pa xs = true) : (1 ≤ fr ∧ fr ≤ 100000) ∧ (1 ≤ pa ∧ pa ≤ 10) ∧ xs.length ≤ 40 ∧ ∀ j : Nat, j < xs.length → (0 ≤ (wnAt xs j).f0 ∧ (wnAt xs j).f0 ≤ pa - 1) ∧ (0 ≤ (wnAt xs j).f1 ∧ (wnAt xs j).f1 + (wnAt xs j).f2 ≤ fr) ∧ (1 ≤ (wnAt xs j).f2 ∧ (wnAt xs j).f2 ≤ 10000) := by
  simp only [planB, Bool.and_eq_true, inB_iff, decide_eq_true_eq] at h
  exact ⟨h.1, h.2.1, by omega, fun j hj => planFrom_at xs.length 0 0 (by omega) h.2.2.2 j (by omega) (by omega)⟩
theorem impl_PlanOk_l (fr pa : Int) (xs : List Wn) (hn : xs.length ≤ 140737488355328) (d : Nat) : ∀ (i : Nat) (e : Int), i + d = xs.length → ∃ v, Ev (fun k => impl_PlanOk.l0 k e xs (xs.length : Int) (i : Int) fr pa xs) v ∧ (v = true → (inB fr 1 100000 = true ∧ inB pa 1 10 = true)) ∧ (inB fr 1 100000 = true → inB pa 1 10 = true → 0 ≤ e → e ≤ fr → v = (decide ((xs.length : Int) ≤ 40) && planFrom fr pa xs d i e)) := by
  induction d with
  | zero =>
    intro i e h
    refine ⟨inB fr 1 100000 && (inB pa 1 10 && decide ((xs.length : Int) ≤ 40)), ev_succ ?_, ?_, ?_⟩
    · simp only [impl_PlanOk.l0, if_neg (show ¬ ((i : Int) < (xs.length : Int)) by omega), impl_in_eq, Option.bind_some]
      cases inB fr 1 100000 <;> cases inB pa 1 10 <;> simpa using ev_now _
    · intro hv
      simp only [Bool.and_eq_true] at hv
      exact ⟨hv.1, hv.2.1⟩
    · intro h1 h2 _ _
      simp [h1, h2, planFrom]
  | succ d ih =>
    intro i e h
    by_cases hgood : inB fr 1 100000 = true ∧ inB pa 1 10 = true ∧ 0 ≤ e ∧ e ≤ fr
    · obtain ⟨g1, g2, g3, g4⟩ := hgood
      have g1' := inB_iff.1 g1
      have g2' := inB_iff.1 g2
      have hun : (fun k => impl_PlanOk.l0 (k + 1) e xs (xs.length : Int) (i : Int) fr pa xs) = fun k => if inB (wnAt xs i).f0 0 (pa - 1) = true then (if inB (wnAt xs i).f2 1 10000 = true then (if (wnAt xs i).f1 < e then some false else (if (wnAt xs i).f1 > wrap64 (fr - (wnAt xs i).f2) then some false else impl_PlanOk.l0 k (wrap64 ((wnAt xs i).f1 + (wnAt xs i).f2)) xs (xs.length : Int) ((i + 1 : Nat) : Int) fr pa xs)) else some false) else some false := by
        funext k
        simp only [impl_PlanOk.l0, if_pos (show ((i : Int) < (xs.length : Int)) by omega), if_pos (show (0 : Int) ≤ (i : Int) by omega), impl_in_eq, Option.bind_some, w64s i (by omega), w64 (n := pa - 1) (by omega) (by omega)]
      have hpf : planFrom fr pa xs (d + 1) i e = (inB (wnAt xs i).f0 0 (pa - 1) && (inB (wnAt xs i).f2 1 10000 && (inB (wnAt xs i).f1 e (fr - (wnAt xs i).f2) && planFrom fr pa xs d (i + 1) ((wnAt xs i).f1 + (wnAt xs i).f2)))) := rfl
      rw [hpf]
      have hgo : ∀ v, Ev (fun k => impl_PlanOk.l0 (k + 1) e xs (xs.length : Int) (i : Int) fr pa xs) v → Ev (fun k => impl_PlanOk.l0 k e xs (xs.length : Int) (i : Int) fr pa xs) v := fun v hv => ev_succ hv
      rw [hun] at hgo
      generalize wnAt xs i = x at hgo ⊢
      cases x1 : inB x.f0 0 (pa - 1) with
      | false => exact ⟨false, hgo _ (by simpa [x1] using ev_now false), by simp, by simp⟩
      | true =>
        cases x2 : inB x.f2 1 10000 with
        | false => exact ⟨false, hgo _ (by simpa [x1, x2] using ev_now false), by simp, by simp⟩
        | true =>
          have x2' := inB_iff.1 x2
          have w1 : wrap64 (fr - x.f2) = fr - x.f2 := w64 (by omega) (by omega)
          cases x3 : inB x.f1 e (fr - x.f2) with
          | false =>
            refine ⟨false, hgo _ ?_, by simp, by simp⟩
            rw [Bool.eq_false_iff, ne_eq, inB_iff] at x3
            simp only [x1, x2, if_true, w1]
            by_cases x4 : x.f1 < e
            · simpa only [if_pos x4] using ev_now false
            · simpa only [if_neg x4, if_pos (show x.f1 > fr - x.f2 by omega)] using ev_now false
          | true =>
            rw [inB_iff] at x3
            have w2 : wrap64 (x.f1 + x.f2) = x.f1 + x.f2 := w64 (by omega) (by omega)
            obtain ⟨v, hv, hr1, hr2⟩ := ih (i + 1) (x.f1 + x.f2) (by omega)
            refine ⟨v, hgo _ ?_, hr1, ?_⟩
            · simpa only [x1, x2, if_true, w1, w2, if_neg (show ¬ x.f1 < e by omega), if_neg (show ¬ x.f1 > fr - x.f2 by omega)] using hv
            · intro _ _ _ _
              rw [hr2 g1 g2 (by omega) (by omega)]
              simp
    · have hbad : ∀ v, Ev (fun k => impl_PlanOk.l0 k e xs (xs.length : Int) (i : Int) fr pa xs) v ∧ (v = true → (inB fr 1 100000 = true ∧ inB pa 1 10 = true)) → ∃ v, Ev (fun k => impl_PlanOk.l0 k e xs (xs.length : Int) (i : Int) fr pa xs) v ∧ (v = true → (inB fr 1 100000 = true ∧ inB pa 1 10 = true)) ∧ (inB fr 1 100000 = true → inB pa 1 10 = true → 0 ≤ e → e ≤ fr → v = (decide ((xs.length : Int) ≤ 40) && planFrom fr pa xs (d + 1) i e)) :=
        fun v h => ⟨v, h.1, h.2, fun a b c f => absurd ⟨a, b, c, f⟩ hgood⟩
      have hex : ∃ v, Ev (fun k => impl_PlanOk.l0 k e xs (xs.length : Int) (i : Int) fr pa xs) v ∧ (v = true → (inB fr 1 100000 = true ∧ inB pa 1 10 = true)) := by
        have hgo : ∀ v, Ev (fun k => impl_PlanOk.l0 (k + 1) e xs (xs.length : Int) (i : Int) fr pa xs) v → Ev (fun k => impl_PlanOk.l0 k e xs (xs.length : Int) (i : Int) fr pa xs) v := fun v hv => ev_succ hv
        simp only [impl_PlanOk.l0, if_pos (show ((i : Int) < (xs.length : Int)) by omega), if_pos (show (0 : Int) ≤ (i : Int) by omega), impl_in_eq, Option.bind_some, w64s i (by omega)] at hgo
        cases x1 : inB (rd_T62 xs i).f0 0 (wrap64 (pa - 1)) with
        | false => exact ⟨false, hgo _ (by simpa [x1] using ev_now false), by simp⟩
        | true =>
          cases x2 : inB (rd_T62 xs i).f2 1 10000 with
          | false => exact ⟨false, hgo _ (by simpa [x1, x2] using ev_now false), by simp⟩
          | true =>
            by_cases x3 : (rd_T62 xs i).f1 < e
            · exact ⟨false, hgo _ (by simpa only [x1, x2, if_true, if_pos x3] using ev_now false), by simp⟩
            · by_cases x4 : (rd_T62 xs i).f1 > wrap64 (fr - (rd_T62 xs i).f2)
              · exact ⟨false, hgo _ (by simpa only [x1, x2, if_true, if_neg x3, if_pos x4] using ev_now false), by simp⟩
              · obtain ⟨v, hv, hr1, _⟩ := ih (i + 1) (wrap64 ((rd_T62 xs i).f1 + (rd_T62 xs i).f2)) (by omega)
                exact ⟨v, hgo _ (by simpa only [x1, x2, if_true, if_neg x3, if_neg x4] using hv), hr1⟩
      obtain ⟨v, hv⟩ := hex
      exact hbad v hv
theorem impl_PlanOk_ev (fr pa : Int) (xs : List Wn) (hn : xs.length ≤ 140737488355328) : Ev (fun k => impl_PlanOk.f k fr pa xs) (planB fr pa xs) := by
  obtain ⟨v, hv, h1, h2⟩ := impl_PlanOk_l fr pa xs hn xs.length 0 0 (by omega)
  have e : v = planB fr pa xs := by
    unfold planB
    cases x1 : inB fr 1 100000 with
    | false => cases v with
      | false => rfl
      | true => have := h1 rfl; simp [x1] at this
    | true =>
      cases x2 : inB pa 1 10 with
      | false => cases v with
        | false => rfl
        | true => have := h1 rfl; simp [x2] at this
      | true => have x1' := inB_iff.1 x1; rw [h2 x1 x2 (by omega) (by omega)]; simp
  rw [← e]
  exact hv
/-! Who owns a tick. -/
def ownerFrom (xs : List Wn) (t : Int) : Nat → Nat → Int
  | 0, _ => -1
  | d + 1, i => if (wnAt xs i).f1 ≤ t ∧ t < (wnAt xs i).f1 + (wnAt xs i).f2 then (wnAt xs i).f0 else ownerFrom xs t d (i + 1)
theorem impl_owner_l (fr pa t : Int) (xs : List Wn) (hb : planB fr pa xs = true) (d : Nat) : ∀ i : Nat, i + d = xs.length → Ev (fun k => impl_owner.l0 k t xs (xs.length : Int) (i : Int)) (ownerFrom xs t d i) := by
  obtain ⟨hf, hp, hl, ha⟩ := planB_at hb
  induction d with
  | zero =>
    intro i h
    refine ev_succ ?_
    simp only [impl_owner.l0, if_neg (show ¬ ((i : Int) < (xs.length : Int)) by omega)]
    exact ev_now _
  | succ d ih =>
    intro i h
    have hi := ih (i + 1) (by omega)
    have ha := ha i (by omega)
    refine ev_succ ?_
    simp only [impl_owner.l0, if_pos (show ((i : Int) < (xs.length : Int)) by omega), if_pos (show (0 : Int) ≤ (i : Int) by omega), w64s i (by omega)]
    unfold ownerFrom
    show Ev _ (if (rd_T62 xs (i : Int)).f1 ≤ t ∧ t < (rd_T62 xs (i : Int)).f1 + (rd_T62 xs (i : Int)).f2 then (rd_T62 xs (i : Int)).f0 else ownerFrom xs t d (i + 1))
    change (0 ≤ (rd_T62 xs (i : Int)).f0 ∧ (rd_T62 xs (i : Int)).f0 ≤ pa - 1) ∧ (0 ≤ (rd_T62 xs (i : Int)).f1 ∧ (rd_T62 xs (i : Int)).f1 + (rd_T62 xs (i : Int)).f2 ≤ fr) ∧ (1 ≤ (rd_T62 xs (i : Int)).f2 ∧ (rd_T62 xs (i : Int)).f2 ≤ 10000) at ha
    generalize rd_T62 xs (i : Int) = x at ha ⊢
    rw [w64 (n := x.f1 + x.f2) (by omega) (by omega)]
    by_cases hx : x.f1 ≤ t ∧ t < x.f1 + x.f2
    · simpa only [if_pos (show t ≥ x.f1 by omega), if_pos hx.2, if_pos hx] using ev_now _
    · rw [if_neg hx]
      by_cases h1 : t ≥ x.f1
      · simpa only [if_pos h1, if_neg (show ¬ t < x.f1 + x.f2 by omega)] using hi
      · simpa only [if_neg h1] using hi
def owner17 (fr pa : Int) (xs : List Wn) (t : Int) : Int × Bool := if (planB fr pa xs && inB t 0 100000000) = true then (ownerFrom xs (Int.tmod t fr) xs.length 0, true) else (-1, false)
theorem impl_Owner_ev (fr pa : Int) (xs : List Wn) (t : Int) (hn : xs.length ≤ 140737488355328) : Ev (fun k => impl_Owner.f k fr pa xs t) (owner17 fr pa xs t) := by
  simp only [impl_Owner.f, impl_isTick.f, impl_in_eq, Option.bind_some]
  refine (impl_PlanOk_ev fr pa xs hn).bind ?_
  unfold owner17
  cases x1 : planB fr pa xs with
  | false => simpa using ev_now _
  | true =>
    cases x2 : inB t 0 100000000 with
    | false => simpa using ev_now _
    | true =>
      obtain ⟨hf, _⟩ := planB_at x1
      simp only [if_true, Bool.and_self, impl_owner.f, if_neg (show ¬ fr = 0 by omega)]
      exact (impl_owner_l fr pa _ xs x1 xs.length 0 (by omega)).bind (f := fun _ t => some (t, true)) (ev_now _)
/-! Share: what a partition has, and its greatest gap. -/
def sum17 (xs : List Wn) : Int := (xs.map fun x => x.f2).sum
def gapI : Int → Int → List Wn → Int
  | _, g, [] => g
  | e, g, x :: xs => gapI (x.f1 + x.f2) (mx g (x.f1 - e)) xs
def gapS (first fr : Int) : Int → List Wn → Int
  | g, [] => g
  | g, [x] => mx g (first + fr - x.f1 - x.f2)
  | g, x :: y :: r => gapS first fr (mx g (y.f1 - x.f1 - x.f2)) (y :: r)
def last17 : Wn → List Wn → Wn
  | x, [] => x
  | _, y :: r => last17 y r
theorem mx_mx (a b c : Int) : mx (mx a b) c = mx (mx a c) b := by
  unfold mx; omega
theorem gapI_mx (xs : List Wn) : ∀ e g h, gapI e (mx g h) xs = mx (gapI e g xs) h := by
  induction xs with
  | nil => intro e g h; rfl
  | cons x xs ih => intro e g h; simp only [gapI]; rw [mx_mx, ih]
theorem gapS_gapI (first fr : Int) (xs : List Wn) : ∀ g x, gapS first fr g (x :: xs) = mx (gapI (x.f1 + x.f2) g xs) (first + fr - (last17 x xs).f1 - (last17 x xs).f2) := by
  induction xs with
  | nil => intro g x; rfl
  | cons y xs ih =>
    intro g x
    simp only [gapS, gapI, last17]
    rw [ih, show y.f1 - (x.f1 + x.f2) = y.f1 - x.f1 - x.f2 by omega]
theorem gap17_same (fr : Int) (x : Wn) (xs : List Wn) : gapI ((last17 x xs).f1 + (last17 x xs).f2 - fr) 0 (x :: xs) = gapS x.f1 fr 0 (x :: xs) := by
  rw [gapS_gapI]
  simp only [gapI]
  rw [gapI_mx, show x.f1 - ((last17 x xs).f1 + (last17 x xs).f2 - fr) = x.f1 + fr - (last17 x xs).f1 - (last17 x xs).f2 by omega]
theorem last17_at (xs : List Wn) : ∀ x, wnAt (x :: xs) (((x :: xs).length - 1 : Nat) : Int) = last17 x xs := by
  induction xs with
  | nil => intro x; rfl
  | cons y xs ih =>
    intro x
    rw [last17, ← ih y]
    simp [wnAt, rd_T62]
theorem wnAt_get {xs : List Wn} {i : Nat} (h : i < xs.length) : wnAt xs (i : Int) = xs[i] := by simp [wnAt, rd_T62, List.getD_eq_getElem?_getD, h]
theorem wn_drop {xs : List Wn} {i : Nat} (h : i < xs.length) : xs.drop i = wnAt xs (i : Int) :: xs.drop (i + 1) := by rw [List.drop_eq_getElem_cons h, wnAt_get h]
/-- What windows of a plan are like. -/
def Fit17 (fr : Int) (x : Wn) : Prop := 0 ≤ x.f1 ∧ x.f1 + x.f2 ≤ fr ∧ 1 ≤ x.f2 ∧ x.f2 ≤ 10000
theorem sum17_le {fr : Int} (xs : List Wn) (h : ∀ x ∈ xs, Fit17 fr x) : 0 ≤ sum17 xs ∧ sum17 xs ≤ 10000 * xs.length := by
  induction xs with
  | nil => simp [sum17]
  | cons x xs ih =>
    have h1 := ih (fun y hy => h y (by simp [hy]))
    have h2 := h x (by simp)
    simp only [sum17, List.map_cons, List.sum_cons, List.length_cons, Fit17] at h1 h2 ⊢
    omega
theorem sum17_snoc (xs : List Wn) (x : Wn) : sum17 (xs ++ [x]) = sum17 xs + x.f2 := by simp [sum17]
def mine17 (p : Int) (xs : List Wn) : List Wn := xs.filter fun x => decide (x.f0 = p)
def share17 (fr pa : Int) (xs : List Wn) (p : Int) : Int × Int × Bool :=
  if planB fr pa xs && inB p 0 (pa - 1) then
    match mine17 p xs with
    | [] => (0, fr, true)
    | x :: r => (sum17 (x :: r), gapS x.f1 fr 0 (x :: r), true)
  else (0, 0, false)
theorem mine17_fit {fr pa : Int} {xs : List Wn} (h : planB fr pa xs = true) (p : Int) : ∀ x ∈ mine17 p xs, Fit17 fr x := by
  intro x hx
  obtain ⟨hx, _⟩ := List.mem_filter.1 hx
  obtain ⟨i, hi, rfl⟩ := List.getElem_of_mem hx
  have := (planB_at h).2.2.2 i hi
  rw [wnAt_get hi] at this
  exact ⟨this.2.1.1, this.2.1.2, this.2.2.1, this.2.2.2⟩
theorem mine17_take {p : Int} {xs : List Wn} {i : Nat} (h : i < xs.length) : mine17 p (xs.take (i + 1)) = if (wnAt xs (i : Int)).f0 = p then mine17 p (xs.take i) ++ [wnAt xs (i : Int)] else mine17 p (xs.take i) := by
  unfold mine17
  rw [List.take_succ_eq_append_getElem h, List.filter_append, wnAt_get h]
  by_cases e : (xs[i]).f0 = p <;> simp [e]
theorem impl_Share_l0 (fr : Int) (ms : List Wn) (hf : 0 ≤ fr ∧ fr ≤ 100000) (hm : ∀ x ∈ ms, Fit17 fr x) (hn : ms.length ≤ 40) (d : Nat) : ∀ (i : Nat) (e g : Int), i + d = ms.length → -100000 ≤ e → e ≤ 100000 →
    Ev (fun k => impl_Share.l0 k (sum17 (ms.take i)) e g ms (ms.length : Int) (i : Int)) (sum17 ms, gapI e g (ms.drop i), true) := by
  induction d with
  | zero =>
    intro i e g h h1 h2
    refine ev_succ ?_
    simp only [impl_Share.l0, if_neg (show ¬ ((i : Int) < (ms.length : Int)) by omega)]
    rw [List.drop_of_length_le (by omega), List.take_of_length_le (by omega)]
    exact ev_now _
  | succ d ih =>
    intro i e g h h1 h2
    have hi : i < ms.length := by omega
    have hfi := hm _ (List.getElem_mem hi)
    rw [← wnAt_get hi] at hfi
    change Fit17 fr (rd_T62 ms (i : Int)) at hfi
    obtain ⟨a1, a2, a3, a4⟩ := hfi
    have hle := sum17_le (fr := fr) (ms.take i) (fun x hx => hm x (List.mem_of_mem_take hx))
    have hlen : (ms.take i).length ≤ 40 := Nat.le_trans (List.length_take_le _ _) (by omega)
    refine ev_succ ?_
    simp only [impl_Share.l0, if_pos (show ((i : Int) < (ms.length : Int)) by omega), if_pos (show (0 : Int) ≤ (i : Int) by omega), w64s i (by omega)]
    rw [w64 (n := sum17 (ms.take i) + (rd_T62 ms (i : Int)).f2) (by omega) (by omega), w64 (n := (rd_T62 ms (i : Int)).f1 + (rd_T62 ms (i : Int)).f2) (by omega) (by omega), w64 (n := (rd_T62 ms (i : Int)).f1 - e) (by omega) (by omega)]
    have hs : sum17 (ms.take i) + (rd_T62 ms (i : Int)).f2 = sum17 (ms.take (i + 1)) := by
      rw [List.take_succ_eq_append_getElem hi, sum17_snoc, ← wnAt_get hi]
    rw [hs, wn_drop hi]
    simp only [gapI]
    exact ih (i + 1) _ _ (by omega) (by omega) (by omega)
theorem impl_Share_ev (fr pa : Int) (xs : List Wn) (p : Int) (hn : xs.length ≤ 140737488355328) : Ev (fun k => impl_Share.f k fr pa xs p) (share17 fr pa xs p) := by
  simp only [impl_Share.f]
  refine (impl_PlanOk_ev fr pa xs hn).bind ?_
  have ht : Ev (fun k => impl_Share.j0 k true fr pa xs p) (0, 0, false) := by
    refine ev_succ ?_
    simpa only [impl_Share.j0, if_true] using ev_now _
  unfold share17
  cases hp : planB fr pa xs with
  | false => simpa using ht
  | true =>
    obtain ⟨hf, hpa, hl, hat⟩ := planB_at hp
    simp only [if_true, Bool.true_and, impl_in_eq, Option.bind_some, w64 (n := pa - 1) (by omega) (by omega)]
    cases hi : inB p 0 (pa - 1) with
    | false => simpa using ht
    | true =>
      simp only [if_true, Bool.not_true]
      refine ev_succ ?_
      have hfil : xs.filter (fun x => !(x.f0 != p)) = mine17 p xs := List.filter_congr (fun x _ => by simp only [bne, Bool.not_not]; by_cases e : x.f0 = p <;> simp [e])
      simp only [impl_Share.j0, Bool.false_eq_true, if_false, impl_Window_45.f, Option.bind_some, List.length_nil, List.nil_append, if_pos (show 0 + xs.length < 5864062014805 by omega), slices_DeleteFunc_Share_1.f, if_pos (show xs.length ≤ 1152921504606846976 by omega), hfil]
      have hm := mine17_fit hp p
      have hln : (mine17 p xs).length ≤ 40 := Nat.le_trans (List.length_filter_le _ _) hl
      generalize mine17 p xs = ms at hm hln
      cases ms with
      | nil => simpa using ev_now _
      | cons x r =>
        have hw : wrap64 (((x :: r).length : Int) - 1) = (((x :: r).length - 1 : Nat) : Int) := by rw [w64 (by omega) (by omega)]; simp only [List.length_cons]; omega
        have hlast := last17_at r x
        change rd_T62 (x :: r) _ = _ at hlast
        have hlm : last17 x r ∈ x :: r := by
          rw [← hlast]
          have := wnAt_get (xs := x :: r) (i := (x :: r).length - 1) (by simp)
          change rd_T62 _ _ = _ at this
          rw [this]
          exact List.getElem_mem _
        obtain ⟨a1, a2, a3, a4⟩ := hm _ hlm
        simp only [if_neg (show ¬ (((x :: r).length : Int) = 0) by simp only [List.length_cons]; omega), hw, if_pos (show (0 : Int) ≤ (((x :: r).length - 1 : Nat) : Int) by omega), if_pos (show (((x :: r).length - 1 : Nat) : Int) < ((x :: r).length : Int) by simp only [List.length_cons]; omega), hlast]
        rw [w64 (n := (last17 x r).f1 + (last17 x r).f2) (by omega) (by omega), w64 (n := (last17 x r).f1 + (last17 x r).f2 - fr) (by omega) (by omega), ← gap17_same]
        exact impl_Share_l0 fr (x :: r) (by omega) hm hln (x :: r).length 0 _ 0 (by omega) (by omega) (by omega)
/-! FitWindow: the first place that is wide enough. -/
theorem wnAt_nat {xs : List Wn} {i : Nat} (h : i < xs.length) : wnAt xs (i : Int) = xs[i] := by simp [wnAt, rd_T62, List.getD_eq_getElem?_getD, h]
def put17 (p lg : Int) (xs : List Wn) (i : Nat) (e : Int) : List Wn := xs.take i ++ ([⟨p, e, lg⟩] ++ xs.drop i)
def fitFrom (fr p lg : Int) (xs : List Wn) : Nat → Nat → Int → List Wn × Bool
  | 0, i, e => if e + lg ≤ fr then (put17 p lg xs i e, true) else (xs, false)
  | d + 1, i, e => if e + lg ≤ (wnAt xs i).f1 then (put17 p lg xs i e, true) else fitFrom fr p lg xs d (i + 1) ((wnAt xs i).f1 + (wnAt xs i).f2)
def fit17 (fr pa : Int) (xs : List Wn) (p lg : Int) : List Wn × Bool :=
  if planB fr pa xs && (!decide ((xs.length : Int) = 40) && (inB p 0 (pa - 1) && inB lg 1 10000)) then fitFrom fr p lg xs xs.length 0 0 else (xs, false)
theorem fitFrom_len (fr p lg : Int) (xs : List Wn) (d : Nat) : ∀ i e, i ≤ xs.length → (fitFrom fr p lg xs d i e).1.length ≤ xs.length + 1 := by
  have hp : ∀ i e, (put17 p lg xs i e).length ≤ xs.length + 1 := fun i e => by simp only [put17, List.length_append, List.length_take, List.length_drop, List.length_cons, List.length_nil]; omega
  induction d with
  | zero => intro i e hi; unfold fitFrom; split
            · exact hp i e
            · exact Nat.le_succ _
  | succ d ih =>
    intro i e hi
    unfold fitFrom
    split
    · exact hp i e
    · by_cases h : i + 1 ≤ xs.length
      · exact ih _ _ h
      · -- past the end: the lists are what they are
        clear ih
        have : ∀ (d : Nat) (i : Nat) (e : Int), xs.length ≤ i → (fitFrom fr p lg xs d i e).1.length ≤ xs.length + 1 := by
          intro d
          induction d with
          | zero => intro i e _; unfold fitFrom; split
                    · exact hp i e
                    · exact Nat.le_succ _
          | succ d ih2 => intro i e h2; unfold fitFrom; split
                          · exact hp i e
                          · exact ih2 _ _ (by omega)
        exact this _ _ _ (by omega)
theorem fit17_len (fr pa : Int) (xs : List Wn) (p lg : Int) : (fit17 fr pa xs p lg).1.length ≤ xs.length + 1 := by
  unfold fit17
  split
  · exact fitFrom_len fr p lg xs _ _ _ (Nat.zero_le _)
  · exact Nat.le_succ _
theorem impl_Fit_l (fr pa p lg : Int) (xs : List Wn) (hp : planB fr pa xs = true) (hlg : 1 ≤ lg ∧ lg ≤ 10000) (d : Nat) : ∀ (i : Nat) (e : Int), i + d = xs.length → 0 ≤ e → e ≤ fr →
    Ev (fun k => impl_FitWindow.l0 k p lg e ((xs.length : Int) + 1) (i : Int) fr pa xs fr pa xs) (fr, pa, (fitFrom fr p lg xs d i e).1, (fitFrom fr p lg xs d i e).2) := by
  obtain ⟨hf, hpa, hn, hat⟩ := planB_at hp
  have hin : ∀ (i : Nat) (e : Int), i ≤ xs.length → impl_Window_48.f xs (i : Int) [⟨p, e, lg⟩] = some (put17 p lg xs i e) := fun i e hi => by
    simp only [impl_Window_48.f, put17, Int.toNat_natCast, List.append_assoc]
    rw [if_pos (by omega), if_pos (by omega), if_pos (show ([⟨p, e, lg⟩] : List Wn).length = 1 from rfl), if_pos (by omega)]
  induction d with
  | zero =>
    intro i e h h0 h1
    refine ev_succ ?_
    simp only [impl_FitWindow.l0, if_pos (show (i : Int) < (xs.length : Int) + 1 by omega), if_neg (show ¬ ((i : Int) < (xs.length : Int)) by omega)]
    refine ev_succ ?_
    unfold fitFrom
    by_cases hle : e + lg ≤ fr
    · simp only [impl_FitWindow.j2, w64 (n := fr - e) (by omega) (by omega), if_pos hle, if_pos (show fr - e ≥ lg by omega), hin i e (by omega), Option.bind_some]
      exact ev_now _
    · simp only [impl_FitWindow.j2, w64 (n := fr - e) (by omega) (by omega), if_neg hle, if_neg (show ¬ fr - e ≥ lg by omega), if_neg (show ¬ ((i : Int) < (xs.length : Int)) by omega), w64s i (by omega)]
      refine ev_succ ?_
      simp only [impl_FitWindow.l0, if_neg (show ¬ ((i + 1 : Nat) : Int) < (xs.length : Int) + 1 by omega)]
      exact ev_now _
  | succ d ih =>
    intro i e h h0 h1
    have hi : i < xs.length := by omega
    have hw := hat i hi
    change (0 ≤ (rd_T62 xs (i : Int)).f0 ∧ _) ∧ (0 ≤ (rd_T62 xs (i : Int)).f1 ∧ (rd_T62 xs (i : Int)).f1 + (rd_T62 xs (i : Int)).f2 ≤ fr) ∧ (1 ≤ (rd_T62 xs (i : Int)).f2 ∧ (rd_T62 xs (i : Int)).f2 ≤ 10000) at hw
    refine ev_succ ?_
    simp only [impl_FitWindow.l0, if_pos (show (i : Int) < (xs.length : Int) + 1 by omega), if_pos (show ((i : Int) < (xs.length : Int)) by omega), if_pos (show (0 : Int) ≤ (i : Int) by omega)]
    refine ev_succ ?_
    unfold fitFrom
    by_cases hle : e + lg ≤ (wnAt xs i).f1
    · have hle' : e + lg ≤ (rd_T62 xs (i : Int)).f1 := hle
      simp only [if_pos hle]
      simp only [impl_FitWindow.j2, w64 (n := (rd_T62 xs (i : Int)).f1 - e) (by omega) (by omega), if_pos (show (rd_T62 xs (i : Int)).f1 - e ≥ lg by omega), hin i e (by omega), Option.bind_some]
      exact ev_now _
    · have hle' : ¬ e + lg ≤ (rd_T62 xs (i : Int)).f1 := hle
      simp only [if_neg hle]
      simp only [impl_FitWindow.j2, w64 (n := (rd_T62 xs (i : Int)).f1 - e) (by omega) (by omega), if_neg (show ¬ (rd_T62 xs (i : Int)).f1 - e ≥ lg by omega), if_pos (show ((i : Int) < (xs.length : Int)) by omega), if_pos (show (0 : Int) ≤ (i : Int) by omega), w64s i (by omega), w64 (n := (rd_T62 xs (i : Int)).f1 + (rd_T62 xs (i : Int)).f2) (by omega) (by omega)]
      exact ih (i + 1) _ (by omega) (by omega) (by omega)
theorem impl_Fit_ev (fr pa : Int) (xs : List Wn) (p lg : Int) (hn : xs.length ≤ 1048576) : Ev (fun k => impl_FitWindow.f k fr pa xs p lg) (fr, pa, (fit17 fr pa xs p lg).1, (fit17 fr pa xs p lg).2) := by
  simp only [impl_FitWindow.f, impl_clonePlan.f, impl_Window_45.f, Option.bind_some, List.length_nil, List.nil_append]
  simp only [if_pos (show 0 + xs.length < 5864062014805 by omega), Option.bind_some]
  refine (impl_PlanOk_ev fr pa xs (by omega)).bind ?_
  have ht : Ev (fun k => impl_FitWindow.j0 k p lg true fr pa xs fr pa xs) (fr, pa, xs, false) := by
    refine ev_succ ?_
    simpa only [impl_FitWindow.j0, if_true] using ev_now _
  unfold fit17
  cases hp : planB fr pa xs with
  | false => simpa using ht
  | true =>
    obtain ⟨hf, hpa, hl, hat⟩ := planB_at hp
    simp only [if_true, Bool.true_and, impl_in_eq, Option.bind_some, w64 (n := pa - 1) (by omega) (by omega)]
    cases hi : inB p 0 (pa - 1) with
    | false => simpa using ht
    | true =>
      cases hg : inB lg 1 10000 with
      | false => simpa using ht
      | true =>
        by_cases h40 : (xs.length : Int) = 40
        · simpa [h40] using ht
        · simp only [if_true, decide_eq_false (show ¬ (xs.length : Int) ≥ 40 by omega), Bool.not_false, Bool.and_self, h40, decide_false]
          refine ev_succ ?_
          simp only [impl_FitWindow.j0, Bool.false_eq_true, if_false, w64 (n := (xs.length : Int) + 1) (by omega) (by omega)]
          exact impl_Fit_l fr pa p lg xs hp (inB_iff.1 hg) xs.length 0 0 (by omega) (by omega) (by omega)
theorem dropJob {xs : List S74} {i : Nat} (h : i < xs.length) : xs.drop i = rd_T74 xs (i : Int) :: xs.drop (i + 1) := by
  rw [List.drop_eq_getElem_cons h]
  simp [rd_T74, List.getD_eq_getElem?_getD, h]
/-! Jobs. -/
abbrev Jb := S74
abbrev jbAt (xs : List Jb) (i : Int) : Jb := rd_T74 xs i
abbrev St := List Int × List Int × List Int
def jobB (pa : Int) (x : Jb) : Bool := inB x.f0 0 (pa - 1) && (inB x.f1 1 100000 && inB x.f2 1 100000)
def jobsFrom (pa : Int) (xs : List Jb) : Nat → Nat → Bool
  | 0, _ => true
  | d + 1, i => jobB pa (jbAt xs i) && jobsFrom pa xs d (i + 1)
def arr1 (xs : List Jb) (t i : Int) (s : St) : St :=
  if Int.tmod t (jbAt xs i).f1 = 0 then (if rd s.2.1 i > 0 then s.1.set i.toNat (wrap64 (rd s.1 i + 1)) else s.1, s.2.1.set i.toNat (jbAt xs i).f2, s.2.2.set i.toNat t) else s
def arrFrom (xs : List Jb) (t : Int) : Nat → Nat → St → St
  | 0, _, s => s
  | d + 1, i, s => arrFrom xs t d (i + 1) (arr1 xs t (i : Int) s)
def best1 (xs : List Jb) (who : Int) (s : St) (i b : Int) : Int :=
  if (jbAt xs i).f0 = who then (if rd s.2.1 i > 0 then (if b < 0 then i else if rd s.2.2 i < rd s.2.2 b then i else b) else b) else b
def bestFrom (xs : List Jb) (who : Int) (s : St) : Nat → Nat → Int → Int
  | 0, _, b => b
  | d + 1, i, b => bestFrom xs who s d (i + 1) (best1 xs who s (i : Int) b)
def aft (who : Int) (left : List Int) (idle b : Int) : List Int × Int :=
  if b ≥ 0 then (left.set b.toNat (wrap64 (rd left b - 1)), idle) else if who ≥ 0 then (left, wrap64 (idle + 1)) else (left, idle)
def whoAt (fr : Int) (ws : List Wn) (t : Int) : Int := ownerFrom ws (Int.tmod t fr) ws.length 0
def tickS (fr : Int) (ws : List Wn) (xs : List Jb) (t : Int) (s : St) : St := arrFrom xs t xs.length 0 s
def tickA (fr : Int) (ws : List Wn) (xs : List Jb) (t : Int) (s : St) (idle : Int) : List Int × Int :=
  aft (whoAt fr ws t) (tickS fr ws xs t s).2.1 idle (bestFrom xs (whoAt fr ws t) (tickS fr ws xs t s) xs.length 0 (-1))
def runFrom (fr : Int) (ws : List Wn) (xs : List Jb) : Nat → Nat → St → Int → List Int × Int
  | 0, _, s, idle => (s.1, idle)
  | d + 1, t, s, idle => runFrom fr ws xs d (t + 1) ((tickS fr ws xs t s).1, (tickA fr ws xs t s idle).1, (tickS fr ws xs t s).2.2) (tickA fr ws xs t s idle).2
def okS (n : Nat) (s : St) : Prop := s.1.length = n ∧ s.2.1.length = n ∧ s.2.2.length = n
theorem aft_pos {who : Int} {left : List Int} {idle b : Int} (h : b ≥ 0) : aft who left idle b = (left.set b.toNat (wrap64 (rd left b - 1)), idle) := by unfold aft; rw [if_pos h]
theorem aft_neg1 {who : Int} {left : List Int} {idle b : Int} (h : ¬ b ≥ 0) (h2 : who ≥ 0) : aft who left idle b = (left, wrap64 (idle + 1)) := by unfold aft; rw [if_neg h, if_pos h2]
theorem aft_neg2 {who : Int} {left : List Int} {idle b : Int} (h : ¬ b ≥ 0) (h2 : ¬ who ≥ 0) : aft who left idle b = (left, idle) := by unfold aft; rw [if_neg h, if_neg h2]
theorem arr1_ok {xs : List Jb} {t i : Int} {n : Nat} {s : St} (h : okS n s) : okS n (arr1 xs t i s) := by
  obtain ⟨h1, h2, h3⟩ := h
  unfold arr1
  split
  · refine ⟨?_, by simpa using h2, by simpa using h3⟩
    simp only
    split
    · simpa using h1
    · exact h1
  · exact ⟨h1, h2, h3⟩
theorem arrFrom_ok {xs : List Jb} {t : Int} {n : Nat} (d : Nat) : ∀ (i : Nat) (s : St), okS n s → okS n (arrFrom xs t d i s) := by
  induction d with
  | zero => intro i s h; exact h
  | succ d ih => intro i s h; exact ih (i + 1) _ (arr1_ok h)
theorem aft_len (who : Int) (left : List Int) (idle b : Int) : (aft who left idle b).1.length = left.length := by
  unfold aft
  split
  · simp
  · split <;> rfl
theorem run_len (fr : Int) (ws : List Wn) (xs : List Jb) (n : Nat) (d : Nat) : ∀ (t : Nat) (s : St) (idle : Int), okS n s → (runFrom fr ws xs d t s idle).1.length = n := by
  induction d with
  | zero => intro t s idle h; exact h.1
  | succ d ih =>
    intro t s idle h
    have h' := arrFrom_ok (xs := xs) (t := (t : Int)) xs.length 0 s h
    exact ih (t + 1) _ _ ⟨h'.1, by rw [show (tickA fr ws xs t s idle).1.length = (tickS fr ws xs t s).2.1.length from aft_len _ _ _ _]; exact h'.2.1, h'.2.2⟩
def runB (fr pa : Int) (ws : List Wn) (xs : List Jb) (n : Int) : Bool := planB fr pa ws && (decide ((xs.length : Int) ≤ 20) && (inB n 0 5000 && jobsFrom pa xs xs.length 0))
def run17 (fr pa : Int) (ws : List Wn) (xs : List Jb) (n : Int) : List Int × Int × Bool :=
  if runB fr pa ws xs n = true then ((runFrom fr ws xs n.toNat 0 (List.replicate xs.length 0, List.replicate xs.length 0, List.replicate xs.length 0) 0).1, (runFrom fr ws xs n.toNat 0 (List.replicate xs.length 0, List.replicate xs.length 0, List.replicate xs.length 0) 0).2, true) else ([], 0, false)
theorem run17_len (fr pa : Int) (ws : List Wn) (xs : List Jb) (n : Int) (h : xs.length ≤ 11728124029610) : (run17 fr pa ws xs n).1.length ≤ 11728124029610 := by
  unfold run17
  split
  · simp only
    rw [run_len fr ws xs xs.length n.toNat 0 _ 0 (by simp [okS])]
    exact h
  · simp
theorem jobsFrom_all {pa : Int} {xs : List Jb} (d : Nat) : ∀ i : Nat, i + d = xs.length → jobsFrom pa xs d i = true → ∀ j : Nat, i ≤ j → j < xs.length → jobB pa (jbAt xs j) = true := by
  induction d with
  | zero => intro i h _ j hj hl; omega
  | succ d ih =>
    intro i h hb j hj hl
    simp only [jobsFrom, Bool.and_eq_true] at hb
    by_cases e : j = i
    · subst e; exact hb.1
    · exact ih (i + 1) (by omega) hb.2 j (by omega) hl
theorem best1_in {xs : List Jb} {who : Int} {s : St} {i : Nat} {b : Int} (h : -1 ≤ b ∧ b < (i : Int)) : -1 ≤ best1 xs who s (i : Int) b ∧ best1 xs who s (i : Int) b < ((i + 1 : Nat) : Int) := by
  unfold best1
  repeat' split
  all_goals omega
section
variable (fr pa : Int) (ws : List Wn) (xs : List Jb) (n : Int) (hn : xs.length ≤ 20) (hb : planB fr pa ws = true) (hj : ∀ j : Nat, j < xs.length → jobB pa (jbAt xs j) = true)
include hn
theorem impl_run_l2 (t : Nat) (who : Int) (s : St) (hs : okS xs.length s) (idle : Int) (R : List Int × Int × Bool) (d : Nat) : ∀ (i : Nat) (b : Int), i + d = xs.length → (-1 ≤ b ∧ b < (i : Int)) →
    Ev (fun k => impl_RunJobs.l0 k xs s.1 (aft who s.2.1 idle (bestFrom xs who s d i b)).1 s.2.2 (aft who s.2.1 idle (bestFrom xs who s d i b)).2 n (wrap64 ((t : Int) + 1)) fr pa ws) R →
    Ev (fun k => impl_RunJobs.l2 k xs s.1 s.2.1 s.2.2 idle who b n (t : Int) xs (xs.length : Int) (i : Int) fr pa ws) R := by
  obtain ⟨h1, h2, h3⟩ := hs
  induction d with
  | zero =>
    intro i b h hb hk
    refine ev_succ ?_
    simp only [impl_RunJobs.l2, if_neg (show ¬ ((i : Int) < (xs.length : Int)) by omega)]
    simp only [bestFrom] at hk
    by_cases x : b ≥ 0
    · rw [aft_pos x] at hk
      simp only [if_pos x, if_pos (show 0 ≤ b from x), if_pos (show b < (s.2.1.length : Int) by omega)]
      exact hk
    · by_cases y : who ≥ 0
      · rw [aft_neg1 x y] at hk
        simp only [if_neg x, if_pos y]
        exact hk
      · rw [aft_neg2 x y] at hk
        simp only [if_neg x, if_neg y]
        exact hk
  | succ d ih =>
    intro i b h hb hk
    have hbb := best1_in (xs := xs) (who := who) (s := s) hb
    have hi := ih (i + 1) (best1 xs who s (i : Int) b) (by omega) hbb (by simpa only [bestFrom] using hk)
    simp only [best1, jbAt] at hi
    refine ev_succ ?_
    simp only [impl_RunJobs.l2, if_pos (show ((i : Int) < (xs.length : Int)) by omega), if_pos (show (0 : Int) ≤ (i : Int) by omega), if_pos (show (i : Int) < (s.2.1.length : Int) by omega), if_pos (show (i : Int) < (s.2.2.length : Int) by omega), w64s i (show i < 9223372036854775807 by omega)]
    by_cases a1 : (rd_T74 xs (i : Int)).f0 = who
    · simp only [if_pos a1] at hi ⊢
      by_cases a2 : rd s.2.1 (i : Int) > 0
      · simp only [if_pos a2] at hi ⊢
        by_cases a3 : b < 0
        · simp only [if_pos a3] at hi ⊢
          exact hi
        · simp only [if_neg a3, if_pos (show (0 : Int) ≤ b by omega), if_pos (show b < (s.2.2.length : Int) by omega)] at hi ⊢
          by_cases a4 : rd s.2.2 (i : Int) < rd s.2.2 b
          · simp only [if_pos a4] at hi ⊢; exact hi
          · simp only [if_neg a4] at hi ⊢; exact hi
      · simp only [if_neg a2] at hi ⊢; exact hi
    · simp only [if_neg a1] at hi ⊢; exact hi
include hj hb
theorem impl_run_l1 (t : Nat) (ht : t ≤ 5000) (idle : Int) (R : List Int × Int × Bool) (d : Nat) : ∀ (i : Nat) (s : St), okS xs.length s → i + d = xs.length →
    Ev (fun k => impl_RunJobs.l0 k xs (arrFrom xs t d i s).1 (aft (whoAt fr ws t) (arrFrom xs t d i s).2.1 idle (bestFrom xs (whoAt fr ws t) (arrFrom xs t d i s) xs.length 0 (-1))).1 (arrFrom xs t d i s).2.2 (aft (whoAt fr ws t) (arrFrom xs t d i s).2.1 idle (bestFrom xs (whoAt fr ws t) (arrFrom xs t d i s) xs.length 0 (-1))).2 n (wrap64 ((t : Int) + 1)) fr pa ws) R →
    Ev (fun k => impl_RunJobs.l1 k xs s.1 s.2.1 s.2.2 idle (t : Int) n (t : Int) xs (xs.length : Int) (i : Int) fr pa ws) R := by
  induction d with
  | zero =>
    intro i s hs h hk
    refine ev_succ ?_
    simp only [impl_RunJobs.l1, if_neg (show ¬ ((i : Int) < (xs.length : Int)) by omega)]
    have hl := (planB_at hb).2.2.1
    have hf := (planB_at hb).1
    have ho : Ev (fun k => impl_owner.f k fr pa ws (t : Int)) (whoAt fr ws t) := by
      simp only [impl_owner.f, if_neg (show ¬ fr = 0 by omega)]
      exact impl_owner_l fr pa (Int.tmod (t : Int) fr) ws hb ws.length 0 (by omega)
    exact ho.bind (impl_run_l2 fr pa ws xs n hn t (whoAt fr ws t) s hs idle R xs.length 0 (-1) (by omega) (by omega) hk)
  | succ d ih =>
    intro i s hs h hk
    have hi := ih (i + 1) (arr1 xs (t : Int) (i : Int) s) (arr1_ok hs) (by omega) (by simpa only [arrFrom] using hk)
    obtain ⟨h1, h2, h3⟩ := hs
    have hje := hj i (by omega)
    simp only [jobB, jbAt, Bool.and_eq_true, inB_iff] at hje
    refine ev_succ ?_
    simp only [impl_RunJobs.l1, if_pos (show ((i : Int) < (xs.length : Int)) by omega), if_pos (show (0 : Int) ≤ (i : Int) by omega), if_neg (show ¬ (rd_T74 xs (i : Int)).f1 = 0 by omega), if_pos (show (i : Int) < (s.1.length : Int) by omega), if_pos (show (i : Int) < (s.2.1.length : Int) by omega), if_pos (show (i : Int) < (s.2.2.length : Int) by omega), w64s i (show i < 9223372036854775807 by omega)]
    simp only [arr1, jbAt] at hi
    by_cases a1 : Int.tmod (t : Int) (rd_T74 xs (i : Int)).f1 = 0
    · simp only [if_pos a1] at hi ⊢
      by_cases a2 : rd s.2.1 (i : Int) > 0
      · simp only [if_pos a2] at hi ⊢; exact hi
      · simp only [if_neg a2] at hi ⊢; exact hi
    · simp only [if_neg a1] at hi ⊢; exact hi
theorem impl_run_l0 (hn0 : 0 ≤ n) (hn1 : n ≤ 5000) (d : Nat) : ∀ (t : Nat) (s : St) (idle : Int), okS xs.length s → (t : Int) + d = n → Ev (fun k => impl_RunJobs.l0 k xs s.1 s.2.1 s.2.2 idle n (t : Int) fr pa ws) ((runFrom fr ws xs d t s idle).1, (runFrom fr ws xs d t s idle).2, true) := by
  induction d with
  | zero =>
    intro t s idle hs h
    refine ev_succ ?_
    simp only [impl_RunJobs.l0, if_neg (show ¬ ((t : Int) < n) by omega)]
    exact ev_now _
  | succ d ih =>
    intro t s idle hs h
    refine ev_succ ?_
    simp only [impl_RunJobs.l0, if_pos (show ((t : Int) < n) by omega)]
    refine impl_run_l1 fr pa ws xs n hn hb hj t (by omega) idle _ xs.length 0 s hs (by omega) ?_
    rw [w64s t (by omega)]
    have h' := arrFrom_ok (xs := xs) (t := (t : Int)) xs.length 0 s hs
    exact ih (t + 1) ((tickS fr ws xs t s).1, (tickA fr ws xs t s idle).1, (tickS fr ws xs t s).2.2) (tickA fr ws xs t s idle).2 ⟨h'.1, by rw [show (tickA fr ws xs t s idle).1.length = (tickS fr ws xs t s).2.1.length from aft_len _ _ _ _]; exact h'.2.1, h'.2.2⟩ (by omega)
end
theorem zeros_ok (m : Nat) : okS m (List.replicate m 0, List.replicate m 0, List.replicate m 0) := by simp [okS]
theorem any_bad (pa : Int) (hp : 1 ≤ pa ∧ pa ≤ 10) (xs : List Jb) (d : Nat) : ∀ i : Nat, i + d = xs.length → (xs.drop i).any (badJob pa) = !jobsFrom pa xs d i := by
  induction d with
  | zero => intro i h; rw [List.drop_of_length_le (by omega)]; rfl
  | succ d ih =>
    intro i h
    rw [dropJob (show i < xs.length by omega), List.any_cons, ih (i + 1) (by omega)]
    simp only [jobsFrom, Bool.not_and]
    congr 1
    have e : ∀ a b c : Int, inI a b c = inB a b c := fun a b c => by unfold inI inB; by_cases x : b ≤ a <;> simp [x]
    simp only [badJob, jobB, e, w64 (n := pa - 1) (by omega) (by omega), Bool.not_and]
theorem impl_RunJobs_ev (fr pa : Int) (ws : List Wn) (xs : List Jb) (n : Int) (hw : ws.length ≤ 140737488355328) (hx : xs.length ≤ 140737488355328) : Ev (fun k => impl_RunJobs.f k fr pa ws xs n) (run17 fr pa ws xs n) := by
  have hbad : Ev (fun k => impl_RunJobs.j0 k xs n true fr pa ws) ([], 0, false) := by
    refine ev_succ ?_
    simp only [impl_RunJobs.j0, if_true]
    exact ev_now _
  simp only [impl_RunJobs.f, impl_in_eq, slices_ContainsFunc_RunJobs_1.f, if_pos (show xs.length ≤ 1152921504606846976 by omega), Option.bind_some]
  refine (impl_PlanOk_ev fr pa ws hw).bind ?_
  unfold run17 runB
  cases hb : planB fr pa ws with
  | false => simpa using hbad
  | true =>
    have ha := any_bad pa (planB_at hb).2.1 xs xs.length 0 (by omega)
    rw [List.drop_zero] at ha
    simp only [if_true, Bool.true_and, ha]
    cases hq : jobsFrom pa xs xs.length 0 with
    | false => simpa using hbad
    | true =>
      simp only [Bool.not_true, Bool.false_eq_true, if_false, Bool.and_true]
      by_cases h1 : (xs.length : Int) > 20
      · simp only [if_pos h1, show ¬ ((xs.length : Int) ≤ 20) by omega, decide_false, Bool.false_and, Bool.false_eq_true, if_false]
        exact hbad
      · simp only [if_neg h1, show ((xs.length : Int) ≤ 20) by omega, decide_true, Bool.true_and]
        cases h2 : inB n 0 5000 with
        | false => simpa using hbad
        | true =>
          rw [inB_iff] at h2
          simp only [Bool.not_true, if_true]
          refine ev_succ ?_
          simp only [impl_RunJobs.j0, Bool.false_eq_true, if_false, if_pos (show (0 : Int) ≤ (xs.length : Int) by omega), Int.toNat_natCast, if_pos (show xs.length ≤ 35184372088832 by omega)]
          exact impl_run_l0 fr pa ws xs n (by omega) hb (fun j h' => jobsFrom_all xs.length 0 (by omega) hq j (by omega) h') h2.1 h2.2 n.toNat 0 _ 0 (zeros_ok _) (by omega)
theorem at_ev (l : List Int) (hw : ∀ x ∈ l, 0 ≤ x ∧ x ≤ 255) (hn : l.length ≤ 1048576) (i : Int) (h0 : 0 ≤ i) (h1 : i ≤ 1000) : ∃ v, laws_at.f l i = some v ∧ 0 ≤ v ∧ v ≤ 255 := by
  unfold laws_at.f
  by_cases h : i < (l.length : Int)
  · have := hw _ (rd_mem h0 h)
    refine ⟨rd l i, ?_, this.1, this.2⟩
    rw [if_pos h, if_pos h0, w64 (by omega) (by omega)]
  · refine ⟨_, by rw [if_neg h], ?_, ?_⟩
    · rw [w64 (n := i * 7) (by omega) (by omega), w64 (by omega) (by omega)]
      have := Int.tmod_nonneg 256 (show 0 ≤ i * 7 + (l.length : Int) by omega)
      omega
    · rw [w64 (n := i * 7) (by omega) (by omega), w64 (by omega) (by omega)]
      have := Int.tmod_lt_of_pos (i * 7 + (l.length : Int)) (show (0 : Int) < 256 by omega)
      omega
/-! What is drawn: a cursor over the bytes, at place i, with the number h. -/
def Cur (l : List Int) (i : Int) : Prop := l.length ≤ 1048576 ∧ 0 ≤ i ∧ i ≤ (l.length : Int)
theorem draw_new (l : List Int) (hl : l.length ≤ 1048576) : ∃ h, Ev (fun k => spec_l1New.f k l) (l, 0, h) := by
  have loop : ∀ (d : Nat) (i : Nat) (h : Int), i + d = l.length → ∃ h', Ev (fun k => spec_l1New.l0 k l h (i : Int)) (l, 0, h') := by
    intro d
    induction d with
    | zero =>
      intro i h hi
      refine ⟨h, ev_succ ?_⟩
      simp only [spec_l1New.l0, if_neg (show ¬ ((i : Int) < (l.length : Int)) by omega)]
      exact ev_now _
    | succ d ih =>
      intro i h hi
      by_cases h4 : (i : Int) < 4000
      · obtain ⟨h', hh⟩ := ih (i + 1) (Go.bits .and .i64 (wrap64 ((wrap64 ((wrap64 (h * 131)) + (wrap64 (rd l (i : Int))))) + 7)) 1073741823) (by omega)
        refine ⟨h', ev_succ ?_⟩
        simp only [spec_l1New.l0, if_pos (show ((i : Int) < (l.length : Int)) by omega), if_pos h4, if_pos (show (0 : Int) ≤ (i : Int) by omega), w64s i (by omega)]
        exact hh
      · refine ⟨h, ev_succ ?_⟩
        simp only [spec_l1New.l0, if_pos (show ((i : Int) < (l.length : Int)) by omega), if_neg h4]
        exact ev_now _
  obtain ⟨h', hh⟩ := loop l.length 0 (wrap64 (63063 + (l.length : Int))) (by omega)
  exact ⟨h', by simpa [spec_l1New.f] using hh⟩
theorem draw_byte {l : List Int} {i : Int} (h : Int) (hc : Cur l i) : ∃ v i' h', spec_l1Byte.f l i h = some (v, i', h') ∧ 0 ≤ v ∧ v ≤ 255 ∧ Cur l i' := by
  obtain ⟨h1, h2, h3⟩ := hc
  unfold spec_l1Byte.f
  by_cases e : i < (l.length : Int)
  · rw [if_pos e, if_pos h2]
    have := bits_and_le (wrap64 ((Go.bits .and .i64 (Go.bits .xor .i64 ((wrap64 ((wrap64 (h * 6364136223846793005)) + 1442695040888963407)) / 8589934592) ((wrap64 ((wrap64 (h * 6364136223846793005)) + 1442695040888963407)) / 35184372088832)) 255) + (wrap64 (rd l i)))) 255 (by omega) (by omega)
    exact ⟨_, _, _, rfl, this.1, this.2, h1, by rw [w64 (by omega) (by omega)]; omega, by rw [w64 (by omega) (by omega)]; omega⟩
  · rw [if_neg e]
    have := bits_and_le (Go.bits .xor .i64 ((wrap64 ((wrap64 (h * 6364136223846793005)) + 1442695040888963407)) / 8589934592) ((wrap64 ((wrap64 (h * 6364136223846793005)) + 1442695040888963407)) / 35184372088832)) 255 (by omega) (by omega)
    exact ⟨_, _, _, rfl, this.1, this.2, h1, h2, h3⟩
theorem draw_below {l : List Int} {i : Int} (h n : Int) (hc : Cur l i) (h0 : 0 < n) (h1 : n ≤ 1099511627776) : ∃ v i' h', spec_l1Below.f l i h n = some (v, i', h') ∧ 0 ≤ v ∧ v < n ∧ Cur l i' := by
  unfold spec_l1Below.f
  rw [if_neg (by omega)]
  by_cases e : n ≤ 256
  · obtain ⟨v, i', h', e1, v0, v1, c1⟩ := draw_byte h hc
    rw [if_pos e, e1]
    simp only [Option.bind_some, if_neg (show ¬ n = 0 by omega)]
    exact ⟨_, _, _, rfl, Int.tmod_nonneg _ v0, Int.tmod_lt_of_pos _ h0, c1⟩
  · obtain ⟨v, i', h', e1, v0, v1, c1⟩ := draw_byte h hc
    obtain ⟨v', i2, h2, e2, v2, v3, c2⟩ := draw_byte h' c1
    obtain ⟨v4, i3, h3, e3, v5, v6, c3⟩ := draw_byte h2 c2
    obtain ⟨v7, i4, h4, e4, v8, v9, c4⟩ := draw_byte h3 c3
    rw [if_neg e, e1]
    simp only [Option.bind_some, e2, e3, e4, if_neg (show ¬ n = 0 by omega)]
    refine ⟨_, _, _, rfl, ?_, Int.tmod_lt_of_pos _ h0, c4⟩
    rw [w64 (n := v * 16777216) (by omega) (by omega), w64 (n := v' * 65536) (by omega) (by omega), w64 (n := v4 * 256) (by omega) (by omega), w64 (n := v * 16777216 + v' * 65536) (by omega) (by omega), w64 (n := v * 16777216 + v' * 65536 + v4 * 256) (by omega) (by omega), w64 (by omega) (by omega)]
    exact Int.tmod_nonneg _ (by omega)
/-! Plans as lists. -/
def planL (fr pa : Int) : Int → List Wn → Bool
  | _, [] => true
  | e, x :: r => inB x.f0 0 (pa - 1) && (inB x.f2 1 10000 && (inB x.f1 e (fr - x.f2) && planL fr pa (x.f1 + x.f2) r))
theorem planFrom_L {fr pa : Int} {xs : List Wn} (d : Nat) : ∀ (i : Nat) (e : Int), i + d = xs.length → planFrom fr pa xs d i e = planL fr pa e (xs.drop i) := by
  induction d with
  | zero => intro i e h; rw [List.drop_of_length_le (by omega)]; rfl
  | succ d ih =>
    intro i e h
    rw [wn_drop (show i < xs.length by omega)]
    simp only [planFrom, planL, ih (i + 1) _ (show i + 1 + d = xs.length by omega)]
def ownL : List Wn → Int → Int
  | [], _ => -1
  | x :: r, t => if x.f1 ≤ t ∧ t < x.f1 + x.f2 then x.f0 else ownL r t
theorem ownerFrom_L {xs : List Wn} {t : Int} (d : Nat) : ∀ i : Nat, i + d = xs.length → ownerFrom xs t d i = ownL (xs.drop i) t := by
  induction d with
  | zero => intro i h; rw [List.drop_of_length_le (by omega)]; rfl
  | succ d ih =>
    intro i h
    rw [wn_drop (show i < xs.length by omega)]
    simp only [ownerFrom, ownL, ih (i + 1) (show i + 1 + d = xs.length by omega)]
theorem planL_cons {fr pa e : Int} {x : Wn} {r : List Wn} : planL fr pa e (x :: r) = true ↔ (0 ≤ x.f0 ∧ x.f0 ≤ pa - 1) ∧ (1 ≤ x.f2 ∧ x.f2 ≤ 10000) ∧ (e ≤ x.f1 ∧ x.f1 ≤ fr - x.f2) ∧ planL fr pa (x.f1 + x.f2) r = true := by
  simp only [planL, Bool.and_eq_true, inB_iff]
theorem planL_early {fr pa : Int} (xs : List Wn) : ∀ e t, planL fr pa e xs = true → t < e → ownL xs t = -1 := by
  induction xs with
  | nil => intro e t _ _; rfl
  | cons x r ih =>
    intro e t h ht
    obtain ⟨_, h2, h3, h4⟩ := planL_cons.1 h
    simp only [ownL, if_neg (show ¬ (x.f1 ≤ t ∧ t < x.f1 + x.f2) by omega)]
    exact ih _ t h4 (by omega)
theorem planL_own {fr pa : Int} (xs : List Wn) : ∀ e t, planL fr pa e xs = true → 1 ≤ pa → -1 ≤ ownL xs t ∧ ownL xs t < pa := by
  induction xs with
  | nil => intro e t _ _; simp only [ownL]; omega
  | cons x r ih =>
    intro e t h hp
    obtain ⟨h1, h2, h3, h4⟩ := planL_cons.1 h
    have := ih _ t h4 hp
    simp only [ownL]
    split <;> omega
theorem planL_snoc {fr pa x4 p lg : Int} (xs : List Wn) : ∀ e, planL x4 pa e xs = true → e ≤ x4 → x4 + lg ≤ fr → (0 ≤ p ∧ p ≤ pa - 1) → (1 ≤ lg ∧ lg ≤ 10000) → planL fr pa e (xs ++ [⟨p, x4, lg⟩]) = true := by
  induction xs with
  | nil => intro e _ h1 h2 h3 h4; exact planL_cons.2 ⟨h3, h4, ⟨h1, by simp only; omega⟩, rfl⟩
  | cons x r ih =>
    intro e h h1 h2 h3 h4
    obtain ⟨k1, k2, k3, k4⟩ := planL_cons.1 h
    exact planL_cons.2 ⟨k1, k2, ⟨k3.1, by omega⟩, ih _ k4 (by omega) h2 h3 h4⟩
theorem planL_mono {fr fr' pa : Int} (hf : fr ≤ fr') (xs : List Wn) : ∀ e, planL fr pa e xs = true → planL fr' pa e xs = true := by
  induction xs with
  | nil => intro e _; rfl
  | cons x r ih =>
    intro e h
    obtain ⟨k1, k2, k3, k4⟩ := planL_cons.1 h
    exact planL_cons.2 ⟨k1, k2, ⟨k3.1, by omega⟩, ih _ k4⟩
theorem planL_lower {fr pa : Int} {e e' : Int} (he : e' ≤ e) (xs : List Wn) (h : planL fr pa e xs = true) : planL fr pa e' xs = true := by
  cases xs with
  | nil => rfl
  | cons x r =>
    obtain ⟨k1, k2, k3, k4⟩ := planL_cons.1 h
    exact planL_cons.2 ⟨k1, k2, ⟨by omega, k3.2⟩, k4⟩
theorem planL_filter {fr pa : Int} (p : Wn → Bool) (xs : List Wn) : ∀ e, planL fr pa e xs = true → planL fr pa e (xs.filter p) = true := by
  induction xs with
  | nil => intro e _; rfl
  | cons x r ih =>
    intro e h
    obtain ⟨k1, k2, k3, k4⟩ := planL_cons.1 h
    rw [List.filter_cons]
    split
    · exact planL_cons.2 ⟨k1, k2, k3, ih _ k4⟩
    · exact planL_lower (by omega) _ (ih _ k4)
theorem planB_L {fr pa : Int} {xs : List Wn} : planB fr pa xs = true ↔ (1 ≤ fr ∧ fr ≤ 100000) ∧ (1 ≤ pa ∧ pa ≤ 10) ∧ xs.length ≤ 40 ∧ planL fr pa 0 xs = true := by
  simp only [planB, Bool.and_eq_true, inB_iff, decide_eq_true_eq, planFrom_L (xs := xs) xs.length 0 0 (by omega), List.drop_zero]
  refine and_congr_right fun _ => and_congr_right fun _ => and_congr_left fun _ => ?_
  omega
/-! What a partition has is what it owns. -/
def cnt (xs : List Wn) (k : Int) : Nat → Int
  | 0 => 0
  | T + 1 => cnt xs k T + if ownL xs (T : Int) = k then 1 else 0
def ovl (a b T : Int) : Int := if T ≤ a then 0 else if T ≤ b then T - a else b - a
theorem cnt_nil {k : Int} (hk : 0 ≤ k) (T : Nat) : cnt [] k T = 0 := by
  induction T with
  | zero => rfl
  | succ T ih => have e : ownL [] (T : Int) = -1 := rfl; simp only [cnt, ih, e, if_neg (show ¬ ((-1 : Int) = k) by omega)]; rfl
theorem cnt_cons {fr pa e k : Int} {x : Wn} {r : List Wn} (h : planL fr pa e (x :: r) = true) (he : 0 ≤ e) (hk : 0 ≤ k) (T : Nat) : cnt (x :: r) k T = cnt r k T + if x.f0 = k then ovl x.f1 (x.f1 + x.f2) (T : Int) else 0 := by
  obtain ⟨k1, k2, k3, k4⟩ := planL_cons.1 h
  induction T with
  | zero =>
    simp only [cnt, ovl, if_pos (show ((0 : Nat) : Int) ≤ x.f1 by omega)]
    split <;> rfl
  | succ T ih =>
    have eo : ownL (x :: r) (T : Int) = if x.f1 ≤ (T : Int) ∧ (T : Int) < x.f1 + x.f2 then x.f0 else ownL r (T : Int) := rfl
    simp only [cnt, ih]
    by_cases c : x.f1 ≤ (T : Int) ∧ (T : Int) < x.f1 + x.f2
    · have el := planL_early r _ (T : Int) k4 c.2
      rw [if_pos c] at eo
      simp only [eo, el, if_neg (show ¬ ((-1 : Int) = k) by omega)]
      by_cases e0 : x.f0 = k
      · simp only [if_pos e0, ovl]
        rw [if_neg (show ¬ (((T + 1 : Nat) : Int) ≤ x.f1) by omega), if_pos (show ((T + 1 : Nat) : Int) ≤ x.f1 + x.f2 by omega)]
        split
        · omega
        · rw [if_pos (by omega)]; omega
      · simp only [if_neg e0]
    · rw [if_neg c] at eo
      simp only [eo]
      by_cases e0 : x.f0 = k
      · simp only [if_pos e0, ovl]
        by_cases c1 : (T : Int) < x.f1
        · rw [if_pos (show ((T + 1 : Nat) : Int) ≤ x.f1 by omega), if_pos (show (T : Int) ≤ x.f1 by omega)]; omega
        · have c2 : x.f1 + x.f2 ≤ (T : Int) := by omega
          rw [if_neg (show ¬ (((T + 1 : Nat) : Int) ≤ x.f1) by omega), if_neg (show ¬ (((T + 1 : Nat) : Int) ≤ x.f1 + x.f2) by omega), if_neg (show ¬ ((T : Int) ≤ x.f1) by omega)]
          split <;> omega
      · simp only [if_neg e0]; omega
theorem cnt_share {fr pa k : Int} (hk : 0 ≤ k) (T : Nat) (hT : fr ≤ (T : Int)) (xs : List Wn) : ∀ e, 0 ≤ e → planL fr pa e xs = true → cnt xs k T = sum17 (mine17 k xs) := by
  induction xs with
  | nil => intro e _ _; rw [cnt_nil hk]; rfl
  | cons x r ih =>
    intro e he h
    obtain ⟨k1, k2, k3, k4⟩ := planL_cons.1 h
    rw [cnt_cons h he hk, ih _ (by omega) k4]
    have eo : ovl x.f1 (x.f1 + x.f2) (T : Int) = x.f2 := by
      unfold ovl
      rw [if_neg (by omega)]
      split <;> omega
    rw [eo]
    unfold mine17
    rw [List.filter_cons]
    by_cases e0 : x.f0 = k
    · simp only [if_pos e0, decide_eq_true e0, if_true, sum17, List.map_cons, List.sum_cons]; omega
    · simp only [if_neg e0, decide_eq_false e0, Bool.false_eq_true, if_false]; omega
/-- Ticks that the first p partitions own. -/
def occ (xs : List Wn) (p : Int) : Nat → Int
  | 0 => 0
  | T + 1 => occ xs p T + if 0 ≤ ownL xs (T : Int) ∧ ownL xs (T : Int) < p then 1 else 0
theorem occ_zero (xs : List Wn) (T : Nat) : occ xs 0 T = 0 := by
  induction T with
  | zero => rfl
  | succ T ih => simp only [occ, ih, if_neg (show ¬ (0 ≤ ownL xs (T : Int) ∧ ownL xs (T : Int) < 0) by omega)]; rfl
theorem occ_succ (xs : List Wn) (p : Nat) (T : Nat) : occ xs ((p + 1 : Nat) : Int) T = occ xs (p : Int) T + cnt xs (p : Int) T := by
  induction T with
  | zero => rfl
  | succ T ih =>
    simp only [occ, cnt, ih]
    by_cases e : ownL xs (T : Int) = (p : Int)
    · rw [if_pos e, if_pos (by omega), if_neg (by omega)]; omega
    · rw [if_neg e]
      by_cases c : 0 ≤ ownL xs (T : Int) ∧ ownL xs (T : Int) < (p : Int)
      · rw [if_pos c, if_pos (by omega)]; omega
      · rw [if_neg c, if_neg (by omega)]; omega
theorem occ_le (xs : List Wn) (p : Int) (T : Nat) : 0 ≤ occ xs p T ∧ occ xs p T ≤ (T : Int) := by
  induction T with
  | zero => simp [occ]
  | succ T ih => simp only [occ]; split <;> omega
theorem occ_mono (xs : List Wn) (p : Int) (T d : Nat) : occ xs p T ≤ occ xs p (T + d) := by
  induction d with
  | zero => exact Int.le_refl _
  | succ d ih =>
    rw [show T + (d + 1) = (T + d) + 1 by omega]
    simp only [occ]
    split <;> omega
/-! Gaps. -/
theorem gapS_in {fr pa : Int} (hf : 1 ≤ fr) (first : Int) (xs : List Wn) : ∀ x e g, 0 ≤ first → 0 ≤ e → planL fr pa e (x :: xs) = true → first ≤ x.f1 → (0 ≤ g ∧ g ≤ fr) → 0 ≤ gapS first fr g (x :: xs) ∧ gapS first fr g (x :: xs) ≤ fr := by
  induction xs with
  | nil =>
    intro x e g h0 he h hx hg
    obtain ⟨k1, k2, k3, k4⟩ := planL_cons.1 h
    simp only [gapS, mx]
    split <;> omega
  | cons y r ih =>
    intro x e g h0 he h hx hg
    obtain ⟨k1, k2, k3, k4⟩ := planL_cons.1 h
    obtain ⟨j1, j2, j3, j4⟩ := planL_cons.1 k4
    simp only [gapS]
    refine ih y (x.f1 + x.f2) _ h0 (by omega) k4 (by omega) ?_
    simp only [mx]
    split <;> omega
theorem share_at {fr pa p : Int} {xs : List Wn} (h : planB fr pa xs = true) (hp : 0 ≤ p ∧ p < pa) : ∃ g, share17 fr pa xs p = (sum17 (mine17 p xs), g, true) ∧ 0 ≤ g ∧ g ≤ fr := by
  obtain ⟨h1, h2, h3, h4⟩ := planB_L.1 h
  have hm : planL fr pa 0 (mine17 p xs) = true := planL_filter _ xs 0 h4
  have hi : inB p 0 (pa - 1) = true := inB_iff.2 (by omega)
  unfold share17
  simp only [h, hi, Bool.and_self, if_true]
  cases e : mine17 p xs with
  | nil => exact ⟨fr, rfl, by omega, by omega⟩
  | cons x r =>
    rw [e] at hm
    obtain ⟨k1, k2, k3, k4⟩ := planL_cons.1 hm
    exact ⟨_, rfl, gapS_in h1.1 x.f1 r x 0 0 (by omega) (by omega) hm (by omega) (by omega)⟩
/-! A window fitted in. -/
def fitL (fr p lg : Int) : Int → List Wn → Option (List Wn)
  | e, [] => if e + lg ≤ fr then some [⟨p, e, lg⟩] else none
  | e, x :: r => if e + lg ≤ x.f1 then some (⟨p, e, lg⟩ :: x :: r) else (fitL fr p lg (x.f1 + x.f2) r).map (x :: ·)
theorem fitFrom_L {fr p lg : Int} {xs : List Wn} (d : Nat) : ∀ (i : Nat) (e : Int), i + d = xs.length → fitFrom fr p lg xs d i e = match fitL fr p lg e (xs.drop i) with | some q => (xs.take i ++ q, true) | none => (xs, false) := by
  induction d with
  | zero =>
    intro i e h
    rw [List.drop_of_length_le (show xs.length ≤ i by omega)]
    unfold fitFrom fitL
    split
    · simp [put17, List.drop_of_length_le (show xs.length ≤ i by omega)]
    · rfl
  | succ d ih =>
    intro i e h
    have hi : i < xs.length := by omega
    rw [wn_drop hi]
    unfold fitFrom fitL
    split
    · simp only [put17, wn_drop hi]; rfl
    · rw [ih (i + 1) _ (by omega)]
      cases fitL fr p lg ((wnAt xs (i : Int)).f1 + (wnAt xs (i : Int)).f2) (xs.drop (i + 1)) with
      | none => rfl
      | some q =>
        show (xs.take (i + 1) ++ q, true) = (xs.take i ++ wnAt xs (i : Int) :: q, true)
        rw [List.take_succ_eq_append_getElem hi, wnAt_get hi, List.append_assoc]
        rfl
theorem fitL_ok {fr pa p lg : Int} (hp : 0 ≤ p ∧ p ≤ pa - 1) (hlg : 1 ≤ lg ∧ lg ≤ 10000) (xs : List Wn) : ∀ e q, planL fr pa e xs = true → fitL fr p lg e xs = some q →
    planL fr pa e q = true ∧ q.length = xs.length + 1 ∧ ∀ t, (0 ≤ ownL xs t → ownL q t = ownL xs t) ∧ (ownL xs t < 0 → ownL q t = -1 ∨ ownL q t = p) := by
  induction xs with
  | nil =>
    intro e q _ hq
    unfold fitL at hq
    split at hq
    · cases hq
      refine ⟨planL_cons.2 ⟨hp, hlg, ⟨Int.le_refl _, by simp only; omega⟩, rfl⟩, rfl, fun t => ⟨fun h => by simp [ownL] at h, fun _ => ?_⟩⟩
      simp only [ownL]
      split
      · exact .inr rfl
      · exact .inl rfl
    · cases hq
  | cons x r ih =>
    intro e q h hq
    obtain ⟨k1, k2, k3, k4⟩ := planL_cons.1 h
    unfold fitL at hq
    split at hq
    · rename_i c
      cases hq
      have hx : planL fr pa (e + lg) (x :: r) = true := planL_cons.2 ⟨k1, k2, ⟨c, k3.2⟩, k4⟩
      refine ⟨planL_cons.2 ⟨hp, hlg, ⟨Int.le_refl _, by simp only; omega⟩, hx⟩, rfl, fun t => ?_⟩
      have eq : ownL (⟨p, e, lg⟩ :: x :: r) t = if e ≤ t ∧ t < e + lg then p else ownL (x :: r) t := rfl
      rw [eq]
      by_cases ct : e ≤ t ∧ t < e + lg
      · rw [if_pos ct, planL_early _ _ t hx ct.2]
        exact ⟨fun h => by omega, fun _ => .inr rfl⟩
      · rw [if_neg ct]
        have := planL_own _ _ t hx (by omega)
        exact ⟨fun _ => rfl, fun h => .inl (by omega)⟩
    · cases hf : fitL fr p lg (x.f1 + x.f2) r with
      | none => rw [hf] at hq; cases hq
      | some q' =>
        rw [hf] at hq
        simp only [Option.map_some, Option.some.injEq] at hq
        subst hq
        obtain ⟨i1, i2, i3⟩ := ih _ q' k4 hf
        refine ⟨planL_cons.2 ⟨k1, k2, k3, i1⟩, by simp [i2], fun t => ?_⟩
        have := i3 t
        simp only [ownL]
        split
        · exact ⟨fun _ => rfl, fun h => by omega⟩
        · exact this
theorem fit_at {fr pa lg : Int} {xs : List Wn} (h : planB fr pa xs = true) (hn : xs.length < 40) (hlg : 1 ≤ lg ∧ lg ≤ 10000) (hok : (fit17 fr pa xs 0 lg).2 = true) :
    planB fr pa (fit17 fr pa xs 0 lg).1 = true ∧ ∀ t, (0 ≤ ownL xs t → ownL (fit17 fr pa xs 0 lg).1 t = ownL xs t) ∧ (ownL xs t < 0 → ownL (fit17 fr pa xs 0 lg).1 t ≤ 0) := by
  obtain ⟨h1, h2, h3, h4⟩ := planB_L.1 h
  have hc : (planB fr pa xs && (!decide ((xs.length : Int) = 40) && (inB 0 0 (pa - 1) && inB lg 1 10000))) = true := by
    have h5 : inB 0 0 (pa - 1) = true := inB_iff.2 (by omega)
    have h6 : inB lg 1 10000 = true := inB_iff.2 (by omega)
    have h7 : decide ((xs.length : Int) = 40) = false := decide_eq_false (by omega)
    simp only [h, h5, h6, h7, Bool.not_false, Bool.and_self]
  have e := fitFrom_L (fr := fr) (p := 0) (lg := lg) (xs := xs) xs.length 0 0 (by omega)
  unfold fit17 at hok ⊢
  rw [if_pos hc] at hok ⊢
  rw [e] at hok ⊢
  rw [List.drop_zero] at hok ⊢
  cases hf : fitL fr 0 lg 0 xs with
  | none => rw [hf] at hok; simp at hok
  | some q =>
    obtain ⟨i1, i2, i3⟩ := fitL_ok (pa := pa) (show (0 : Int) ≤ 0 ∧ (0 : Int) ≤ pa - 1 by omega) hlg xs 0 q h4 hf
    simp only [List.take_zero, List.nil_append]
    exact ⟨planB_L.2 ⟨h1, h2, by omega, i1⟩, fun t => ⟨(i3 t).1, fun ht => by have := (i3 t).2 ht; omega⟩⟩
/-! Idle ticks. -/
theorem whoAt_L {fr : Int} {xs : List Wn} {t : Int} (h0 : 0 ≤ t) (h1 : t < fr) : whoAt fr xs t = ownL xs t := by
  unfold whoAt
  rw [Int.tmod_eq_of_lt h0 h1, ownerFrom_L xs.length 0 (by omega), List.drop_zero]
theorem run_idle {fr pa : Int} {ws : List Wn} (h : planB fr pa ws = true) (xs : List Jb) (d : Nat) : ∀ (t : Nat) (s : St) (idle : Int), (t : Int) + d = fr → 0 ≤ idle → idle ≤ (t : Int) →
    idle ≤ (runFrom fr ws xs d t s idle).2 ∧ (runFrom fr ws xs d t s idle).2 ≤ idle + (occ ws pa (t + d) - occ ws pa t) ∧ (xs = [] → (runFrom fr ws xs d t s idle).2 = idle + (occ ws pa (t + d) - occ ws pa t)) := by
  obtain ⟨h1, h2, h3, h4⟩ := planB_L.1 h
  induction d with
  | zero => intro t s idle _ _ _; simp only [runFrom, Nat.add_zero]; exact ⟨by omega, by omega, fun _ => by omega⟩
  | succ d ih =>
    intro t s idle ht hi0 hi1
    have ho := planL_own ws 0 (t : Int) h4 h2.1
    have hw := whoAt_L (fr := fr) (xs := ws) (t := (t : Int)) (by omega) (by omega)
    have eT : occ ws pa (t + 1) = occ ws pa t + if 0 ≤ ownL ws (t : Int) ∧ ownL ws (t : Int) < pa then 1 else 0 := rfl
    have eA : tickA fr ws xs (t : Int) s idle = aft (whoAt fr ws (t : Int)) (tickS fr ws xs (t : Int) s).2.1 idle (bestFrom xs (whoAt fr ws (t : Int)) (tickS fr ws xs (t : Int) s) xs.length 0 (-1)) := rfl
    have key : idle ≤ (tickA fr ws xs (t : Int) s idle).2 ∧ (tickA fr ws xs (t : Int) s idle).2 ≤ idle + (occ ws pa (t + 1) - occ ws pa t) ∧ (xs = [] → (tickA fr ws xs (t : Int) s idle).2 = idle + (occ ws pa (t + 1) - occ ws pa t)) := by
      rw [eT, eA, hw]
      have hb : xs = [] → bestFrom xs (ownL ws (t : Int)) (tickS fr ws xs (t : Int) s) xs.length 0 (-1) = -1 := by intro e; subst e; rfl
      generalize bestFrom xs (ownL ws (t : Int)) (tickS fr ws xs (t : Int) s) xs.length 0 (-1) = b at *
      by_cases c : 0 ≤ ownL ws (t : Int)
      · rw [if_pos ⟨c, ho.2⟩]
        by_cases cb : b ≥ 0
        · rw [aft_pos cb]
          exact ⟨Int.le_refl _, by simp only; omega, fun e => by have := hb e; omega⟩
        · rw [aft_neg1 cb c]
          have : wrap64 (idle + 1) = idle + 1 := w64 (by omega) (by omega)
          simp only [this]
          exact ⟨by omega, by omega, fun _ => by omega⟩
      · rw [if_neg (by omega)]
        by_cases cb : b ≥ 0
        · rw [aft_pos cb]
          exact ⟨Int.le_refl _, by simp only; omega, fun e => by have := hb e; omega⟩
        · rw [aft_neg2 cb (by omega)]
          exact ⟨Int.le_refl _, by simp only; omega, fun _ => by simp only; omega⟩
    have hs : occ ws pa (t + 1) - occ ws pa t ≤ 1 := by rw [eT]; split <;> omega
    obtain ⟨i1, i2, i3⟩ := ih (t + 1) ((tickS fr ws xs (t : Int) s).1, (tickA fr ws xs (t : Int) s idle).1, (tickS fr ws xs (t : Int) s).2.2) (tickA fr ws xs (t : Int) s idle).2 (by omega) (by omega) (by omega)
    rw [show t + 1 + d = t + (d + 1) by omega] at i2 i3
    simp only [runFrom]
    exact ⟨by omega, by omega, fun e => by have := i3 e; have := key.2.2 e; omega⟩
theorem jobsFrom_mk {pa : Int} {xs : List Jb} (h : ∀ x ∈ xs, jobB pa x = true) (d : Nat) : ∀ i : Nat, i + d = xs.length → jobsFrom pa xs d i = true := by
  induction d with
  | zero => intro i _; rfl
  | succ d ih =>
    intro i hi
    have hlt : i < xs.length := by omega
    have e : jbAt xs (i : Int) = xs[i] := by simp [jbAt, rd_T74, List.getD_eq_getElem?_getD, hlt]
    simp only [jobsFrom, e, h _ (List.getElem_mem hlt), ih (i + 1) (by omega), Bool.and_self]
theorem run_at {fr pa : Int} {ws : List Wn} {xs : List Jb} (h : planB fr pa ws = true) (hf : fr ≤ 5000) (hx : xs.length ≤ 20) (hj : ∀ x ∈ xs, jobB pa x = true) :
    ∃ late idle, run17 fr pa ws xs fr = (late, idle, true) ∧ late.length = xs.length ∧ 0 ≤ idle ∧ idle ≤ occ ws pa fr.toNat ∧ (xs = [] → idle = occ ws pa fr.toNat) := by
  obtain ⟨h1, h2, h3, h4⟩ := planB_L.1 h
  have hr : runB fr pa ws xs fr = true := by
    simp only [runB, h, jobsFrom_mk hj xs.length 0 (by omega), decide_eq_true (show (xs.length : Int) ≤ 20 by omega), inB_iff.2 (show 0 ≤ fr ∧ fr ≤ 5000 by omega), Bool.and_self]
  have hi := run_idle h xs fr.toNat 0 (List.replicate xs.length 0, List.replicate xs.length 0, List.replicate xs.length 0) 0 (by omega) (by omega) (by omega)
  rw [Nat.zero_add, show occ ws pa 0 = 0 from rfl] at hi
  refine ⟨_, _, by unfold run17; rw [if_pos hr], run_len fr ws xs xs.length fr.toNat 0 _ 0 (zeros_ok xs.length), hi.1, by omega, fun e => by have := hi.2.2 e; omega⟩
/-! The law's loops. -/
theorem owner_at {fr pa : Int} {xs : List Wn} {t : Int} (h : planB fr pa xs = true) (h0 : 0 ≤ t) (h1 : t < fr) : owner17 fr pa xs t = (ownL xs t, true) := by
  obtain ⟨k1, k2, k3, k4⟩ := planB_L.1 h
  unfold owner17
  rw [if_pos (by simp only [h, Bool.true_and, inB_iff]; omega), Int.tmod_eq_of_lt h0 h1, ownerFrom_L xs.length 0 (by omega), List.drop_zero]
theorem owner_again {fr pa : Int} {xs : List Wn} {t : Int} (h : planB fr pa xs = true) (h0 : 0 ≤ t) (h1 : t < fr) : owner17 fr pa xs (t + fr) = (ownL xs t, true) := by
  obtain ⟨k1, k2, k3, k4⟩ := planB_L.1 h
  unfold owner17
  rw [if_pos (by simp only [h, Bool.true_and, inB_iff]; omega), Int.tmod_eq_emod_of_nonneg (by omega), show (t + fr) % fr = t by rw [Int.add_emod_right]; exact Int.emod_eq_of_lt h0 h1, ownerFrom_L xs.length 0 (by omega), List.drop_zero]
structure Drawn17 (fr pa : Int) (ws : List Wn) (js : List Jb) : Prop where
  plan : planB fr pa ws = true
  fr : fr ≤ 5000
  few : ws.length < 40
  jobs : js.length ≤ 20
  job : ∀ x ∈ js, jobB pa x = true
theorem windows_end {fr pa : Int} {ws : List Wn} {js : List Jb} (h : Drawn17 fr pa ws js) (ok : Bool) (x19 : Int) (q0 q1 : Int) (q2 : List Wn) :
    Ev (fun k => laws_FnWindows.j5 k js (occ ws pa fr.toNat) ok x19 false fr pa ws q0 q1 q2) true := by
  have hf := h.few
  have hjn := h.jobs
  obtain ⟨late, idle, e1, l1, i0, i1, _⟩ := run_at h.plan h.fr h.jobs h.job
  obtain ⟨late', idle', e2, l2, _, _, i2⟩ := run_at (xs := []) h.plan h.fr (by simp) (fun x hx => by simp at hx)
  refine ev_succ ?_
  simp only [laws_FnWindows.j5, Bool.false_eq_true, if_false]
  refine (impl_RunJobs_ev fr pa ws js fr (by omega) (by omega)).bind ?_
  refine (impl_RunJobs_ev fr pa ws [] fr (by omega) (by simp)).bind ?_
  rw [e1, e2]
  simp only [if_true, if_pos (show ((late.length : Nat) : Int) = (js.length : Int) by omega), if_pos (show idle ≥ 0 from i0), if_pos i1, if_pos (show ((late'.length : Nat) : Int) = 0 by simp at l2; simp [l2])]
  exact ev_some (by rw [i2 rfl]; simp)
theorem windows_l2 {fr pa : Int} {ws : List Wn} {js : List Jb} (h : Drawn17 fr pa ws js) {ok : Bool} {qs : List Wn} (hqn : qs.length ≤ 41)
    (hq : ok = true → planB fr pa qs = true ∧ ∀ t, (0 ≤ ownL ws t → ownL qs t = ownL ws t) ∧ (ownL ws t < 0 → ownL qs t ≤ 0)) (d : Nat) : ∀ t : Nat, (t : Int) + d = fr →
    Ev (fun k => laws_FnWindows.l2 k js (occ ws pa fr.toNat) ok (t : Int) fr pa ws fr pa qs) true := by
  have hf := h.few
  have hfr := h.fr
  induction d with
  | zero =>
    intro t ht
    refine ev_succ ?_
    simp only [laws_FnWindows.l2, if_neg (show ¬ ((t : Int) < fr) by omega)]
    exact windows_end h _ _ _ _ _
  | succ d ih =>
    intro t ht
    refine ev_succ ?_
    simp only [laws_FnWindows.l2, if_pos (show (t : Int) < fr by omega)]
    cases ok with
    | false => exact windows_end h _ _ _ _ _
    | true =>
      obtain ⟨hqb, hqo⟩ := hq rfl
      have hk := ih (t + 1) (by omega)
      refine ev_succ ?_
      simp only [laws_FnWindows.j5, if_true]
      refine (impl_Owner_ev fr pa ws (t : Int) (by omega)).bind ?_
      refine (impl_Owner_ev fr pa qs (t : Int) (by omega)).bind ?_
      rw [owner_at h.plan (by omega) (show (t : Int) < fr by omega), owner_at hqb (by omega) (show (t : Int) < fr by omega)]
      obtain ⟨o1, o2⟩ := hqo (t : Int)
      simp only [w64s t (by omega)]
      by_cases c : ownL ws (t : Int) ≥ 0
      · simp only [if_pos c, if_pos (o1 c), if_neg (show ¬ (ownL ws (t : Int) < 0) by omega)]
        exact hk
      · have o3 := o2 (by omega)
        simp only [if_neg c, if_pos (show ownL ws (t : Int) < 0 by omega), if_neg (show ¬ (ownL qs (t : Int) > 0) by omega)]
        exact hk
def cnts (ws : List Wn) (pa T : Nat) : List Int := (List.range pa).map fun k : Nat => cnt ws (k : Int) T
theorem cnts_len (ws : List Wn) (pa T : Nat) : (cnts ws pa T).length = pa := by simp [cnts]
theorem cnts_rd {ws : List Wn} {pa T k : Nat} (h : k < pa) : rd (cnts ws pa T) (k : Int) = cnt ws (k : Int) T := by
  rw [rd_nat (by rw [cnts_len]; exact h)]
  simp [cnts]
theorem cnts_set {ws : List Wn} {pa T k : Nat} (h : k < pa) (ho : ownL ws (T : Int) = (k : Int)) : (cnts ws pa T).set k (cnt ws (k : Int) T + 1) = cnts ws pa (T + 1) := by
  apply List.ext_getElem
  · simp [cnts]
  · intro i h1 h2
    rw [List.getElem_set]
    split
    · rename_i e
      subst e
      simp [cnts, cnt, ho]
    · rename_i e
      have : ¬ (ownL ws (T : Int) = (i : Int)) := by omega
      simp [cnts, cnt, this]
theorem cnts_same {ws : List Wn} {pa T : Nat} (h : ownL ws (T : Int) < 0) : cnts ws pa T = cnts ws pa (T + 1) := by
  apply List.ext_getElem
  · simp [cnts]
  · intro i h1 h2
    have : ¬ (ownL ws (T : Int) = (i : Int)) := by omega
    simp [cnts, cnt, this]
theorem cnt_le (ws : List Wn) (k : Int) (T : Nat) : 0 ≤ cnt ws k T ∧ cnt ws k T ≤ (T : Int) := by
  induction T with
  | zero => simp [cnt]
  | succ T ih => simp only [cnt]; split <;> omega
theorem cnts_zero (ws : List Wn) (pa : Nat) : List.replicate pa (0 : Int) = cnts ws pa 0 := by
  apply List.ext_getElem
  · simp [cnts]
  · intro i h1 h2
    simp [cnts, cnt]
theorem same_ints (xs : List Int) (hn : xs.length ≤ 1048576) : Ev (fun k => laws_sameInts.f k xs xs) true := by
  simp only [laws_sameInts.f, if_true]
  have loop : ∀ (d i : Nat), i + d = xs.length → Ev (fun k => laws_sameInts.l0 k xs xs (i : Int)) true := by
    intro d
    induction d with
    | zero =>
      intro i h
      refine ev_succ ?_
      simp only [laws_sameInts.l0, if_neg (show ¬ ((i : Int) < (xs.length : Int)) by omega)]
      exact ev_now _
    | succ d ih =>
      intro i h
      refine ev_succ ?_
      simp only [laws_sameInts.l0, if_pos (show ((i : Int) < (xs.length : Int)) by omega), if_pos (show (0 : Int) ≤ (i : Int) by omega), if_true, w64s i (by omega)]
      exact ih (i + 1) (by omega)
  exact loop xs.length 0 (by omega)
theorem windows_j3 {l : List Int} (hw : ∀ x ∈ l, 0 ≤ x ∧ x ≤ 255) (hn : l.length ≤ 1048576) {fr pa : Int} {ws : List Wn} {js : List Jb} (h : Drawn17 fr pa ws js) :
    Ev (fun k => laws_FnWindows.j3 k l js (occ ws pa fr.toNat) false fr pa ws) true := by
  obtain ⟨v, hv, v0, v1⟩ := at_ev l hw hn 2 (by omega) (by omega)
  have hf := h.few
  obtain ⟨k1, k2, k3, k4⟩ := planB_L.1 h.plan
  have t0 := Int.tmod_nonneg (4 : Int) v0
  have t1 := Int.tmod_lt_of_pos v (show (0 : Int) < 4 by omega)
  have w1 : wrap64 (1 + Int.tmod v 4) = 1 + Int.tmod v 4 := w64 (by omega) (by omega)
  refine ev_succ ?_
  simp only [laws_FnWindows.j3, Bool.false_eq_true, if_false, hv, Option.bind_some, w1]
  refine (impl_Fit_ev fr pa ws 0 (1 + Int.tmod v 4) (by omega)).bind ?_
  have hl := fit17_len fr pa ws 0 (1 + Int.tmod v 4)
  exact windows_l2 h (by omega) (fun hok => fit_at h.plan h.few (by omega) hok) fr.toNat 0 (by omega)
theorem windows_l1 {l : List Int} (hw : ∀ x ∈ l, 0 ≤ x ∧ x ≤ 255) (hn : l.length ≤ 1048576) {fr pa : Int} {ws : List Wn} {js : List Jb} (h : Drawn17 fr pa ws js) (d : Nat) : ∀ t : Nat, (t : Int) + d = fr →
    Ev (fun k => laws_FnWindows.l1 k l js (occ ws pa fr.toNat) (cnts ws pa.toNat fr.toNat) (cnts ws pa.toNat t) (t : Int) fr pa ws) true := by
  have hf := h.few
  have hfr := h.fr
  have hp := h.plan
  obtain ⟨k1, k2, k3, k4⟩ := planB_L.1 h.plan
  induction d with
  | zero =>
    intro t ht
    obtain rfl : t = fr.toNat := by omega
    refine ev_succ ?_
    simp only [laws_FnWindows.l1, if_neg (show ¬ ((fr.toNat : Int) < fr) by omega)]
    refine (same_ints _ (by rw [cnts_len]; omega)).bind ?_
    have ho := occ_le ws pa fr.toNat
    simp only [if_true, if_neg (show ¬ (occ ws pa fr.toNat > fr) by omega)]
    refine (impl_PlanOk_ev fr pa ws (by omega)).bind ?_
    rw [hp]
    exact windows_j3 hw hn h
  | succ d ih =>
    intro t ht
    have hk := ih (t + 1) (by omega)
    have wf : wrap64 ((t : Int) + fr) = (t : Int) + fr := w64 (by omega) (by omega)
    refine ev_succ ?_
    simp only [laws_FnWindows.l1, if_pos (show (t : Int) < fr by omega), wf]
    refine (impl_Owner_ev fr pa ws (t : Int) (by omega)).bind ?_
    refine (impl_Owner_ev fr pa ws ((t : Int) + fr) (by omega)).bind ?_
    rw [owner_at hp (by omega) (show (t : Int) < fr by omega), owner_again hp (by omega) (show (t : Int) < fr by omega)]
    have ho := planL_own ws 0 (t : Int) k4 k2.1
    simp only [if_true, if_neg (show ¬ (ownL ws (t : Int) < -1) by omega), if_neg (show ¬ (ownL ws (t : Int) ≥ pa) by omega), bne_self_eq_false]
    refine ev_succ ?_
    simp only [laws_FnWindows.j2, Bool.false_eq_true, if_false, w64s t (by omega)]
    by_cases c : ownL ws (t : Int) ≥ 0
    · obtain ⟨k, hkk⟩ : ∃ k : Nat, ownL ws (t : Int) = (k : Int) := ⟨(ownL ws (t : Int)).toNat, by omega⟩
      have hkp : k < pa.toNat := by omega
      have hc := cnt_le ws (k : Int) t
      rw [hkk]
      simp only [if_pos (show (k : Int) ≥ 0 by omega), if_pos (show (0 : Int) ≤ (k : Int) by omega), cnts_len, if_pos (show (k : Int) < ((pa.toNat : Nat) : Int) by omega), cnts_rd hkp, Int.toNat_natCast, w64 (n := cnt ws (k : Int) t + 1) (by omega) (by omega), cnts_set hkp hkk]
      exact hk
    · rw [← cnts_same (show ownL ws (t : Int) < 0 by omega)] at hk
      simp only [if_neg c]
      exact hk
theorem windows_l0 {l : List Int} (hw : ∀ x ∈ l, 0 ≤ x ∧ x ≤ 255) (hn : l.length ≤ 1048576) {fr pa : Int} {ws : List Wn} {js : List Jb} (h : Drawn17 fr pa ws js) (d : Nat) : ∀ p : Nat, (p : Int) + d = pa →
    Ev (fun k => laws_FnWindows.l0 k l js (occ ws (p : Int) fr.toNat) (cnts ws p fr.toNat) (p : Int) fr pa ws) true := by
  have hf := h.few
  have hfr := h.fr
  have hp := h.plan
  obtain ⟨k1, k2, k3, k4⟩ := planB_L.1 h.plan
  induction d with
  | zero =>
    intro p ht
    obtain rfl : pa = (p : Int) := by omega
    refine ev_succ ?_
    simp only [laws_FnWindows.l0, if_neg (show ¬ ((p : Int) < (p : Int)) by omega), if_pos (show (0 : Int) ≤ (p : Int) by omega), Int.toNat_natCast, if_pos (show p ≤ 35184372088832 by omega), cnts_zero ws p]
    have := windows_l1 hw hn h fr.toNat 0 (by omega)
    rw [Int.toNat_natCast] at this
    exact this
  | succ d ih =>
    intro p ht
    have hk := ih (p + 1) (by omega)
    obtain ⟨g, e, g0, g1⟩ := share_at hp (show 0 ≤ (p : Int) ∧ (p : Int) < pa by omega)
    have es := cnt_share (k := (p : Int)) (by omega) fr.toNat (by omega) ws 0 (Int.le_refl _) k4
    have hc := cnt_le ws (p : Int) fr.toNat
    have ho := occ_le ws (p : Int) fr.toNat
    refine ev_succ ?_
    simp only [laws_FnWindows.l0, if_pos (show (p : Int) < pa by omega)]
    refine (impl_Share_ev fr pa ws (p : Int) (by omega)).bind ?_
    rw [e, ← es]
    simp only [if_true, if_neg (show ¬ (g < 0) by omega), if_neg (show ¬ (g > fr) by omega), if_neg (show ¬ (cnt ws (p : Int) fr.toNat < 0) by omega), cnts_len, if_pos (show p < 17592186044416 by omega), w64s p (by omega), w64 (n := occ ws (p : Int) fr.toNat + cnt ws (p : Int) fr.toNat) (by omega) (by omega)]
    rw [← occ_succ, show cnts ws p fr.toNat ++ [cnt ws (p : Int) fr.toNat] = cnts ws (p + 1) fr.toNat by simp [cnts, List.range_succ]]
    exact hk
/-! What is drawn. -/
theorem draw17_l {l : List Int} {pa : Int} (hpa : 1 ≤ pa ∧ pa ≤ 4) (n : Nat) : ∀ (i h x4 : Int) (ws : List Wn), Cur l i → n ≤ 6 → ws.length + n ≤ 6 → (0 ≤ x4 ∧ x4 + 20 * n ≤ 200) → planL x4 pa 0 ws = true →
    ∃ fr ws' i' h', Ev (fun k => spec_l17Draw.l0 k x4 (n : Int) l i h 0 pa ws) (fr, pa, ws', i', h') ∧ (1 ≤ fr ∧ fr ≤ 5000) ∧ ws'.length ≤ 6 ∧ planL fr pa 0 ws' = true ∧ Cur l i' := by
  induction n with
  | zero =>
    intro i h x4 ws hc _ hl hx hP
    obtain ⟨v, i1, h1, e1, v0, v1, c1⟩ := draw_below h 10 hc (by omega) (by omega)
    refine ⟨x4 + 1 + v, ws, i1, h1, ev_succ ?_, by omega, by omega, planL_mono (by omega) ws 0 hP, c1⟩
    simp only [spec_l17Draw.l0, if_neg (show ¬ (((0 : Nat) : Int) > 0) by omega), e1, Option.bind_some, w64 (n := x4 + 1) (by omega) (by omega), w64 (n := x4 + 1 + v) (by omega) (by omega)]
    exact ev_now _
  | succ n ih =>
    intro i h x4 ws hc hn hl hx hP
    obtain ⟨a, i1, h1, e1, a0, a1, c1⟩ := draw_below h 8 hc (by omega) (by omega)
    obtain ⟨p, i2, h2, e2, p0, p1, c2⟩ := draw_below h1 pa c1 (by omega) (by omega)
    obtain ⟨b, i3, h3, e3, b0, b1, c3⟩ := draw_below h2 5 c2 (by omega) (by omega)
    obtain ⟨c, i4, h4, e4, d0, d1, c4⟩ := draw_below h3 2 c3 (by omega) (by omega)
    have hbc : 0 ≤ b * c ∧ b * c ≤ 4 := by
      have : c = 0 ∨ c = 1 := by omega
      rcases this with rfl | rfl <;> omega
    obtain ⟨fr, ws', i', h', e5, f1, f2, f3, f4⟩ := ih i4 h4 (x4 + (1 + a) + b * c) (ws ++ [⟨p, x4, 1 + a⟩]) c4 (by omega) (by simp; omega) (by omega) (planL_snoc ws 0 hP (by omega) (by omega) (by omega) (by omega))
    refine ⟨fr, ws', i', h', ev_succ ?_, f1, f2, f3, f4⟩
    simp only [spec_l17Draw.l0, if_pos (show ((n + 1 : Nat) : Int) > 0 by omega), e1, e2, e3, e4, Option.bind_some, if_pos (show ws.length < 5864062014805 by omega), w64 (n := 1 + a) (by omega) (by omega), w64 (n := x4 + (1 + a)) (by omega) (by omega), w64 (n := b * c) (by omega) (by omega), w64 (n := x4 + (1 + a) + b * c) (by omega) (by omega), show wrap64 (((n + 1 : Nat) : Int) - 1) = (n : Int) by rw [w64 (by omega) (by omega)]; omega]
    exact e5
theorem drawjobs_l {l : List Int} {pa : Int} (hpa : 1 ≤ pa ∧ pa ≤ 4) (n : Nat) : ∀ (i h : Int) (js : List Jb), Cur l i → js.length + n ≤ 6 → (∀ x ∈ js, jobB pa x = true) →
    ∃ js' i' h', Ev (fun k => spec_l17DrawJobs.l0 k pa js (n : Int) l i h) (js', i', h') ∧ js'.length ≤ 6 ∧ (∀ x ∈ js', jobB pa x = true) ∧ Cur l i' := by
  induction n with
  | zero =>
    intro i h js hc hl hj
    refine ⟨js, i, h, ev_succ ?_, by omega, hj, hc⟩
    simp only [spec_l17DrawJobs.l0, if_neg (show ¬ (((0 : Nat) : Int) > 0) by omega)]
    exact ev_now _
  | succ n ih =>
    intro i h js hc hl hj
    obtain ⟨p, i1, h1, e1, p0, p1, c1⟩ := draw_below h pa hc (by omega) (by omega)
    obtain ⟨a, i2, h2, e2, a0, a1, c2⟩ := draw_below h1 60 c1 (by omega) (by omega)
    obtain ⟨b, i3, h3, e3, b0, b1, c3⟩ := draw_below h2 12 c2 (by omega) (by omega)
    obtain ⟨js', i', h', e5, f1, f2, f3⟩ := ih i3 h3 (js ++ [⟨p, 1 + a, 1 + b⟩]) c3 (by simp; omega) (by
      intro x hx
      rcases List.mem_append.1 hx with hx | hx
      · exact hj x hx
      · rw [List.mem_singleton.1 hx]
        simp only [jobB, Bool.and_eq_true, inB_iff]
        omega)
    have em : spec_l1Max.f 1 pa = some pa := by
      unfold spec_l1Max.f
      split
      · exact absurd hpa.1 (by omega)
      · rfl
    refine ⟨js', i', h', ev_succ ?_, f1, f2, f3⟩
    simp only [spec_l17DrawJobs.l0, if_pos (show ((n + 1 : Nat) : Int) > 0 by omega), em, e1, e2, e3, Option.bind_some, if_pos (show js.length < 5864062014805 by omega), w64 (n := 1 + a) (by omega) (by omega), w64 (n := 1 + b) (by omega) (by omega), show wrap64 (((n + 1 : Nat) : Int) - 1) = (n : Int) by rw [w64 (by omega) (by omega)]; omega]
    exact e5
theorem drawplan_ev (l : List Int) (hl : l.length ≤ 1048576) : ∃ fr pa ws js, Ev (fun k => spec_DrawPlan17.f k l) (fr, pa, ws, js) ∧ Drawn17 fr pa ws js := by
  obtain ⟨h, hh⟩ := draw_new l hl
  obtain ⟨a, i1, h1, e1, a0, a1, c1⟩ := draw_below (l := l) (i := 0) h 4 ⟨by omega, by omega, by omega⟩ (by omega) (by omega)
  obtain ⟨b, i2, h2, e2, b0, b1, c2⟩ := draw_below h1 5 c1 (by omega) (by omega)
  obtain ⟨n, i3, h3, e3, n0, n1, c3⟩ := draw_below h2 7 c2 (by omega) (by omega)
  obtain ⟨m, rfl⟩ : ∃ m : Nat, n = (m : Int) := ⟨n.toNat, by omega⟩
  have wa : wrap64 (1 + a) = 1 + a := w64 (by omega) (by omega)
  obtain ⟨fr, ws, i4, h4, e4, f1, f2, f3, c4⟩ := draw17_l (l := l) (pa := 1 + a) (by omega) m i3 h3 b [] c3 (by omega) (by simp; omega) (by omega) rfl
  obtain ⟨q, i5, h5, e5, q0, q1, c5⟩ := draw_below h4 6 c4 (by omega) (by omega)
  obtain ⟨r, rfl⟩ : ∃ r : Nat, q = (r : Int) := ⟨q.toNat, by omega⟩
  obtain ⟨js, i6, h6, e6, g1, g2, g3⟩ := drawjobs_l (l := l) (pa := 1 + a) (by omega) r i5 h5 [] c5 (by simp; omega) (fun x hx => by simp at hx)
  refine ⟨fr, 1 + a, ws, js, ?_, ⟨planB_L.2 ⟨by omega, by omega, by omega, f3⟩, by omega, by omega, by omega, g2⟩⟩
  have hd : Ev (fun k => spec_l17Draw.f k l 0 h) (fr, 1 + a, ws, i4, h4) := by
    simp only [spec_l17Draw.f, e1, e2, e3, Option.bind_some, wa]
    exact e4
  have hj : Ev (fun k => spec_l17DrawJobs.f k l i4 h4 (1 + a)) (js, i6, h6) := by
    simp only [spec_l17DrawJobs.f, e5, Option.bind_some]
    exact e6
  simp only [spec_DrawPlan17.f]
  refine hh.bind ?_
  refine hd.bind ?_
  refine hj.bind ?_
  exact ev_now _
theorem FnWindows : laws_FnWindows.Pure := by
  intro l _ _ hw
  have hw' : ∀ x ∈ l, 0 ≤ x ∧ x ≤ 255 := fun x hx => wf_u8 (hw x hx)
  refine Ev.rounds ?_
  simp only [laws_FnWindows.f, laws_big.f, Option.bind_some]
  by_cases hb : (l.length : Int) > 1048576
  · simp only [hb, decide_true, if_true]
    exact ev_now _
  · simp only [hb, decide_false, Bool.false_eq_true, if_false]
    obtain ⟨fr, pa, ws, js, hd, hD⟩ := drawplan_ev l (by omega)
    obtain ⟨k1, k2, k3, k4⟩ := planB_L.1 hD.plan
    refine hd.bind ?_
    have := windows_l0 hw' (by omega) hD pa.toNat 0 (by omega)
    rw [show occ ws ((0 : Nat) : Int) fr.toNat = 0 from occ_zero ws _] at this
    exact this
end Go.Proofs.Ytlkphaahkhfgoaa.Pure
