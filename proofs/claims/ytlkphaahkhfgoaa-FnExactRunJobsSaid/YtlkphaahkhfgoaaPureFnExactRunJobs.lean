/- The program's RunJobs answers as the reference's at every argument. No condition. -/
import Derived.Test.YtlkphaahkhfgoaaPFnExactRunJobsx9
import Derived.Test.YtlkphaahkhfgoaaBase
set_option linter.unusedVariables false
set_option linter.unusedSimpArgs false
namespace Go.Proofs.Ytlkphaahkhfgoaa.Pure
open Go.RowKit Go.Proofs.Ytlkphaahkhfgoaa.PFnExactRunJobs Go.Proofs.Ytlkphaahkhfgoaa.Base Go.Proofs.YtlkphaahkhfgoaaW.PrintWords Go.Proofs.YtlkphaahkhfgoaaW.PrintLast
theorem impl_in_eq (a b c : Int) : impl_in.f a b c = some (inB a b c) := in_form a b c
theorem spec_in_eq (a b c : Int) : spec_l1In.f a b c = some (inB a b c) := in_form a b c
theorem szWindowS_eq (xs : List S85) (left : Int) (h0 : 0 ≤ left) (h1 : left ≤ 1048576) (hn : xs.length ≤ 140737488355328) : laws_szWindowS.f xs left = some (if left - (xs.length : Int) < 0 then -1 else left - (xs.length : Int)) := by
  unfold laws_szWindowS.f
  rw [w64 (by omega) (by omega)]
  split <;> rfl
/-! The helpers over Windows. -/
def convWindow (x : S85) : S62 := ⟨x.f0, x.f1, x.f2⟩
theorem rdlWindow {xs : List S85} {i : Nat} (h : i < xs.length) : rd_T85 xs (i : Int) = xs[i] := by
  simp [rd_T85, List.getD_eq_getElem?_getD, h]
theorem rdiWindow {xs : List S62} {i : Nat} (h : i < xs.length) : rd_T62 xs (i : Int) = xs[i] := by
  simp [rd_T62, List.getD_eq_getElem?_getD, h]
theorem dropWindow {xs : List S62} {i : Nat} (h : i < xs.length) : xs.drop i = rd_T62 xs (i : Int) :: xs.drop (i + 1) := by
  rw [List.drop_eq_getElem_cons h, rdiWindow h]
theorem toWindowS_l (xs : List S85) (hn : xs.length ≤ 11728124029610) (d : Nat) : ∀ i : Nat, i + d = xs.length →
    Ev (fun k => laws_toWindowS.l0 k xs ((xs.map convWindow).take i ++ List.replicate (xs.length - i) z62) (i : Int)) (xs.map convWindow) := by
  induction d with
  | zero =>
    intro i h
    refine ev_succ ?_
    simp only [laws_toWindowS.l0, if_neg (show ¬ ((i : Int) < (xs.length : Int)) by omega)]
    exact ev_some (by rw [List.take_of_length_le (by simp; omega), show xs.length - i = 0 by omega]; simp)
  | succ d ih =>
    intro i h
    refine ev_succ ?_
    have hlt : i < xs.length := by omega
    have hl : (((xs.map convWindow).take i ++ List.replicate (xs.length - i) z62).length : Int) = (xs.length : Int) := by simp; omega
    have hs := take_setG (xs := xs) (c := convWindow) hlt z62
    simp only [laws_toWindowS.l0, if_pos (show ((i : Int) < (xs.length : Int)) by omega), if_pos (show (0 : Int) ≤ (i : Int) by omega), hl, w64s i (by omega), Int.toNat_natCast, rdlWindow hlt, laws_toWindow.f, Option.bind_some]
    rw [show ((xs.map convWindow).take i ++ List.replicate (xs.length - i) z62).set i ⟨(xs[i]).f0, (xs[i]).f1, (xs[i]).f2⟩ = _ from hs]
    exact ih (i + 1) (by omega)
theorem toWindowS_ev (xs : List S85) (hn : xs.length ≤ 11728124029610) : Ev (fun k => laws_toWindowS.f k xs) (xs.map convWindow) := by
  simp only [laws_toWindowS.f, if_pos (show (0 : Int) ≤ (xs.length : Int) by omega), Int.toNat_natCast, if_pos hn]
  simpa using toWindowS_l xs hn xs.length 0 (by omega)
theorem eqWindowS_l (xs : List S62) (hn : xs.length ≤ 140737488355328) (d : Nat) : ∀ i : Nat, i + d = xs.length →
    Ev (fun k => laws_eqWindowS.l0 k xs xs (i : Int)) true := by
  induction d with
  | zero =>
    intro i h
    refine ev_succ ?_
    simp only [laws_eqWindowS.l0, if_neg (show ¬ ((i : Int) < (xs.length : Int)) by omega)]
    exact ev_now _
  | succ d ih =>
    intro i h
    refine ev_succ ?_
    simp only [laws_eqWindowS.l0, if_pos (show ((i : Int) < (xs.length : Int)) by omega), if_pos (show (0 : Int) ≤ (i : Int) by omega), w64s i (by omega), laws_eqWindow.f, Option.bind_some, if_true]
    exact ih (i + 1) (by omega)
theorem eqWindowS_self (xs : List S62) (hn : xs.length ≤ 140737488355328) : Ev (fun k => laws_eqWindowS.f k xs xs) true := by
  simp only [laws_eqWindowS.f, if_true]
  simpa using eqWindowS_l xs hn xs.length 0 (by omega)
theorem szJobS_eq (xs : List S76) (left : Int) (h0 : 0 ≤ left) (h1 : left ≤ 1048576) (hn : xs.length ≤ 140737488355328) : laws_szJobS.f xs left = some (if left - (xs.length : Int) < 0 then -1 else left - (xs.length : Int)) := by
  unfold laws_szJobS.f
  rw [w64 (by omega) (by omega)]
  split <;> rfl
/-! The helpers over Jobs. -/
def convJob (x : S76) : S74 := ⟨x.f0, x.f1, x.f2⟩
theorem rdlJob {xs : List S76} {i : Nat} (h : i < xs.length) : rd_T76 xs (i : Int) = xs[i] := by
  simp [rd_T76, List.getD_eq_getElem?_getD, h]
theorem rdiJob {xs : List S74} {i : Nat} (h : i < xs.length) : rd_T74 xs (i : Int) = xs[i] := by
  simp [rd_T74, List.getD_eq_getElem?_getD, h]
theorem dropJob {xs : List S74} {i : Nat} (h : i < xs.length) : xs.drop i = rd_T74 xs (i : Int) :: xs.drop (i + 1) := by
  rw [List.drop_eq_getElem_cons h, rdiJob h]
theorem toJobS_l (xs : List S76) (hn : xs.length ≤ 11728124029610) (d : Nat) : ∀ i : Nat, i + d = xs.length →
    Ev (fun k => laws_toJobS.l0 k xs ((xs.map convJob).take i ++ List.replicate (xs.length - i) z74) (i : Int)) (xs.map convJob) := by
  induction d with
  | zero =>
    intro i h
    refine ev_succ ?_
    simp only [laws_toJobS.l0, if_neg (show ¬ ((i : Int) < (xs.length : Int)) by omega)]
    exact ev_some (by rw [List.take_of_length_le (by simp; omega), show xs.length - i = 0 by omega]; simp)
  | succ d ih =>
    intro i h
    refine ev_succ ?_
    have hlt : i < xs.length := by omega
    have hl : (((xs.map convJob).take i ++ List.replicate (xs.length - i) z74).length : Int) = (xs.length : Int) := by simp; omega
    have hs := take_setG (xs := xs) (c := convJob) hlt z74
    simp only [laws_toJobS.l0, if_pos (show ((i : Int) < (xs.length : Int)) by omega), if_pos (show (0 : Int) ≤ (i : Int) by omega), hl, w64s i (by omega), Int.toNat_natCast, rdlJob hlt, laws_toJob.f, Option.bind_some]
    rw [show ((xs.map convJob).take i ++ List.replicate (xs.length - i) z74).set i ⟨(xs[i]).f0, (xs[i]).f1, (xs[i]).f2⟩ = _ from hs]
    exact ih (i + 1) (by omega)
theorem toJobS_ev (xs : List S76) (hn : xs.length ≤ 11728124029610) : Ev (fun k => laws_toJobS.f k xs) (xs.map convJob) := by
  simp only [laws_toJobS.f, if_pos (show (0 : Int) ≤ (xs.length : Int) by omega), Int.toNat_natCast, if_pos hn]
  simpa using toJobS_l xs hn xs.length 0 (by omega)
theorem eqJobS_l (xs : List S74) (hn : xs.length ≤ 140737488355328) (d : Nat) : ∀ i : Nat, i + d = xs.length →
    Ev (fun k => laws_eqJobS.l0 k xs xs (i : Int)) true := by
  induction d with
  | zero =>
    intro i h
    refine ev_succ ?_
    simp only [laws_eqJobS.l0, if_neg (show ¬ ((i : Int) < (xs.length : Int)) by omega)]
    exact ev_now _
  | succ d ih =>
    intro i h
    refine ev_succ ?_
    simp only [laws_eqJobS.l0, if_pos (show ((i : Int) < (xs.length : Int)) by omega), if_pos (show (0 : Int) ≤ (i : Int) by omega), w64s i (by omega), laws_eqJob.f, Option.bind_some, if_true]
    exact ih (i + 1) (by omega)
theorem eqJobS_self (xs : List S74) (hn : xs.length ≤ 140737488355328) : Ev (fun k => laws_eqJobS.f k xs xs) true := by
  simp only [laws_eqJobS.f, if_true]
  simpa using eqJobS_l xs hn xs.length 0 (by omega)
theorem eqIntS_l (xs ys : List Int) (hn : xs.length ≤ 140737488355328) (hl : ys.length = xs.length) (d : Nat) : ∀ i : Nat, i + d = xs.length →
    Ev (fun k => laws_eqIntS.l0 k xs ys (i : Int)) (decide (xs.drop i = ys.drop i)) := by
  induction d with
  | zero =>
    intro i h
    refine ev_succ ?_
    simp only [laws_eqIntS.l0, if_neg (show ¬ ((i : Int) < (xs.length : Int)) by omega)]
    exact ev_some (by rw [List.drop_of_length_le (by omega), List.drop_of_length_le (by omega)]; rfl)
  | succ d ih =>
    intro i h
    refine ev_succ ?_
    simp only [laws_eqIntS.l0, if_pos (show ((i : Int) < (xs.length : Int)) by omega), if_pos (show (0 : Int) ≤ (i : Int) by omega), hl, w64s i (by omega)]
    rw [drop_rd (show i < xs.length by omega), drop_rd (show i < ys.length by omega)]
    by_cases e : rd xs (i : Int) = rd ys (i : Int)
    · simp only [if_pos e]
      simpa [e] using ih (i + 1) (by omega)
    · simp only [if_neg e]
      exact ev_some (by simp [e])
theorem eqIntS_ev (xs ys : List Int) (hn : xs.length ≤ 140737488355328) : Ev (fun k => laws_eqIntS.f k xs ys) (decide (xs = ys)) := by
  unfold laws_eqIntS.f
  by_cases hl : ys.length = xs.length
  · simp only [if_pos (show (xs.length : Int) = (ys.length : Int) by omega)]
    simpa using eqIntS_l xs ys hn hl xs.length 0 (by omega)
  · simp only [if_neg (show ¬ (xs.length : Int) = (ys.length : Int) by omega)]
    exact ev_some (by
      have : ¬ xs = ys := fun e => hl (by rw [e])
      simp [this])
theorem eqIntS_self (xs : List Int) (hn : xs.length ≤ 140737488355328) : Ev (fun k => laws_eqIntS.f k xs xs) true := by simpa using eqIntS_ev xs xs hn
theorem markIntS_l (xs : List Int) (k0 : Int) (h0 : 0 ≤ k0) (h1 : k0 ≤ 4611686018427387904) (hn : xs.length ≤ 140737488355328) (d : Nat) : ∀ i : Nat, i + d = xs.length →
    Ev (fun k => laws_markIntS.l0 k (marks (fun x => x) k0 i ++ xs.drop i) (k0 + (i : Int)) (i : Int)) (k0 + (xs.length : Int), marks (fun x => x) k0 xs.length) := by
  induction d with
  | zero =>
    intro i h
    refine ev_succ ?_
    have hl : ((marks (fun x => x) k0 i ++ xs.drop i).length : Int) = (xs.length : Int) := by simp [marks_length]; omega
    simp only [laws_markIntS.l0, hl, if_neg (show ¬ ((i : Int) < (xs.length : Int)) by omega)]
    obtain rfl : i = xs.length := by omega
    exact ev_some (by rw [List.drop_length, List.append_nil])
  | succ d ih =>
    intro i h
    refine ev_succ ?_
    have hl : ((marks (fun x => x) k0 i ++ xs.drop i).length : Int) = (xs.length : Int) := by simp [marks_length]; omega
    have hs := marks_set (g := fun x => x) (k0 := k0) (show i < xs.length by omega)
    simp only [laws_markIntS.l0, hl, if_pos (show ((i : Int) < (xs.length : Int)) by omega), if_pos (show (0 : Int) ≤ (i : Int) by omega), Int.toNat_natCast, hs, w64s i (by omega), w64 (show -9223372036854775808 ≤ k0 + (i : Int) + 1 by omega) (show k0 + (i : Int) + 1 ≤ 9223372036854775807 by omega)]
    have := ih (i + 1) (by omega)
    rw [show k0 + ((i + 1 : Nat) : Int) = k0 + (i : Int) + 1 by omega] at this
    exact this
theorem markIntS_ev (xs : List Int) (k0 : Int) (h0 : 0 ≤ k0) (h1 : k0 ≤ 4611686018427387904) (hn : xs.length ≤ 140737488355328) : Ev (fun k => laws_markIntS.f k xs k0) (k0 + (xs.length : Int), marks (fun x => x) k0 xs.length) := by
  have := markIntS_l xs k0 h0 h1 hn xs.length 0 (by omega)
  simpa [laws_markIntS.f, marks_nil] using this
theorem heldIntS_l (n : Nat) (k0 : Int) (h0 : 0 ≤ k0) (h1 : k0 ≤ 4611686018427387904) (hn : n ≤ 140737488355328) (d : Nat) : ∀ i : Nat, i + d = n →
    Ev (fun k => laws_heldIntS.l0 k (marks (fun x => x) k0 n) (k0 + (i : Int)) (i : Int)) (k0 + (n : Int)) := by
  induction d with
  | zero =>
    intro i h
    refine ev_succ ?_
    simp only [laws_heldIntS.l0, marks_length, if_neg (show ¬ ((i : Int) < (n : Int)) by omega)]
    exact ev_some (by omega)
  | succ d ih =>
    intro i h
    refine ev_succ ?_
    simp only [laws_heldIntS.l0, marks_length, if_pos (show ((i : Int) < (n : Int)) by omega), if_pos (show (0 : Int) ≤ (i : Int) by omega), marks_rd (show i < n by omega), if_true, w64s i (by omega), w64 (show -9223372036854775808 ≤ k0 + (i : Int) + 1 by omega) (show k0 + (i : Int) + 1 ≤ 9223372036854775807 by omega)]
    have := ih (i + 1) (by omega)
    rw [show k0 + ((i + 1 : Nat) : Int) = k0 + (i : Int) + 1 by omega] at this
    exact this
theorem heldIntS_ev (n : Nat) (k0 : Int) (h0 : 0 ≤ k0) (h1 : k0 ≤ 4611686018427387904) (hn : n ≤ 140737488355328) : Ev (fun k => laws_heldIntS.f k (marks (fun x => x) k0 n) k0) (k0 + (n : Int)) := by
  have := heldIntS_l n k0 h0 h1 hn n 0 (by omega)
  simpa [laws_heldIntS.f] using this
/-! The marks of Windows: only that they end. -/
theorem markWindowS_l (d : Nat) : ∀ (i : Nat) (xs : List S62) (v : Int), i + d = xs.length → 0 ≤ v → v + 3 * (d : Int) ≤ 4611686018427387904 → xs.length ≤ 140737488355328 → ∃ ys, Ev (fun k => laws_markWindowS.l0 k xs v (i : Int)) (v + 3 * (d : Int), ys) := by
  induction d with
  | zero =>
    intro i xs v h h0 h1 hn
    refine ⟨xs, ev_succ ?_⟩
    simp only [laws_markWindowS.l0, if_neg (show ¬ ((i : Int) < (xs.length : Int)) by omega)]
    exact ev_some (by simp)
  | succ d ih =>
    intro i xs v h h0 h1 hn
    rw [show v + 3 * ((d + 1 : Nat) : Int) = v + 1 + 1 + 1 + 3 * (d : Int) by omega]
    suffices hs : ∃ ys, Ev (fun k => laws_markWindowS.l0 (k + 1) xs v (i : Int)) (v + 1 + 1 + 1 + 3 * (d : Int), ys) by
      obtain ⟨ys, hy⟩ := hs
      exact ⟨ys, ev_succ hy⟩
    simp only [laws_markWindowS.l0, if_pos (show ((i : Int) < (xs.length : Int)) by omega), if_pos (show (0 : Int) ≤ (i : Int) by omega), Option.bind_some, w64s i (show i < 9223372036854775807 by omega), w64 (n := v + 1) (by omega) (by omega), w64 (n := v + 1 + 1) (by omega) (by omega), w64 (n := v + 1 + 1 + 1) (by omega) (by omega)]
    exact ih (i + 1) _ (v + 1 + 1 + 1) (by simp only [List.length_set]; omega) (by omega) (by omega) (by simp only [List.length_set]; omega)
theorem markWindowS_ev (xs : List S62) (v : Int) (h0 : 0 ≤ v) (h1 : v ≤ 1125899906842624) (hn : xs.length ≤ 140737488355328) : ∃ ys, Ev (fun k => laws_markWindowS.f k xs v) (v + 3 * (xs.length : Int), ys) :=
  markWindowS_l xs.length 0 xs v (by omega) h0 (by omega) hn
/-! The marks of Jobs: only that they end. -/
theorem markJobS_l (d : Nat) : ∀ (i : Nat) (xs : List S74) (v : Int), i + d = xs.length → 0 ≤ v → v + 3 * (d : Int) ≤ 4611686018427387904 → xs.length ≤ 140737488355328 → ∃ ys, Ev (fun k => laws_markJobS.l0 k xs v (i : Int)) (v + 3 * (d : Int), ys) := by
  induction d with
  | zero =>
    intro i xs v h h0 h1 hn
    refine ⟨xs, ev_succ ?_⟩
    simp only [laws_markJobS.l0, if_neg (show ¬ ((i : Int) < (xs.length : Int)) by omega)]
    exact ev_some (by simp)
  | succ d ih =>
    intro i xs v h h0 h1 hn
    rw [show v + 3 * ((d + 1 : Nat) : Int) = v + 1 + 1 + 1 + 3 * (d : Int) by omega]
    suffices hs : ∃ ys, Ev (fun k => laws_markJobS.l0 (k + 1) xs v (i : Int)) (v + 1 + 1 + 1 + 3 * (d : Int), ys) by
      obtain ⟨ys, hy⟩ := hs
      exact ⟨ys, ev_succ hy⟩
    simp only [laws_markJobS.l0, if_pos (show ((i : Int) < (xs.length : Int)) by omega), if_pos (show (0 : Int) ≤ (i : Int) by omega), Option.bind_some, w64s i (show i < 9223372036854775807 by omega), w64 (n := v + 1) (by omega) (by omega), w64 (n := v + 1 + 1) (by omega) (by omega), w64 (n := v + 1 + 1 + 1) (by omega) (by omega)]
    exact ih (i + 1) _ (v + 1 + 1 + 1) (by simp only [List.length_set]; omega) (by omega) (by omega) (by simp only [List.length_set]; omega)
theorem markJobS_ev (xs : List S74) (v : Int) (h0 : 0 ≤ v) (h1 : v ≤ 1125899906842624) (hn : xs.length ≤ 140737488355328) : ∃ ys, Ev (fun k => laws_markJobS.f k xs v) (v + 3 * (xs.length : Int), ys) :=
  markJobS_l xs.length 0 xs v (by omega) h0 (by omega) hn
/-! A plan of windows. -/
abbrev Wn := S62
abbrev wnAt (xs : List Wn) (i : Int) : Wn := rd_T62 xs i
def planFrom (fr pa : Int) (xs : List Wn) : Nat → Nat → Int → Bool
  | 0, _, _ => true
  | d + 1, i, e => inB (wnAt xs i).f0 0 (pa - 1) && (inB (wnAt xs i).f2 1 10000 && (inB (wnAt xs i).f1 e (fr - (wnAt xs i).f2) && planFrom fr pa xs d (i + 1) ((wnAt xs i).f1 + (wnAt xs i).f2)))
def planB (fr pa : Int) (xs : List Wn) : Bool := inB fr 1 100000 && (inB pa 1 10 && (decide ((xs.length : Int) ≤ 40) && planFrom fr pa xs xs.length 0 0))
theorem planFrom_at {fr pa : Int} {xs : List Wn} (d : Nat) : ∀ (i : Nat) (e : Int), 0 ≤ e → planFrom fr pa xs d i e = true → ∀ j : Nat, i ≤ j → j < i + d → (0 ≤ (wnAt xs j).f0 ∧ (wnAt xs j).f0 ≤ pa - 1) ∧ (0 ≤ (wnAt xs j).f1 ∧ (wnAt xs j).f1 + (wnAt xs j).f2 ≤ fr) ∧ (1 ≤ (wnAt xs j).f2 ∧ (wnAt xs j).f2 ≤ 10000) := by
  induction d with
  | zero => intro i e _ _ j h1 h2; omega
  | succ d ih =>
    intro i e he h j h1 h2
    simp only [planFrom, Bool.and_eq_true, inB_iff] at h
    rcases Nat.eq_or_lt_of_le h1 with rfl | h1
    · omega
    · exact ih (i + 1) _ (by omega) h.2.2.2 j h1 (by omega)
theorem planB_at {fr pa : Int} {xs : List Wn} (h : planB fr pa xs = true) : (1 ≤ fr ∧ fr ≤ 100000) ∧ (1 ≤ pa ∧ pa ≤ 10) ∧ xs.length ≤ 40 ∧ ∀ j : Nat, j < xs.length → (0 ≤ (wnAt xs j).f0 ∧ (wnAt xs j).f0 ≤ pa - 1) ∧ (0 ≤ (wnAt xs j).f1 ∧ (wnAt xs j).f1 + (wnAt xs j).f2 ≤ fr) ∧ (1 ≤ (wnAt xs j).f2 ∧ (wnAt xs j).f2 ≤ 10000) := by
  simp only [planB, Bool.and_eq_true, inB_iff, decide_eq_true_eq] at h
  exact ⟨h.1, h.2.1, by omega, fun j hj => planFrom_at xs.length 0 0 (by omega) h.2.2.2 j (by omega) (by omega)⟩
theorem spec_PlanOk_l (fr pa : Int) (xs : List Wn) (hf : 1 ≤ fr ∧ fr ≤ 100000) (hp : 1 ≤ pa ∧ pa ≤ 10) (hn : xs.length ≤ 140737488355328) (d : Nat) : ∀ (i : Nat) (e : Int), 0 ≤ e → e ≤ fr → i + d = xs.length → Ev (fun k => spec_PlanOk.l0 k e (i : Int) fr pa xs) (planFrom fr pa xs d i e) := by
  induction d with
  | zero =>
    intro i e h0 h1 h
    refine ev_succ ?_
    simp only [spec_PlanOk.l0, if_neg (show ¬ ((i : Int) < (xs.length : Int)) by omega)]
    exact ev_now _
  | succ d ih =>
    intro i e h0 h1 h
    refine ev_succ ?_
    simp only [spec_PlanOk.l0, if_pos (show ((i : Int) < (xs.length : Int)) by omega), if_pos (show (0 : Int) ≤ (i : Int) by omega), spec_in_eq, Option.bind_some, w64 (n := pa - 1) (by omega) (by omega)]
    unfold planFrom
    show Ev _ (inB (rd_T62 xs (i : Int)).f0 0 (pa - 1) && (inB (rd_T62 xs (i : Int)).f2 1 10000 && (inB (rd_T62 xs (i : Int)).f1 e (fr - (rd_T62 xs (i : Int)).f2) && planFrom fr pa xs d (i + 1) ((rd_T62 xs (i : Int)).f1 + (rd_T62 xs (i : Int)).f2))))
    generalize rd_T62 xs (i : Int) = x
    cases x1 : inB x.f0 0 (pa - 1) with
    | false => simpa using ev_now false
    | true =>
      cases x2 : inB x.f2 1 10000 with
      | false => simpa using ev_now false
      | true =>
        rw [inB_iff] at x2
        simp only [if_true, Bool.true_and]
        cases x3 : inB x.f1 e fr with
        | false =>
          have : inB x.f1 e (fr - x.f2) = false := by rw [Bool.eq_false_iff, ne_eq, inB_iff] at x3 ⊢; omega
          rw [this]
          simpa using ev_now false
        | true =>
          rw [inB_iff] at x3
          simp only [if_true, w64 (n := x.f1 + x.f2) (by omega) (by omega)]
          by_cases x4 : x.f1 + x.f2 > fr
          · have : inB x.f1 e (fr - x.f2) = false := by rw [Bool.eq_false_iff, ne_eq, inB_iff]; omega
            rw [this]
            simpa only [if_pos x4, Bool.false_and] using ev_now false
          · have : inB x.f1 e (fr - x.f2) = true := by rw [inB_iff]; omega
            rw [this]
            simp only [if_neg x4, Bool.true_and, w64s i (by omega)]
            exact ih (i + 1) _ (by omega) (by omega) (by omega)
theorem spec_PlanOk_ev (fr pa : Int) (xs : List Wn) (hn : xs.length ≤ 140737488355328) : Ev (fun k => spec_PlanOk.f k fr pa xs) (planB fr pa xs) := by
  simp only [spec_PlanOk.f, spec_in_eq, Option.bind_some]
  have ht : Ev (fun k => spec_PlanOk.j0 k true fr pa xs) false := by
    refine ev_succ ?_
    simpa only [spec_PlanOk.j0, if_true] using ev_now _
  unfold planB
  cases x1 : inB fr 1 100000 with
  | false => simpa using ht
  | true =>
    cases x2 : inB pa 1 10 with
    | false => simpa using ht
    | true =>
      rw [inB_iff] at x1 x2
      simp only [if_true, Bool.true_and]
      by_cases x3 : (xs.length : Int) > 40
      · simpa only [x3, decide_true, show ¬ (xs.length : Int) ≤ 40 by omega, decide_false, Bool.false_and] using ht
      · simp only [x3, decide_false, show (xs.length : Int) ≤ 40 by omega, decide_true, Bool.true_and]
        refine ev_succ ?_
        simp only [spec_PlanOk.j0, Bool.false_eq_true, if_false]
        exact spec_PlanOk_l fr pa xs x1 x2 hn xs.length 0 0 (by omega) (by omega) (by omega)
theorem impl_PlanOk_l (fr pa : Int) (xs : List Wn) (hn : xs.length ≤ 140737488355328) (d : Nat) : ∀ (i : Nat) (e : Int), i + d = xs.length → ∃ v, Ev (fun k => impl_PlanOk.l0 k e xs (xs.length : Int) (i : Int) fr pa xs) v ∧ (v = true → (inB fr 1 100000 = true ∧ inB pa 1 10 = true)) ∧ (inB fr 1 100000 = true → inB pa 1 10 = true → 0 ≤ e → e ≤ fr → v = (decide ((xs.length : Int) ≤ 40) && planFrom fr pa xs d i e)) := by
  induction d with
  | zero =>
    intro i e h
    refine ⟨inB fr 1 100000 && (inB pa 1 10 && decide ((xs.length : Int) ≤ 40)), ev_succ ?_, ?_, ?_⟩
    · simp only [impl_PlanOk.l0, if_neg (show ¬ ((i : Int) < (xs.length : Int)) by omega), impl_in_eq, Option.bind_some]
      cases inB fr 1 100000 <;> cases inB pa 1 10 <;> simpa using ev_now _
    · intro hv
      simp only [Bool.and_eq_true] at hv
      exact ⟨hv.1, hv.2.1⟩
    · intro h1 h2 _ _
      simp [h1, h2, planFrom]
  | succ d ih =>
    intro i e h
    by_cases hgood : inB fr 1 100000 = true ∧ inB pa 1 10 = true ∧ 0 ≤ e ∧ e ≤ fr
    · obtain ⟨g1, g2, g3, g4⟩ := hgood
      have g1' := inB_iff.1 g1
      have g2' := inB_iff.1 g2
      have hun : (fun k => impl_PlanOk.l0 (k + 1) e xs (xs.length : Int) (i : Int) fr pa xs) = fun k => if inB (wnAt xs i).f0 0 (pa - 1) = true then (if inB (wnAt xs i).f2 1 10000 = true then (if (wnAt xs i).f1 < e then some false else (if (wnAt xs i).f1 > wrap64 (fr - (wnAt xs i).f2) then some false else impl_PlanOk.l0 k (wrap64 ((wnAt xs i).f1 + (wnAt xs i).f2)) xs (xs.length : Int) ((i + 1 : Nat) : Int) fr pa xs)) else some false) else some false := by
        funext k
        simp only [impl_PlanOk.l0, if_pos (show ((i : Int) < (xs.length : Int)) by omega), if_pos (show (0 : Int) ≤ (i : Int) by omega), impl_in_eq, Option.bind_some, w64s i (by omega), w64 (n := pa - 1) (by omega) (by omega)]
      have hpf : planFrom fr pa xs (d + 1) i e = (inB (wnAt xs i).f0 0 (pa - 1) && (inB (wnAt xs i).f2 1 10000 && (inB (wnAt xs i).f1 e (fr - (wnAt xs i).f2) && planFrom fr pa xs d (i + 1) ((wnAt xs i).f1 + (wnAt xs i).f2)))) := rfl
      rw [hpf]
      have hgo : ∀ v, Ev (fun k => impl_PlanOk.l0 (k + 1) e xs (xs.length : Int) (i : Int) fr pa xs) v → Ev (fun k => impl_PlanOk.l0 k e xs (xs.length : Int) (i : Int) fr pa xs) v := fun v hv => ev_succ hv
      rw [hun] at hgo
      generalize wnAt xs i = x at hgo ⊢
      cases x1 : inB x.f0 0 (pa - 1) with
      | false => exact ⟨false, hgo _ (by simpa [x1] using ev_now false), by simp, by simp⟩
      | true =>
        cases x2 : inB x.f2 1 10000 with
        | false => exact ⟨false, hgo _ (by simpa [x1, x2] using ev_now false), by simp, by simp⟩
        | true =>
          have x2' := inB_iff.1 x2
          have w1 : wrap64 (fr - x.f2) = fr - x.f2 := w64 (by omega) (by omega)
          cases x3 : inB x.f1 e (fr - x.f2) with
          | false =>
            refine ⟨false, hgo _ ?_, by simp, by simp⟩
            rw [Bool.eq_false_iff, ne_eq, inB_iff] at x3
            simp only [x1, x2, if_true, w1]
            by_cases x4 : x.f1 < e
            · simpa only [if_pos x4] using ev_now false
            · simpa only [if_neg x4, if_pos (show x.f1 > fr - x.f2 by omega)] using ev_now false
          | true =>
            rw [inB_iff] at x3
            have w2 : wrap64 (x.f1 + x.f2) = x.f1 + x.f2 := w64 (by omega) (by omega)
            obtain ⟨v, hv, hr1, hr2⟩ := ih (i + 1) (x.f1 + x.f2) (by omega)
            refine ⟨v, hgo _ ?_, hr1, ?_⟩
            · simpa only [x1, x2, if_true, w1, w2, if_neg (show ¬ x.f1 < e by omega), if_neg (show ¬ x.f1 > fr - x.f2 by omega)] using hv
            · intro _ _ _ _
              rw [hr2 g1 g2 (by omega) (by omega)]
              simp
    · have hbad : ∀ v, Ev (fun k => impl_PlanOk.l0 k e xs (xs.length : Int) (i : Int) fr pa xs) v ∧ (v = true → (inB fr 1 100000 = true ∧ inB pa 1 10 = true)) → ∃ v, Ev (fun k => impl_PlanOk.l0 k e xs (xs.length : Int) (i : Int) fr pa xs) v ∧ (v = true → (inB fr 1 100000 = true ∧ inB pa 1 10 = true)) ∧ (inB fr 1 100000 = true → inB pa 1 10 = true → 0 ≤ e → e ≤ fr → v = (decide ((xs.length : Int) ≤ 40) && planFrom fr pa xs (d + 1) i e)) :=
        fun v h => ⟨v, h.1, h.2, fun a b c f => absurd ⟨a, b, c, f⟩ hgood⟩
      have hex : ∃ v, Ev (fun k => impl_PlanOk.l0 k e xs (xs.length : Int) (i : Int) fr pa xs) v ∧ (v = true → (inB fr 1 100000 = true ∧ inB pa 1 10 = true)) := by
        have hgo : ∀ v, Ev (fun k => impl_PlanOk.l0 (k + 1) e xs (xs.length : Int) (i : Int) fr pa xs) v → Ev (fun k => impl_PlanOk.l0 k e xs (xs.length : Int) (i : Int) fr pa xs) v := fun v hv => ev_succ hv
        simp only [impl_PlanOk.l0, if_pos (show ((i : Int) < (xs.length : Int)) by omega), if_pos (show (0 : Int) ≤ (i : Int) by omega), impl_in_eq, Option.bind_some, w64s i (by omega)] at hgo
        cases x1 : inB (rd_T62 xs i).f0 0 (wrap64 (pa - 1)) with
        | false => exact ⟨false, hgo _ (by simpa [x1] using ev_now false), by simp⟩
        | true =>
          cases x2 : inB (rd_T62 xs i).f2 1 10000 with
          | false => exact ⟨false, hgo _ (by simpa [x1, x2] using ev_now false), by simp⟩
          | true =>
            by_cases x3 : (rd_T62 xs i).f1 < e
            · exact ⟨false, hgo _ (by simpa only [x1, x2, if_true, if_pos x3] using ev_now false), by simp⟩
            · by_cases x4 : (rd_T62 xs i).f1 > wrap64 (fr - (rd_T62 xs i).f2)
              · exact ⟨false, hgo _ (by simpa only [x1, x2, if_true, if_neg x3, if_pos x4] using ev_now false), by simp⟩
              · obtain ⟨v, hv, hr1, _⟩ := ih (i + 1) (wrap64 ((rd_T62 xs i).f1 + (rd_T62 xs i).f2)) (by omega)
                exact ⟨v, hgo _ (by simpa only [x1, x2, if_true, if_neg x3, if_neg x4] using hv), hr1⟩
      obtain ⟨v, hv⟩ := hex
      exact hbad v hv
theorem impl_PlanOk_ev (fr pa : Int) (xs : List Wn) (hn : xs.length ≤ 140737488355328) : Ev (fun k => impl_PlanOk.f k fr pa xs) (planB fr pa xs) := by
  obtain ⟨v, hv, h1, h2⟩ := impl_PlanOk_l fr pa xs hn xs.length 0 0 (by omega)
  have e : v = planB fr pa xs := by
    unfold planB
    cases x1 : inB fr 1 100000 with
    | false => cases v with
      | false => rfl
      | true => have := h1 rfl; simp [x1] at this
    | true =>
      cases x2 : inB pa 1 10 with
      | false => cases v with
        | false => rfl
        | true => have := h1 rfl; simp [x2] at this
      | true => have x1' := inB_iff.1 x1; rw [h2 x1 x2 (by omega) (by omega)]; simp
  rw [← e]
  exact hv
theorem toPlan17_ev (fr pa : Int) (xs : List S85) (hn : xs.length ≤ 11728124029610) : Ev (fun k => laws_toPlan17.f k fr pa xs) (fr, pa, xs.map convWindow) := by
  simp only [laws_toPlan17.f]
  exact (toWindowS_ev xs hn).bind (f := fun _ t => some (fr, pa, t)) (ev_now _)
theorem eqPlan17_self (fr pa : Int) (xs : List Wn) (hn : xs.length ≤ 140737488355328) : Ev (fun k => laws_eqPlan17.f k fr pa xs fr pa xs) true := by
  simp only [laws_eqPlan17.f, if_true]
  exact (eqWindowS_self xs hn).bind (f := fun _ t => if t = true then some true else some false) (ev_now _)
theorem szPlan17_eq (fr pa : Int) (xs : List S85) (hn : xs.length ≤ 140737488355328) : laws_szPlan17.f fr pa xs 1048576 = some (if (1048576 : Int) - (xs.length : Int) < 0 then -1 else (1048576 : Int) - (xs.length : Int)) := by
  simp only [laws_szPlan17.f, szWindowS_eq xs 1048576 (by omega) (by omega) hn, Option.bind_some]
  by_cases h : (1048576 : Int) - (xs.length : Int) < 0
  · simp only [if_pos h, if_pos (show (-1 : Int) < 0 by omega)]
  · simp only [if_neg h]
/-! Who owns a tick. -/
def ownerFrom (xs : List Wn) (t : Int) : Nat → Nat → Int
  | 0, _ => -1
  | d + 1, i => if (wnAt xs i).f1 ≤ t ∧ t < (wnAt xs i).f1 + (wnAt xs i).f2 then (wnAt xs i).f0 else ownerFrom xs t d (i + 1)
theorem spec_Owner_l (fr pa t : Int) (xs : List Wn) (hb : planB fr pa xs = true) (d : Nat) : ∀ i : Nat, i + d = xs.length → Ev (fun k => spec_Owner.l0 k t (i : Int) fr pa xs) (ownerFrom xs t d i, true) := by
  obtain ⟨hf, hp, hl, ha⟩ := planB_at hb
  induction d with
  | zero =>
    intro i h
    refine ev_succ ?_
    simp only [spec_Owner.l0, if_neg (show ¬ ((i : Int) < (xs.length : Int)) by omega)]
    exact ev_now _
  | succ d ih =>
    intro i h
    have hi := ih (i + 1) (by omega)
    have ha := ha i (by omega)
    refine ev_succ ?_
    simp only [spec_Owner.l0, if_pos (show ((i : Int) < (xs.length : Int)) by omega), if_pos (show (0 : Int) ≤ (i : Int) by omega), spec_in_eq, Option.bind_some, w64s i (by omega)]
    unfold ownerFrom
    show Ev _ (if (rd_T62 xs (i : Int)).f1 ≤ t ∧ t < (rd_T62 xs (i : Int)).f1 + (rd_T62 xs (i : Int)).f2 then (rd_T62 xs (i : Int)).f0 else ownerFrom xs t d (i + 1), true)
    change (0 ≤ (rd_T62 xs (i : Int)).f0 ∧ (rd_T62 xs (i : Int)).f0 ≤ pa - 1) ∧ (0 ≤ (rd_T62 xs (i : Int)).f1 ∧ (rd_T62 xs (i : Int)).f1 + (rd_T62 xs (i : Int)).f2 ≤ fr) ∧ (1 ≤ (rd_T62 xs (i : Int)).f2 ∧ (rd_T62 xs (i : Int)).f2 ≤ 10000) at ha
    generalize rd_T62 xs (i : Int) = x at ha ⊢
    rw [w64 (n := x.f1 + x.f2) (by omega) (by omega), w64 (n := x.f1 + x.f2 - 1) (by omega) (by omega)]
    by_cases hx : x.f1 ≤ t ∧ t < x.f1 + x.f2
    · have : inB t x.f1 (x.f1 + x.f2 - 1) = true := by rw [inB_iff]; omega
      simpa only [this, if_pos hx, if_true] using ev_now _
    · have : inB t x.f1 (x.f1 + x.f2 - 1) = false := by rw [Bool.eq_false_iff, ne_eq, inB_iff]; omega
      simpa only [this, if_neg hx, Bool.false_eq_true, if_false] using hi
theorem impl_owner_l (fr pa t : Int) (xs : List Wn) (hb : planB fr pa xs = true) (d : Nat) : ∀ i : Nat, i + d = xs.length → Ev (fun k => impl_owner.l0 k t xs (xs.length : Int) (i : Int)) (ownerFrom xs t d i) := by
  obtain ⟨hf, hp, hl, ha⟩ := planB_at hb
  induction d with
  | zero =>
    intro i h
    refine ev_succ ?_
    simp only [impl_owner.l0, if_neg (show ¬ ((i : Int) < (xs.length : Int)) by omega)]
    exact ev_now _
  | succ d ih =>
    intro i h
    have hi := ih (i + 1) (by omega)
    have ha := ha i (by omega)
    refine ev_succ ?_
    simp only [impl_owner.l0, if_pos (show ((i : Int) < (xs.length : Int)) by omega), if_pos (show (0 : Int) ≤ (i : Int) by omega), w64s i (by omega)]
    unfold ownerFrom
    show Ev _ (if (rd_T62 xs (i : Int)).f1 ≤ t ∧ t < (rd_T62 xs (i : Int)).f1 + (rd_T62 xs (i : Int)).f2 then (rd_T62 xs (i : Int)).f0 else ownerFrom xs t d (i + 1))
    change (0 ≤ (rd_T62 xs (i : Int)).f0 ∧ (rd_T62 xs (i : Int)).f0 ≤ pa - 1) ∧ (0 ≤ (rd_T62 xs (i : Int)).f1 ∧ (rd_T62 xs (i : Int)).f1 + (rd_T62 xs (i : Int)).f2 ≤ fr) ∧ (1 ≤ (rd_T62 xs (i : Int)).f2 ∧ (rd_T62 xs (i : Int)).f2 ≤ 10000) at ha
    generalize rd_T62 xs (i : Int) = x at ha ⊢
    rw [w64 (n := x.f1 + x.f2) (by omega) (by omega)]
    by_cases hx : x.f1 ≤ t ∧ t < x.f1 + x.f2
    · simpa only [if_pos (show t ≥ x.f1 by omega), if_pos hx.2, if_pos hx] using ev_now _
    · rw [if_neg hx]
      by_cases h1 : t ≥ x.f1
      · simpa only [if_pos h1, if_neg (show ¬ t < x.f1 + x.f2 by omega)] using hi
      · simpa only [if_neg h1] using hi
def owner17 (fr pa : Int) (xs : List Wn) (t : Int) : Int × Bool := if (planB fr pa xs && inB t 0 100000000) = true then (ownerFrom xs (Int.tmod t fr) xs.length 0, true) else (-1, false)
theorem spec_Owner_ev (fr pa : Int) (xs : List Wn) (t : Int) (hn : xs.length ≤ 140737488355328) : Ev (fun k => spec_Owner.f k fr pa xs t) (owner17 fr pa xs t) := by
  simp only [spec_Owner.f, spec_l1Tick.f, spec_in_eq, Option.bind_some]
  refine (spec_PlanOk_ev fr pa xs hn).bind ?_
  have ht : Ev (fun k => spec_Owner.j0 k t true fr pa xs) (-1, false) := by
    refine ev_succ ?_
    simpa only [spec_Owner.j0, if_true] using ev_now _
  unfold owner17
  cases x1 : planB fr pa xs with
  | false => simpa using ht
  | true =>
    cases x2 : inB t 0 100000000 with
    | false => simpa using ht
    | true =>
      obtain ⟨hf, _⟩ := planB_at x1
      simp only [if_true, Bool.and_self, Bool.not_true]
      refine ev_succ ?_
      simp only [spec_Owner.j0, Bool.false_eq_true, if_false, if_neg (show ¬ fr = 0 by omega)]
      exact spec_Owner_l fr pa _ xs x1 xs.length 0 (by omega)
/-! Jobs. -/
abbrev Jb := S74
abbrev jbAt (xs : List Jb) (i : Int) : Jb := rd_T74 xs i
abbrev St := List Int × List Int × List Int
def jobB (pa : Int) (x : Jb) : Bool := inB x.f0 0 (pa - 1) && (inB x.f1 1 100000 && inB x.f2 1 100000)
def jobsFrom (pa : Int) (xs : List Jb) : Nat → Nat → Bool
  | 0, _ => true
  | d + 1, i => jobB pa (jbAt xs i) && jobsFrom pa xs d (i + 1)
def arr1 (xs : List Jb) (t i : Int) (s : St) : St :=
  if Int.tmod t (jbAt xs i).f1 = 0 then (if rd s.2.1 i > 0 then s.1.set i.toNat (wrap64 (rd s.1 i + 1)) else s.1, s.2.1.set i.toNat (jbAt xs i).f2, s.2.2.set i.toNat t) else s
def arrFrom (xs : List Jb) (t : Int) : Nat → Nat → St → St
  | 0, _, s => s
  | d + 1, i, s => arrFrom xs t d (i + 1) (arr1 xs t (i : Int) s)
def best1 (xs : List Jb) (who : Int) (s : St) (i b : Int) : Int :=
  if (jbAt xs i).f0 = who then (if rd s.2.1 i > 0 then (if b < 0 then i else if rd s.2.2 i < rd s.2.2 b then i else b) else b) else b
def bestFrom (xs : List Jb) (who : Int) (s : St) : Nat → Nat → Int → Int
  | 0, _, b => b
  | d + 1, i, b => bestFrom xs who s d (i + 1) (best1 xs who s (i : Int) b)
def aft (who : Int) (left : List Int) (idle b : Int) : List Int × Int :=
  if b ≥ 0 then (left.set b.toNat (wrap64 (rd left b - 1)), idle) else if who ≥ 0 then (left, wrap64 (idle + 1)) else (left, idle)
def whoAt (fr : Int) (ws : List Wn) (t : Int) : Int := ownerFrom ws (Int.tmod t fr) ws.length 0
def tickS (fr : Int) (ws : List Wn) (xs : List Jb) (t : Int) (s : St) : St := arrFrom xs t xs.length 0 s
def tickA (fr : Int) (ws : List Wn) (xs : List Jb) (t : Int) (s : St) (idle : Int) : List Int × Int :=
  aft (whoAt fr ws t) (tickS fr ws xs t s).2.1 idle (bestFrom xs (whoAt fr ws t) (tickS fr ws xs t s) xs.length 0 (-1))
def runFrom (fr : Int) (ws : List Wn) (xs : List Jb) : Nat → Nat → St → Int → List Int × Int
  | 0, _, s, idle => (s.1, idle)
  | d + 1, t, s, idle => runFrom fr ws xs d (t + 1) ((tickS fr ws xs t s).1, (tickA fr ws xs t s idle).1, (tickS fr ws xs t s).2.2) (tickA fr ws xs t s idle).2
def okS (n : Nat) (s : St) : Prop := s.1.length = n ∧ s.2.1.length = n ∧ s.2.2.length = n
theorem aft_pos {who : Int} {left : List Int} {idle b : Int} (h : b ≥ 0) : aft who left idle b = (left.set b.toNat (wrap64 (rd left b - 1)), idle) := by unfold aft; rw [if_pos h]
theorem aft_neg1 {who : Int} {left : List Int} {idle b : Int} (h : ¬ b ≥ 0) (h2 : who ≥ 0) : aft who left idle b = (left, wrap64 (idle + 1)) := by unfold aft; rw [if_neg h, if_pos h2]
theorem aft_neg2 {who : Int} {left : List Int} {idle b : Int} (h : ¬ b ≥ 0) (h2 : ¬ who ≥ 0) : aft who left idle b = (left, idle) := by unfold aft; rw [if_neg h, if_neg h2]
theorem arr1_ok {xs : List Jb} {t i : Int} {n : Nat} {s : St} (h : okS n s) : okS n (arr1 xs t i s) := by
  obtain ⟨h1, h2, h3⟩ := h
  unfold arr1
  split
  · refine ⟨?_, by simpa using h2, by simpa using h3⟩
    simp only
    split
    · simpa using h1
    · exact h1
  · exact ⟨h1, h2, h3⟩
theorem arrFrom_ok {xs : List Jb} {t : Int} {n : Nat} (d : Nat) : ∀ (i : Nat) (s : St), okS n s → okS n (arrFrom xs t d i s) := by
  induction d with
  | zero => intro i s h; exact h
  | succ d ih => intro i s h; exact ih (i + 1) _ (arr1_ok h)
theorem aft_len (who : Int) (left : List Int) (idle b : Int) : (aft who left idle b).1.length = left.length := by
  unfold aft
  split
  · simp
  · split <;> rfl
theorem run_len (fr : Int) (ws : List Wn) (xs : List Jb) (n : Nat) (d : Nat) : ∀ (t : Nat) (s : St) (idle : Int), okS n s → (runFrom fr ws xs d t s idle).1.length = n := by
  induction d with
  | zero => intro t s idle h; exact h.1
  | succ d ih =>
    intro t s idle h
    have h' := arrFrom_ok (xs := xs) (t := (t : Int)) xs.length 0 s h
    exact ih (t + 1) _ _ ⟨h'.1, by rw [show (tickA fr ws xs t s idle).1.length = (tickS fr ws xs t s).2.1.length from aft_len _ _ _ _]; exact h'.2.1, h'.2.2⟩
def runB (fr pa : Int) (ws : List Wn) (xs : List Jb) (n : Int) : Bool := planB fr pa ws && (decide ((xs.length : Int) ≤ 20) && (inB n 0 5000 && jobsFrom pa xs xs.length 0))
def run17 (fr pa : Int) (ws : List Wn) (xs : List Jb) (n : Int) : List Int × Int × Bool :=
  if runB fr pa ws xs n = true then ((runFrom fr ws xs n.toNat 0 (List.replicate xs.length 0, List.replicate xs.length 0, List.replicate xs.length 0) 0).1, (runFrom fr ws xs n.toNat 0 (List.replicate xs.length 0, List.replicate xs.length 0, List.replicate xs.length 0) 0).2, true) else ([], 0, false)
theorem run17_len (fr pa : Int) (ws : List Wn) (xs : List Jb) (n : Int) (h : xs.length ≤ 11728124029610) : (run17 fr pa ws xs n).1.length ≤ 11728124029610 := by
  unfold run17
  split
  · simp only
    rw [run_len fr ws xs xs.length n.toNat 0 _ 0 (by simp [okS])]
    exact h
  · simp
theorem jobsFrom_all {pa : Int} {xs : List Jb} (d : Nat) : ∀ i : Nat, i + d = xs.length → jobsFrom pa xs d i = true → ∀ j : Nat, i ≤ j → j < xs.length → jobB pa (jbAt xs j) = true := by
  induction d with
  | zero => intro i h _ j hj hl; omega
  | succ d ih =>
    intro i h hb j hj hl
    simp only [jobsFrom, Bool.and_eq_true] at hb
    by_cases e : j = i
    · subst e; exact hb.1
    · exact ih (i + 1) (by omega) hb.2 j (by omega) hl
theorem best1_in {xs : List Jb} {who : Int} {s : St} {i : Nat} {b : Int} (h : -1 ≤ b ∧ b < (i : Int)) : -1 ≤ best1 xs who s (i : Int) b ∧ best1 xs who s (i : Int) b < ((i + 1 : Nat) : Int) := by
  unfold best1
  repeat' split
  all_goals omega
section
variable (fr pa : Int) (ws : List Wn) (xs : List Jb) (n : Int) (hn : xs.length ≤ 20) (hb : planB fr pa ws = true) (hj : ∀ j : Nat, j < xs.length → jobB pa (jbAt xs j) = true)
include hn
theorem spec_run_l3 (t : Nat) (who : Int) (s : St) (hs : okS xs.length s) (idle : Int) (R : List Int × Int × Bool) (d : Nat) : ∀ (i : Nat) (b : Int), i + d = xs.length → (-1 ≤ b ∧ b < (i : Int)) →
    Ev (fun k => spec_RunJobs.l1 k xs n s.1 (aft who s.2.1 idle (bestFrom xs who s d i b)).1 s.2.2 (aft who s.2.1 idle (bestFrom xs who s d i b)).2 (wrap64 ((t : Int) + 1)) fr pa ws) R →
    Ev (fun k => spec_RunJobs.l3 k xs n s.1 s.2.1 s.2.2 idle (t : Int) who b (i : Int) fr pa ws) R := by
  obtain ⟨h1, h2, h3⟩ := hs
  induction d with
  | zero =>
    intro i b h hb hk
    refine ev_succ ?_
    simp only [spec_RunJobs.l3, if_neg (show ¬ ((i : Int) < (xs.length : Int)) by omega)]
    simp only [bestFrom] at hk
    by_cases x : b ≥ 0
    · rw [aft_pos x] at hk
      simp only [if_pos x, if_pos (show 0 ≤ b from x), if_pos (show b < (s.2.1.length : Int) by omega)]
      exact hk
    · by_cases y : who ≥ 0
      · rw [aft_neg1 x y] at hk
        simp only [if_neg x, if_pos y]
        exact hk
      · rw [aft_neg2 x y] at hk
        simp only [if_neg x, if_neg y]
        exact hk
  | succ d ih =>
    intro i b h hb hk
    have hbb := best1_in (xs := xs) (who := who) (s := s) hb
    have hi := ih (i + 1) (best1 xs who s (i : Int) b) (by omega) hbb (by simpa only [bestFrom] using hk)
    simp only [best1, jbAt] at hi
    refine ev_succ ?_
    simp only [spec_RunJobs.l3, if_pos (show ((i : Int) < (xs.length : Int)) by omega), if_pos (show (0 : Int) ≤ (i : Int) by omega), if_pos (show (i : Int) < (s.2.1.length : Int) by omega), if_pos (show (i : Int) < (s.2.2.length : Int) by omega), w64s i (show i < 9223372036854775807 by omega)]
    by_cases a1 : (rd_T74 xs (i : Int)).f0 = who
    · simp only [if_pos a1] at hi ⊢
      by_cases a2 : rd s.2.1 (i : Int) > 0
      · simp only [if_pos a2] at hi ⊢
        by_cases a3 : b < 0
        · simp only [if_pos a3] at hi ⊢
          exact hi
        · simp only [if_neg a3, if_pos (show (0 : Int) ≤ b by omega), if_pos (show b < (s.2.2.length : Int) by omega)] at hi ⊢
          by_cases a4 : rd s.2.2 (i : Int) < rd s.2.2 b
          · simp only [if_pos a4] at hi ⊢; exact hi
          · simp only [if_neg a4] at hi ⊢; exact hi
      · simp only [if_neg a2] at hi ⊢; exact hi
    · simp only [if_neg a1] at hi ⊢; exact hi
include hj hb
theorem spec_run_l2 (t : Nat) (ht : t ≤ 5000) (idle : Int) (R : List Int × Int × Bool) (d : Nat) : ∀ (i : Nat) (s : St), okS xs.length s → i + d = xs.length →
    Ev (fun k => spec_RunJobs.l1 k xs n (arrFrom xs t d i s).1 (aft (whoAt fr ws t) (arrFrom xs t d i s).2.1 idle (bestFrom xs (whoAt fr ws t) (arrFrom xs t d i s) xs.length 0 (-1))).1 (arrFrom xs t d i s).2.2 (aft (whoAt fr ws t) (arrFrom xs t d i s).2.1 idle (bestFrom xs (whoAt fr ws t) (arrFrom xs t d i s) xs.length 0 (-1))).2 (wrap64 ((t : Int) + 1)) fr pa ws) R →
    Ev (fun k => spec_RunJobs.l2 k xs n s.1 s.2.1 s.2.2 idle (t : Int) (i : Int) fr pa ws) R := by
  induction d with
  | zero =>
    intro i s hs h hk
    refine ev_succ ?_
    simp only [spec_RunJobs.l2, if_neg (show ¬ ((i : Int) < (xs.length : Int)) by omega)]
    have hl := (planB_at hb).2.2.1
    have ho := spec_Owner_ev fr pa ws (t : Int) (by omega)
    rw [show owner17 fr pa ws (t : Int) = (whoAt fr ws t, true) by unfold owner17; rw [if_pos (by rw [hb, Bool.true_and, inB_iff]; omega)]; rfl] at ho
    exact ho.bind (spec_run_l3 fr pa ws xs n hn t (whoAt fr ws t) s hs idle R xs.length 0 (-1) (by omega) (by omega) hk)
  | succ d ih =>
    intro i s hs h hk
    have hi := ih (i + 1) (arr1 xs (t : Int) (i : Int) s) (arr1_ok hs) (by omega) (by simpa only [arrFrom] using hk)
    obtain ⟨h1, h2, h3⟩ := hs
    have hje := hj i (by omega)
    simp only [jobB, jbAt, Bool.and_eq_true, inB_iff] at hje
    refine ev_succ ?_
    simp only [spec_RunJobs.l2, if_pos (show ((i : Int) < (xs.length : Int)) by omega), if_pos (show (0 : Int) ≤ (i : Int) by omega), if_neg (show ¬ (rd_T74 xs (i : Int)).f1 = 0 by omega), if_pos (show (i : Int) < (s.1.length : Int) by omega), if_pos (show (i : Int) < (s.2.1.length : Int) by omega), if_pos (show (i : Int) < (s.2.2.length : Int) by omega), w64s i (show i < 9223372036854775807 by omega)]
    simp only [arr1, jbAt] at hi
    by_cases a1 : Int.tmod (t : Int) (rd_T74 xs (i : Int)).f1 = 0
    · simp only [if_pos a1] at hi ⊢
      by_cases a2 : rd s.2.1 (i : Int) > 0
      · simp only [if_pos a2] at hi ⊢; exact hi
      · simp only [if_neg a2] at hi ⊢; exact hi
    · simp only [if_neg a1] at hi ⊢; exact hi
theorem spec_run_l1 (hn0 : 0 ≤ n) (hn1 : n ≤ 5000) (d : Nat) : ∀ (t : Nat) (s : St) (idle : Int), okS xs.length s → (t : Int) + d = n → Ev (fun k => spec_RunJobs.l1 k xs n s.1 s.2.1 s.2.2 idle (t : Int) fr pa ws) ((runFrom fr ws xs d t s idle).1, (runFrom fr ws xs d t s idle).2, true) := by
  induction d with
  | zero =>
    intro t s idle hs h
    refine ev_succ ?_
    simp only [spec_RunJobs.l1, if_neg (show ¬ ((t : Int) < n) by omega)]
    exact ev_now _
  | succ d ih =>
    intro t s idle hs h
    refine ev_succ ?_
    simp only [spec_RunJobs.l1, if_pos (show ((t : Int) < n) by omega)]
    refine spec_run_l2 fr pa ws xs n hn hb hj t (by omega) idle _ xs.length 0 s hs (by omega) ?_
    rw [w64s t (by omega)]
    have h' := arrFrom_ok (xs := xs) (t := (t : Int)) xs.length 0 s hs
    exact ih (t + 1) ((tickS fr ws xs t s).1, (tickA fr ws xs t s idle).1, (tickS fr ws xs t s).2.2) (tickA fr ws xs t s idle).2 ⟨h'.1, by rw [show (tickA fr ws xs t s idle).1.length = (tickS fr ws xs t s).2.1.length from aft_len _ _ _ _]; exact h'.2.1, h'.2.2⟩ (by omega)
omit hj hb
theorem impl_run_l2 (t : Nat) (who : Int) (s : St) (hs : okS xs.length s) (idle : Int) (R : List Int × Int × Bool) (d : Nat) : ∀ (i : Nat) (b : Int), i + d = xs.length → (-1 ≤ b ∧ b < (i : Int)) →
    Ev (fun k => impl_RunJobs.l0 k xs s.1 (aft who s.2.1 idle (bestFrom xs who s d i b)).1 s.2.2 (aft who s.2.1 idle (bestFrom xs who s d i b)).2 n (wrap64 ((t : Int) + 1)) fr pa ws) R →
    Ev (fun k => impl_RunJobs.l2 k xs s.1 s.2.1 s.2.2 idle who b n (t : Int) xs (xs.length : Int) (i : Int) fr pa ws) R := by
  obtain ⟨h1, h2, h3⟩ := hs
  induction d with
  | zero =>
    intro i b h hb hk
    refine ev_succ ?_
    simp only [impl_RunJobs.l2, if_neg (show ¬ ((i : Int) < (xs.length : Int)) by omega)]
    simp only [bestFrom] at hk
    by_cases x : b ≥ 0
    · rw [aft_pos x] at hk
      simp only [if_pos x, if_pos (show 0 ≤ b from x), if_pos (show b < (s.2.1.length : Int) by omega)]
      exact hk
    · by_cases y : who ≥ 0
      · rw [aft_neg1 x y] at hk
        simp only [if_neg x, if_pos y]
        exact hk
      · rw [aft_neg2 x y] at hk
        simp only [if_neg x, if_neg y]
        exact hk
  | succ d ih =>
    intro i b h hb hk
    have hbb := best1_in (xs := xs) (who := who) (s := s) hb
    have hi := ih (i + 1) (best1 xs who s (i : Int) b) (by omega) hbb (by simpa only [bestFrom] using hk)
    simp only [best1, jbAt] at hi
    refine ev_succ ?_
    simp only [impl_RunJobs.l2, if_pos (show ((i : Int) < (xs.length : Int)) by omega), if_pos (show (0 : Int) ≤ (i : Int) by omega), if_pos (show (i : Int) < (s.2.1.length : Int) by omega), if_pos (show (i : Int) < (s.2.2.length : Int) by omega), w64s i (show i < 9223372036854775807 by omega)]
    by_cases a1 : (rd_T74 xs (i : Int)).f0 = who
    · simp only [if_pos a1] at hi ⊢
      by_cases a2 : rd s.2.1 (i : Int) > 0
      · simp only [if_pos a2] at hi ⊢
        by_cases a3 : b < 0
        · simp only [if_pos a3] at hi ⊢
          exact hi
        · simp only [if_neg a3, if_pos (show (0 : Int) ≤ b by omega), if_pos (show b < (s.2.2.length : Int) by omega)] at hi ⊢
          by_cases a4 : rd s.2.2 (i : Int) < rd s.2.2 b
          · simp only [if_pos a4] at hi ⊢; exact hi
          · simp only [if_neg a4] at hi ⊢; exact hi
      · simp only [if_neg a2] at hi ⊢; exact hi
    · simp only [if_neg a1] at hi ⊢; exact hi
include hj hb
theorem impl_run_l1 (t : Nat) (ht : t ≤ 5000) (idle : Int) (R : List Int × Int × Bool) (d : Nat) : ∀ (i : Nat) (s : St), okS xs.length s → i + d = xs.length →
    Ev (fun k => impl_RunJobs.l0 k xs (arrFrom xs t d i s).1 (aft (whoAt fr ws t) (arrFrom xs t d i s).2.1 idle (bestFrom xs (whoAt fr ws t) (arrFrom xs t d i s) xs.length 0 (-1))).1 (arrFrom xs t d i s).2.2 (aft (whoAt fr ws t) (arrFrom xs t d i s).2.1 idle (bestFrom xs (whoAt fr ws t) (arrFrom xs t d i s) xs.length 0 (-1))).2 n (wrap64 ((t : Int) + 1)) fr pa ws) R →
    Ev (fun k => impl_RunJobs.l1 k xs s.1 s.2.1 s.2.2 idle (t : Int) n (t : Int) xs (xs.length : Int) (i : Int) fr pa ws) R := by
  induction d with
  | zero =>
    intro i s hs h hk
    refine ev_succ ?_
    simp only [impl_RunJobs.l1, if_neg (show ¬ ((i : Int) < (xs.length : Int)) by omega)]
    have hl := (planB_at hb).2.2.1
    have hf := (planB_at hb).1
    have ho : Ev (fun k => impl_owner.f k fr pa ws (t : Int)) (whoAt fr ws t) := by
      simp only [impl_owner.f, if_neg (show ¬ fr = 0 by omega)]
      exact impl_owner_l fr pa (Int.tmod (t : Int) fr) ws hb ws.length 0 (by omega)
    exact ho.bind (impl_run_l2 fr pa ws xs n hn t (whoAt fr ws t) s hs idle R xs.length 0 (-1) (by omega) (by omega) hk)
  | succ d ih =>
    intro i s hs h hk
    have hi := ih (i + 1) (arr1 xs (t : Int) (i : Int) s) (arr1_ok hs) (by omega) (by simpa only [arrFrom] using hk)
    obtain ⟨h1, h2, h3⟩ := hs
    have hje := hj i (by omega)
    simp only [jobB, jbAt, Bool.and_eq_true, inB_iff] at hje
    refine ev_succ ?_
    simp only [impl_RunJobs.l1, if_pos (show ((i : Int) < (xs.length : Int)) by omega), if_pos (show (0 : Int) ≤ (i : Int) by omega), if_neg (show ¬ (rd_T74 xs (i : Int)).f1 = 0 by omega), if_pos (show (i : Int) < (s.1.length : Int) by omega), if_pos (show (i : Int) < (s.2.1.length : Int) by omega), if_pos (show (i : Int) < (s.2.2.length : Int) by omega), w64s i (show i < 9223372036854775807 by omega)]
    simp only [arr1, jbAt] at hi
    by_cases a1 : Int.tmod (t : Int) (rd_T74 xs (i : Int)).f1 = 0
    · simp only [if_pos a1] at hi ⊢
      by_cases a2 : rd s.2.1 (i : Int) > 0
      · simp only [if_pos a2] at hi ⊢; exact hi
      · simp only [if_neg a2] at hi ⊢; exact hi
    · simp only [if_neg a1] at hi ⊢; exact hi
theorem impl_run_l0 (hn0 : 0 ≤ n) (hn1 : n ≤ 5000) (d : Nat) : ∀ (t : Nat) (s : St) (idle : Int), okS xs.length s → (t : Int) + d = n → Ev (fun k => impl_RunJobs.l0 k xs s.1 s.2.1 s.2.2 idle n (t : Int) fr pa ws) ((runFrom fr ws xs d t s idle).1, (runFrom fr ws xs d t s idle).2, true) := by
  induction d with
  | zero =>
    intro t s idle hs h
    refine ev_succ ?_
    simp only [impl_RunJobs.l0, if_neg (show ¬ ((t : Int) < n) by omega)]
    exact ev_now _
  | succ d ih =>
    intro t s idle hs h
    refine ev_succ ?_
    simp only [impl_RunJobs.l0, if_pos (show ((t : Int) < n) by omega)]
    refine impl_run_l1 fr pa ws xs n hn hb hj t (by omega) idle _ xs.length 0 s hs (by omega) ?_
    rw [w64s t (by omega)]
    have h' := arrFrom_ok (xs := xs) (t := (t : Int)) xs.length 0 s hs
    exact ih (t + 1) ((tickS fr ws xs t s).1, (tickA fr ws xs t s idle).1, (tickS fr ws xs t s).2.2) (tickA fr ws xs t s idle).2 ⟨h'.1, by rw [show (tickA fr ws xs t s idle).1.length = (tickS fr ws xs t s).2.1.length from aft_len _ _ _ _]; exact h'.2.1, h'.2.2⟩ (by omega)
end
theorem zeros_ok (m : Nat) : okS m (List.replicate m 0, List.replicate m 0, List.replicate m 0) := by simp [okS]
theorem spec_run_jobs (fr pa : Int) (ws : List Wn) (xs : List Jb) (n : Int) (hn : xs.length ≤ 20) (hb : planB fr pa ws = true) (hn0 : 0 ≤ n) (hn1 : n ≤ 5000) (d : Nat) : ∀ i : Nat, i + d = xs.length → (∀ j : Nat, j < i → jobB pa (jbAt xs j) = true) →
    Ev (fun k => spec_RunJobs.l0 k xs n (i : Int) fr pa ws) (if jobsFrom pa xs d i = true then ((runFrom fr ws xs n.toNat 0 (List.replicate xs.length 0, List.replicate xs.length 0, List.replicate xs.length 0) 0).1, (runFrom fr ws xs n.toNat 0 (List.replicate xs.length 0, List.replicate xs.length 0, List.replicate xs.length 0) 0).2, true) else ([], 0, false)) := by
  have hp := (planB_at hb).2.1
  induction d with
  | zero =>
    intro i h hj
    refine ev_succ ?_
    simp only [spec_RunJobs.l0, if_neg (show ¬ ((i : Int) < (xs.length : Int)) by omega), if_pos (show (0 : Int) ≤ (xs.length : Int) by omega), Int.toNat_natCast, if_pos (show xs.length ≤ 35184372088832 by omega), jobsFrom, if_true]
    exact spec_run_l1 fr pa ws xs n hn hb (fun j h' => hj j (by omega)) hn0 hn1 n.toNat 0 _ 0 (zeros_ok _) (by omega)
  | succ d ih =>
    intro i h hj
    refine ev_succ ?_
    simp only [spec_RunJobs.l0, if_pos (show ((i : Int) < (xs.length : Int)) by omega), if_pos (show (0 : Int) ≤ (i : Int) by omega), spec_in_eq, Option.bind_some, w64 (n := pa - 1) (by omega) (by omega)]
    have hi := fun (hq : jobB pa (jbAt xs (i : Int)) = true) => ih (i + 1) (show i + 1 + d = xs.length by omega) (fun j (h' : j < i + 1) => by
          by_cases e : j = i
          · subst e; exact hq
          · exact hj j (by omega))
    cases hq : jobB pa (jbAt xs (i : Int)) with
    | false =>
      rw [if_neg (show ¬ jobsFrom pa xs (d + 1) i = true by simp only [jobsFrom, hq, Bool.false_and, Bool.false_eq_true, not_false_eq_true])]
      simp only [jobB, jbAt] at hq
      cases a1 : inB (rd_T74 xs (i : Int)).f0 0 (pa - 1) with
      | false => simpa using ev_now _
      | true =>
        cases a2 : inB (rd_T74 xs (i : Int)).f1 1 100000 with
        | false => simpa using ev_now _
        | true =>
          cases a3 : inB (rd_T74 xs (i : Int)).f2 1 100000 with
          | false => simpa using ev_now _
          | true => simp [a1, a2, a3] at hq
    | true =>
      have hi := hi hq
      simp only [jobsFrom, hq, Bool.true_and]
      simp only [jobB, jbAt, Bool.and_eq_true] at hq
      simp only [hq.1, hq.2.1, hq.2.2, if_true, w64s i (show i < 9223372036854775807 by omega)]
      exact hi
theorem spec_RunJobs_ev (fr pa : Int) (ws : List Wn) (xs : List Jb) (n : Int) (hw : ws.length ≤ 140737488355328) (hx : xs.length ≤ 140737488355328) : Ev (fun k => spec_RunJobs.f k fr pa ws xs n) (run17 fr pa ws xs n) := by
  have hbad : Ev (fun k => spec_RunJobs.j0 k xs n true fr pa ws) ([], 0, false) := by
    refine ev_succ ?_
    simp only [spec_RunJobs.j0, if_true]
    exact ev_now _
  simp only [spec_RunJobs.f, spec_in_eq, Option.bind_some]
  refine (spec_PlanOk_ev fr pa ws hw).bind ?_
  unfold run17 runB
  cases hb : planB fr pa ws with
  | false => simpa using hbad
  | true =>
    simp only [if_true, Bool.true_and]
    by_cases h1 : (xs.length : Int) > 20
    · simp only [if_pos h1, show ¬ ((xs.length : Int) ≤ 20) by omega, decide_false, Bool.false_and, Bool.false_eq_true, if_false]
      exact hbad
    · simp only [if_neg h1, show ((xs.length : Int) ≤ 20) by omega, decide_true, Bool.true_and]
      cases h2 : inB n 0 5000 with
      | false => simpa using hbad
      | true =>
        rw [inB_iff] at h2
        simp only [Bool.not_true, Bool.true_and]
        refine ev_succ ?_
        simp only [spec_RunJobs.j0, Bool.false_eq_true, if_false]
        exact spec_run_jobs fr pa ws xs n (by omega) hb h2.1 h2.2 xs.length 0 (by omega) (fun j h' => by omega)
theorem any_bad (pa : Int) (hp : 1 ≤ pa ∧ pa ≤ 10) (xs : List Jb) (d : Nat) : ∀ i : Nat, i + d = xs.length → (xs.drop i).any (badJob pa) = !jobsFrom pa xs d i := by
  induction d with
  | zero => intro i h; rw [List.drop_of_length_le (by omega)]; rfl
  | succ d ih =>
    intro i h
    rw [dropJob (show i < xs.length by omega), List.any_cons, ih (i + 1) (by omega)]
    simp only [jobsFrom, Bool.not_and]
    congr 1
    have e : ∀ a b c : Int, inI a b c = inB a b c := fun a b c => by unfold inI inB; by_cases x : b ≤ a <;> simp [x]
    simp only [badJob, jobB, e, w64 (n := pa - 1) (by omega) (by omega), Bool.not_and]
theorem impl_RunJobs_ev (fr pa : Int) (ws : List Wn) (xs : List Jb) (n : Int) (hw : ws.length ≤ 140737488355328) (hx : xs.length ≤ 140737488355328) : Ev (fun k => impl_RunJobs.f k fr pa ws xs n) (run17 fr pa ws xs n) := by
  have hbad : Ev (fun k => impl_RunJobs.j0 k xs n true fr pa ws) ([], 0, false) := by
    refine ev_succ ?_
    simp only [impl_RunJobs.j0, if_true]
    exact ev_now _
  simp only [impl_RunJobs.f, impl_in_eq, slices_ContainsFunc_RunJobs_1.f, if_pos (show xs.length ≤ 1152921504606846976 by omega), Option.bind_some]
  refine (impl_PlanOk_ev fr pa ws hw).bind ?_
  unfold run17 runB
  cases hb : planB fr pa ws with
  | false => simpa using hbad
  | true =>
    have ha := any_bad pa (planB_at hb).2.1 xs xs.length 0 (by omega)
    rw [List.drop_zero] at ha
    simp only [if_true, Bool.true_and, ha]
    cases hq : jobsFrom pa xs xs.length 0 with
    | false => simpa using hbad
    | true =>
      simp only [Bool.not_true, Bool.false_eq_true, if_false, Bool.and_true]
      by_cases h1 : (xs.length : Int) > 20
      · simp only [if_pos h1, show ¬ ((xs.length : Int) ≤ 20) by omega, decide_false, Bool.false_and, Bool.false_eq_true, if_false]
        exact hbad
      · simp only [if_neg h1, show ((xs.length : Int) ≤ 20) by omega, decide_true, Bool.true_and]
        cases h2 : inB n 0 5000 with
        | false => simpa using hbad
        | true =>
          rw [inB_iff] at h2
          simp only [Bool.not_true, if_true]
          refine ev_succ ?_
          simp only [impl_RunJobs.j0, Bool.false_eq_true, if_false, if_pos (show (0 : Int) ≤ (xs.length : Int) by omega), Int.toNat_natCast, if_pos (show xs.length ≤ 35184372088832 by omega)]
          exact impl_run_l0 fr pa ws xs n (by omega) hb (fun j h' => jobsFrom_all xs.length 0 (by omega) hq j (by omega) h') h2.1 h2.2 n.toNat 0 _ 0 (zeros_ok _) (by omega)
theorem FnExactRunJobs (a0_0 : Int) (a0_1 : Int) (l0_2 : List (S85)) (l1 : List (S76)) (a2 : Int) (g0 : ((Lit.int .i64 a0_0).wf = true ∧ (Lit.int .i64 a0_1).wf = true ∧ (l0_2.length * 24 ≤ 140737488351232 ∧ ∀ x ∈ l0_2, ((Lit.int .i64 x.f0).wf = true ∧ (Lit.int .i64 x.f1).wf = true ∧ (Lit.int .i64 x.f2).wf = true)))) (g1 : (l1.length * 24 ≤ 140737488351232 ∧ ∀ x ∈ l1, ((Lit.int .i64 x.f0).wf = true ∧ (Lit.int .i64 x.f1).wf = true ∧ (Lit.int .i64 x.f2).wf = true))) (g2 : (Lit.int .i64 a2).wf = true) : ∃ k, laws_FnExactRunJobs.f k a0_0 a0_1 l0_2 l1 a2 = some true := by
  have hn : l0_2.length ≤ 11728124029610 := by omega
  have hn1 : l1.length ≤ 11728124029610 := by omega
  have hl : (l0_2.map convWindow).length ≤ 140737488355328 := by rw [List.length_map]; omega
  have hl1 : (l1.map convJob).length ≤ 140737488355328 := by rw [List.length_map]; omega
  refine Ev.rounds ?_
  simp only [laws_FnExactRunJobs.f, szPlan17_eq a0_0 a0_1 l0_2 (by omega), Option.bind_some]
  by_cases hs : (1048576 : Int) - (l0_2.length : Int) < 0
  · simp only [if_pos hs, if_pos (show (-1 : Int) < 0 by omega)]
    exact ev_now _
  · simp only [if_neg hs, szJobS_eq l1 _ (show (0 : Int) ≤ 1048576 - (l0_2.length : Int) by omega) (by omega) (by omega), Option.bind_some]
    by_cases hs1 : (1048576 : Int) - (l0_2.length : Int) - (l1.length : Int) < 0
    · simp only [if_pos hs1, if_pos (show (-1 : Int) < 0 by omega)]
      exact ev_now _
    · simp only [if_neg hs1]
      have hsp := spec_RunJobs_ev a0_0 a0_1 (l0_2.map convWindow) (l1.map convJob) a2 hl hl1
      have him := impl_RunJobs_ev a0_0 a0_1 (l0_2.map convWindow) (l1.map convJob) a2 hl hl1
      have hln : (run17 a0_0 a0_1 (l0_2.map convWindow) (l1.map convJob) a2).1.length ≤ 11728124029610 := run17_len _ _ _ _ _ (by rw [List.length_map]; omega)
      generalize run17 a0_0 a0_1 (l0_2.map convWindow) (l1.map convJob) a2 = g at hsp him hln
      obtain ⟨xs, idle, b⟩ := g
      simp only at hln
      obtain ⟨zs, hmw⟩ := markWindowS_ev (l0_2.map convWindow) 1 (by omega) (by omega) hl
      obtain ⟨ys, hmj⟩ := markJobS_ev (l1.map convJob) (1 + 3 * ((l0_2.map convWindow).length : Int)) (by omega) (by rw [List.length_map]; omega) hl1
      refine (toPlan17_ev a0_0 a0_1 l0_2 hn).bind ?_
      refine (toJobS_ev l1 hn1).bind ?_
      refine hsp.bind ?_
      refine (toPlan17_ev a0_0 a0_1 l0_2 hn).bind ?_
      refine (toJobS_ev l1 hn1).bind ?_
      refine him.bind ?_
      simp only
      refine (eqIntS_self xs (by omega)).bind ?_
      simp only [if_true]
      refine ev_succ ?_
      simp only [laws_FnExactRunJobs.j0, bne_self_eq_false, Bool.false_eq_true, if_false]
      refine (toPlan17_ev a0_0 a0_1 l0_2 hn).bind ?_
      refine (eqPlan17_self a0_0 a0_1 _ hl).bind ?_
      simp only [if_true]
      refine (toJobS_ev l1 hn1).bind ?_
      refine (eqJobS_self _ hl1).bind ?_
      simp only [if_true]
      have hmp : Ev (fun k => laws_markPlan17.f k a0_0 a0_1 (l0_2.map convWindow) 1) (1 + 3 * ((l0_2.map convWindow).length : Int), zs) := by
        simp only [laws_markPlan17.f]
        exact hmw.bind (f := fun _ t => some (t.1, t.2)) (ev_now _)
      refine hmp.bind ?_
      refine hmj.bind ?_
      simp only [if_neg (show ¬ ((1 : Int) + 3 * ((l0_2.map convWindow).length : Int) + 3 * ((l1.map convJob).length : Int) < 0) by omega)]
      refine (eqIntS_self xs (by omega)).bind ?_
      simp only [if_true]
      refine ev_succ ?_
      simp only [laws_FnExactRunJobs.j1, bne_self_eq_false, Bool.false_eq_true, if_false]
      refine (markIntS_ev xs 1 (by omega) (by omega) (by omega)).bind ?_
      refine (heldIntS_ev xs.length 1 (by omega) (by omega) (by omega)).bind ?_
      simp only [if_neg (show ¬ ((1 : Int) + (xs.length : Int) < 0) by omega), if_true]
      refine (toPlan17_ev a0_0 a0_1 l0_2 hn).bind ?_
      refine (toJobS_ev l1 hn1).bind ?_
      refine him.bind ?_
      simp only
      refine (eqIntS_self xs (by omega)).bind ?_
      simp only [if_true]
      refine ev_succ ?_
      simp only [laws_FnExactRunJobs.j2, bne_self_eq_false, Bool.false_eq_true, if_false]
      refine (heldIntS_ev xs.length 1 (by omega) (by omega) (by omega)).bind ?_
      simp only [if_neg (show ¬ ((1 : Int) + (xs.length : Int) < 0) by omega), if_true]
      exact ev_now _
end Go.Proofs.Ytlkphaahkhfgoaa.Pure
