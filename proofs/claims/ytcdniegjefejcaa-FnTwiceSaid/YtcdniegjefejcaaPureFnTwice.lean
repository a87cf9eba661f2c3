/- Drawn words over two lines, either of which may lose them, are taken once and in order; what is missed is counted. No condition. -/
import Derived.Test.YtcdniegjefejcaaPFnTwicex5
import Derived.Test.YtcdniegjefejcaaBase
set_option linter.unusedVariables false
set_option linter.unusedSimpArgs false
namespace Go.Proofs.Ytcdniegjefejcaa.Pure
open Go.RowKit Go.Proofs.Ytcdniegjefejcaa.PFnTwice Go.Proofs.Ytcdniegjefejcaa.Base Go.Proofs.YtcdniegjefejcaaW.PrintWords Go.Proofs.YtcdniegjefejcaaW.PrintLast
theorem impl_in_eq (a b c : Int) : impl_in.f a b c = some (inB a b c) := in_form a b c
def wordB (a b : Int) (xs : List Int) : Bool := inB a 1 255 && (inB b 0 255 && decide ((xs.length : Int) ≤ 32))
theorem impl_WordOk_eq (a b : Int) (xs : List Int) : impl_WordOk.f a b xs = some (wordB a b xs) := by
  simp only [impl_WordOk.f, impl_in_eq, Option.bind_some, wordB]
  cases inB a 1 255 <;> cases inB b 0 255 <;> simp
/-- The sum of a frame's bytes. -/
def sum16 (xs : List Int) : Int := xs.foldl (fun x b => (((x * 3) % 256) + b) % 256) 0
theorem impl_sumOf_l (xs : List Int) (hn : xs.length ≤ 140737488355328) (d : Nat) : ∀ (i : Nat) (s : Int), i + d = xs.length →
    Ev (fun k => impl_sumOf.l0 k s xs (xs.length : Int) (i : Int)) ((xs.drop i).foldl (fun x b => (((x * 3) % 256) + b) % 256) s) := by
  induction d with
  | zero =>
    intro i s h
    refine ev_succ ?_
    simp only [impl_sumOf.l0, if_neg (show ¬ ((i : Int) < (xs.length : Int)) by omega)]
    exact ev_some (by rw [List.drop_of_length_le (by omega)]; rfl)
  | succ d ih =>
    intro i s h
    refine ev_succ ?_
    simp only [impl_sumOf.l0, if_pos (show ((i : Int) < (xs.length : Int)) by omega), if_pos (show (0 : Int) ≤ (i : Int) by omega), w64s i (by omega)]
    rw [drop_rd (show i < xs.length by omega), List.foldl_cons]
    exact ih (i + 1) _ (by omega)
theorem impl_sumOf_ev (xs : List Int) (hn : xs.length ≤ 140737488355328) : Ev (fun k => impl_sumOf.f k xs) (sum16 xs) := by
  simpa [impl_sumOf.f, sum16] using impl_sumOf_l xs hn xs.length 0 0 (by omega)
def put16 (a b : Int) (xs : List Int) : List Int × Bool := if wordB a b xs = true then ([a % 256, b % 256, (xs.length : Int) % 256] ++ xs ++ [sum16 ([a % 256, b % 256, (xs.length : Int) % 256] ++ xs)], true) else ([], false)
theorem wordB_len {a b : Int} {xs : List Int} (h : wordB a b xs = true) : (1 ≤ a ∧ a ≤ 255) ∧ (0 ≤ b ∧ b ≤ 255) ∧ xs.length ≤ 32 := by
  simp [wordB, inB] at h
  omega
theorem impl_Put16_ev (a b : Int) (xs : List Int) : Ev (fun k => impl_Put16.f k a b xs) (put16 a b xs) := by
  simp only [impl_Put16.f, impl_WordOk_eq, Option.bind_some]
  unfold put16
  by_cases hw : wordB a b xs = true
  · have hl := wordB_len hw
    simp only [if_pos hw, if_pos (show ([a % 256, b % 256, (xs.length : Int) % 256] : List Int).length + xs.length < 140737488355328 by simp; omega)]
    refine (impl_sumOf_ev _ (by simp; omega)).bind ?_
    simp only [if_pos (show ([a % 256, b % 256, (xs.length : Int) % 256] ++ xs).length < 140737488355328 by simp; omega)]
    exact ev_now _
  · simp only [if_neg hw]
    exact ev_now _
def recB (a b c : Int) : Bool := inB a 1 255 && (inB b (-1) 255 && inB c 1 100)
theorem impl_ReceiverOk_eq (a b c : Int) : impl_ReceiverOk.f a b c = some (recB a b c) := by
  simp only [impl_ReceiverOk.f, impl_in_eq, Option.bind_some, recB]
  cases inB a 1 255 <;> cases inB b (-1) 255 <;> simp
/-- The taking of a word. -/
def accept (a b c u v : Int) (xs : List Int) : Int × Int × Int × Bool × Int :=
  if recB a b c = true ∧ wordB u v xs = true ∧ u = a then
    (if (if b ≥ 0 then (v - b + 256) % 256 else 0) ≥ c then (a, b, c, false, 0) else (a, (v + 1) % 256, c, true, if b ≥ 0 then (v - b + 256) % 256 else 0))
  else (a, b, c, false, 0)
theorem recB_in {a b c : Int} (h : recB a b c = true) : (1 ≤ a ∧ a ≤ 255) ∧ (-1 ≤ b ∧ b ≤ 255) ∧ 1 ≤ c ∧ c ≤ 100 := by
  simp [recB, inB] at h
  omega
theorem wordB_in {a b : Int} {xs : List Int} (h : wordB a b xs = true) : (1 ≤ a ∧ a ≤ 255) ∧ (0 ≤ b ∧ b ≤ 255) ∧ xs.length ≤ 32 := by
  simp [wordB, inB] at h
  omega
theorem impl_Accept_ev (a b c u v : Int) (xs : List Int) : Ev (fun k => impl_Accept.f k a b c u v xs) (accept a b c u v xs) := by
  simp only [impl_Accept.f, impl_ReceiverOk_eq, impl_WordOk_eq, Option.bind_some]
  unfold accept
  by_cases hr : recB a b c = true
  · by_cases hw : wordB u v xs = true
    · have r1 := recB_in hr
      have r2 := wordB_in hw
      simp only [hr, hw, if_true, true_and]
      refine ev_succ ?_
      by_cases e : u = a
      · have w1 : wrap64 (v + 1) = v + 1 := w64 (by omega) (by omega)
        have w2 : wrap64 (wrap64 (v - b) + 256) = v - b + 256 := by rw [w64 (n := v - b) (by omega) (by omega), w64 (by omega) (by omega)]
        have t1 : Int.tmod (v + 1) 256 = (v + 1) % 256 := Int.tmod_eq_emod_of_nonneg (by omega)
        have t2 : Int.tmod (v - b + 256) 256 = (v - b + 256) % 256 := Int.tmod_eq_emod_of_nonneg (by omega)
        simp only [impl_Accept.j0, e, bne_self_eq_false, Bool.false_eq_true, if_false, if_true, w1, w2, t1, t2]
        by_cases hb : b ≥ 0
        · simp only [if_pos hb]
          refine ev_succ ?_
          simp only [impl_Accept.j1, w1, t1]
          by_cases hc : (v - b + 256) % 256 ≥ c
          · simp only [if_pos hc]; exact ev_now _
          · simp only [if_neg hc]; exact ev_now _
        · simp only [if_neg hb, if_neg (show ¬ ((0 : Int) ≥ c) by omega)]
          refine ev_succ ?_
          simp only [impl_Accept.j1, w1, t1, if_neg (show ¬ ((0 : Int) ≥ c) by omega)]
          exact ev_now _
      · simp only [impl_Accept.j0, show (u != a) = true from bne_iff_ne.2 e, if_true, if_neg e]
        exact ev_now _
    · simp only [hr, hw, if_true, Bool.false_eq_true, if_false, false_and, and_false]
      refine ev_succ ?_
      simp only [impl_Accept.j0, if_true]
      exact ev_now _
  · simp only [hr, Bool.false_eq_true, if_false, false_and]
    refine ev_succ ?_
    simp only [impl_Accept.j0, if_true]
    exact ev_now _
theorem clone_eq (xs : List Int) (h : xs.length < 140737488355328) : slices_Clone_byte_byte.f xs = some xs := by
  simp [slices_Clone_byte_byte.f, h]
/-- What stands in a frame. -/
def get16 (l : List Int) : Int × Int × List Int × Int :=
  if (l.length : Int) < 4 then (0, 0, [], 1)
  else if rd l 2 > 32 then (0, 0, [], 2)
  else if (l.length : Int) < rd l 2 + 4 then (0, 0, [], 1)
  else if (l.length : Int) > rd l 2 + 4 then (0, 0, [], 2)
  else if rd l 0 = 0 then (0, 0, [], 3)
  else if rd l ((l.length : Int) - 1) = sum16 (l.take (l.length - 1)) then (rd l 0, rd l 1, (l.take (l.length - 1)).drop 3, 0)
  else (0, 0, [], 4)
theorem impl_Get16_ev (l : List Int) (hn : l.length < 140737488355328) (hw : ∀ x ∈ l, 0 ≤ x ∧ x ≤ 255) : Ev (fun k => impl_Get16.f k l) (get16 l) := by
  unfold impl_Get16.f get16
  by_cases c1 : (l.length : Int) < 4
  · simp only [if_pos c1]; exact ev_now _
  have b0 := hw _ (rd_mem (i := 0) (by omega) (show (0 : Int) < l.length by omega))
  have b1 := hw _ (rd_mem (i := 1) (by omega) (show (1 : Int) < l.length by omega))
  have b2 := hw _ (rd_mem (i := 2) (by omega) (show (2 : Int) < l.length by omega))
  have w2 : wrap64 (rd l 2) = rd l 2 := w64 (by omega) (by omega)
  have w0 : wrap64 (rd l 0) = rd l 0 := w64 (by omega) (by omega)
  have w1 : wrap64 (rd l 1) = rd l 1 := w64 (by omega) (by omega)
  have w4 : wrap64 (4 + rd l 2) = rd l 2 + 4 := by rw [w64 (by omega) (by omega)]; omega
  have wl : wrap64 ((l.length : Int) - 1) = (l.length : Int) - 1 := w64 (by omega) (by omega)
  simp only [if_neg c1, if_pos (show (2 : Int) < (l.length : Int) by omega), w2, w4, w0, w1, wl, if_pos (show (0 : Int) < (l.length : Int) by omega), if_pos (show (1 : Int) < (l.length : Int) by omega)]
  by_cases c2 : rd l 2 > 32
  · simp only [if_pos c2]; exact ev_now _
  by_cases c3 : (l.length : Int) < rd l 2 + 4
  · simp only [if_neg c2, if_pos c3]; exact ev_now _
  by_cases c4 : (l.length : Int) > rd l 2 + 4
  · simp only [if_neg c2, if_neg c3, if_pos c4]; exact ev_now _
  by_cases c5 : rd l 0 = 0
  · simp only [if_neg c2, if_neg c3, if_neg c4, if_pos c5]; exact ev_now _
  simp only [if_neg c2, if_neg c3, if_neg c4, if_neg c5, if_pos (show (0 : Int) ≤ (l.length : Int) - 1 by omega), if_pos (show (l.length : Int) - 1 < (l.length : Int) by omega), if_pos (show (l.length : Int) - 1 ≤ (l.length : Int) by omega), show ((l.length : Int) - 1).toNat = l.length - 1 by omega]
  refine (impl_sumOf_ev _ (by simp; omega)).bind ?_
  by_cases c6 : rd l ((l.length : Int) - 1) = sum16 (l.take (l.length - 1))
  · simp only [if_pos c6, if_pos (show (3 : Int) ≤ (l.length : Int) - 1 by omega), clone_eq _ (show ((l.take (l.length - 1)).drop 3).length < 140737488355328 by simp; omega), Option.bind_some]
    exact ev_now _
  · simp only [if_neg c6]; exact ev_now _
theorem fold_range (xs : List Int) : ∀ x : Int, 0 ≤ x ∧ x < 256 → 0 ≤ xs.foldl (fun x b => (((x * 3) % 256) + b) % 256) x ∧ xs.foldl (fun x b => (((x * 3) % 256) + b) % 256) x < 256 := by
  induction xs with
  | nil => intro x h; exact h
  | cons b xs ih => intro x h; exact ih (((x * 3) % 256 + b) % 256) ⟨by omega, by omega⟩
theorem fold_ne (xs : List Int) : ∀ x y : Int, (0 ≤ x ∧ x < 256) → (0 ≤ y ∧ y < 256) → x ≠ y → xs.foldl (fun x b => (((x * 3) % 256) + b) % 256) x ≠ xs.foldl (fun x b => (((x * 3) % 256) + b) % 256) y := by
  induction xs with
  | nil => intro x y _ _ h; exact h
  | cons b xs ih =>
    intro x y hx hy h
    refine ih (((x * 3) % 256 + b) % 256) (((y * 3) % 256 + b) % 256) ⟨by omega, by omega⟩ ⟨by omega, by omega⟩ ?_
    intro e
    omega
theorem fold_set (d : Int) (hd : 1 ≤ d ∧ d ≤ 255) (xs : List Int) : ∀ (k : Nat) (x : Int), (∀ b ∈ xs, 0 ≤ b ∧ b ≤ 255) → k < xs.length → (0 ≤ x ∧ x < 256) →
    (xs.set k ((xs[k]?.getD 0 + d) % 256)).foldl (fun x b => (((x * 3) % 256) + b) % 256) x ≠ xs.foldl (fun x b => (((x * 3) % 256) + b) % 256) x := by
  induction xs with
  | nil => intro k x _ h; simp at h
  | cons b xs ih =>
    intro k x hb hk hx
    have b1 := hb b (by simp)
    cases k with
    | zero =>
      simp only [List.set_cons_zero, List.foldl_cons, List.getElem?_cons_zero, Option.getD_some]
      refine fold_ne xs (((x * 3) % 256 + (b + d) % 256) % 256) (((x * 3) % 256 + b) % 256) ⟨by omega, by omega⟩ ⟨by omega, by omega⟩ ?_
      intro e
      omega
    | succ k =>
      simp only [List.set_cons_succ, List.foldl_cons, List.getElem?_cons_succ]
      exact ih k (((x * 3) % 256 + b) % 256) (fun b hb' => hb b (by simp [hb'])) (by simpa using hk) ⟨by omega, by omega⟩
theorem rd_set_self {xs : List Int} {k : Nat} (v : Int) (h : k < xs.length) : rd (xs.set k v) (k : Int) = v := by
  rw [rd_nat (by simpa using h)]
  simp
theorem rd_set_other {xs : List Int} {k : Nat} {i : Int} (v : Int) (h0 : 0 ≤ i) (h : i ≠ (k : Int)) : rd (xs.set k v) i = rd xs i := by
  simp only [rd, List.getD_eq_getElem?_getD]
  rw [List.getElem?_set_ne (by omega)]
/-- A frame: as its bytes say. -/
structure IsFrame (F : List Int) (n : Nat) : Prop where
  len : F.length = n + 4
  n32 : n ≤ 32
  bytes : ∀ b ∈ F, 0 ≤ b ∧ b ≤ 255
  link : rd F 0 ≠ 0
  many : rd F 2 = n
  sum : rd F ((F.length : Int) - 1) = sum16 (F.take (F.length - 1))
theorem get16_hurt {F : List Int} {n : Nat} (h : IsFrame F n) (k : Nat) (hk : k < F.length) (d : Int) (hd : 1 ≤ d ∧ d ≤ 255) : (get16 (F.set k ((rd F (k : Int) + d) % 256))).2.2.2 ≠ 0 := by
  have hl := h.len
  have hl' : (F.set k ((rd F (k : Int) + d) % 256)).length = F.length := by simp
  have e1 : ((F.length : Int) - 1) = ((F.length - 1 : Nat) : Int) := by omega
  have hm := h.many
  have hs := h.sum
  have n32 := h.n32
  unfold get16
  rw [hl']
  by_cases k2 : k = 2
  · subst k2
    have e2 := rd_set_self (xs := F) ((rd F (2 : Int) + d) % 256) hk
    rw [if_neg (by omega)]
    split
    · simp
    · rename_i c
      split
      · simp
      · split
        · simp
        · rename_i c3 c4
          exfalso
          have e2' : rd (F.set 2 ((rd F ((2 : Nat) : Int) + d) % 256)) 2 = (rd F 2 + d) % 256 := e2
          rw [e2'] at c c3 c4
          omega
  · have e2 : rd (F.set k ((rd F (k : Int) + d) % 256)) 2 = rd F 2 := rd_set_other _ (by omega) (by omega)
    rw [e2, if_neg (by omega), if_neg (by omega), if_neg (by omega), if_neg (by omega)]
    split
    · simp
    · have hne : rd (F.set k ((rd F (k : Int) + d) % 256)) ((F.length : Int) - 1) ≠ sum16 ((F.set k ((rd F (k : Int) + d) % 256)).take (F.length - 1)) := by
        by_cases kl : k = F.length - 1
        · have e3 : (F.set k ((rd F (k : Int) + d) % 256)).take (F.length - 1) = F.take (F.length - 1) := by
            rw [List.take_set_of_le (by omega)]
          have e4 : rd (F.set k ((rd F (k : Int) + d) % 256)) ((F.length : Int) - 1) = (rd F (k : Int) + d) % 256 := by
            rw [show ((F.length : Int) - 1) = (k : Int) by omega]
            exact rd_set_self _ hk
          rw [e3, e4, ← hs, show ((F.length : Int) - 1) = (k : Int) by omega]
          have := h.bytes _ (rd_mem (xs := F) (i := (k : Int)) (by omega) (by omega))
          omega
        · have e4 : rd (F.set k ((rd F (k : Int) + d) % 256)) ((F.length : Int) - 1) = rd F ((F.length : Int) - 1) := rd_set_other _ (by omega) (by omega)
          have e3 : (F.set k ((rd F (k : Int) + d) % 256)).take (F.length - 1) = (F.take (F.length - 1)).set k (((F.take (F.length - 1))[k]?.getD 0 + d) % 256) := by
            rw [List.take_set]
            congr 3
            rw [List.getElem?_take_of_lt (by omega), rd_nat hk, List.getElem?_eq_getElem hk]
            rfl
          rw [e3, e4, hs]
          exact fun e => fold_set d hd (F.take (F.length - 1)) k 0 (fun b hb => h.bytes b (List.mem_of_mem_take hb)) (by simp; omega) (by omega) e.symm
      rw [if_neg hne]
      simp
theorem get16_short {F : List Int} {n : Nat} (h : IsFrame F n) : (get16 (F.take (F.length - 1))).2.2.2 = 1 := by
  have hl := h.len
  have hm := h.many
  have n32 := h.n32
  have hl' : (F.take (F.length - 1)).length = F.length - 1 := by simp
  unfold get16
  rw [hl']
  split
  · rfl
  · rename_i c
    have e2 : rd (F.take (F.length - 1)) 2 = rd F 2 := by
      simp only [rd, List.getD_eq_getElem?_getD]
      rw [List.getElem?_take_of_lt (by simp; omega)]
    rw [e2, if_neg (by omega), if_pos (by omega)]
theorem put16_frame {a b : Int} {xs : List Int} (hw : wordB a b xs = true) (hx : ∀ x ∈ xs, 0 ≤ x ∧ x ≤ 255) : ∃ F, put16 a b xs = (F, true) ∧ IsFrame F xs.length ∧ get16 F = (a, b, xs, 0) := by
  obtain ⟨ha, hb, hl⟩ := wordB_len hw
  have e1 : a % 256 = a := by omega
  have e2 : b % 256 = b := by omega
  have e3 : (xs.length : Int) % 256 = (xs.length : Int) := by omega
  have hsum := fold_range ([a, b, (xs.length : Int)] ++ xs) 0 (by omega)
  have hF : put16 a b xs = ([a, b, (xs.length : Int)] ++ xs ++ [sum16 ([a, b, (xs.length : Int)] ++ xs)], true) := by
    unfold put16
    rw [if_pos hw, e1, e2, e3]
  have hlen : ([a, b, (xs.length : Int)] ++ xs ++ [sum16 ([a, b, (xs.length : Int)] ++ xs)]).length = xs.length + 4 := by simp
  have htake : ([a, b, (xs.length : Int)] ++ xs ++ [sum16 ([a, b, (xs.length : Int)] ++ xs)]).take (([a, b, (xs.length : Int)] ++ xs ++ [sum16 ([a, b, (xs.length : Int)] ++ xs)]).length - 1) = [a, b, (xs.length : Int)] ++ xs := by
    rw [hlen, List.take_append_of_le_length (by simp), List.take_of_length_le (by simp)]
  have hlast : rd ([a, b, (xs.length : Int)] ++ xs ++ [sum16 ([a, b, (xs.length : Int)] ++ xs)]) ((([a, b, (xs.length : Int)] ++ xs ++ [sum16 ([a, b, (xs.length : Int)] ++ xs)]).length : Int) - 1) = sum16 ([a, b, (xs.length : Int)] ++ xs) := by
    rw [hlen, show (((xs.length + 4 : Nat) : Int) - 1) = (([a, b, (xs.length : Int)] ++ xs).length : Int) by simp; omega]
    exact rd_append_at
  refine ⟨_, hF, ⟨hlen, hl, ?_, ?_, ?_, ?_⟩, ?_⟩
  · intro y hy
    simp only [List.mem_append, List.mem_cons, List.not_mem_nil, or_false] at hy
    rcases hy with ((rfl | rfl | rfl) | hy) | rfl
    · omega
    · omega
    · omega
    · exact hx y hy
    · unfold sum16; omega
  · show a ≠ 0
    omega
  · rfl
  · rw [hlast, htake]
  · unfold get16
    rw [hlast, htake, hlen]
    have r2 : rd ([a, b, (xs.length : Int)] ++ xs ++ [sum16 ([a, b, (xs.length : Int)] ++ xs)]) 2 = (xs.length : Int) := rfl
    have r0 : rd ([a, b, (xs.length : Int)] ++ xs ++ [sum16 ([a, b, (xs.length : Int)] ++ xs)]) 0 = a := rfl
    have r1 : rd ([a, b, (xs.length : Int)] ++ xs ++ [sum16 ([a, b, (xs.length : Int)] ++ xs)]) 1 = b := rfl
    rw [r2, r0, r1, if_neg (by omega), if_neg (by omega), if_neg (by omega), if_neg (by omega), if_neg (by omega), if_pos rfl]
    rfl
/-! What is drawn: a cursor over the bytes, at place i, with the number h. -/
def Cur (l : List Int) (i : Int) : Prop := l.length ≤ 1048576 ∧ 0 ≤ i ∧ i ≤ (l.length : Int)
theorem draw_new (l : List Int) (hl : l.length ≤ 1048576) : ∃ h, Ev (fun k => spec_l1New.f k l) (l, 0, h) := by
  have loop : ∀ (d : Nat) (i : Nat) (h : Int), i + d = l.length → ∃ h', Ev (fun k => spec_l1New.l0 k l h (i : Int)) (l, 0, h') := by
    intro d
    induction d with
    | zero =>
      intro i h hi
      refine ⟨h, ev_succ ?_⟩
      simp only [spec_l1New.l0, if_neg (show ¬ ((i : Int) < (l.length : Int)) by omega)]
      exact ev_now _
    | succ d ih =>
      intro i h hi
      by_cases h4 : (i : Int) < 4000
      · obtain ⟨h', hh⟩ := ih (i + 1) (Go.bits .and .i64 (wrap64 ((wrap64 ((wrap64 (h * 131)) + (wrap64 (rd l (i : Int))))) + 7)) 1073741823) (by omega)
        refine ⟨h', ev_succ ?_⟩
        simp only [spec_l1New.l0, if_pos (show ((i : Int) < (l.length : Int)) by omega), if_pos h4, if_pos (show (0 : Int) ≤ (i : Int) by omega), w64s i (by omega)]
        exact hh
      · refine ⟨h, ev_succ ?_⟩
        simp only [spec_l1New.l0, if_pos (show ((i : Int) < (l.length : Int)) by omega), if_neg h4]
        exact ev_now _
  obtain ⟨h', hh⟩ := loop l.length 0 (wrap64 (63063 + (l.length : Int))) (by omega)
  exact ⟨h', by simpa [spec_l1New.f] using hh⟩
theorem draw_byte {l : List Int} {i : Int} (h : Int) (hc : Cur l i) : ∃ v i' h', spec_l1Byte.f l i h = some (v, i', h') ∧ 0 ≤ v ∧ v ≤ 255 ∧ Cur l i' := by
  obtain ⟨h1, h2, h3⟩ := hc
  unfold spec_l1Byte.f
  by_cases e : i < (l.length : Int)
  · rw [if_pos e, if_pos h2]
    have := bits_and_le (wrap64 ((Go.bits .and .i64 (Go.bits .xor .i64 ((wrap64 ((wrap64 (h * 6364136223846793005)) + 1442695040888963407)) / 8589934592) ((wrap64 ((wrap64 (h * 6364136223846793005)) + 1442695040888963407)) / 35184372088832)) 255) + (wrap64 (rd l i)))) 255 (by omega) (by omega)
    exact ⟨_, _, _, rfl, this.1, this.2, h1, by rw [w64 (by omega) (by omega)]; omega, by rw [w64 (by omega) (by omega)]; omega⟩
  · rw [if_neg e]
    have := bits_and_le (Go.bits .xor .i64 ((wrap64 ((wrap64 (h * 6364136223846793005)) + 1442695040888963407)) / 8589934592) ((wrap64 ((wrap64 (h * 6364136223846793005)) + 1442695040888963407)) / 35184372088832)) 255 (by omega) (by omega)
    exact ⟨_, _, _, rfl, this.1, this.2, h1, h2, h3⟩
theorem draw_below {l : List Int} {i : Int} (h n : Int) (hc : Cur l i) (h0 : 0 < n) (h1 : n ≤ 1099511627776) : ∃ v i' h', spec_l1Below.f l i h n = some (v, i', h') ∧ 0 ≤ v ∧ v < n ∧ Cur l i' := by
  unfold spec_l1Below.f
  rw [if_neg (by omega)]
  by_cases e : n ≤ 256
  · obtain ⟨v, i', h', e1, v0, v1, c1⟩ := draw_byte h hc
    rw [if_pos e, e1]
    simp only [Option.bind_some, if_neg (show ¬ n = 0 by omega)]
    exact ⟨_, _, _, rfl, Int.tmod_nonneg _ v0, Int.tmod_lt_of_pos _ h0, c1⟩
  · obtain ⟨v, i', h', e1, v0, v1, c1⟩ := draw_byte h hc
    obtain ⟨v', i2, h2, e2, v2, v3, c2⟩ := draw_byte h' c1
    obtain ⟨v4, i3, h3, e3, v5, v6, c3⟩ := draw_byte h2 c2
    obtain ⟨v7, i4, h4, e4, v8, v9, c4⟩ := draw_byte h3 c3
    rw [if_neg e, e1]
    simp only [Option.bind_some, e2, e3, e4, if_neg (show ¬ n = 0 by omega)]
    refine ⟨_, _, _, rfl, ?_, Int.tmod_lt_of_pos _ h0, c4⟩
    rw [w64 (n := v * 16777216) (by omega) (by omega), w64 (n := v' * 65536) (by omega) (by omega), w64 (n := v4 * 256) (by omega) (by omega), w64 (n := v * 16777216 + v' * 65536) (by omega) (by omega), w64 (n := v * 16777216 + v' * 65536 + v4 * 256) (by omega) (by omega), w64 (by omega) (by omega)]
    exact Int.tmod_nonneg _ (by omega)
theorem draw_once {l : List Int} {i : Int} (h n : Int) (hc : Cur l i) (h0 : 0 < n) (h1 : n ≤ 1099511627776) : ∃ v i' h', spec_l1Once.f l i h n = some (v, i', h') ∧ Cur l i' := by
  obtain ⟨v, i', h', e1, _, _, c1⟩ := draw_below h n hc h0 h1
  unfold spec_l1Once.f
  rw [e1]
  exact ⟨_, _, _, rfl, c1⟩
/-! Words of one link, sent over two lines: what came of the first i. -/
abbrev P3 := S41 × Bool × Bool
theorem rdT_map (ps : List P3) {i : Nat} (h : i < ps.length) : rd_T41 (ps.map (·.1)) (i : Int) = ps[i].1 := by
  simp [rd_T41, List.getD_eq_getElem?_getD, h]
theorem rdA_map (ps : List P3) {i : Nat} (h : i < ps.length) : rdOf false (ps.map (·.2.1)) (i : Int) = ps[i].2.1 := by
  simp [rdOf, List.getD_eq_getElem?_getD, h]
theorem rdB_map (ps : List P3) {i : Nat} (h : i < ps.length) : rdOf false (ps.map (·.2.2)) (i : Int) = ps[i].2.2 := by
  simp [rdOf, List.getD_eq_getElem?_getD, h]
def fr (w : S41) : List Int := (put16 w.f0 w.f1 w.f2).1
def fA (p : P3) : List Int := if p.2.1 = true then [] else fr p.1
def fB (p : P3) : List Int := if p.2.2 = true then [] else fr p.1
theorem rdL_map (ps : List P3) (f : P3 → List Int) {i : Nat} (h : i < ps.length) : rd_L2 (ps.map f) (i : Int) = f ps[i] := by
  simp [rd_L2, List.getD_eq_getElem?_getD, h]
/-- The word at place j of the line. -/
structure Good (s : Int) (j : Nat) (w : S41) : Prop where
  f0 : w.f0 = 5
  f1 : w.f1 = (s + (j : Int)) % 256
  len : w.f2.length = 2
  bytes : ∀ x ∈ w.f2, 0 ≤ x ∧ x ≤ 255
theorem Good.word {s : Int} {j : Nat} {w : S41} (h : Good s j w) : wordB w.f0 w.f1 w.f2 = true := by
  have := h.f1
  simp only [wordB, inB, Bool.and_eq_true, decide_eq_true_eq, h.f0, h.len]
  omega
theorem Good.frame {s : Int} {j : Nat} {w : S41} (h : Good s j w) : put16 w.f0 w.f1 w.f2 = (fr w, true) ∧ get16 (fr w) = (w.f0, w.f1, w.f2, 0) ∧ (fr w).length < 140737488355328 ∧ ∀ x ∈ fr w, 0 ≤ x ∧ x ≤ 255 := by
  obtain ⟨F, hF, hI, hG⟩ := put16_frame h.word h.bytes
  have e : fr w = F := by unfold fr; rw [hF]
  rw [e]
  exact ⟨hF, hG, by have := hI.len; have := hI.n32; omega, hI.bytes⟩
def Line (s : Int) (ps : List P3) : Prop := ∀ i (h : i < ps.length), Good s i ps[i].1
structure St where
  out : List S41
  gone : Int
  on : Bool
  tail : Nat
def St.step (s : St) (p : P3) : St := if p.2.1 = true ∧ p.2.2 = true then ⟨s.out, if s.on = true then s.gone + 1 else s.gone, s.on, s.tail + 1⟩ else ⟨s.out ++ [p.1], s.gone, true, 0⟩
def stAt (ps : List P3) (i : Nat) : St := (ps.take i).foldl St.step ⟨[], 0, false, 0⟩
theorem stAt_succ (ps : List P3) {i : Nat} (h : i < ps.length) : stAt ps (i + 1) = (stAt ps i).step ps[i] := by
  unfold stAt
  rw [List.take_succ_eq_append_getElem h, List.foldl_append]
  rfl
structure StOk (s : Int) (i : Nat) (t : St) : Prop where
  tail : t.tail ≤ i
  many : t.out.length ≤ i
  gone0 : 0 ≤ t.gone
  gone : t.gone ≤ i
  off : t.on = false → t.out = [] ∧ t.gone = 0
  on : t.on = true → t.tail < i ∧ (t.tail : Int) ≤ t.gone ∧ ∃ xs w, t.out = xs ++ [w] ∧ Good s (i - t.tail - 1) w
theorem stAt_ok {s : Int} {ps : List P3} (hl : Line s ps) : ∀ i, i ≤ ps.length → StOk s i (stAt ps i) := by
  intro i
  induction i with
  | zero => intro _; exact ⟨by simp [stAt], by simp [stAt], by simp [stAt], by simp [stAt], fun _ => by simp [stAt], fun h => by simp [stAt] at h⟩
  | succ i ih =>
    intro h
    have h' : i < ps.length := by omega
    obtain ⟨k1, k2, k3, k4, k5, k6⟩ := ih (by omega)
    rw [stAt_succ ps h']
    have hg := hl i h'
    generalize stAt ps i = t at *
    generalize ps[i] = p at *
    unfold St.step
    by_cases hb : p.2.1 = true ∧ p.2.2 = true
    · simp only [if_pos hb]
      cases ho : t.on with
      | false =>
        obtain ⟨o1, o2⟩ := k5 ho
        simp only [Bool.false_eq_true, if_false]
        exact ⟨by simp only; omega, by simp only; omega, by simp only; omega, by simp only; omega, fun _ => ⟨o1, o2⟩, fun h => by simp at h⟩
      | true =>
        obtain ⟨o1, o2, xs, w, e, g⟩ := k6 ho
        simp only [if_true]
        exact ⟨by simp only; omega, by simp only; omega, by simp only; omega, by simp only; omega, fun h => by simp at h, fun _ => ⟨by simp only; omega, by simp only; omega, xs, w, e, by simpa only [show i + 1 - (t.tail + 1) - 1 = i - t.tail - 1 by omega] using g⟩⟩
    · simp only [if_neg hb]
      exact ⟨by simp, by simp; omega, k3, by simp only; omega, fun h => by simp at h, fun _ => ⟨by simp, by simpa using k3, t.out, p.1, rfl, by simpa using hg⟩⟩
def nextOf (s : Int) (i : Nat) (t : St) : Int := if t.on = true then (s + (i : Int) - (t.tail : Int)) % 256 else -1
theorem nextOf_in (s : Int) (i : Nat) (t : St) : -1 ≤ nextOf s i t ∧ nextOf s i t ≤ 255 := by
  cases h : t.on with
  | false => simp only [nextOf, h, Bool.false_eq_true, if_false]; omega
  | true => simp only [nextOf, h, if_true]; omega
def missOf (t : St) : Int := if t.on = true then t.gone - (t.tail : Int) else 0
theorem take_none {l : List (List Int)} {i : Nat} (hi : i < l.length) (he : rd_L2 l (i : Int) = []) (x0 x1 x2 : Int) (xs : List S41) (m : Int) : Ev (fun k => take16.f k l (i : Int) x0 x1 x2 xs m) (x0, x1, x2, xs, m) := by
  simp only [take16.f, if_neg (show ¬ ((i : Int) ≥ (l.length : Int)) by omega), if_pos (show (0 : Int) ≤ (i : Int) by omega), he]
  refine (impl_Get16_ev [] (by simp) (by simp)).bind ?_
  simp only [show (get16 []).2.2.2 = 1 from rfl, if_neg (show ¬ ((1 : Int) = 0) by omega)]
  exact ev_now _
theorem recB_at (x : Int) (h : -1 ≤ x ∧ x ≤ 255) : recB 5 x 50 = true := by
  simp [recB, inB]; omega
theorem take_again {l : List (List Int)} {i : Nat} {s : Int} {j : Nat} {w : S41} (hi : i < l.length) (hg : Good s j w) (he : rd_L2 l (i : Int) = fr w) (xs : List S41) (m : Int) : Ev (fun k => take16.f k l (i : Int) 5 ((w.f1 + 1) % 256) 50 xs m) (5, (w.f1 + 1) % 256, 50, xs, m) := by
  obtain ⟨_, h2, h3, h4⟩ := hg.frame
  simp only [take16.f, if_neg (show ¬ ((i : Int) ≥ (l.length : Int)) by omega), if_pos (show (0 : Int) ≤ (i : Int) by omega), he]
  refine (impl_Get16_ev _ h3 h4).bind ?_
  simp only [h2, if_true]
  refine (impl_Accept_ev _ _ _ _ _ _).bind ?_
  have hf := hg.f1
  have ha : accept 5 ((w.f1 + 1) % 256) 50 w.f0 w.f1 w.f2 = (5, (w.f1 + 1) % 256, 50, false, 0) := by
    unfold accept
    rw [if_pos ⟨recB_at _ (by omega), hg.word, hg.f0⟩, if_pos (show (w.f1 + 1) % 256 ≥ 0 by omega), if_pos (by omega)]
  rw [ha]
  simp only [Bool.false_eq_true, if_false]
  exact ev_now _
theorem take_new {l : List (List Int)} {i : Nat} {s : Int} {w : S41} {t : St} (hi : i < l.length) (hn : i ≤ 30) (hg : Good s i w) (he : rd_L2 l (i : Int) = fr w) (ht : StOk s i t) : Ev (fun k => take16.f k l (i : Int) 5 (nextOf s i t) 50 t.out (missOf t)) (5, (w.f1 + 1) % 256, 50, t.out ++ [w], t.gone) := by
  obtain ⟨_, h2, h3, h4⟩ := hg.frame
  obtain ⟨k1, k2, k3, k4, k5, k6⟩ := ht
  simp only [take16.f, if_neg (show ¬ ((i : Int) ≥ (l.length : Int)) by omega), if_pos (show (0 : Int) ≤ (i : Int) by omega), he]
  refine (impl_Get16_ev _ h3 h4).bind ?_
  simp only [h2, if_true]
  refine (impl_Accept_ev _ _ _ _ _ _).bind ?_
  have hf := hg.f1
  have ha : accept 5 (nextOf s i t) 50 w.f0 w.f1 w.f2 = (5, (w.f1 + 1) % 256, 50, true, if t.on = true then (t.tail : Int) else 0) := by
    unfold accept nextOf
    cases ho : t.on with
    | false =>
      simp only [Bool.false_eq_true, if_false]
      rw [if_pos ⟨recB_at _ (by omega), hg.word, hg.f0⟩, if_neg (show ¬ ((-1 : Int) ≥ 0) by omega), if_neg (by omega)]
    | true =>
      obtain ⟨o1, _, _⟩ := k6 ho
      simp only [if_true]
      have e : (w.f1 - (s + (i : Int) - (t.tail : Int)) % 256 + 256) % 256 = (t.tail : Int) := by omega
      rw [if_pos ⟨recB_at _ (by omega), hg.word, hg.f0⟩, if_pos (show (s + (i : Int) - (t.tail : Int)) % 256 ≥ 0 by omega), e, if_neg (by omega)]
  rw [ha]
  simp only [if_true, if_pos (show t.out.length < 1000000 by omega)]
  refine ev_some ?_
  have e2 : wrap64 (missOf t + (if t.on = true then (t.tail : Int) else 0)) = t.gone := by
    unfold missOf
    cases ho : t.on with
    | false =>
      obtain ⟨_, o2⟩ := k5 ho
      simp only [o2, Bool.false_eq_true, if_false]; exact w64 (by omega) (by omega)
    | true =>
      simp only [if_true]
      rw [w64 (by omega) (by omega)]; omega
  rw [e2]
theorem both_l {s : Int} {ps : List P3} (hl : Line s ps) (hn : ps.length ≤ 30) (d : Nat) : ∀ i, i + d = ps.length →
    Ev (fun k => impl_Both16.l0 k (ps.map fA) (ps.map fB) (ps.length : Int) (i : Int) (stAt ps i).out (missOf (stAt ps i)) 5 (nextOf s i (stAt ps i)) 50) ((stAt ps ps.length).out, missOf (stAt ps ps.length), 5, nextOf s ps.length (stAt ps ps.length), 50) := by
  induction d with
  | zero =>
    intro i h
    refine ev_succ ?_
    obtain rfl : i = ps.length := by omega
    simp only [impl_Both16.l0, if_neg (show ¬ ((ps.length : Int) < (ps.length : Int)) by omega)]
    exact ev_now _
  | succ d ih =>
    intro i h
    have hi : i < ps.length := by omega
    refine ev_succ ?_
    simp only [impl_Both16.l0, if_pos (show (i : Int) < (ps.length : Int) by omega), w64s i (by omega)]
    have hk := ih (i + 1) (by omega)
    rw [stAt_succ ps hi] at hk
    have hs := stAt_ok hl i (by omega)
    have hg := hl i hi
    have rA : rd_L2 (ps.map fA) (i : Int) = fA ps[i] := rdL_map ps fA hi
    have rB : rd_L2 (ps.map fB) (i : Int) = fB ps[i] := rdL_map ps fB hi
    have iA : i < (ps.map fA).length := by simpa using hi
    have iB : i < (ps.map fB).length := by simpa using hi
    generalize stAt ps i = t at *
    generalize ps[i] = p at *
    obtain ⟨w, la, lb⟩ := p
    have hf := hg.f1
    have hgf : (w.f1 + 1) % 256 = (s + ((i + 1 : Nat) : Int) - ((0 : Nat) : Int)) % 256 := by simp only at hf; omega
    have hw : nextOf s (i + 1) ⟨t.out ++ [w], t.gone, true, 0⟩ = (w.f1 + 1) % 256 := by rw [hgf]; rfl
    have hm : missOf ⟨t.out ++ [w], t.gone, true, 0⟩ = t.gone := by simp [missOf]
    cases la with
    | true =>
      refine (take_none iA (by rw [rA]; rfl) _ _ _ _ _).bind ?_
      cases lb with
      | true =>
        refine (take_none iB (by rw [rB]; rfl) _ _ _ _ _).bind ?_
        have e1 : nextOf s (i + 1) (t.step (w, true, true)) = nextOf s i t := by
          simp only [St.step, nextOf, and_self, if_true]
          split
          · congr 1; omega
          · rfl
        have e2 : missOf (t.step (w, true, true)) = missOf t := by
          simp only [St.step, missOf, and_self, if_true]
          split
          · omega
          · rfl
        have e3 : (t.step (w, true, true)).out = t.out := by simp [St.step]
        rw [e1, e2, e3] at hk
        exact hk
      | false =>
        refine (take_new iB (by omega) hg (by rw [rB]; rfl) hs).bind ?_
        have e : t.step (w, true, false) = ⟨t.out ++ [w], t.gone, true, 0⟩ := by simp [St.step]
        rw [e, hw, hm] at hk
        exact hk
    | false =>
      refine (take_new iA (by omega) hg (by rw [rA]; rfl) hs).bind ?_
      have e : t.step (w, false, lb) = ⟨t.out ++ [w], t.gone, true, 0⟩ := by simp [St.step]
      rw [e, hw, hm] at hk
      cases lb with
      | true =>
        refine (take_none iB (by rw [rB]; rfl) _ _ _ _ _).bind ?_
        exact hk
      | false =>
        refine (take_again iB hg (by rw [rB]; rfl) _ _).bind ?_
        exact hk
theorem both_ev {s : Int} {ps : List P3} (hl : Line s ps) (hn : ps.length ≤ 30) : Ev (fun k => impl_Both16.f k 5 (-1) 50 (ps.map fA) (ps.map fB)) ((stAt ps ps.length).out, missOf (stAt ps ps.length), 5, nextOf s ps.length (stAt ps ps.length), 50) := by
  have h := both_l hl hn ps.length 0 (by omega)
  simp only [impl_Both16.f, List.length_map, if_neg (show ¬ ((ps.length : Int) > 200) by omega), show mx (ps.length : Int) (ps.length : Int) = (ps.length : Int) by simp [mx]]
  exact h
theorem twice_end {s : Int} {ps : List P3} (hl : Line s ps) (hn : ps.length ≤ 30) (xa xb : List Bool) (x21 : Int) :
    Ev (fun k => laws_FnTwice.j7 k xa xb (stAt ps ps.length).out (stAt ps ps.length).gone (missOf (stAt ps ps.length)) ((stAt ps ps.length).tail : Int) x21 false 5 (nextOf s ps.length (stAt ps ps.length)) 50) true := by
  have hs := stAt_ok hl ps.length (by omega)
  generalize stAt ps ps.length = t at *
  obtain ⟨k1, k2, k3, k4, k5, k6⟩ := hs
  refine ev_succ ?_
  simp only [laws_FnTwice.j7, Bool.false_eq_true, if_false]
  cases ho : t.on with
  | false =>
    obtain ⟨o1, o2⟩ := k5 ho
    simp only [o1, List.length_nil, show ((0 : Nat) : Int) = 0 from rfl, if_true, missOf, nextOf, ho, Bool.false_eq_true, if_false]
    exact ev_now _
  | true =>
    obtain ⟨o1, o2, xs, w, e, g⟩ := k6 ho
    have el : (t.out.length : Int) = (xs.length : Int) + 1 := by rw [e]; simp
    have wl : wrap64 ((t.out.length : Int) - 1) = (xs.length : Int) := by rw [w64 (by omega) (by omega)]; omega
    have rl : rd_T41 t.out (xs.length : Int) = w := by rw [e]; simp [rd_T41, List.getD_eq_getElem?_getD]
    have hf := g.f1
    have nx : nextOf s ps.length t = (w.f1 + 1) % 256 := by simp only [nextOf, ho, if_true]; omega
    have w1 : wrap64 (w.f1 + 1) = w.f1 + 1 := w64 (by omega) (by omega)
    have t1 : Int.tmod (w.f1 + 1) 256 = (w.f1 + 1) % 256 := Int.tmod_eq_emod_of_nonneg (by omega)
    have ms : wrap64 (t.gone - (t.tail : Int)) = missOf t := by simp only [missOf, ho, if_true]; exact w64 (by omega) (by omega)
    simp only [wl, rl, nx, w1, t1, ms, if_neg (show ¬ ((t.out.length : Int) = 0) by omega), if_pos (show (0 : Int) ≤ (xs.length : Int) by omega), if_pos (show (xs.length : Int) < (t.out.length : Int) by omega)]
    refine (impl_Accept_ev _ _ _ _ _ _).bind ?_
    have ha : accept 5 ((w.f1 + 1) % 256) 50 w.f0 w.f1 w.f2 = (5, (w.f1 + 1) % 256, 50, false, 0) := by
      unfold accept
      rw [if_pos ⟨recB_at _ (by omega), g.word, g.f0⟩, if_pos (show (w.f1 + 1) % 256 ≥ 0 by omega), if_pos (by omega)]
    rw [ha]
    simp only [if_true, Bool.false_eq_true, if_false]
    exact ev_some (by simp)
theorem twice_l2 {s : Int} {ps : List P3} (hl : Line s ps) (hn : ps.length ≤ 30) : ∀ (i c : Nat), i ≤ ps.length → c + (stAt ps i).tail = (stAt ps ps.length).tail →
    Ev (fun k => laws_FnTwice.l2 k (ps.map (·.2.1)) (ps.map (·.2.2)) (stAt ps ps.length).out (stAt ps ps.length).gone (missOf (stAt ps ps.length)) (c : Int) ((i : Int) - 1) 5 (nextOf s ps.length (stAt ps ps.length)) 50) true := by
  intro i
  induction i with
  | zero =>
    intro c _ hc
    refine ev_succ ?_
    simp only [laws_FnTwice.l2, if_neg (show ¬ (((0 : Nat) : Int) - 1 ≥ 0) by omega)]
    have e : c = (stAt ps ps.length).tail := by simpa [stAt] using hc
    rw [e]
    exact twice_end hl hn _ _ _
  | succ i ih =>
    intro c hi hc
    have hi' : i < ps.length := by omega
    have hT := (stAt_ok hl ps.length (by omega)).tail
    rw [stAt_succ ps hi'] at hc
    have rA := rdA_map ps hi'
    have rB := rdB_map ps hi'
    refine ev_succ ?_
    have hk := ih (c + 1) (by omega)
    have he := twice_end hl hn (ps.map (·.2.1)) (ps.map (·.2.2)) (i : Int)
    generalize stAt ps i = t at *
    generalize ps[i] = p at *
    obtain ⟨w, la, lb⟩ := p
    simp only at rA rB
    simp only [laws_FnTwice.l2, show ((i + 1 : Nat) : Int) - 1 = (i : Int) by omega, if_pos (show (i : Int) ≥ 0 by omega), if_pos (show (0 : Int) ≤ (i : Int) by omega), List.length_map, if_pos (show (i : Int) < (ps.length : Int) by omega), rA, rB]
    cases la with
    | false =>
      have ec : c = (stAt ps ps.length).tail := by simpa [St.step] using hc
      simp only [Bool.false_eq_true, if_false]
      rw [ec]; exact he
    | true =>
      simp only [if_true]
      cases lb with
      | false =>
        have ec : c = (stAt ps ps.length).tail := by simpa [St.step] using hc
        rw [ec]; exact he
      | true =>
        have ec : c + 1 + t.tail = (stAt ps ps.length).tail := by simp [St.step] at hc; omega
        refine ev_succ ?_
        simp only [laws_FnTwice.j7, if_true, w64s c (by omega), w64 (n := (i : Int) - 1) (by omega) (by omega)]
        exact hk ec
theorem twice_l1 {s : Int} {ps : List P3} (hl : Line s ps) (hn : ps.length ≤ 30) (d : Nat) : ∀ i, i + d = (stAt ps ps.length).out.length →
    Ev (fun k => laws_FnTwice.l1 k (ps.map (·.1)) (ps.map (·.2.1)) (ps.map (·.2.2)) (stAt ps ps.length).out (stAt ps ps.length).gone (stAt ps ps.length).out (missOf (stAt ps ps.length)) (i : Int) 5 (nextOf s ps.length (stAt ps ps.length)) 50) true := by
  have hm := (stAt_ok hl ps.length (by omega)).many
  induction d with
  | zero =>
    intro i h
    refine ev_succ ?_
    simp only [laws_FnTwice.l1, if_neg (show ¬ ((i : Int) < ((stAt ps ps.length).out.length : Int)) by omega), List.length_map, w64 (n := (ps.length : Int) - 1) (by omega) (by omega)]
    exact twice_l2 hl hn ps.length 0 (by omega) (by omega)
  | succ d ih =>
    intro i h
    refine ev_succ ?_
    simp only [laws_FnTwice.l1, if_pos (show ((i : Int) < ((stAt ps ps.length).out.length : Int)) by omega), if_pos (show (0 : Int) ≤ (i : Int) by omega), if_true, w64s i (by omega)]
    exact ih (i + 1) (by omega)
theorem twice_l0 {s : Int} {ps : List P3} (hl : Line s ps) (hn : ps.length ≤ 30) (d : Nat) : ∀ i, i + d = ps.length →
    Ev (fun k => laws_FnTwice.l0 k (ps.map (·.1)) (ps.map (·.2.1)) (ps.map (·.2.2)) ((ps.take i).map fA) ((ps.take i).map fB) (stAt ps i).out (stAt ps i).gone (stAt ps i).on (i : Int)) true := by
  induction d with
  | zero =>
    intro i h
    obtain rfl : i = ps.length := by omega
    refine ev_succ ?_
    have hs := stAt_ok hl ps.length (by omega)
    have hm := hs.many
    simp only [laws_FnTwice.l0, List.length_map, if_neg (show ¬ ((ps.length : Int) < (ps.length : Int)) by omega), List.take_length]
    refine (both_ev hl hn).bind ?_
    have hr : recB 5 (nextOf s ps.length (stAt ps ps.length)) 50 = true := recB_at _ (nextOf_in _ _ _)
    simp only [if_true, impl_ReceiverOk_eq, Option.bind_some, hr, Bool.not_true]
    refine ev_succ ?_
    simp only [laws_FnTwice.j4, Bool.false_eq_true, if_false]
    exact twice_l1 hl hn (stAt ps ps.length).out.length 0 (by omega)
  | succ d ih =>
    intro i h
    have hi : i < ps.length := by omega
    have hk := ih (i + 1) (by omega)
    have hs := stAt_ok hl i (by omega)
    have hg := hl i hi
    have rT := rdT_map ps hi
    have rA := rdA_map ps hi
    have rB := rdB_map ps hi
    have lA : (ps.take i).length < 5864062014805 := by simp; omega
    rw [stAt_succ ps hi, List.take_succ_eq_append_getElem hi, List.map_append, List.map_append, List.map_singleton, List.map_singleton] at hk
    refine ev_succ ?_
    have hf := hg.frame
    generalize stAt ps i = t at *
    generalize ps[i] = p at *
    obtain ⟨w, la, lb⟩ := p
    obtain ⟨k1, k2, k3, k4, k5, k6⟩ := hs
    simp only at rT rA rB hf
    simp only [laws_FnTwice.l0, List.length_map, if_pos (show (i : Int) < (ps.length : Int) by omega), if_pos (show (0 : Int) ≤ (i : Int) by omega), rT, rA]
    refine (impl_Put16_ev _ _ _).bind ?_
    simp only [hf.1, if_true, Option.bind_some]
    have j2 : ∀ x14 x15, x14 = fA (w, la, lb) → x15 = fB (w, la, lb) → Ev (fun k => laws_FnTwice.j2 k (ps.map (·.1)) (ps.map (·.2.1)) (ps.map (·.2.2)) ((ps.take i).map fA) ((ps.take i).map fB) t.out t.gone t.on (i : Int) x14 x15) true := by
      intro x14 x15 e14 e15
      rw [e14, e15]
      refine ev_succ ?_
      simp only [laws_FnTwice.j2, List.length_map, if_pos lA, Option.bind_some, if_pos (show (i : Int) < (ps.length : Int) by omega), if_pos (show (0 : Int) ≤ (i : Int) by omega), rA, rB]
      have take : la = false ∨ lb = false → Ev (fun k => laws_FnTwice.j3 k (ps.map (·.1)) (ps.map (·.2.1)) (ps.map (·.2.2)) ((ps.take i).map fA ++ [fA (w, la, lb)]) ((ps.take i).map fB ++ [fB (w, la, lb)]) t.out t.gone t.on (i : Int) false) true := by
        intro hor
        refine ev_succ ?_
        have e : t.step (w, la, lb) = ⟨t.out ++ [w], t.gone, true, 0⟩ := by
          rcases hor with rfl | rfl <;> simp [St.step]
        rw [e] at hk
        simp only [laws_FnTwice.j3, Bool.false_eq_true, if_false, List.length_map, if_pos (show (i : Int) < (ps.length : Int) by omega), if_pos (show (0 : Int) ≤ (i : Int) by omega), rT, if_pos (show t.out.length < 3518437208883 by omega), w64s i (by omega)]
        exact hk
      cases la with
      | false =>
        simp only [Bool.false_eq_true, if_false]
        exact take (Or.inl rfl)
      | true =>
        simp only [if_true]
        cases lb with
        | false => exact take (Or.inr rfl)
        | true =>
          refine ev_succ ?_
          simp only [laws_FnTwice.j3, if_true, w64s i (by omega)]
          cases ho : t.on with
          | false =>
            have e : t.step (w, true, true) = ⟨t.out, t.gone, false, t.tail + 1⟩ := by simp [St.step, ho]
            rw [e] at hk
            simp only [Bool.false_eq_true, if_false]
            exact hk
          | true =>
            have e : t.step (w, true, true) = ⟨t.out, t.gone + 1, true, t.tail + 1⟩ := by simp [St.step, ho]
            rw [e] at hk
            simp only [if_true, w64 (n := t.gone + 1) (by omega) (by omega)]
            exact hk
    have j1 : ∀ x14, x14 = fA (w, la, lb) → Ev (fun k => laws_FnTwice.j1 k (ps.map (·.1)) (ps.map (·.2.1)) (ps.map (·.2.2)) ((ps.take i).map fA) ((ps.take i).map fB) t.out t.gone t.on (i : Int) (fr w) x14 []) true := by
      intro x14 e14
      refine ev_succ ?_
      simp only [laws_FnTwice.j1, List.length_map, if_pos (show (i : Int) < (ps.length : Int) by omega), if_pos (show (0 : Int) ≤ (i : Int) by omega), rB]
      cases lb with
      | false => simp only [Bool.false_eq_true, if_false]; exact j2 _ _ e14 rfl
      | true => simp only [if_true]; exact j2 _ _ e14 rfl
    cases la with
    | false => simp only [Bool.false_eq_true, if_false]; exact j1 _ rfl
    | true => simp only [if_true]; exact j1 _ rfl
theorem drawlines_l {l : List Int} {s : Int} (d : Nat) : ∀ (ps : List P3) (i h : Int), Cur l i → ps.length + d ≤ 30 → Line s ps → (0 ≤ s ∧ s < 256) →
    ∃ qs : List P3, qs.length ≤ 30 ∧ Line s qs ∧ Ev (fun k => spec_DrawLines.l0 k (ps.map (·.1)) (ps.map (·.2.1)) (ps.map (·.2.2)) ((s + (ps.length : Int)) % 256) (d : Int) l i h) (qs.map (·.1), qs.map (·.2.1), qs.map (·.2.2)) := by
  induction d with
  | zero =>
    intro ps i h hc hl hL hs
    refine ⟨ps, by omega, hL, ev_succ ?_⟩
    simp only [spec_DrawLines.l0, if_neg (show ¬ (((0 : Nat) : Int) > 0) by omega)]
    exact ev_now _
  | succ d ih =>
    intro ps i h hc hl hL hs
    obtain ⟨v, i1, h1, e1, v0, v1, c1⟩ := draw_byte h hc
    obtain ⟨la, i2, h2, e2, c2⟩ := draw_once h1 3 c1 (by omega) (by omega)
    obtain ⟨lb, i3, h3, e3, c3⟩ := draw_once h2 3 c2 (by omega) (by omega)
    have hg : Good s ps.length ⟨5, (s + (ps.length : Int)) % 256, [v % 256, ((d + 1 : Nat) : Int) % 256]⟩ := by
      refine ⟨rfl, rfl, rfl, ?_⟩
      intro x hx
      simp only [List.mem_cons, List.not_mem_nil, or_false] at hx
      rcases hx with rfl | rfl <;> omega
    have hL' : Line s (ps ++ [(⟨5, (s + (ps.length : Int)) % 256, [v % 256, ((d + 1 : Nat) : Int) % 256]⟩, la, lb)]) := by
      intro j hj
      by_cases e : j < ps.length
      · rw [List.getElem_append_left e]; exact hL j e
      · have ej : j = ps.length := by simp at hj; omega
        subst ej
        simpa using hg
    obtain ⟨qs, q1, q2, q3⟩ := ih _ i3 h3 c3 (by simp; omega) hL' hs
    refine ⟨qs, q1, q2, ev_succ ?_⟩
    have w1 : wrap64 ((s + (ps.length : Int)) % 256 + 1) = (s + (ps.length : Int)) % 256 + 1 := w64 (by omega) (by omega)
    have t1 : Int.tmod ((s + (ps.length : Int)) % 256 + 1) 256 = (s + ((ps.length + 1 : Nat) : Int)) % 256 := by
      rw [Int.tmod_eq_emod_of_nonneg (by omega)]; omega
    simp only [spec_DrawLines.l0, if_pos (show ((d + 1 : Nat) : Int) > 0 by omega), e1, e2, e3, Option.bind_some, List.length_map, if_pos (show ps.length < 3518437208883 by omega), if_pos (show ps.length < 140737488355328 by omega), w1, t1, show wrap64 (((d + 1 : Nat) : Int) - 1) = (d : Int) by rw [w64 (by omega) (by omega)]; omega]
    simpa using q3
theorem drawlines_ev (l : List Int) (hl : l.length ≤ 1048576) : ∃ (s : Int) (qs : List P3), qs.length ≤ 30 ∧ Line s qs ∧ Ev (fun k => spec_DrawLines.f k l) (qs.map (·.1), qs.map (·.2.1), qs.map (·.2.2)) := by
  obtain ⟨h, hh⟩ := draw_new l hl
  obtain ⟨s, i1, h1, e1, v0, v1, c1⟩ := draw_below (l := l) (i := 0) h 256 ⟨by omega, by omega, by omega⟩ (by omega) (by omega)
  obtain ⟨n, i2, h2, e2, n0, n1, c2⟩ := draw_below h1 20 c1 (by omega) (by omega)
  obtain ⟨m, rfl⟩ : ∃ m : Nat, n = (m : Int) := ⟨n.toNat, by omega⟩
  obtain ⟨qs, q1, q2, q3⟩ := drawlines_l (l := l) (s := s) m [] i2 h2 c2 (by simp; omega) (fun j hj => by simp at hj) ⟨v0, v1⟩
  refine ⟨s, qs, q1, q2, ?_⟩
  simp only [spec_DrawLines.f]
  refine hh.bind ?_
  simp only [e1, e2, Option.bind_some]
  have e : (s + ((([] : List P3).length : Nat) : Int)) % 256 = s := by simp; omega
  rw [e] at q3
  simpa using q3
theorem FnTwice : laws_FnTwice.Pure := by
  intro l _ _ _
  refine Ev.rounds ?_
  simp only [laws_FnTwice.f, laws_big.f, Option.bind_some]
  by_cases hb : (l.length : Int) > 1048576
  · simp only [hb, decide_true, if_true]
    exact ev_now _
  · simp only [hb, decide_false, Bool.false_eq_true, if_false]
    obtain ⟨s, qs, q1, q2, q3⟩ := drawlines_ev l (by omega)
    refine q3.bind ?_
    exact twice_l0 q2 q1 qs.length 0 (by omega)
end Go.Proofs.Ytcdniegjefejcaa.Pure
