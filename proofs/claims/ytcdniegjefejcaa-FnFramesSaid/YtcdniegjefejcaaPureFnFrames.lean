/- Drawn words come back from their frames, and a frame with one byte changed is never read. No condition. -/
import Derived.Test.YtcdniegjefejcaaPFnFramesx4
import Derived.Test.YtcdniegjefejcaaBase
set_option linter.unusedVariables false
set_option linter.unusedSimpArgs false
namespace Go.Proofs.Ytcdniegjefejcaa.Pure
open Go.RowKit Go.Proofs.Ytcdniegjefejcaa.PFnFrames Go.Proofs.Ytcdniegjefejcaa.Base Go.Proofs.YtcdniegjefejcaaW.PrintWords Go.Proofs.YtcdniegjefejcaaW.PrintLast
theorem impl_in_eq (a b c : Int) : impl_in.f a b c = some (inB a b c) := in_form a b c
theorem spec_in_eq (a b c : Int) : spec_l1In.f a b c = some (inB a b c) := in_form a b c
def wordB (a b : Int) (xs : List Int) : Bool := inB a 1 255 && (inB b 0 255 && decide ((xs.length : Int) ≤ 32))
theorem impl_WordOk_eq (a b : Int) (xs : List Int) : impl_WordOk.f a b xs = some (wordB a b xs) := by
  simp only [impl_WordOk.f, impl_in_eq, Option.bind_some, wordB]
  cases inB a 1 255 <;> cases inB b 0 255 <;> simp
theorem spec_WordOk_eq (a b : Int) (xs : List Int) : spec_WordOk.f a b xs = some (wordB a b xs) := by
  simp only [spec_WordOk.f, spec_in_eq, Option.bind_some, wordB]
  cases inB a 1 255 <;> cases inB b 0 255 <;> simp
/-- The sum of a frame's bytes. -/
def sum16 (xs : List Int) : Int := xs.foldl (fun x b => (((x * 3) % 256) + b) % 256) 0
theorem impl_sumOf_l (xs : List Int) (hn : xs.length ≤ 140737488355328) (d : Nat) : ∀ (i : Nat) (s : Int), i + d = xs.length →
    Ev (fun k => impl_sumOf.l0 k s xs (xs.length : Int) (i : Int)) ((xs.drop i).foldl (fun x b => (((x * 3) % 256) + b) % 256) s) := by
  induction d with
  | zero =>
    intro i s h
    refine ev_succ ?_
    simp only [impl_sumOf.l0, if_neg (show ¬ ((i : Int) < (xs.length : Int)) by omega)]
    exact ev_some (by rw [List.drop_of_length_le (by omega)]; rfl)
  | succ d ih =>
    intro i s h
    refine ev_succ ?_
    simp only [impl_sumOf.l0, if_pos (show ((i : Int) < (xs.length : Int)) by omega), if_pos (show (0 : Int) ≤ (i : Int) by omega), w64s i (by omega)]
    rw [drop_rd (show i < xs.length by omega), List.foldl_cons]
    exact ih (i + 1) _ (by omega)
theorem impl_sumOf_ev (xs : List Int) (hn : xs.length ≤ 140737488355328) : Ev (fun k => impl_sumOf.f k xs) (sum16 xs) := by
  simpa [impl_sumOf.f, sum16] using impl_sumOf_l xs hn xs.length 0 0 (by omega)
def put16 (a b : Int) (xs : List Int) : List Int × Bool := if wordB a b xs = true then ([a % 256, b % 256, (xs.length : Int) % 256] ++ xs ++ [sum16 ([a % 256, b % 256, (xs.length : Int) % 256] ++ xs)], true) else ([], false)
theorem wordB_len {a b : Int} {xs : List Int} (h : wordB a b xs = true) : (1 ≤ a ∧ a ≤ 255) ∧ (0 ≤ b ∧ b ≤ 255) ∧ xs.length ≤ 32 := by
  simp [wordB, inB] at h
  omega
theorem impl_Put16_ev (a b : Int) (xs : List Int) : Ev (fun k => impl_Put16.f k a b xs) (put16 a b xs) := by
  simp only [impl_Put16.f, impl_WordOk_eq, Option.bind_some]
  unfold put16
  by_cases hw : wordB a b xs = true
  · have hl := wordB_len hw
    simp only [if_pos hw, if_pos (show ([a % 256, b % 256, (xs.length : Int) % 256] : List Int).length + xs.length < 140737488355328 by simp; omega)]
    refine (impl_sumOf_ev _ (by simp; omega)).bind ?_
    simp only [if_pos (show ([a % 256, b % 256, (xs.length : Int) % 256] ++ xs).length < 140737488355328 by simp; omega)]
    exact ev_now _
  · simp only [if_neg hw]
    exact ev_now _
theorem clone_eq (xs : List Int) (h : xs.length < 140737488355328) : slices_Clone_byte_byte.f xs = some xs := by
  simp [slices_Clone_byte_byte.f, h]
/-- What stands in a frame. -/
def get16 (l : List Int) : Int × Int × List Int × Int :=
  if (l.length : Int) < 4 then (0, 0, [], 1)
  else if rd l 2 > 32 then (0, 0, [], 2)
  else if (l.length : Int) < rd l 2 + 4 then (0, 0, [], 1)
  else if (l.length : Int) > rd l 2 + 4 then (0, 0, [], 2)
  else if rd l 0 = 0 then (0, 0, [], 3)
  else if rd l ((l.length : Int) - 1) = sum16 (l.take (l.length - 1)) then (rd l 0, rd l 1, (l.take (l.length - 1)).drop 3, 0)
  else (0, 0, [], 4)
theorem impl_Get16_ev (l : List Int) (hn : l.length < 140737488355328) (hw : ∀ x ∈ l, 0 ≤ x ∧ x ≤ 255) : Ev (fun k => impl_Get16.f k l) (get16 l) := by
  unfold impl_Get16.f get16
  by_cases c1 : (l.length : Int) < 4
  · simp only [if_pos c1]; exact ev_now _
  have b0 := hw _ (rd_mem (i := 0) (by omega) (show (0 : Int) < l.length by omega))
  have b1 := hw _ (rd_mem (i := 1) (by omega) (show (1 : Int) < l.length by omega))
  have b2 := hw _ (rd_mem (i := 2) (by omega) (show (2 : Int) < l.length by omega))
  have w2 : wrap64 (rd l 2) = rd l 2 := w64 (by omega) (by omega)
  have w0 : wrap64 (rd l 0) = rd l 0 := w64 (by omega) (by omega)
  have w1 : wrap64 (rd l 1) = rd l 1 := w64 (by omega) (by omega)
  have w4 : wrap64 (4 + rd l 2) = rd l 2 + 4 := by rw [w64 (by omega) (by omega)]; omega
  have wl : wrap64 ((l.length : Int) - 1) = (l.length : Int) - 1 := w64 (by omega) (by omega)
  simp only [if_neg c1, if_pos (show (2 : Int) < (l.length : Int) by omega), w2, w4, w0, w1, wl, if_pos (show (0 : Int) < (l.length : Int) by omega), if_pos (show (1 : Int) < (l.length : Int) by omega)]
  by_cases c2 : rd l 2 > 32
  · simp only [if_pos c2]; exact ev_now _
  by_cases c3 : (l.length : Int) < rd l 2 + 4
  · simp only [if_neg c2, if_pos c3]; exact ev_now _
  by_cases c4 : (l.length : Int) > rd l 2 + 4
  · simp only [if_neg c2, if_neg c3, if_pos c4]; exact ev_now _
  by_cases c5 : rd l 0 = 0
  · simp only [if_neg c2, if_neg c3, if_neg c4, if_pos c5]; exact ev_now _
  simp only [if_neg c2, if_neg c3, if_neg c4, if_neg c5, if_pos (show (0 : Int) ≤ (l.length : Int) - 1 by omega), if_pos (show (l.length : Int) - 1 < (l.length : Int) by omega), if_pos (show (l.length : Int) - 1 ≤ (l.length : Int) by omega), show ((l.length : Int) - 1).toNat = l.length - 1 by omega]
  refine (impl_sumOf_ev _ (by simp; omega)).bind ?_
  by_cases c6 : rd l ((l.length : Int) - 1) = sum16 (l.take (l.length - 1))
  · simp only [if_pos c6, if_pos (show (3 : Int) ≤ (l.length : Int) - 1 by omega), clone_eq _ (show ((l.take (l.length - 1)).drop 3).length < 140737488355328 by simp; omega), Option.bind_some]
    exact ev_now _
  · simp only [if_neg c6]; exact ev_now _
theorem fold_range (xs : List Int) : ∀ x : Int, 0 ≤ x ∧ x < 256 → 0 ≤ xs.foldl (fun x b => (((x * 3) % 256) + b) % 256) x ∧ xs.foldl (fun x b => (((x * 3) % 256) + b) % 256) x < 256 := by
  induction xs with
  | nil => intro x h; exact h
  | cons b xs ih => intro x h; exact ih (((x * 3) % 256 + b) % 256) ⟨by omega, by omega⟩
theorem fold_ne (xs : List Int) : ∀ x y : Int, (0 ≤ x ∧ x < 256) → (0 ≤ y ∧ y < 256) → x ≠ y → xs.foldl (fun x b => (((x * 3) % 256) + b) % 256) x ≠ xs.foldl (fun x b => (((x * 3) % 256) + b) % 256) y := by
  induction xs with
  | nil => intro x y _ _ h; exact h
  | cons b xs ih =>
    intro x y hx hy h
    refine ih (((x * 3) % 256 + b) % 256) (((y * 3) % 256 + b) % 256) ⟨by omega, by omega⟩ ⟨by omega, by omega⟩ ?_
    intro e
    omega
theorem fold_set (d : Int) (hd : 1 ≤ d ∧ d ≤ 255) (xs : List Int) : ∀ (k : Nat) (x : Int), (∀ b ∈ xs, 0 ≤ b ∧ b ≤ 255) → k < xs.length → (0 ≤ x ∧ x < 256) →
    (xs.set k ((xs[k]?.getD 0 + d) % 256)).foldl (fun x b => (((x * 3) % 256) + b) % 256) x ≠ xs.foldl (fun x b => (((x * 3) % 256) + b) % 256) x := by
  induction xs with
  | nil => intro k x _ h; simp at h
  | cons b xs ih =>
    intro k x hb hk hx
    have b1 := hb b (by simp)
    cases k with
    | zero =>
      simp only [List.set_cons_zero, List.foldl_cons, List.getElem?_cons_zero, Option.getD_some]
      refine fold_ne xs (((x * 3) % 256 + (b + d) % 256) % 256) (((x * 3) % 256 + b) % 256) ⟨by omega, by omega⟩ ⟨by omega, by omega⟩ ?_
      intro e
      omega
    | succ k =>
      simp only [List.set_cons_succ, List.foldl_cons, List.getElem?_cons_succ]
      exact ih k (((x * 3) % 256 + b) % 256) (fun b hb' => hb b (by simp [hb'])) (by simpa using hk) ⟨by omega, by omega⟩
theorem rd_set_self {xs : List Int} {k : Nat} (v : Int) (h : k < xs.length) : rd (xs.set k v) (k : Int) = v := by
  rw [rd_nat (by simpa using h)]
  simp
theorem rd_set_other {xs : List Int} {k : Nat} {i : Int} (v : Int) (h0 : 0 ≤ i) (h : i ≠ (k : Int)) : rd (xs.set k v) i = rd xs i := by
  simp only [rd, List.getD_eq_getElem?_getD]
  rw [List.getElem?_set_ne (by omega)]
/-- A frame: as its bytes say. -/
structure IsFrame (F : List Int) (n : Nat) : Prop where
  len : F.length = n + 4
  n32 : n ≤ 32
  bytes : ∀ b ∈ F, 0 ≤ b ∧ b ≤ 255
  link : rd F 0 ≠ 0
  many : rd F 2 = n
  sum : rd F ((F.length : Int) - 1) = sum16 (F.take (F.length - 1))
theorem get16_hurt {F : List Int} {n : Nat} (h : IsFrame F n) (k : Nat) (hk : k < F.length) (d : Int) (hd : 1 ≤ d ∧ d ≤ 255) : (get16 (F.set k ((rd F (k : Int) + d) % 256))).2.2.2 ≠ 0 := by
  have hl := h.len
  have hl' : (F.set k ((rd F (k : Int) + d) % 256)).length = F.length := by simp
  have e1 : ((F.length : Int) - 1) = ((F.length - 1 : Nat) : Int) := by omega
  have hm := h.many
  have hs := h.sum
  have n32 := h.n32
  unfold get16
  rw [hl']
  by_cases k2 : k = 2
  · subst k2
    have e2 := rd_set_self (xs := F) ((rd F (2 : Int) + d) % 256) hk
    rw [if_neg (by omega)]
    split
    · simp
    · rename_i c
      split
      · simp
      · split
        · simp
        · rename_i c3 c4
          exfalso
          have e2' : rd (F.set 2 ((rd F ((2 : Nat) : Int) + d) % 256)) 2 = (rd F 2 + d) % 256 := e2
          rw [e2'] at c c3 c4
          omega
  · have e2 : rd (F.set k ((rd F (k : Int) + d) % 256)) 2 = rd F 2 := rd_set_other _ (by omega) (by omega)
    rw [e2, if_neg (by omega), if_neg (by omega), if_neg (by omega), if_neg (by omega)]
    split
    · simp
    · have hne : rd (F.set k ((rd F (k : Int) + d) % 256)) ((F.length : Int) - 1) ≠ sum16 ((F.set k ((rd F (k : Int) + d) % 256)).take (F.length - 1)) := by
        by_cases kl : k = F.length - 1
        · have e3 : (F.set k ((rd F (k : Int) + d) % 256)).take (F.length - 1) = F.take (F.length - 1) := by
            rw [List.take_set_of_le (by omega)]
          have e4 : rd (F.set k ((rd F (k : Int) + d) % 256)) ((F.length : Int) - 1) = (rd F (k : Int) + d) % 256 := by
            rw [show ((F.length : Int) - 1) = (k : Int) by omega]
            exact rd_set_self _ hk
          rw [e3, e4, ← hs, show ((F.length : Int) - 1) = (k : Int) by omega]
          have := h.bytes _ (rd_mem (xs := F) (i := (k : Int)) (by omega) (by omega))
          omega
        · have e4 : rd (F.set k ((rd F (k : Int) + d) % 256)) ((F.length : Int) - 1) = rd F ((F.length : Int) - 1) := rd_set_other _ (by omega) (by omega)
          have e3 : (F.set k ((rd F (k : Int) + d) % 256)).take (F.length - 1) = (F.take (F.length - 1)).set k (((F.take (F.length - 1))[k]?.getD 0 + d) % 256) := by
            rw [List.take_set]
            congr 3
            rw [List.getElem?_take_of_lt (by omega), rd_nat hk, List.getElem?_eq_getElem hk]
            rfl
          rw [e3, e4, hs]
          exact fun e => fold_set d hd (F.take (F.length - 1)) k 0 (fun b hb => h.bytes b (List.mem_of_mem_take hb)) (by simp; omega) (by omega) e.symm
      rw [if_neg hne]
      simp
theorem get16_short {F : List Int} {n : Nat} (h : IsFrame F n) : (get16 (F.take (F.length - 1))).2.2.2 = 1 := by
  have hl := h.len
  have hm := h.many
  have n32 := h.n32
  have hl' : (F.take (F.length - 1)).length = F.length - 1 := by simp
  unfold get16
  rw [hl']
  split
  · rfl
  · rename_i c
    have e2 : rd (F.take (F.length - 1)) 2 = rd F 2 := by
      simp only [rd, List.getD_eq_getElem?_getD]
      rw [List.getElem?_take_of_lt (by simp; omega)]
    rw [e2, if_neg (by omega), if_pos (by omega)]
theorem put16_frame {a b : Int} {xs : List Int} (hw : wordB a b xs = true) (hx : ∀ x ∈ xs, 0 ≤ x ∧ x ≤ 255) : ∃ F, put16 a b xs = (F, true) ∧ IsFrame F xs.length ∧ get16 F = (a, b, xs, 0) := by
  obtain ⟨ha, hb, hl⟩ := wordB_len hw
  have e1 : a % 256 = a := by omega
  have e2 : b % 256 = b := by omega
  have e3 : (xs.length : Int) % 256 = (xs.length : Int) := by omega
  have hsum := fold_range ([a, b, (xs.length : Int)] ++ xs) 0 (by omega)
  have hF : put16 a b xs = ([a, b, (xs.length : Int)] ++ xs ++ [sum16 ([a, b, (xs.length : Int)] ++ xs)], true) := by
    unfold put16
    rw [if_pos hw, e1, e2, e3]
  have hlen : ([a, b, (xs.length : Int)] ++ xs ++ [sum16 ([a, b, (xs.length : Int)] ++ xs)]).length = xs.length + 4 := by simp
  have htake : ([a, b, (xs.length : Int)] ++ xs ++ [sum16 ([a, b, (xs.length : Int)] ++ xs)]).take (([a, b, (xs.length : Int)] ++ xs ++ [sum16 ([a, b, (xs.length : Int)] ++ xs)]).length - 1) = [a, b, (xs.length : Int)] ++ xs := by
    rw [hlen, List.take_append_of_le_length (by simp), List.take_of_length_le (by simp)]
  have hlast : rd ([a, b, (xs.length : Int)] ++ xs ++ [sum16 ([a, b, (xs.length : Int)] ++ xs)]) ((([a, b, (xs.length : Int)] ++ xs ++ [sum16 ([a, b, (xs.length : Int)] ++ xs)]).length : Int) - 1) = sum16 ([a, b, (xs.length : Int)] ++ xs) := by
    rw [hlen, show (((xs.length + 4 : Nat) : Int) - 1) = (([a, b, (xs.length : Int)] ++ xs).length : Int) by simp; omega]
    exact rd_append_at
  refine ⟨_, hF, ⟨hlen, hl, ?_, ?_, ?_, ?_⟩, ?_⟩
  · intro y hy
    simp only [List.mem_append, List.mem_cons, List.not_mem_nil, or_false] at hy
    rcases hy with ((rfl | rfl | rfl) | hy) | rfl
    · omega
    · omega
    · omega
    · exact hx y hy
    · unfold sum16; omega
  · show a ≠ 0
    omega
  · rfl
  · rw [hlast, htake]
  · unfold get16
    rw [hlast, htake, hlen]
    have r2 : rd ([a, b, (xs.length : Int)] ++ xs ++ [sum16 ([a, b, (xs.length : Int)] ++ xs)]) 2 = (xs.length : Int) := rfl
    have r0 : rd ([a, b, (xs.length : Int)] ++ xs ++ [sum16 ([a, b, (xs.length : Int)] ++ xs)]) 0 = a := rfl
    have r1 : rd ([a, b, (xs.length : Int)] ++ xs ++ [sum16 ([a, b, (xs.length : Int)] ++ xs)]) 1 = b := rfl
    rw [r2, r0, r1, if_neg (by omega), if_neg (by omega), if_neg (by omega), if_neg (by omega), if_neg (by omega), if_pos rfl]
    rfl
theorem at_ev (l : List Int) (hw : ∀ x ∈ l, 0 ≤ x ∧ x ≤ 255) (hn : l.length ≤ 1048576) (i : Int) (h0 : 0 ≤ i) (h1 : i ≤ 1000) : ∃ v, laws_at.f l i = some v ∧ 0 ≤ v ∧ v ≤ 255 := by
  unfold laws_at.f
  by_cases h : i < (l.length : Int)
  · have := hw _ (rd_mem h0 h)
    refine ⟨rd l i, ?_, this.1, this.2⟩
    rw [if_pos h, if_pos h0, w64 (by omega) (by omega)]
  · refine ⟨_, by rw [if_neg h], ?_, ?_⟩
    · rw [w64 (n := i * 7) (by omega) (by omega), w64 (by omega) (by omega)]
      have := Int.tmod_nonneg 256 (show 0 ≤ i * 7 + (l.length : Int) by omega)
      omega
    · rw [w64 (n := i * 7) (by omega) (by omega), w64 (by omega) (by omega)]
      have := Int.tmod_lt_of_pos (i * 7 + (l.length : Int)) (show (0 : Int) < 256 by omega)
      omega
/-! What is drawn: a cursor over the bytes, at place i, with the number h. -/
def Cur (l : List Int) (i : Int) : Prop := l.length ≤ 1048576 ∧ 0 ≤ i ∧ i ≤ (l.length : Int)
theorem draw_new (l : List Int) (hl : l.length ≤ 1048576) : ∃ h, Ev (fun k => spec_l1New.f k l) (l, 0, h) := by
  have loop : ∀ (d : Nat) (i : Nat) (h : Int), i + d = l.length → ∃ h', Ev (fun k => spec_l1New.l0 k l h (i : Int)) (l, 0, h') := by
    intro d
    induction d with
    | zero =>
      intro i h hi
      refine ⟨h, ev_succ ?_⟩
      simp only [spec_l1New.l0, if_neg (show ¬ ((i : Int) < (l.length : Int)) by omega)]
      exact ev_now _
    | succ d ih =>
      intro i h hi
      by_cases h4 : (i : Int) < 4000
      · obtain ⟨h', hh⟩ := ih (i + 1) (Go.bits .and .i64 (wrap64 ((wrap64 ((wrap64 (h * 131)) + (wrap64 (rd l (i : Int))))) + 7)) 1073741823) (by omega)
        refine ⟨h', ev_succ ?_⟩
        simp only [spec_l1New.l0, if_pos (show ((i : Int) < (l.length : Int)) by omega), if_pos h4, if_pos (show (0 : Int) ≤ (i : Int) by omega), w64s i (by omega)]
        exact hh
      · refine ⟨h, ev_succ ?_⟩
        simp only [spec_l1New.l0, if_pos (show ((i : Int) < (l.length : Int)) by omega), if_neg h4]
        exact ev_now _
  obtain ⟨h', hh⟩ := loop l.length 0 (wrap64 (63063 + (l.length : Int))) (by omega)
  exact ⟨h', by simpa [spec_l1New.f] using hh⟩
theorem draw_byte {l : List Int} {i : Int} (h : Int) (hc : Cur l i) : ∃ v i' h', spec_l1Byte.f l i h = some (v, i', h') ∧ 0 ≤ v ∧ v ≤ 255 ∧ Cur l i' := by
  obtain ⟨h1, h2, h3⟩ := hc
  unfold spec_l1Byte.f
  by_cases e : i < (l.length : Int)
  · rw [if_pos e, if_pos h2]
    have := bits_and_le (wrap64 ((Go.bits .and .i64 (Go.bits .xor .i64 ((wrap64 ((wrap64 (h * 6364136223846793005)) + 1442695040888963407)) / 8589934592) ((wrap64 ((wrap64 (h * 6364136223846793005)) + 1442695040888963407)) / 35184372088832)) 255) + (wrap64 (rd l i)))) 255 (by omega) (by omega)
    exact ⟨_, _, _, rfl, this.1, this.2, h1, by rw [w64 (by omega) (by omega)]; omega, by rw [w64 (by omega) (by omega)]; omega⟩
  · rw [if_neg e]
    have := bits_and_le (Go.bits .xor .i64 ((wrap64 ((wrap64 (h * 6364136223846793005)) + 1442695040888963407)) / 8589934592) ((wrap64 ((wrap64 (h * 6364136223846793005)) + 1442695040888963407)) / 35184372088832)) 255 (by omega) (by omega)
    exact ⟨_, _, _, rfl, this.1, this.2, h1, h2, h3⟩
theorem draw_below {l : List Int} {i : Int} (h n : Int) (hc : Cur l i) (h0 : 0 < n) (h1 : n ≤ 1099511627776) : ∃ v i' h', spec_l1Below.f l i h n = some (v, i', h') ∧ 0 ≤ v ∧ v < n ∧ Cur l i' := by
  unfold spec_l1Below.f
  rw [if_neg (by omega)]
  by_cases e : n ≤ 256
  · obtain ⟨v, i', h', e1, v0, v1, c1⟩ := draw_byte h hc
    rw [if_pos e, e1]
    simp only [Option.bind_some, if_neg (show ¬ n = 0 by omega)]
    exact ⟨_, _, _, rfl, Int.tmod_nonneg _ v0, Int.tmod_lt_of_pos _ h0, c1⟩
  · obtain ⟨v, i', h', e1, v0, v1, c1⟩ := draw_byte h hc
    obtain ⟨v', i2, h2, e2, v2, v3, c2⟩ := draw_byte h' c1
    obtain ⟨v4, i3, h3, e3, v5, v6, c3⟩ := draw_byte h2 c2
    obtain ⟨v7, i4, h4, e4, v8, v9, c4⟩ := draw_byte h3 c3
    rw [if_neg e, e1]
    simp only [Option.bind_some, e2, e3, e4, if_neg (show ¬ n = 0 by omega)]
    refine ⟨_, _, _, rfl, ?_, Int.tmod_lt_of_pos _ h0, c4⟩
    rw [w64 (n := v * 16777216) (by omega) (by omega), w64 (n := v' * 65536) (by omega) (by omega), w64 (n := v4 * 256) (by omega) (by omega), w64 (n := v * 16777216 + v' * 65536) (by omega) (by omega), w64 (n := v * 16777216 + v' * 65536 + v4 * 256) (by omega) (by omega), w64 (by omega) (by omega)]
    exact Int.tmod_nonneg _ (by omega)
theorem draw_once {l : List Int} {i : Int} (h n : Int) (hc : Cur l i) (h0 : 0 < n) (h1 : n ≤ 1099511627776) : ∃ v i' h', spec_l1Once.f l i h n = some (v, i', h') ∧ Cur l i' := by
  obtain ⟨v, i', h', e1, _, _, c1⟩ := draw_below h n hc h0 h1
  unfold spec_l1Once.f
  rw [e1]
  exact ⟨_, _, _, rfl, c1⟩
theorem draw_pickint {l : List Int} {i : Int} (h : Int) (xs : List Int) (hc : Cur l i) (h0 : 0 < xs.length) (h1 : xs.length ≤ 1000) : ∃ v i' h', spec_l1PickInt.f l i h xs = some (v, i', h') ∧ v ∈ xs ∧ Cur l i' := by
  obtain ⟨v, i', h', e1, v0, v1, c1⟩ := draw_below h (xs.length : Int) hc (by omega) (by omega)
  unfold spec_l1PickInt.f
  rw [e1]
  simp only [Option.bind_some, if_pos v0, if_pos v1]
  exact ⟨_, _, _, rfl, rd_mem v0 v1, c1⟩
theorem drawword_l {l : List Int} (n : Nat) : ∀ (i h : Int) (a b : Int) (xs : List Int), Cur l i → xs.length + n ≤ 5 → (∀ x ∈ xs, 0 ≤ x ∧ x ≤ 255) →
    ∃ a' b' xs' i' h', Ev (fun k => spec_l16DrawWord.l0 k (n : Int) l i h a b xs) (a', b', xs', i', h') ∧ xs'.length ≤ 33 ∧ (∀ x ∈ xs', 0 ≤ x ∧ x ≤ 255) ∧ Cur l i' := by
  induction n with
  | zero =>
    intro i h a b xs hc hl hx
    obtain ⟨v, i1, h1, e1, v0, v1, c1⟩ := draw_below h 40 hc (by omega) (by omega)
    by_cases q0 : v = 0
    · obtain ⟨p, i2, h2, e2, _, c2⟩ := draw_pickint h1 [0, 255, 256] c1 (by simp) (by simp)
      refine ⟨p, b, xs, i2, h2, ev_succ ?_, by omega, hx, c2⟩
      simp only [spec_l16DrawWord.l0, if_neg (show ¬ (((0 : Nat) : Int) > 0) by omega), e1, Option.bind_some, if_pos q0, e2]
      exact ev_now _
    by_cases q1 : v = 1
    · obtain ⟨p, i2, h2, e2, _, c2⟩ := draw_pickint h1 [-1, 255, 256] c1 (by simp) (by simp)
      refine ⟨a, p, xs, i2, h2, ev_succ ?_, by omega, hx, c2⟩
      simp only [spec_l16DrawWord.l0, if_neg (show ¬ (((0 : Nat) : Int) > 0) by omega), e1, Option.bind_some, if_neg q0, if_pos q1, e2]
      exact ev_now _
    by_cases q2 : v = 2
    · obtain ⟨p, i2, h2, e2, p0, p1, c2⟩ := draw_below h1 2 c1 (by omega) (by omega)
      have hw : wrap64 (32 + p) = 32 + p := w64 (by omega) (by omega)
      refine ⟨a, b, List.replicate (32 + p).toNat 0, i2, h2, ev_succ ?_, by simp; omega, ?_, c2⟩
      · simp only [spec_l16DrawWord.l0, if_neg (show ¬ (((0 : Nat) : Int) > 0) by omega), e1, Option.bind_some, if_neg q0, if_neg q1, if_pos q2, e2, hw, if_pos (show (0 : Int) ≤ 32 + p by omega), if_pos (show (32 + p).toNat ≤ 281474976710656 by omega)]
        exact ev_now _
      · intro x hx
        rw [List.eq_of_mem_replicate hx]
        omega
    · refine ⟨a, b, xs, i1, h1, ev_succ ?_, by omega, hx, c1⟩
      simp only [spec_l16DrawWord.l0, if_neg (show ¬ (((0 : Nat) : Int) > 0) by omega), e1, Option.bind_some, if_neg q0, if_neg q1, if_neg q2]
      exact ev_now _
  | succ n ih =>
    intro i h a b xs hc hl hx
    obtain ⟨v, i1, h1, e1, v0, v1, c1⟩ := draw_byte h hc
    obtain ⟨a', b', xs', i', h', he, hr⟩ := ih i1 h1 a b (xs ++ [v % 256]) c1 (by simp; omega) (by
      intro x hm
      rcases List.mem_append.1 hm with hm | hm
      · exact hx x hm
      · rw [List.mem_singleton.1 hm]; omega)
    refine ⟨a', b', xs', i', h', ev_succ ?_, hr⟩
    have hw : wrap64 (((n + 1 : Nat) : Int) - 1) = (n : Int) := by rw [w64 (by omega) (by omega)]; omega
    simp only [spec_l16DrawWord.l0, if_pos (show (((n + 1 : Nat) : Int) > 0) by omega), e1, Option.bind_some, if_pos (show xs.length < 140737488355328 by omega), hw]
    exact he
theorem drawword_ev {l : List Int} {i : Int} (h : Int) (hc : Cur l i) : ∃ a b xs i' h', Ev (fun k => spec_l16DrawWord.f k l i h) (a, b, xs, i', h') ∧ xs.length ≤ 33 ∧ (∀ x ∈ xs, 0 ≤ x ∧ x ≤ 255) ∧ Cur l i' := by
  obtain ⟨v, i1, h1, e1, _, _, c1⟩ := draw_below h 3 hc (by omega) (by omega)
  obtain ⟨v2, i2, h2, e2, _, _, c2⟩ := draw_below h1 12 c1 (by omega) (by omega)
  obtain ⟨v3, i3, h3, e3, c3⟩ := draw_once h2 3 c2 (by omega) (by omega)
  have tail : ∀ (i h : Int) (a b : Int), Cur l i → ∃ a' b' xs i' h', Ev (fun k => spec_l16DrawWord.j0 k l i h a b) (a', b', xs, i', h') ∧ xs.length ≤ 33 ∧ (∀ x ∈ xs, 0 ≤ x ∧ x ≤ 255) ∧ Cur l i' := by
    intro i h a b hc
    obtain ⟨v, i1, h1, e1, v0, v1, c1⟩ := draw_below h 6 hc (by omega) (by omega)
    obtain ⟨a', b', xs, i', h', he, hr⟩ := drawword_l v.toNat i1 h1 a b [] c1 (by simp; omega) (by simp)
    refine ⟨a', b', xs, i', h', ev_succ ?_, hr⟩
    simp only [spec_l16DrawWord.j0, e1, Option.bind_some]
    rw [show ((v.toNat : Nat) : Int) = v by omega] at he
    exact he
  cases v3 with
  | true =>
    obtain ⟨v4, i4, h4, e4, _, _, c4⟩ := draw_below h3 6 c3 (by omega) (by omega)
    obtain ⟨a', b', xs, i', h', he, hr⟩ := tail i4 h4 (wrap64 (1 + v)) (wrap64 (250 + v4)) c4
    refine ⟨a', b', xs, i', h', ?_, hr⟩
    simp only [spec_l16DrawWord.f, e1, e2, e3, e4, Option.bind_some, if_true]
    exact he
  | false =>
    obtain ⟨a', b', xs, i', h', he, hr⟩ := tail i3 h3 (wrap64 (1 + v)) v2 c3
    refine ⟨a', b', xs, i', h', ?_, hr⟩
    simp only [spec_l16DrawWord.f, e1, e2, e3, Option.bind_some, Bool.false_eq_true, if_false]
    exact he
theorem frames_j1 (l : List Int) (hw : ∀ x ∈ l, 0 ≤ x ∧ x ≤ 255) (hn : l.length ≤ 1048576) (F : List Int) (n : Nat) (hF : IsFrame F n) : Ev (fun k => laws_FnFrames.j1 k l F false) true := by
  have hl := hF.len
  have n32 := hF.n32
  obtain ⟨v, hv, v0, v1⟩ := at_ev l hw hn 1 (by omega) (by omega)
  obtain ⟨u, hu, u0, u1⟩ := at_ev l hw hn 2 (by omega) (by omega)
  have k0 := Int.tmod_nonneg (F.length : Int) v0
  have k1 := Int.tmod_lt_of_pos v (show 0 < (F.length : Int) by omega)
  have d0 := Int.tmod_nonneg 255 u0
  have d1 := Int.tmod_lt_of_pos u (show (0 : Int) < 255 by omega)
  have wl : wrap64 ((F.length : Int) - 1) = (F.length : Int) - 1 := w64 (by omega) (by omega)
  have wd : wrap64 (1 + Int.tmod u 255) = 1 + Int.tmod u 255 := w64 (by omega) (by omega)
  have e0 : ([] : List Int).length + F.length < 140737488355328 := by simp; omega
  refine ev_succ ?_
  simp only [laws_FnFrames.j1, Bool.false_eq_true, if_false, hv, hu, Option.bind_some, if_neg (show ¬ ((F.length : Int) = 0) by omega), if_pos e0, List.nil_append, if_pos k0, if_pos k1, wl, wd, if_pos (show (0 : Int) ≤ (F.length : Int) - 1 by omega), if_pos (show (F.length : Int) - 1 ≤ (F.length : Int) by omega)]
  obtain ⟨q, hq⟩ : ∃ q : Nat, Int.tmod v (F.length : Int) = (q : Int) := ⟨(Int.tmod v (F.length : Int)).toNat, by omega⟩
  rw [hq] at k1
  simp only [hq, Int.toNat_natCast, show (1 + Int.tmod u 255) % 256 = 1 + Int.tmod u 255 by omega, show ((F.length : Int) - 1).toNat = F.length - 1 by omega]
  have hurt := get16_hurt hF q (by omega) (1 + Int.tmod u 255) (by omega)
  have hb := hF.bytes
  refine (impl_Get16_ev _ (by simp; omega) (by
    intro x hx
    rcases List.mem_or_eq_of_mem_set hx with hx | rfl
    · exact hb x hx
    · omega)).bind ?_
  refine (impl_Get16_ev _ (by simp; omega) (fun x hx => hb x (List.mem_of_mem_take hx))).bind ?_
  rw [get16_short hF]
  simp only [if_neg hurt]
  exact ev_now _
theorem FnFrames : laws_FnFrames.Pure := by
  intro l _ _ hw
  have hw' : ∀ x ∈ l, 0 ≤ x ∧ x ≤ 255 := fun x hx => wf_u8 (hw x hx)
  refine Ev.rounds ?_
  simp only [laws_FnFrames.f, laws_big.f, Option.bind_some]
  by_cases hb : (l.length : Int) > 1048576
  · simp only [hb, decide_true, if_true]
    exact ev_now _
  · simp only [hb, decide_false, Bool.false_eq_true, if_false]
    obtain ⟨h, hh⟩ := draw_new l (by omega)
    obtain ⟨a, b, xs, i', h', he, hxl, hx, _⟩ := drawword_ev (l := l) (i := 0) h ⟨by omega, by omega, by omega⟩
    have hd : Ev (fun k => spec_DrawPut16.f k l) (a, b, xs) := by
      simp only [spec_DrawPut16.f]
      refine hh.bind ?_
      exact he.bind (f := fun _ t => some (t.1, t.2.1, t.2.2.1)) (ev_now _)
    refine hd.bind ?_
    refine (impl_Put16_ev a b xs).bind ?_
    simp only [spec_WordOk_eq, impl_WordOk_eq, Option.bind_some]
    by_cases hk : wordB a b xs = true
    · obtain ⟨F, hF, hI, hG⟩ := put16_frame hk hx
      rw [hF, hk]
      simp only [bne_self_eq_false, Bool.false_eq_true, if_false]
      refine ev_succ ?_
      simp only [laws_FnFrames.j0, Bool.false_eq_true, if_false, if_true]
      refine (impl_Get16_ev F (by have := hI.len; have := hI.n32; omega) hI.bytes).bind ?_
      rw [hG]
      simp only [if_true, bne_self_eq_false]
      exact frames_j1 l hw' (by omega) F _ hI
    · have hk' : wordB a b xs = false := by simpa using hk
      have hp : put16 a b xs = ([], false) := by unfold put16; rw [if_neg hk]
      rw [hp, hk']
      simp only [bne_self_eq_false, Bool.false_eq_true, if_false]
      refine ev_succ ?_
      simp only [laws_FnFrames.j0, Bool.false_eq_true, if_false]
      exact ev_now _
end Go.Proofs.Ytcdniegjefejcaa.Pure
