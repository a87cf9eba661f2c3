/- Small lemmas over lists and whole numbers, and over loops with a bound on rounds. No program in sight. -/
import Derived.Test.YtdimdlifjdbgnaaGreatWMore
import Derived.Laws.BitsLemmas
set_option linter.unusedVariables false
set_option linter.unusedSimpArgs false
namespace Go.Proofs.YtdimdlifjdbgnaaGreat.Base
open Go.RowKit Go.Proofs.YtdimdlifjdbgnaaGreatW.PrintWords Go.Proofs.YtdimdlifjdbgnaaGreatW.PrintMore

theorem ev_succ {α : Type} {g : Nat → Option α} {r : α} (h : Ev (fun k => g (k + 1)) r) : Ev g r := Ev.step (fun _ => rfl) h
theorem ev_now {α : Type} (r : α) : Ev (fun _ => some r) r := Ev.now r
theorem ev_is {α : Type} {o : Option α} {r : α} (h : o = some r) : Ev (fun _ => o) r := h ▸ Ev.now r
theorem ev_val {α : Type} {g : Nat → Option α} {r s : α} (h : Ev g r) (e : r = s) : Ev g s := e ▸ h
theorem ev_some {α : Type} {r s : α} (e : r = s) : Ev (fun _ => some r) s := e ▸ Ev.now r

theorem w64 {n : Int} (h1 : -9223372036854775808 ≤ n) (h2 : n ≤ 9223372036854775807) : wrap64 n = n := by unfold wrap64; omega
theorem w64s (i : Nat) (h : i < 9223372036854775807) : wrap64 ((i : Int) + 1) = ((i + 1 : Nat) : Int) := by unfold wrap64; omega

theorem drop_rd {xs : List Int} {i : Nat} (h : i < xs.length) : xs.drop i = rd xs (i : Int) :: xs.drop (i + 1) := by
  rw [List.drop_eq_getElem_cons h]
  simp [rd, List.getD_eq_getElem?_getD, h]
theorem rd_mem {xs : List Int} {i : Int} (h0 : 0 ≤ i) (h : i < xs.length) : rd xs i ∈ xs := by
  have h' : i.toNat < xs.length := by omega
  simp only [rd, List.getD_eq_getElem?_getD, List.getElem?_eq_getElem h', Option.getD_some]
  exact List.getElem_mem h'
theorem rd_nat {xs : List Int} {i : Nat} (h : i < xs.length) : rd xs (i : Int) = xs[i] := by
  simp [rd, List.getD_eq_getElem?_getD, h]
theorem rd_append_left {xs ys : List Int} {i : Int} (h : i < xs.length) (h0 : 0 ≤ i) : rd (xs ++ ys) i = rd xs i := by
  simp only [rd, List.getD_eq_getElem?_getD]
  rw [List.getElem?_append_left (by omega)]
theorem rd_append_at {xs : List Int} {y : Int} : rd (xs ++ [y]) (xs.length : Int) = y := by
  simp [rd, List.getD_eq_getElem?_getD]

theorem least {p : Nat → Prop} (h : ∃ n, p n) : ∃ n, p n ∧ ∀ m, m < n → ¬ p m := by
  obtain ⟨n, hn⟩ := h
  induction n using Nat.strongRecOn with
  | _ n ih =>
    by_cases x : ∃ m, m < n ∧ p m
    · obtain ⟨m, h1, h2⟩ := x
      exact ih m h1 h2
    · exact ⟨n, hn, fun m h1 h2 => x ⟨m, h1, h2⟩⟩
theorem wf_u8 {x : Int} (h : (Lit.int .u8 x).wf = true) : 0 ≤ x ∧ x ≤ 255 := by
  simp [Lit.wf, IntKind.min, IntKind.max, IntKind.signed, IntKind.bits] at h
  omega
theorem wf_i64 {x : Int} (h : (Lit.int .i64 x).wf = true) : -9223372036854775808 ≤ x ∧ x ≤ 9223372036854775807 := by
  simp [Lit.wf, IntKind.min, IntKind.max, IntKind.signed, IntKind.bits] at h
  omega
theorem bits_and_le (x y : Int) (h0 : 0 ≤ y) (h1 : y < 9223372036854775808) : 0 ≤ Go.bits .and .i64 x y ∧ Go.bits .and .i64 x y ≤ y := by
  have e : (BitVec.ofInt 64 y).toNat = y.toNat := by
    rw [BitVec.toNat_ofInt]
    have : y % ((2 ^ 64 : Nat) : Int) = y := Int.emod_eq_of_lt h0 (by omega)
    rw [this]
  have h : (BitVec.ofInt 64 x &&& BitVec.ofInt 64 y).toNat ≤ y.toNat := by
    rw [BitVec.toNat_and, e]
    exact Nat.and_le_right
  have hw : Go.bits .and .i64 x y = IntKind.i64.wrap (((BitVec.ofInt 64 x &&& BitVec.ofInt 64 y).toNat : Nat) : Int) := rfl
  generalize (BitVec.ofInt 64 x &&& BitVec.ofInt 64 y).toNat = m at h hw
  rw [hw, IntKind.wrap_i64]
  omega
/-- A number is in the bounds. -/
def inB (a b c : Int) : Bool := decide (b ≤ a) && decide (a ≤ c)
theorem inB_iff {a b c : Int} : inB a b c = true ↔ b ≤ a ∧ a ≤ c := by simp [inB]
/-- All numbers are in the bounds. -/
def allB (xs : List Int) (b c : Int) : Bool := xs.all fun x => inB x b c
theorem allB_iff {xs : List Int} {b c : Int} : allB xs b c = true ↔ ∀ x ∈ xs, b ≤ x ∧ x ≤ c := by simp [allB, inB]
theorem in_form (a b c : Int) : (if a ≥ b then some (decide (a ≤ c)) else some false) = some (inB a b c) := by
  unfold inB; by_cases h : b ≤ a <;> simp [h]
theorem take_set {xs : List Int} {i : Nat} (h : i < xs.length) (z : Int) : ((xs.take i ++ List.replicate (xs.length - i) z).set i (rd xs (i : Int)) = xs.take (i + 1) ++ List.replicate (xs.length - (i + 1)) z) := by
  have hl : (xs.take i).length = i := by simp; omega
  rw [List.set_append, if_neg (by omega), hl, Nat.sub_self, show xs.length - i = (xs.length - (i + 1)) + 1 by omega, List.replicate_succ, List.set_cons_zero, rd_nat h, List.take_succ_eq_append_getElem h, List.append_assoc]
  rfl
theorem take_setG {α β : Type} {xs : List α} {c : α → β} {i : Nat} (h : i < xs.length) (z : β) : (((xs.map c).take i ++ List.replicate (xs.length - i) z).set i (c (xs[i]))) = (xs.map c).take (i + 1) ++ List.replicate (xs.length - (i + 1)) z := by
  have hl : ((xs.map c).take i).length = i := by simp; omega
  have h' : i < (xs.map c).length := by simpa using h
  rw [List.set_append, if_neg (by omega), hl, Nat.sub_self, show xs.length - i = (xs.length - (i + 1)) + 1 by omega, List.replicate_succ, List.set_cons_zero, List.take_succ_eq_append_getElem h', List.append_assoc, List.getElem_map]
  rfl
/-- The numbers that a list was marked with, from k0 on. -/
def marks (g : Int → Int) (k0 : Int) (n : Nat) : List Int := (List.range n).map fun j : Nat => g (k0 + (j : Int))
theorem marks_length (g : Int → Int) (k0 : Int) (n : Nat) : (marks g k0 n).length = n := by simp [marks]
theorem marks_rd {g : Int → Int} {k0 : Int} {n i : Nat} (h : i < n) : rd (marks g k0 n) (i : Int) = g (k0 + (i : Int)) := by
  rw [rd_nat (by rw [marks_length]; exact h)]
  simp [marks]
theorem marks_set {g : Int → Int} {k0 : Int} {xs : List Int} {i : Nat} (h : i < xs.length) : (marks g k0 i ++ xs.drop i).set i (g (k0 + (i : Int))) = marks g k0 (i + 1) ++ xs.drop (i + 1) := by
  rw [List.set_append, if_neg (by rw [marks_length]; omega), marks_length, Nat.sub_self, drop_rd h, List.set_cons_zero]
  simp [marks, List.range_succ]
theorem marks_nil (g : Int → Int) (k0 : Int) : marks g k0 0 = [] := rfl
end Go.Proofs.YtdimdlifjdbgnaaGreat.Base
