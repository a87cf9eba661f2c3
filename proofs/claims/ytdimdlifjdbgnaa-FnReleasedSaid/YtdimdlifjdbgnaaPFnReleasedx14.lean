-- Written by a program of this session (wip/xprint.py) out of the translation; Lean checks it.
import Derived.Test.YtdimdlifjdbgnaaPFnReleasedx0
import Derived.Test.YtdimdlifjdbgnaaPFnReleasedx1
import Derived.Test.YtdimdlifjdbgnaaPFnReleasedx2
import Derived.Test.YtdimdlifjdbgnaaPFnReleasedx3
import Derived.Test.YtdimdlifjdbgnaaPFnReleasedx4
import Derived.Test.YtdimdlifjdbgnaaPFnReleasedx5
import Derived.Test.YtdimdlifjdbgnaaPFnReleasedx6
import Derived.Test.YtdimdlifjdbgnaaPFnReleasedx7
import Derived.Test.YtdimdlifjdbgnaaPFnReleasedx8
import Derived.Test.YtdimdlifjdbgnaaPFnReleasedx9
import Derived.Test.YtdimdlifjdbgnaaPFnReleasedx10
import Derived.Test.YtdimdlifjdbgnaaPFnReleasedx11
import Derived.Test.YtdimdlifjdbgnaaPFnReleasedx12
import Derived.Test.YtdimdlifjdbgnaaPFnReleasedx13
import Derived.IntWalk
namespace Go.Proofs.Ytdimdlifjdbgnaa.PFnReleased
open Go.RowKit Go.Proofs.YtdimdlifjdbgnaaW.PrintWords Go.Proofs.YtdimdlifjdbgnaaW.PrintLast Go.Proofs.YtdimdlifjdbgnaaW.PrintMore Go.Proofs.Ytdimdlifjdbgnaa.Sq
attribute [local go_sem] max2_int min2_int max_two min_two max_three min_three max_four min_four   -- for this text's walks alone
set_option linter.unusedVariables false
set_option linter.unusedSimpArgs false

attribute [local go_sem high] eqA28
/-! ### laws_FnReleased: function 3 (by hand) -/
-- HAND FROM
open Go.Proofs.Ytdimdlifjdbgnaa.Base
/-! What is drawn: a cursor over the bytes, at place i, with the number h. -/
def Cur (l : List Int) (i : Int) : Prop := l.length ≤ 1048576 ∧ 0 ≤ i ∧ i ≤ (l.length : Int)
theorem draw_new (l : List Int) (hl : l.length ≤ 1048576) : ∃ h, Ev (fun k => spec_l1New.f k l) (l, 0, h) := by
  have loop : ∀ (d : Nat) (i : Nat) (h : Int), i + d = l.length → ∃ h', Ev (fun k => spec_l1New.l0 k l h (i : Int)) (l, 0, h') := by
    intro d
    induction d with
    | zero =>
      intro i h hi
      refine ⟨h, ev_succ ?_⟩
      simp only [spec_l1New.l0, if_neg (show ¬ ((i : Int) < (l.length : Int)) by omega)]
      exact ev_now _
    | succ d ih =>
      intro i h hi
      by_cases h4 : (i : Int) < 4000
      · obtain ⟨h', hh⟩ := ih (i + 1) (Go.bits .and .i64 (wrap64 ((wrap64 ((wrap64 (h * 131)) + (wrap64 (rd l (i : Int))))) + 7)) 1073741823) (by omega)
        refine ⟨h', ev_succ ?_⟩
        simp only [spec_l1New.l0, if_pos (show ((i : Int) < (l.length : Int)) by omega), if_pos h4, if_pos (show (0 : Int) ≤ (i : Int) by omega), w64s i (by omega)]
        exact hh
      · refine ⟨h, ev_succ ?_⟩
        simp only [spec_l1New.l0, if_pos (show ((i : Int) < (l.length : Int)) by omega), if_neg h4]
        exact ev_now _
  obtain ⟨h', hh⟩ := loop l.length 0 (wrap64 (63063 + (l.length : Int))) (by omega)
  exact ⟨h', by simpa [spec_l1New.f] using hh⟩
theorem draw_byte {l : List Int} {i : Int} (h : Int) (hc : Cur l i) : ∃ v i' h', spec_l1Byte.f l i h = some (v, i', h') ∧ 0 ≤ v ∧ v ≤ 255 ∧ Cur l i' := by
  obtain ⟨h1, h2, h3⟩ := hc
  unfold spec_l1Byte.f
  by_cases e : i < (l.length : Int)
  · rw [if_pos e, if_pos h2]
    have := bits_and_le (wrap64 ((Go.bits .and .i64 (Go.bits .xor .i64 ((wrap64 ((wrap64 (h * 6364136223846793005)) + 1442695040888963407)) / 8589934592) ((wrap64 ((wrap64 (h * 6364136223846793005)) + 1442695040888963407)) / 35184372088832)) 255) + (wrap64 (rd l i)))) 255 (by omega) (by omega)
    exact ⟨_, _, _, rfl, this.1, this.2, h1, by rw [w64 (by omega) (by omega)]; omega, by rw [w64 (by omega) (by omega)]; omega⟩
  · rw [if_neg e]
    have := bits_and_le (Go.bits .xor .i64 ((wrap64 ((wrap64 (h * 6364136223846793005)) + 1442695040888963407)) / 8589934592) ((wrap64 ((wrap64 (h * 6364136223846793005)) + 1442695040888963407)) / 35184372088832)) 255 (by omega) (by omega)
    exact ⟨_, _, _, rfl, this.1, this.2, h1, h2, h3⟩
theorem draw_below {l : List Int} {i : Int} (h n : Int) (hc : Cur l i) (h0 : 0 < n) (h1 : n ≤ 1099511627776) : ∃ v i' h', spec_l1Below.f l i h n = some (v, i', h') ∧ 0 ≤ v ∧ v < n ∧ Cur l i' := by
  unfold spec_l1Below.f
  rw [if_neg (by omega)]
  by_cases e : n ≤ 256
  · obtain ⟨v, i', h', e1, v0, v1, c1⟩ := draw_byte h hc
    rw [if_pos e, e1]
    simp only [Option.bind_some, if_neg (show ¬ n = 0 by omega)]
    exact ⟨_, _, _, rfl, Int.tmod_nonneg _ v0, Int.tmod_lt_of_pos _ h0, c1⟩
  · obtain ⟨v, i', h', e1, v0, v1, c1⟩ := draw_byte h hc
    obtain ⟨v', i2, h2, e2, v2, v3, c2⟩ := draw_byte h' c1
    obtain ⟨v4, i3, h3, e3, v5, v6, c3⟩ := draw_byte h2 c2
    obtain ⟨v7, i4, h4, e4, v8, v9, c4⟩ := draw_byte h3 c3
    rw [if_neg e, e1]
    simp only [Option.bind_some, e2, e3, e4, if_neg (show ¬ n = 0 by omega)]
    refine ⟨_, _, _, rfl, ?_, Int.tmod_lt_of_pos _ h0, c4⟩
    rw [w64 (n := v * 16777216) (by omega) (by omega), w64 (n := v' * 65536) (by omega) (by omega), w64 (n := v4 * 256) (by omega) (by omega), w64 (n := v * 16777216 + v' * 65536) (by omega) (by omega), w64 (n := v * 16777216 + v' * 65536 + v4 * 256) (by omega) (by omega), w64 (by omega) (by omega)]
    exact Int.tmod_nonneg _ (by omega)
theorem draw_once {l : List Int} {i : Int} (h n : Int) (hc : Cur l i) (h0 : 0 < n) (h1 : n ≤ 1099511627776) : ∃ v i' h', spec_l1Once.f l i h n = some (v, i', h') ∧ Cur l i' := by
  obtain ⟨v, i', h', e1, _, _, c1⟩ := draw_below h n hc h0 h1
  unfold spec_l1Once.f
  rw [e1]
  exact ⟨_, _, _, rfl, c1⟩
/-! The draws of chapter 19. -/
theorem draw_pick {l : List Int} {i : Int} (h : Int) (hc : Cur l i) (xs : List ByteArray) (h0 : 0 < xs.length) (h1 : xs.length ≤ 1000) : ∃ v i' h', spec_l1Pick.f l i h xs = some (v, i', h') ∧ v ∈ xs ∧ Cur l i' := by
  obtain ⟨v, i', h', e1, v0, v1, c1⟩ := draw_below h (xs.length : Int) hc (by omega) (by omega)
  unfold spec_l1Pick.f
  rw [e1]
  simp only [Option.bind_some, if_pos v0, if_pos v1]
  refine ⟨_, _, _, rfl, ?_, c1⟩
  have hv : v.toNat < xs.length := by omega
  have : rdOf ByteArray.empty xs v = xs[v.toNat] := by simp [rdOf, List.getD_eq_getElem?_getD, hv]
  rw [this]
  exact List.getElem_mem hv
theorem rdOf_at {xs : List ByteArray} {i : Nat} (h : i < xs.length) : rdOf ByteArray.empty xs (i : Int) = xs[i] := by simp [rdOf, List.getD_eq_getElem?_getD, h]
abbrev cN : List ByteArray := [(⟨#[98, 101, 108, 116]⟩ : ByteArray), (⟨#[108, 97, 109, 112]⟩ : ByteArray), (⟨#[114, 97, 100, 105, 111]⟩ : ByteArray), (⟨#[115, 101, 97, 116]⟩ : ByteArray)]
abbrev tN : List ByteArray := [(⟨#[101, 110, 103, 105, 110, 101]⟩ : ByteArray), (⟨#[102, 114, 97, 109, 101]⟩ : ByteArray), (⟨#[103, 101, 97, 114]⟩ : ByteArray), (⟨#[119, 105, 110, 103]⟩ : ByteArray)]
abbrev dN : List ByteArray := [(⟨#[98, 101, 108, 116]⟩ : ByteArray), (⟨#[108, 97, 109, 112]⟩ : ByteArray), (⟨#[114, 97, 100, 105, 111]⟩ : ByteArray), (⟨#[115, 101, 97, 116]⟩ : ByteArray), (⟨#[108, 97, 109, 112]⟩ : ByteArray)]
structure CsOk (cs : List Cr) (N : List ByteArray) : Prop where
  sub : (cs.map (·.f0)).Sublist N
  b : ∀ c ∈ cs, (0 ≤ c.f1 ∧ c.f1 ≤ 3) ∧ 0 ≤ c.f2 ∧ c.f2 ≤ 59
theorem take_more {N : List ByteArray} {i : Nat} (h : i < N.length) : N.take (i + 1) = N.take i ++ [N[i]] := by simp
theorem sub_skip {xs N : List ByteArray} {i : Nat} (h : i < N.length) (s : xs.Sublist (N.take i)) : xs.Sublist (N.take (i + 1)) := by
  rw [take_more h]; exact s.trans (List.sublist_append_left _ _)
theorem sub_more {xs N : List ByteArray} {i : Nat} (h : i < N.length) (s : xs.Sublist (N.take i)) : (xs ++ [N[i]]).Sublist (N.take (i + 1)) := by
  rw [take_more h]; exact s.append (List.Sublist.refl _)
theorem drawcarries_l {l : List Int} (N : List ByteArray) (hN : N.length ≤ 1000) (d : Nat) : ∀ (j : Nat) (i h : Int) (cs : List Cr), j + d = N.length → Cur l i → CsOk cs (N.take j) → ∃ cs' i' h', Ev (fun k => spec_l19DrawCarries.l0 k cs N (j : Int) l i h) (cs', i', h') ∧ CsOk cs' N ∧ Cur l i' := by
  induction d with
  | zero =>
    intro j i h cs hj hc ho
    refine ⟨cs, i, h, ev_succ ?_, by rwa [List.take_of_length_le (by omega)] at ho, hc⟩
    simp only [spec_l19DrawCarries.l0, if_neg (show ¬ ((j : Int) < (N.length : Int)) by omega)]
    exact ev_now _
  | succ d ih =>
    intro j i h cs hj hc ho
    have hlt : j < N.length := by omega
    have hl : cs.length ≤ j := by have := ho.sub.length_le; simp only [List.length_map, List.length_take] at this; omega
    obtain ⟨v, i1, h1, e1, c1⟩ := draw_once h 5 hc (by omega) (by omega)
    cases v with
    | true =>
      obtain ⟨cs', i', h', e, o, c⟩ := ih (j + 1) i1 h1 cs (by omega) c1 ⟨sub_skip hlt ho.sub, ho.b⟩
      refine ⟨cs', i', h', ev_succ ?_, o, c⟩
      simp only [spec_l19DrawCarries.l0, if_pos (show ((j : Int) < (N.length : Int)) by omega), e1, Option.bind_some, if_true, w64s j (by omega)]
      exact e
    | false =>
      obtain ⟨a, i2, h2, e2, a0, a1, c2⟩ := draw_below h1 4 c1 (by omega) (by omega)
      obtain ⟨b, i3, h3, e3, b0, b1, c3⟩ := draw_below h2 60 c2 (by omega) (by omega)
      obtain ⟨cs', i', h', e, o, c⟩ := ih (j + 1) i3 h3 (cs ++ [⟨N[j], a, b⟩]) (by omega) c3 ⟨by rw [List.map_append]; exact sub_more hlt ho.sub, by
        intro c hc'
        rcases List.mem_append.1 hc' with hc' | hc'
        · exact ho.b c hc'
        · obtain rfl := List.mem_singleton.1 hc'
          exact ⟨⟨a0, by show a ≤ 3; omega⟩, b0, by show b ≤ 59; omega⟩⟩
      refine ⟨cs', i', h', ev_succ ?_, o, c⟩
      simp only [spec_l19DrawCarries.l0, if_pos (show ((j : Int) < (N.length : Int)) by omega), e1, Option.bind_some, Bool.false_eq_true, if_false, if_pos (show (0 : Int) ≤ (j : Int) by omega), e2, e3, if_pos (show cs.length < 4398046511104 by omega), rdOf_at hlt, w64s j (by omega)]
      exact e
theorem drawcarries_ev {l : List Int} {i : Int} (h : Int) (hc : Cur l i) : ∃ cs i' h', Ev (fun k => spec_l19DrawCarries.f k l i h) (cs, i', h') ∧ CsOk cs cN ∧ Cur l i' := by
  obtain ⟨cs, i', h', e, o, c⟩ := drawcarries_l cN (by decide) 4 0 i h [] (by decide) hc ⟨by simp, by simp⟩
  exact ⟨cs, i', h', by unfold spec_l19DrawCarries.f; exact e, o, c⟩
def TOk (t : Tk) : Prop := (0 ≤ t.f1 ∧ t.f1 ≤ 149) ∧ (0 ≤ t.f2 ∧ t.f2 ≤ 89) ∧ (0 ≤ t.f3 ∧ t.f3 ≤ 200) ∧ t.f1 + t.f2 + t.f3 > 0 ∧ (0 ≤ t.f4.f0 ∧ t.f4.f0 ≤ 50) ∧ (0 ≤ t.f4.f1 ∧ t.f4.f1 ≤ 50) ∧ 0 ≤ t.f4.f2 ∧ t.f4.f2 ≤ 50
theorem drawclock {l : List Int} {i : Int} (h : Int) (hc : Cur l i) : ∃ a b c i' h', spec_l19DrawClock.f l i h 51 = some (a, b, c, i', h') ∧ (0 ≤ a ∧ a ≤ 50) ∧ (0 ≤ b ∧ b ≤ 50) ∧ (0 ≤ c ∧ c ≤ 50) ∧ Cur l i' := by
  obtain ⟨a, i1, h1, e1, a0, a1, c1⟩ := draw_below h 51 hc (by omega) (by omega)
  obtain ⟨b, i2, h2, e2, b0, b1, c2⟩ := draw_below h1 51 c1 (by omega) (by omega)
  obtain ⟨c, i3, h3, e3, d0, d1, c3⟩ := draw_below h2 51 c2 (by omega) (by omega)
  unfold spec_l19DrawClock.f
  rw [e1]
  simp only [Option.bind_some, e2, e3]
  exact ⟨_, _, _, _, _, rfl, ⟨a0, by omega⟩, ⟨b0, by omega⟩, ⟨d0, by omega⟩, c3⟩
theorem mul01 {a b m : Int} (a0 : 0 ≤ a) (a1 : a ≤ m) (b0 : 0 ≤ b) (b1 : b < 2) (hm : m ≤ 1000) : 0 ≤ wrap64 (a * b) ∧ wrap64 (a * b) ≤ m := by
  have : b = 0 ∨ b = 1 := by omega
  rcases this with rfl | rfl
  · rw [Int.mul_zero]; rw [w64 (by omega) (by omega)]; omega
  · rw [Int.mul_one]; rw [w64 (by omega) (by omega)]; omega
theorem drawtask {l : List Int} {i : Int} (h : Int) (n : ByteArray) (hc : Cur l i) : ∃ a b c x y z i' h', spec_l19DrawTask.f l i h n 51 = some (n, a, b, c, x, y, z, i', h') ∧ TOk ⟨n, a, b, c, ⟨x, y, z⟩⟩ ∧ Cur l i' := by
  obtain ⟨a, i1, h1, e1, a0, a1, c1⟩ := draw_below h 150 hc (by omega) (by omega)
  obtain ⟨a', i2, h2, e2, a2, a3, c2⟩ := draw_below h1 2 c1 (by omega) (by omega)
  obtain ⟨b, i3, h3, e3, b0, b1, c3⟩ := draw_below h2 90 c2 (by omega) (by omega)
  obtain ⟨b', i4, h4, e4, b2, b3, c4⟩ := draw_below h3 2 c3 (by omega) (by omega)
  obtain ⟨d, i5, h5, e5, d0, d1, c5⟩ := draw_below h4 200 c4 (by omega) (by omega)
  obtain ⟨x, y, z, i6, h6, e6, x0, y0, z0, c6⟩ := drawclock h5 c5
  have hA := mul01 a0 (m := 149) (by omega) a2 a3 (by omega)
  have hB := mul01 b0 (m := 89) (by omega) b2 b3 (by omega)
  have hD : wrap64 (1 + d) = 1 + d := w64 (by omega) (by omega)
  unfold spec_l19DrawTask.f
  rw [e1]
  simp only [Option.bind_some, e2, e3, e4, e5, e6, hD]
  generalize wrap64 (a * a') = A at *
  generalize wrap64 (b * b') = B at *
  by_cases hA0 : A > 0
  · obtain ⟨v, i7, h7, e7, c7⟩ := draw_once h6 2 c6 (by omega) (by omega)
    simp only [if_pos hA0, e7, Option.bind_some]
    cases v with
    | true =>
      simp only [if_true]
      exact ⟨_, _, _, _, _, _, _, _, rfl, ⟨hA, hB, ⟨by show (0 : Int) ≤ 0; omega, by show (0 : Int) ≤ 200; omega⟩, by show A + B + 0 > 0; omega, x0, y0, z0⟩, c7⟩
    | false =>
      simp only [Bool.false_eq_true, if_false]
      exact ⟨_, _, _, _, _, _, _, _, rfl, ⟨hA, hB, ⟨by show 0 ≤ 1 + d; omega, by show 1 + d ≤ 200; omega⟩, by show A + B + (1 + d) > 0; omega, x0, y0, z0⟩, c7⟩
  · simp only [if_neg hA0]
    exact ⟨_, _, _, _, _, _, _, _, rfl, ⟨hA, hB, ⟨by show 0 ≤ 1 + d; omega, by show 1 + d ≤ 200; omega⟩, by show A + B + (1 + d) > 0; omega, x0, y0, z0⟩, c6⟩
structure DsOk (r : Int) (ds : List Df) (m : Int) : Prop where
  m0 : 0 ≤ m ∧ m ≤ 3 * (ds.length : Int)
  b : ∀ d ∈ ds, d.f0 ∈ dN ∧ (1 ≤ d.f1 ∧ d.f1 ≤ m) ∧ r - 49 ≤ d.f2 ∧ d.f2 ≤ r
  s : ds.Pairwise (fun a b => a.f1 < b.f1)
theorem drawdefects_l {l : List Int} (ts : List Tk) (cs : List Cr) (p q r : Int) (hr : 0 ≤ r ∧ r ≤ 1000000) (n : Nat) : ∀ (i h m : Int) (ds : List Df), Cur l i → ds.length + n ≤ 3 → DsOk r ds m →
    ∃ ds' i' h', Ev (fun k => spec_l19Draw.l1 k m (n : Int) l i h ts cs ds p q r) (ts, cs, ds', p, q, r, i', h') ∧ (∃ m', DsOk r ds' m') ∧ ds'.length ≤ 3 ∧ Cur l i' := by
  induction n with
  | zero =>
    intro i h m ds hc hn ho
    refine ⟨ds, i, h, ev_succ ?_, ⟨m, ho⟩, by omega, hc⟩
    simp only [spec_l19Draw.l1, if_neg (show ¬ (((0 : Nat) : Int) > 0) by omega)]
    exact ev_now _
  | succ n ih =>
    intro i h m ds hc hn ho
    obtain ⟨a, i1, h1, e1, a0, a1, c1⟩ := draw_below h 3 hc (by omega) (by omega)
    obtain ⟨v, i2, h2, e2, hv, c2⟩ := draw_pick h1 c1 dN (by decide) (by decide)
    obtain ⟨b, i3, h3, e3, b0, b1, c3⟩ := draw_below h2 50 c2 (by omega) (by omega)
    have hm := ho.m0
    have w1 : wrap64 (wrap64 (m + 1) + a) = m + 1 + a := by rw [w64 (n := m + 1) (by omega) (by omega), w64 (by omega) (by omega)]
    have w2 : wrap64 (r - b) = r - b := w64 (by omega) (by omega)
    have w3 : wrap64 (((n + 1 : Nat) : Int) - 1) = (n : Int) := by rw [w64 (by omega) (by omega)]; omega
    obtain ⟨ds', i', h', e, o, ol, c⟩ := ih i3 h3 (m + 1 + a) (ds ++ [⟨v, m + 1 + a, r - b⟩]) c3 (by simp; omega) ⟨⟨by omega, by simp only [List.length_append, List.length_singleton]; omega⟩, by
      intro d hd
      rcases List.mem_append.1 hd with hd | hd
      · obtain ⟨g1, g2, g3⟩ := ho.b d hd
        exact ⟨g1, ⟨g2.1, by omega⟩, g3⟩
      · obtain rfl := List.mem_singleton.1 hd
        exact ⟨hv, ⟨by show 1 ≤ m + 1 + a; omega, Int.le_refl _⟩, by show r - 49 ≤ r - b; omega, by show r - b ≤ r; omega⟩, by
      rw [List.pairwise_append]
      refine ⟨ho.s, List.pairwise_singleton _ _, ?_⟩
      intro d hd d' hd'
      obtain rfl := List.mem_singleton.1 hd'
      have := (ho.b d hd).2.1.2
      show d.f1 < m + 1 + a
      omega⟩
    refine ⟨ds', i', h', ev_succ ?_, o, ol, c⟩
    simp only [spec_l19Draw.l1, if_pos (show ((n + 1 : Nat) : Int) > 0 by omega), e1, Option.bind_some, e2, e3, if_pos (show ds.length < 4398046511104 by omega), w1, w2, w3]
    exact e
structure TsOk (ts : List Tk) (N : List ByteArray) : Prop where
  sub : (ts.map (·.f0)).Sublist N
  b : ∀ t ∈ ts, TOk t
theorem drawtasks_l {l : List Int} (cs : List Cr) (p q r : Int) (hr : 0 ≤ r ∧ r ≤ 1000000) (N : List ByteArray) (hN : N.length ≤ 1000) (d : Nat) : ∀ (j : Nat) (i h : Int) (ts : List Tk), j + d = N.length → Cur l i → TsOk ts (N.take j) →
    ∃ ts' ds i' h', Ev (fun k => spec_l19Draw.l0 k N (j : Int) l i h ts cs p q r) (ts', cs, ds, p, q, r, i', h') ∧ TsOk ts' N ∧ (∃ m', DsOk r ds m') ∧ ds.length ≤ 3 ∧ Cur l i' := by
  induction d with
  | zero =>
    intro j i h ts hj hc ho
    obtain ⟨a, i1, h1, e1, a0, a1, c1⟩ := draw_below h 4 hc (by omega) (by omega)
    obtain ⟨ds, i', h', e, o, ol, c⟩ := drawdefects_l ts cs p q r hr a.toNat i1 h1 0 [] c1 (by simp; omega) ⟨⟨by omega, by simp⟩, by simp, List.Pairwise.nil⟩
    rw [show ((a.toNat : Nat) : Int) = a by omega] at e
    refine ⟨ts, ds, i', h', ev_succ ?_, by rwa [List.take_of_length_le (by omega)] at ho, o, ol, c⟩
    simp only [spec_l19Draw.l0, if_neg (show ¬ ((j : Int) < (N.length : Int)) by omega), e1, Option.bind_some]
    exact e
  | succ d ih =>
    intro j i h ts hj hc ho
    have hlt : j < N.length := by omega
    have hl : ts.length ≤ j := by have := ho.sub.length_le; simp only [List.length_map, List.length_take] at this; omega
    obtain ⟨v, i1, h1, e1, c1⟩ := draw_once h 4 hc (by omega) (by omega)
    cases v with
    | true =>
      obtain ⟨ts', ds, i', h', e, o⟩ := ih (j + 1) i1 h1 ts (by omega) c1 ⟨sub_skip hlt ho.sub, ho.b⟩
      refine ⟨ts', ds, i', h', ev_succ ?_, o⟩
      simp only [spec_l19Draw.l0, if_pos (show ((j : Int) < (N.length : Int)) by omega), e1, Option.bind_some, if_true, w64s j (by omega)]
      exact e
    | false =>
      obtain ⟨a, b, c, x, y, z, i2, h2, e2, k2, c2⟩ := drawtask h1 N[j] c1
      obtain ⟨ts', ds, i', h', e, o⟩ := ih (j + 1) i2 h2 (ts ++ [⟨N[j], a, b, c, ⟨x, y, z⟩⟩]) (by omega) c2 ⟨by rw [List.map_append]; exact sub_more hlt ho.sub, by
        intro t ht
        rcases List.mem_append.1 ht with ht | ht
        · exact ho.b t ht
        · obtain rfl := List.mem_singleton.1 ht
          exact k2⟩
      refine ⟨ts', ds, i', h', ev_succ ?_, o⟩
      simp only [spec_l19Draw.l0, if_pos (show ((j : Int) < (N.length : Int)) by omega), e1, Option.bind_some, Bool.false_eq_true, if_false, if_pos (show (0 : Int) ≤ (j : Int) by omega), e2, if_pos (show ts.length < 2199023255552 by omega), rdOf_at hlt, w64s j (by omega)]
      exact e
theorem draw19_ev {l : List Int} {i : Int} (h : Int) (hc : Cur l i) : ∃ ts cs ds p q r i' h', Ev (fun k => spec_l19Draw.f k l i h) (ts, cs, ds, p, q, r, i', h') ∧ TsOk ts tN ∧ CsOk cs cN ∧ (∃ m', DsOk r ds m') ∧ ds.length ≤ 3 ∧ (50 ≤ p ∧ p ≤ 149) ∧ (50 ≤ q ∧ q ≤ 149) ∧ (50 ≤ r ∧ r ≤ 149) ∧ Cur l i' := by
  obtain ⟨cs, i1, h1, e1, oc, c1⟩ := drawcarries_ev h hc
  obtain ⟨a, i2, h2, e2, a0, a1, c2⟩ := draw_below h1 100 c1 (by omega) (by omega)
  obtain ⟨b, i3, h3, e3, b0, b1, c3⟩ := draw_below h2 60 c2 (by omega) (by omega)
  obtain ⟨d, i4, h4, e4, d0, d1, c4⟩ := draw_below h3 100 c3 (by omega) (by omega)
  obtain ⟨ts, ds, i', h', e, o1, o2, o3, c⟩ := drawtasks_l cs (50 + a) (50 + b) (50 + d) (by omega) tN (by decide) 4 0 i4 h4 [] (by decide) c4 ⟨by simp, by simp⟩
  refine ⟨ts, cs, ds, 50 + a, 50 + b, 50 + d, i', h', ?_, o1, oc, o2, o3, by omega, by omega, by omega, c⟩
  simp only [spec_l19Draw.f]
  refine e1.bind ?_
  simp only [e2, e3, e4, Option.bind_some, w64 (n := 50 + a) (by omega) (by omega), w64 (n := 50 + b) (by omega) (by omega), w64 (n := 50 + d) (by omega) (by omega)]
  exact e
theorem draw_pickint_ {l : List Int} {i : Int} (h : Int) (hc : Cur l i) (xs : List Int) (h0 : 0 < xs.length) (h1 : xs.length ≤ 1000) : ∃ v i' h', spec_l1PickInt.f l i h xs = some (v, i', h') ∧ Cur l i' := by
  obtain ⟨v, i', h', e1, v0, v1, c1⟩ := draw_below h (xs.length : Int) hc (by omega) (by omega)
  unfold spec_l1PickInt.f
  rw [e1]
  simp only [Option.bind_some, if_pos v0, if_pos v1]
  exact ⟨_, _, _, rfl, c1⟩
theorem drawdeed_j {l : List Int} {i : Int} (h : Int) (hc : Cur l i) (a : Int) (n : ByteArray) (b c : Int) : ∃ (x : Int × ByteArray × Int × Int) (i' h' : Int), Ev (fun k => spec_l19DrawDeed.j0 k l i h a n b c) (x.1, x.2.1, x.2.2.1, x.2.2.2, i', h') ∧ Cur l i' := by
  obtain ⟨v, i1, h1, e1, v0, v1, c1⟩ := draw_below h 40 hc (by omega) (by omega)
  obtain ⟨x1, i2, h2, e2, c2⟩ := draw_pickint_ h1 c1 [0, 6] (by decide) (by decide)
  obtain ⟨x2, i3, h3, e3, _, c3⟩ := draw_pick h1 c1 [(⟨#[]⟩ : ByteArray), (⟨#[97, 32, 98]⟩ : ByteArray), (⟨#[110, 111, 110, 101]⟩ : ByteArray)] (by decide) (by decide)
  obtain ⟨x3, i4, h4, e4, c4⟩ := draw_pickint_ h1 c1 [0, (-1), 1000000, 1000001] (by decide) (by decide)
  obtain ⟨x4, i5, h5, e5, c5⟩ := draw_pickint_ h1 c1 [0, 100, 101, 9223372036854775807] (by decide) (by decide)
  by_cases k0 : v = 0
  · refine ⟨(x1, n, b, c), i2, h2, ev_succ ?_, c2⟩
    simp only [spec_l19DrawDeed.j0, e1, Option.bind_some, if_pos k0, e2]
    exact ev_now _
  by_cases k1 : v = 1
  · refine ⟨(a, x2, b, c), i3, h3, ev_succ ?_, c3⟩
    simp only [spec_l19DrawDeed.j0, e1, Option.bind_some, if_neg k0, if_pos k1, e3]
    exact ev_now _
  by_cases k2 : v = 2
  · refine ⟨(a, n, x3, c), i4, h4, ev_succ ?_, c4⟩
    simp only [spec_l19DrawDeed.j0, e1, Option.bind_some, if_neg k0, if_neg k1, if_pos k2, e4]
    exact ev_now _
  by_cases k3 : v = 3
  · refine ⟨(a, n, b, x4), i5, h5, ev_succ ?_, c5⟩
    simp only [spec_l19DrawDeed.j0, e1, Option.bind_some, if_neg k0, if_neg k1, if_neg k2, if_pos k3, e5]
    exact ev_now _
  · refine ⟨(a, n, b, c), i1, h1, ev_succ ?_, c1⟩
    simp only [spec_l19DrawDeed.j0, e1, Option.bind_some, if_neg k0, if_neg k1, if_neg k2, if_neg k3]
    exact ev_now _
theorem drawdeed_ev {l : List Int} {i : Int} (h : Int) (hc : Cur l i) : ∃ (x : Int × ByteArray × Int × Int) (i' h' : Int), Ev (fun k => spec_l19DrawDeed.f k l i h) (x.1, x.2.1, x.2.2.1, x.2.2.2, i', h') ∧ Cur l i' := by
  obtain ⟨a, i1, h1, e1, a0, a1, c1⟩ := draw_below h 5 hc (by omega) (by omega)
  obtain ⟨v, i2, h2, e2, hv, c2⟩ := draw_pick h1 c1 [(⟨#[101, 110, 103, 105, 110, 101]⟩ : ByteArray), (⟨#[102, 114, 97, 109, 101]⟩ : ByteArray), (⟨#[103, 101, 97, 114]⟩ : ByteArray), (⟨#[119, 105, 110, 103]⟩ : ByteArray), (⟨#[108, 97, 109, 112]⟩ : ByteArray), (⟨#[115, 101, 97, 116]⟩ : ByteArray)] (by decide) (by decide)
  obtain ⟨b, i3, h3, e3, b0, b1, c3⟩ := draw_below h2 12 c2 (by omega) (by omega)
  obtain ⟨c, i4, h4, e4, d0, d1, c4⟩ := draw_below h3 15 c3 (by omega) (by omega)
  obtain ⟨o, i5, h5, e5, c5⟩ := draw_once h4 3 c4 (by omega) (by omega)
  simp only [spec_l19DrawDeed.f, e1, e2, e3, e4, e5, Option.bind_some]
  cases o with
  | true => simp only [if_true]; exact drawdeed_j h5 c5 _ _ _ _
  | false => simp only [Bool.false_eq_true, if_false]; exact drawdeed_j h5 c5 _ _ _ _
theorem drawdeeds_l {l : List Int} (ts : List Tk) (cs : List Cr) (ds : List Df) (p q r : Int) (n : Nat) : ∀ (i h : Int) (xs : List S42), Cur l i → xs.length + n ≤ 100 → ∃ xs', Ev (fun k => spec_DrawFleet.l0 k xs (n : Int) l i h ts cs ds p q r) (ts, cs, ds, p, q, r, xs') := by
  induction n with
  | zero =>
    intro i h xs hc hn
    refine ⟨xs, ev_succ ?_⟩
    simp only [spec_DrawFleet.l0, if_neg (show ¬ (((0 : Nat) : Int) > 0) by omega)]
    exact ev_now _
  | succ n ih =>
    intro i h xs hc hn
    obtain ⟨x, i1, h1, e1, c1⟩ := drawdeed_ev h hc
    have w3 : wrap64 (((n + 1 : Nat) : Int) - 1) = (n : Int) := by rw [w64 (by omega) (by omega)]; omega
    obtain ⟨xs', e⟩ := ih i1 h1 (xs ++ [⟨x.1, x.2.1, x.2.2.1, x.2.2.2⟩]) c1 (by simp; omega)
    refine ⟨xs', ev_succ ?_⟩
    simp only [spec_DrawFleet.l0, if_pos (show ((n + 1 : Nat) : Int) > 0 by omega)]
    refine e1.bind ?_
    simp only [if_pos (show xs.length < 3518437208883 by omega), w3]
    exact e
theorem drawfleet_ev (l : List Int) (hl : l.length ≤ 1048576) : ∃ ts cs ds p q r xs, Ev (fun k => spec_DrawFleet.f k l) (ts, cs, ds, p, q, r, xs) ∧ TsOk ts tN ∧ CsOk cs cN ∧ (∃ m', DsOk r ds m') ∧ ds.length ≤ 3 ∧ (50 ≤ p ∧ p ≤ 149) ∧ (50 ≤ q ∧ q ≤ 149) ∧ (50 ≤ r ∧ r ≤ 149) := by
  obtain ⟨h0, e0⟩ := draw_new l hl
  obtain ⟨ts, cs, ds, p, q, r, i1, h1, e1, o1, o2, o3, o4, o5, o6, o7, c1⟩ := draw19_ev h0 (⟨hl, by omega, by omega⟩ : Cur l 0)
  obtain ⟨a, i2, h2, e2, a0, a1, c2⟩ := draw_below h1 25 c1 (by omega) (by omega)
  obtain ⟨xs, e3⟩ := drawdeeds_l ts cs ds p q r a.toNat i2 h2 [] c2 (by simp; omega)
  rw [show ((a.toNat : Nat) : Int) = a by omega] at e3
  refine ⟨ts, cs, ds, p, q, r, xs, ?_, o1, o2, o3, o4, o5, o6, o7⟩
  simp only [spec_DrawFleet.f]
  refine e0.bind ?_
  refine e1.bind ?_
  simp only [e2, Option.bind_some]
  exact e3
/-! Drawn deeds: short names, not more than a hundred. -/
theorem drawdeed_jn {l : List Int} {i : Int} (h : Int) (hc : Cur l i) (a : Int) (n : ByteArray) (hn : n.size ≤ 100) (b c : Int) : ∃ (x : Int × ByteArray × Int × Int) (i' h' : Int), Ev (fun k => spec_l19DrawDeed.j0 k l i h a n b c) (x.1, x.2.1, x.2.2.1, x.2.2.2, i', h') ∧ x.2.1.size ≤ 100 ∧ Cur l i' := by
  obtain ⟨v, i1, h1, e1, v0, v1, c1⟩ := draw_below h 40 hc (by omega) (by omega)
  obtain ⟨x1, i2, h2, e2, c2⟩ := draw_pickint_ h1 c1 [0, 6] (by decide) (by decide)
  obtain ⟨x2, i3, h3, e3, m3, c3⟩ := draw_pick h1 c1 [(⟨#[]⟩ : ByteArray), (⟨#[97, 32, 98]⟩ : ByteArray), (⟨#[110, 111, 110, 101]⟩ : ByteArray)] (by decide) (by decide)
  obtain ⟨x3, i4, h4, e4, c4⟩ := draw_pickint_ h1 c1 [0, (-1), 1000000, 1000001] (by decide) (by decide)
  obtain ⟨x4, i5, h5, e5, c5⟩ := draw_pickint_ h1 c1 [0, 100, 101, 9223372036854775807] (by decide) (by decide)
  have s3 : x2.size ≤ 100 := by
    rcases List.mem_cons.1 m3 with rfl | m3
    · decide
    rcases List.mem_cons.1 m3 with rfl | m3
    · decide
    rcases List.mem_cons.1 m3 with rfl | m3
    · decide
    · cases m3
  by_cases k0 : v = 0
  · refine ⟨(x1, n, b, c), i2, h2, ev_succ ?_, hn, c2⟩
    simp only [spec_l19DrawDeed.j0, e1, Option.bind_some, if_pos k0, e2]
    exact ev_now _
  by_cases k1 : v = 1
  · refine ⟨(a, x2, b, c), i3, h3, ev_succ ?_, s3, c3⟩
    simp only [spec_l19DrawDeed.j0, e1, Option.bind_some, if_neg k0, if_pos k1, e3]
    exact ev_now _
  by_cases k2 : v = 2
  · refine ⟨(a, n, x3, c), i4, h4, ev_succ ?_, hn, c4⟩
    simp only [spec_l19DrawDeed.j0, e1, Option.bind_some, if_neg k0, if_neg k1, if_pos k2, e4]
    exact ev_now _
  by_cases k3 : v = 3
  · refine ⟨(a, n, b, x4), i5, h5, ev_succ ?_, hn, c5⟩
    simp only [spec_l19DrawDeed.j0, e1, Option.bind_some, if_neg k0, if_neg k1, if_neg k2, if_pos k3, e5]
    exact ev_now _
  · refine ⟨(a, n, b, c), i1, h1, ev_succ ?_, hn, c1⟩
    simp only [spec_l19DrawDeed.j0, e1, Option.bind_some, if_neg k0, if_neg k1, if_neg k2, if_neg k3]
    exact ev_now _
theorem drawdeed_evn {l : List Int} {i : Int} (h : Int) (hc : Cur l i) : ∃ (x : Int × ByteArray × Int × Int) (i' h' : Int), Ev (fun k => spec_l19DrawDeed.f k l i h) (x.1, x.2.1, x.2.2.1, x.2.2.2, i', h') ∧ x.2.1.size ≤ 100 ∧ Cur l i' := by
  obtain ⟨a, i1, h1, e1, a0, a1, c1⟩ := draw_below h 5 hc (by omega) (by omega)
  obtain ⟨v, i2, h2, e2, hv, c2⟩ := draw_pick h1 c1 [(⟨#[101, 110, 103, 105, 110, 101]⟩ : ByteArray), (⟨#[102, 114, 97, 109, 101]⟩ : ByteArray), (⟨#[103, 101, 97, 114]⟩ : ByteArray), (⟨#[119, 105, 110, 103]⟩ : ByteArray), (⟨#[108, 97, 109, 112]⟩ : ByteArray), (⟨#[115, 101, 97, 116]⟩ : ByteArray)] (by decide) (by decide)
  obtain ⟨b, i3, h3, e3, b0, b1, c3⟩ := draw_below h2 12 c2 (by omega) (by omega)
  obtain ⟨c, i4, h4, e4, d0, d1, c4⟩ := draw_below h3 15 c3 (by omega) (by omega)
  obtain ⟨o, i5, h5, e5, c5⟩ := draw_once h4 3 c4 (by omega) (by omega)
  have sv : v.size ≤ 100 := by
    simp only [List.mem_cons, List.not_mem_nil, or_false] at hv
    rcases hv with rfl | rfl | rfl | rfl | rfl | rfl <;> decide
  simp only [spec_l19DrawDeed.f, e1, e2, e3, e4, e5, Option.bind_some]
  cases o with
  | true => simp only [if_true]; exact drawdeed_jn h5 c5 _ _ sv _ _
  | false => simp only [Bool.false_eq_true, if_false]; exact drawdeed_jn h5 c5 _ _ sv _ _
theorem drawdeeds_ln {l : List Int} (ts : List Tk) (cs : List Cr) (ds : List Df) (p q r : Int) (n : Nat) : ∀ (i h : Int) (xs : List S42), Cur l i → xs.length + n ≤ 100 → (∀ x ∈ xs, x.f1.size ≤ 100) → ∃ xs', Ev (fun k => spec_DrawFleet.l0 k xs (n : Int) l i h ts cs ds p q r) (ts, cs, ds, p, q, r, xs') ∧ xs'.length ≤ 100 ∧ ∀ x ∈ xs', x.f1.size ≤ 100 := by
  induction n with
  | zero =>
    intro i h xs hc hn hx
    refine ⟨xs, ev_succ ?_, by omega, hx⟩
    simp only [spec_DrawFleet.l0, if_neg (show ¬ (((0 : Nat) : Int) > 0) by omega)]
    exact ev_now _
  | succ n ih =>
    intro i h xs hc hn hx
    obtain ⟨x, i1, h1, e1, s1, c1⟩ := drawdeed_evn h hc
    have w3 : wrap64 (((n + 1 : Nat) : Int) - 1) = (n : Int) := by rw [w64 (by omega) (by omega)]; omega
    obtain ⟨xs', e, l', s'⟩ := ih i1 h1 (xs ++ [⟨x.1, x.2.1, x.2.2.1, x.2.2.2⟩]) c1 (by simp; omega) (fun y hy => by
      rcases List.mem_append.1 hy with hy | hy
      · exact hx y hy
      · obtain rfl := List.mem_singleton.1 hy; exact s1)
    refine ⟨xs', ev_succ ?_, l', s'⟩
    simp only [spec_DrawFleet.l0, if_pos (show ((n + 1 : Nat) : Int) > 0 by omega)]
    refine e1.bind ?_
    simp only [if_pos (show xs.length < 3518437208883 by omega), w3]
    exact e
theorem drawfleet_evn (l : List Int) (hl : l.length ≤ 1048576) : ∃ ts cs ds p q r xs, Ev (fun k => spec_DrawFleet.f k l) (ts, cs, ds, p, q, r, xs) ∧ TsOk ts tN ∧ CsOk cs cN ∧ (∃ m', DsOk r ds m') ∧ ds.length ≤ 3 ∧ (50 ≤ p ∧ p ≤ 149) ∧ (50 ≤ q ∧ q ≤ 149) ∧ (50 ≤ r ∧ r ≤ 149) ∧ xs.length ≤ 100 ∧ ∀ x ∈ xs, x.f1.size ≤ 100 := by
  obtain ⟨h0, e0⟩ := draw_new l hl
  obtain ⟨ts, cs, ds, p, q, r, i1, h1, e1, o1, o2, o3, o4, o5, o6, o7, c1⟩ := draw19_ev h0 (⟨hl, by omega, by omega⟩ : Cur l 0)
  obtain ⟨a, i2, h2, e2, a0, a1, c2⟩ := draw_below h1 25 c1 (by omega) (by omega)
  obtain ⟨xs, e3, l3, s3⟩ := drawdeeds_ln ts cs ds p q r a.toNat i2 h2 [] c2 (by simp; omega) (by simp)
  rw [show ((a.toNat : Nat) : Int) = a by omega] at e3
  refine ⟨ts, cs, ds, p, q, r, xs, ?_, o1, o2, o3, o4, o5, o6, o7, l3, s3⟩
  simp only [spec_DrawFleet.f]
  refine e0.bind ?_
  refine e1.bind ?_
  simp only [e2, Option.bind_some]
  exact e3
/-! A drawn fleet is in order. -/
theorem names_ok : ∀ n ∈ cN ++ tN, nameB n = true ∧ n.size ≤ 20 := by
  intro n hn
  simp only [List.mem_append, List.mem_cons, List.not_mem_nil, or_false] at hn
  rcases hn with (rfl | rfl | rfl | rfl) | rfl | rfl | rfl | rfl <;> exact ⟨by decide, by decide⟩
theorem dN_in {n : ByteArray} (h : n ∈ dN) : n ∈ cN := by
  simp only [List.mem_cons, List.not_mem_nil, or_false] at h ⊢
  rcases h with h | h | h | h | h <;> simp [h]
theorem pw_c : cN.Pairwise (fun a b => Op.bytesLess a.toList b.toList = true) := by simp [ByteArray.toList_eq]; decide
theorem pw_t : tN.Pairwise (fun a b => Op.bytesLess a.toList b.toList = true) := by simp [ByteArray.toList_eq]; decide
theorem ne_t : tN.Pairwise (fun a b => a.toList ≠ b.toList) := by simp [ByteArray.toList_eq]
theorem carryFrom_of {xs : List Cr} (h : ∀ i : Nat, i < xs.length → carryAt xs (i : Int) = true) (hl : xs.length ≤ 20) (d : Nat) : ∀ i, i + d = xs.length → carryFrom xs d i = true := by
  induction d with
  | zero => intro i _; simp only [carryFrom, decide_eq_true_eq]; omega
  | succ d ih => intro i hi; simp only [carryFrom, h i (by omega), ih (i + 1) (by omega), Bool.and_self]
theorem tasksFrom_of {β : Int → Int → Int → Bool} {xs : List Tk} (h : ∀ i : Nat, i < xs.length → taskAt β xs (i : Int) = true) (d : Nat) : ∀ i, i + d = xs.length → tasksFrom β xs d i = true := by
  induction d with
  | zero => intro i _; rfl
  | succ d ih => intro i hi; simp only [tasksFrom, h i (by omega), ih (i + 1) (by omega), Bool.and_self]
theorem defectsFrom_of {r : Int} {xs : List Df} (h : ∀ i : Nat, i < xs.length → defectAt r xs (i : Int) = true) (d : Nat) : ∀ i, i + d = xs.length → defectsFrom r xs d i = true := by
  induction d with
  | zero => intro i _; rfl
  | succ d ih => intro i hi; simp only [defectsFrom, h i (by omega), ih (i + 1) (by omega), Bool.and_self]
theorem in_of {a b c : Int} (h : b ≤ a ∧ a ≤ c) : inB a b c = true := inB_iff.2 h
theorem pred_ {i : Nat} (h : ¬ ¬ (i : Int) > 0) : ((i : Int) - 1) = ((i - 1 : Nat) : Int) := by omega
theorem carryB_of {cs : List Cr} (h : CsOk cs cN) : carryB cs = true := by
  have hl : cs.length ≤ 4 := by have := h.sub.length_le; simpa using this
  have hp := List.pairwise_map.1 (pw_c.sublist h.sub)
  refine carryFrom_of (fun i hi => ?_) (by omega) cs.length 0 (by omega)
  have hm : cs[i] ∈ cs := List.getElem_mem hi
  have hb := h.b _ hm
  have hn := (names_ok cs[i].f0 (List.mem_append_left _ (h.sub.subset (List.mem_map_of_mem hm)))).1
  simp only [carryAt, rd_at84 hi, hn, in_of (a := cs[i].f1) (b := 0) (c := 10) (by omega), in_of (a := cs[i].f2) (b := 0) (c := 120) (by omega), Bool.true_and]
  by_cases c : ¬ (i : Int) > 0
  · rw [decide_eq_true c, Bool.true_or]
  · have hi' : i - 1 < cs.length := by omega
    rw [pred_ c, rd_at84 hi', List.pairwise_iff_getElem.1 hp (i - 1) i hi' hi (by omega), Bool.or_true]
theorem fleet_of {ts : List Tk} {cs : List Cr} {ds : List Df} {p q r m : Int} (ht : TsOk ts tN) (hc : CsOk cs cN) (hd : DsOk r ds m) (hl : ds.length ≤ 3) (hp : 50 ≤ p ∧ p ≤ 149) (hq : 50 ≤ q ∧ q ≤ 149) (hr : 50 ≤ r ∧ r ≤ 149) : fleetB ts cs ds p q r = true ∧ fleetSzB ts cs ds = true := by
  have ht4 : ts.length ≤ 4 := by have := ht.sub.length_le; simpa using this
  have hc4 : cs.length ≤ 4 := by have := hc.sub.length_le; simpa using this
  have nt : ∀ t ∈ ts, nameB t.f0 = true ∧ t.f0.size ≤ 20 := fun t h => names_ok _ (List.mem_append_right _ (ht.sub.subset (List.mem_map_of_mem h)))
  have nc : ∀ t ∈ cs, nameB t.f0 = true ∧ t.f0.size ≤ 20 := fun t h => names_ok _ (List.mem_append_left _ (hc.sub.subset (List.mem_map_of_mem h)))
  have nd : ∀ t ∈ ds, nameB t.f0 = true ∧ t.f0.size ≤ 20 := fun t h => names_ok _ (List.mem_append_left _ (dN_in (hd.b t h).1))
  have htp := List.pairwise_map.1 (pw_t.sublist ht.sub)
  constructor
  · have e1 : clockB p q r = true := by unfold clockB; rw [in_of (by omega), in_of (by omega), in_of (by omega)]; rfl
    have e2 : tasksFrom (fun a b c => behindB a b c p q r) ts ts.length 0 = true := by
      refine tasksFrom_of (fun i hi => ?_) ts.length 0 (by omega)
      have hm : ts[i] ∈ ts := List.getElem_mem hi
      obtain ⟨b1, b2, b3, b4, b5, b6, b7⟩ := ht.b _ hm
      have k1 : taskB ts[i].f0 ts[i].f1 ts[i].f2 ts[i].f3 ts[i].f4.f0 ts[i].f4.f1 ts[i].f4.f2 = true := by
        unfold taskB clockB
        rw [(nt _ hm).1, in_of (a := ts[i].f1) (by omega), in_of (a := ts[i].f2) (by omega), in_of (a := ts[i].f3) (by omega), decide_eq_true b4, in_of (a := ts[i].f4.f0) (by omega), in_of (a := ts[i].f4.f1) (by omega), in_of (a := ts[i].f4.f2) (by omega)]
        rfl
      have k2 : behindB ts[i].f4.f0 ts[i].f4.f1 ts[i].f4.f2 p q r = true := by
        unfold behindB
        rw [decide_eq_true (show ts[i].f4.f0 ≤ p by omega), decide_eq_true (show ts[i].f4.f1 ≤ q by omega), decide_eq_true (show ts[i].f4.f2 ≤ r by omega)]
        rfl
      simp only [taskAt, rd_at44 hi, k1, k2, Bool.true_and]
      by_cases c : ¬ (i : Int) > 0
      · rw [decide_eq_true c, Bool.true_or]
      · have hi' : i - 1 < ts.length := by omega
        rw [pred_ c, rd_at44 hi', List.pairwise_iff_getElem.1 htp (i - 1) i hi' hi (by omega), Bool.or_true]
    have e3 : defectsFrom r ds ds.length 0 = true := by
      refine defectsFrom_of (fun i hi => ?_) ds.length 0 (by omega)
      have hm : ds[i] ∈ ds := List.getElem_mem hi
      have hb := hd.b _ hm
      have h0 := hd.m0
      simp only [defectAt, rd_at57 hi, (nd _ hm).1, in_of (a := ds[i].f1) (b := 1) (c := 1000000) (by omega), in_of (a := ds[i].f2) (b := 0) (c := r) (by omega), Bool.true_and, Bool.and_true]
      by_cases c : ¬ (i : Int) > 0
      · rw [decide_eq_true c, Bool.true_or]
      · have hi' : i - 1 < ds.length := by omega
        rw [pred_ c, rd_at57 hi', decide_eq_true (List.pairwise_iff_getElem.1 hd.s (i - 1) i hi' hi (by omega)), Bool.or_true]
    unfold fleetB
    rw [e1, carryB_of hc, decide_eq_true (show (ts.length : Int) ≤ 40 by omega), decide_eq_true (show (ds.length : Int) ≤ 20 by omega), e2, e3]
    rfl
  · exact fleetSz_of.2 ⟨fun x h => by have := (nt x h).2; omega, fun x h => by have := (nc x h).2; omega, fun x h => by have := (nd x h).2; omega, by omega, by omega, by omega⟩
/-! Runs of deeds. -/
abbrev Dd := S42
theorem rd_atD {l : List Dd} {i : Nat} (h : i < l.length) : rd_T42 l (i : Int) = l[i] := by simp [rd_T42, List.getD_eq_getElem?_getD, h]
def Good (ts : List Tk) (cs : List Cr) (ds : List Df) : Prop := fleetSzB ts cs ds = true ∧ fleetCopyB ts cs ds = true
theorem copy_iff {ts : List Tk} {cs : List Cr} {ds : List Df} : fleetCopyB ts cs ds = true ↔ ts.length < 2199023255552 ∧ cs.length < 4398046511104 ∧ ds.length < 4398046511104 := by
  unfold fleetCopyB; simp only [Bool.and_eq_true, decide_eq_true_eq]
theorem mem_set_of {α : Type} {l : List α} {k : Nat} {a x : α} (h : x ∈ l.set k a) : x = a ∨ x ∈ l := by
  rcases List.mem_or_eq_of_mem_set h with h | h
  · exact .inr h
  · exact .inl h
theorem doF_shape {ts : List Tk} {cs : List Cr} {ds : List Df} {p q r d0 : Int} {d1 : ByteArray} {d2 d3 : Int} {ts' : List Tk} {ds' : List Df} {p' q' r' : Int} (h : doF ts cs ds p q r d0 d1 d2 d3 = some (ts', ds', p', q', r')) :
    (ts' = ts ∨ (ts' = workT ts d1 p q r ∧ cutAt (cmpT d1) ts < ts.length)) ∧ (ds' = ds ∨ (∃ k, ds' = ds.take k ++ ⟨d1, d2, r⟩ :: ds.drop k ∧ ds.length < 20) ∨ ∃ k, ds' = ds.eraseIdx k) := by
  unfold doF at h
  by_cases e1 : d0 = 1
  · rw [if_pos e1] at h
    split at h
    · simp only [Option.some.injEq, Prod.mk.injEq] at h
      exact ⟨.inl h.1.symm, .inl h.2.1.symm⟩
    · cases h
  rw [if_neg e1] at h
  by_cases e2 : d0 = 2
  · rw [if_pos e2] at h
    split at h
    · rename_i hb
      simp only [Option.some.injEq, Prod.mk.injEq] at h
      obtain ⟨hm, _⟩ := bsHit_at hb
      exact ⟨.inr ⟨h.1.symm, hm⟩, .inl h.2.1.symm⟩
    · cases h
  rw [if_neg e2] at h
  by_cases e3 : d0 = 3
  · rw [if_pos e3] at h
    split at h
    · rename_i hb
      simp only [Option.some.injEq, Prod.mk.injEq] at h
      simp only [Bool.and_eq_true, decide_eq_true_eq] at hb
      exact ⟨.inl h.1.symm, .inr (.inl ⟨_, h.2.1.symm, hb.2.2.2⟩)⟩
    · cases h
  rw [if_neg e3] at h
  by_cases e4 : d0 = 4
  · rw [if_pos e4] at h
    split at h
    · simp only [Option.some.injEq, Prod.mk.injEq] at h
      exact ⟨.inl h.1.symm, .inr (.inr ⟨_, h.2.1.symm⟩)⟩
    · cases h
  rw [if_neg e4] at h
  split at h
  · split at h
    · simp only [Option.some.injEq, Prod.mk.injEq] at h
      exact ⟨.inl h.1.symm, .inl h.2.1.symm⟩
    · cases h
  · cases h
theorem doF_good {ts : List Tk} {cs : List Cr} {ds : List Df} {p q r d0 : Int} {d1 : ByteArray} {d2 d3 : Int} {ts' : List Tk} {ds' : List Df} {p' q' r' : Int} (hg : Good ts cs ds) (hs : d1.size ≤ 140737488355328) (h : doF ts cs ds p q r d0 d1 d2 d3 = some (ts', ds', p', q', r')) : Good ts' cs ds' := by
  obtain ⟨h1, h2⟩ := doF_shape h
  have z := fleetSz_of.1 hg.1
  have y := copy_iff.1 hg.2
  have T : (∀ x ∈ ts', x.f0.size ≤ 140737488355328) ∧ ts'.length = ts.length := by
    rcases h1 with rfl | ⟨rfl, hm⟩
    · exact ⟨z.t, rfl⟩
    · refine ⟨fun x hx => ?_, by unfold workT; rw [List.length_set]⟩
      rcases mem_set_of hx with rfl | hx
      · show (rd_T44 ts _).f0.size ≤ _
        rw [rd_at44 hm]
        exact z.t _ (List.getElem_mem hm)
      · exact z.t x hx
  have D : (∀ x ∈ ds', x.f0.size ≤ 140737488355328) ∧ ds'.length ≤ max ds.length 20 := by
    rcases h2 with rfl | ⟨k, rfl, hk⟩ | ⟨k, rfl⟩
    · exact ⟨z.d, Nat.le_max_left _ _⟩
    · refine ⟨fun x hx => ?_, ?_⟩
      · rcases List.mem_append.1 hx with hx | hx
        · exact z.d x (List.mem_of_mem_take hx)
        · rcases List.mem_cons.1 hx with rfl | hx
          · exact hs
          · exact z.d x (List.mem_of_mem_drop hx)
      · simp only [List.length_append, List.length_take, List.length_cons, List.length_drop]; omega
    · refine ⟨fun x hx => z.d x (List.mem_of_mem_eraseIdx hx), ?_⟩
      have := List.length_eraseIdx_le ds k
      omega
  exact ⟨fleetSz_of.2 ⟨T.1, z.c, D.1, by rw [T.2]; exact z.tn, z.cn, by have := z.dn; omega⟩, copy_iff.2 ⟨by omega, y.2.1, by omega⟩⟩
theorem workF_good {ts : List Tk} {cs : List Cr} {ds : List Df} {p q r d0 : Int} {d1 : ByteArray} {d2 d3 : Int} (hg : Good ts cs ds) (hs : d1.size ≤ 140737488355328) : (workF ts cs ds p q r d0 d1 d2 d3).2.1 = cs ∧ Good (workF ts cs ds p q r d0 d1 d2 d3).1 cs (workF ts cs ds p q r d0 d1 d2 d3).2.2.1 := by
  by_cases h : (workF ts cs ds p q r d0 d1 d2 d3).2.2.2.2.2.2 = true
  · obtain ⟨_, ts', ds', p', q', r', hD, _, hW⟩ := workF_true h
    rw [hW]
    exact ⟨rfl, doF_good hg hs hD⟩
  · rw [(workF_false h).1]
    exact ⟨rfl, hg⟩
def runF : List Dd → List Tk → List Cr → List Df → Int → Int → Int → List Bool → List Tk × List Cr × List Df × Int × Int × Int × List Bool
  | [], ts, cs, ds, p, q, r, told => (ts, cs, ds, p, q, r, told)
  | d :: l, ts, cs, ds, p, q, r, told => runF l (workF ts cs ds p q r d.f0 d.f1 d.f2 d.f3).1 (workF ts cs ds p q r d.f0 d.f1 d.f2 d.f3).2.1 (workF ts cs ds p q r d.f0 d.f1 d.f2 d.f3).2.2.1 (workF ts cs ds p q r d.f0 d.f1 d.f2 d.f3).2.2.2.1 (workF ts cs ds p q r d.f0 d.f1 d.f2 d.f3).2.2.2.2.1 (workF ts cs ds p q r d.f0 d.f1 d.f2 d.f3).2.2.2.2.2.1 (told ++ [(workF ts cs ds p q r d.f0 d.f1 d.f2 d.f3).2.2.2.2.2.2])
def runW (ts : List Tk) (cs : List Cr) (ds : List Df) (p q r : Int) (l : List Dd) : List Tk × List Cr × List Df × Int × Int × Int × List Bool := if (l.length : Int) > 100 then (ts, cs, ds, p, q, r, []) else runF l ts cs ds p q r []
theorem runF_told : ∀ (l : List Dd) (ts : List Tk) (cs : List Cr) (ds : List Df) (p q r : Int) (told : List Bool), (runF l ts cs ds p q r told).2.2.2.2.2.2.length = told.length + l.length
  | [], _, _, _, _, _, _, _ => rfl
  | d :: l, ts, cs, ds, p, q, r, told => by unfold runF; rw [runF_told l, List.length_append]; simp; omega
theorem impl_RunWork_l (list : List Dd) (hl : list.length ≤ 100) (hs : ∀ x ∈ list, x.f1.size ≤ 140737488355328) (d : Nat) : ∀ (i : Nat) (told : List Bool) (ts : List Tk) (cs : List Cr) (ds : List Df) (p q r : Int), i + d = list.length → told.length = i → Good ts cs ds → Ev (fun k => impl_RunWork.l0 k told list (list.length : Int) (i : Int) ts cs ds p q r) (runF (list.drop i) ts cs ds p q r told) := by
  induction d with
  | zero =>
    intro i told ts cs ds p q r h ht hg
    refine ev_succ ?_
    simp only [impl_RunWork.l0, if_neg (show ¬ ((i : Int) < (list.length : Int)) by omega)]
    rw [List.drop_eq_nil_of_le (by omega)]
    exact ev_now _
  | succ d ih =>
    intro i told ts cs ds p q r h ht hg
    have hlt : i < list.length := by omega
    have hz : (fleetSzB ts cs ds && (fleetCopyB ts cs ds && decide ((list[i]).f1.size ≤ 140737488355328))) = true := by
      rw [hg.1, hg.2, decide_eq_true (hs _ (List.getElem_mem hlt))]; rfl
    obtain ⟨hc, hG⟩ := workF_good (p := p) (q := q) (r := r) (d0 := (list[i]).f0) (d2 := (list[i]).f2) (d3 := (list[i]).f3) hg (hs _ (List.getElem_mem hlt))
    refine ev_succ ?_
    simp only [impl_RunWork.l0, if_pos (show ((i : Int) < (list.length : Int)) by omega), if_pos (show (0 : Int) ≤ (i : Int) by omega), rd_atD hlt, impl_DoWork.f, if_pos hz, Option.bind_some, if_pos (show told.length < 140737488355328 by omega), w64s i (by omega)]
    rw [List.drop_eq_getElem_cons hlt]
    unfold runF
    exact ih (i + 1) _ _ _ _ _ _ _ (by omega) (by rw [List.length_append, ht]; rfl) (hc.symm ▸ hG)
theorem impl_RunWork_ev (list : List Dd) (hs : ∀ x ∈ list, x.f1.size ≤ 140737488355328) (ts : List Tk) (cs : List Cr) (ds : List Df) (p q r : Int) (hg : Good ts cs ds) : Ev (fun k => impl_RunWork.f k ts cs ds p q r list) (runW ts cs ds p q r list) := by
  unfold runW
  by_cases h : (list.length : Int) > 100
  · simp only [impl_RunWork.f, clone_is ts cs ds p q r hg.2, Option.bind_some, if_pos h]
    exact ev_now _
  · simp only [impl_RunWork.f, clone_is ts cs ds p q r hg.2, Option.bind_some, if_neg h]
    exact impl_RunWork_l list (by omega) hs list.length 0 [] ts cs ds p q r (by omega) rfl hg
/-! What a deed does with a fleet that is in order. -/
theorem fleetB_of {ts : List Tk} {cs : List Cr} {ds : List Df} {p q r : Int} (h : FleetP ts cs ds p q r) : fleetB ts cs ds p q r = true := by
  have T := (from_iff (F := tasksFrom (fun a b c => behindB a b c p q r)) (at_ := taskAt (fun a b c => behindB a b c p q r)) (fun _ _ => rfl) (fun _ _ _ => rfl) ts ts.length 0).2 (fun j _ hj => (taskAt_iff _ _ j (by omega)).2 ⟨h.t _ (List.getElem_mem _), fun h0 => List.pairwise_iff_getElem.1 h.tsort (j - 1) j (by omega) (by omega) (by omega)⟩)
  have D := (from_iff (F := defectsFrom r) (at_ := defectAt r) (fun _ _ => rfl) (fun _ _ _ => rfl) ds ds.length 0).2 (fun j _ hj => (defectAt_iff _ _ j (by omega)).2 ⟨h.d _ (List.getElem_mem _), fun h0 => List.pairwise_iff_getElem.1 h.dsort (j - 1) j (by omega) (by omega) (by omega)⟩)
  unfold fleetB
  rw [h.now, h.carry, decide_eq_true (show (ts.length : Int) ≤ 40 by have := h.tn; omega), decide_eq_true (show (ds.length : Int) ≤ 20 by have := h.dn; omega), T, D]
  rfl
theorem behind_more {a b c p q r p' q' r' : Int} (h : behindB a b c p q r = true) (hp : p ≤ p') (hq : q ≤ q') (hr : r ≤ r') : behindB a b c p' q' r' = true := by
  unfold behindB at h ⊢
  simp only [Bool.and_eq_true, decide_eq_true_eq] at h ⊢
  omega
theorem in_more {a r r' : Int} (h : inB a 0 r = true) (hr : r ≤ r') : inB a 0 r' = true := by rw [inB_iff] at h ⊢; omega
theorem do_fleet {ts : List Tk} {cs : List Cr} {ds : List Df} {p q r d0 : Int} {d1 : ByteArray} {d2 d3 : Int} {ts' : List Tk} {ds' : List Df} {p' q' r' : Int} (h : FleetP ts cs ds p q r) (hd : doF ts cs ds p q r d0 d1 d2 d3 = some (ts', ds', p', q', r')) (hc : clockB p' q' r' = true) : FleetP ts' cs ds' p' q' r' := by
  unfold doF at hd
  by_cases e1 : d0 = 1
  · rw [if_pos e1] at hd
    split at hd
    · rename_i hb
      simp only [Bool.and_eq_true, inB_iff] at hb
      simp only [Option.some.injEq, Prod.mk.injEq] at hd
      obtain ⟨rfl, rfl, rfl, rfl, rfl⟩ := hd
      exact ⟨hc, h.carry, h.tn, h.dn, fun t ht => ⟨(h.t t ht).1, behind_more (h.t t ht).2 (by omega) (by omega) (by omega)⟩, h.tsort, h.d, h.dsort⟩
    · cases hd
  rw [if_neg e1] at hd
  by_cases e2 : d0 = 2
  · rw [if_pos e2] at hd
    split at hd
    · rename_i hb
      simp only [Option.some.injEq, Prod.mk.injEq] at hd
      obtain ⟨rfl, rfl, rfl, rfl, rfl⟩ := hd
      obtain ⟨hm, _⟩ := bsHit_at hb
      have hk := h.t _ (List.getElem_mem hm)
      refine ⟨hc, h.carry, by unfold workT; rw [List.length_set]; exact h.tn, h.dn, fun t ht => ?_, ?_, h.d, h.dsort⟩
      · rcases mem_set_of ht with rfl | ht
        · simp only [rd_at44 hm]
          have hi := taskB_in hk.1
          refine ⟨?_, ?_⟩
          · have := hk.1
            unfold taskB at this ⊢
            simp only [Bool.and_eq_true] at this ⊢
            exact ⟨this.1, this.2.1, this.2.2.1, this.2.2.2.1, this.2.2.2.2.1, hc⟩
          · unfold behindB; simp
        · exact h.t t ht
      · have e : (workT ts d1 p q r).map (·.f0) = ts.map (·.f0) := by
          unfold workT
          rw [List.map_set]
          apply List.ext_getElem (by simp)
          intro n hn1 hn2
          rw [List.getElem_set]
          split
          · rename_i hkn; subst hkn; simp [rd_at44 hm]
          · rfl
        have := (List.pairwise_map (f := fun t : Tk => t.f0) (R := fun a b => Op.bytesLess a.toList b.toList = true)).2 h.tsort
        rw [← e] at this
        exact List.pairwise_map.1 this
    · cases hd
  rw [if_neg e2] at hd
  by_cases e3 : d0 = 3
  · rw [if_pos e3] at hd
    split at hd
    · rename_i hb
      simp only [Option.some.injEq, Prod.mk.injEq] at hd
      obtain ⟨rfl, rfl, rfl, rfl, rfl⟩ := hd
      simp only [Bool.and_eq_true, Bool.not_eq_true', decide_eq_true_eq] at hb
      obtain ⟨hn, h1, h2, h3⟩ := hb
      have hr0 := (clockB_in hc).2.2
      refine ⟨hc, h.carry, h.tn, by simp only [List.length_append, List.length_take, List.length_cons, List.length_drop]; omega, h.t, h.tsort, fun d hd => ?_, ?_⟩
      · rcases List.mem_append.1 hd with hd | hd
        · exact h.d d (List.mem_of_mem_take hd)
        · rcases List.mem_cons.1 hd with rfl | hd
          · exact ⟨h1, h2, inB_iff.2 ⟨hr0.1, Int.le_refl _⟩⟩
          · exact h.d d (List.mem_of_mem_drop hd)
      · have hlo : ∀ a ∈ ds.take (cutAt (cmpD d2) ds), a.f1 < d2 := fun a ha => by
          obtain ⟨j, hj, rfl⟩ := List.getElem_of_mem ha
          rw [List.getElem_take]
          rw [List.length_take] at hj
          exact (cmpI_lt _ _).1 (cutAt_below (cmpD d2) ds j (by omega) (by omega))
        have hhi : ∀ b ∈ ds.drop (cutAt (cmpD d2) ds), d2 < b.f1 := fun b hb => by
          have hne := strike_none (defects_part h d2) h.dsort hn b (List.mem_of_mem_drop hb)
          obtain ⟨j, hj, rfl⟩ := List.getElem_of_mem hb
          rw [List.getElem_drop] at hne ⊢
          rw [List.length_drop] at hj
          have := cutAt_above (cmpD d2) ds (defects_part h d2) (cutAt (cmpD d2) ds + j) (by omega) (by omega)
          have : ¬ (ds[cutAt (cmpD d2) ds + j]).f1 < d2 := fun x => this ((cmpI_lt _ _).2 x)
          omega
        refine List.pairwise_append.2 ⟨h.dsort.sublist (List.take_sublist _ _), List.pairwise_cons.2 ⟨fun b hb => hhi b hb, h.dsort.sublist (List.drop_sublist _ _)⟩, fun a ha b hb => ?_⟩
        rcases List.mem_cons.1 hb with rfl | hb
        · exact hlo a ha
        · exact Int.lt_trans (hlo a ha) (hhi b hb)
    · cases hd
  rw [if_neg e3] at hd
  by_cases e4 : d0 = 4
  · rw [if_pos e4] at hd
    split at hd
    · simp only [Option.some.injEq, Prod.mk.injEq] at hd
      obtain ⟨rfl, rfl, rfl, rfl, rfl⟩ := hd
      have := List.length_eraseIdx_le ds (cutAt (cmpD d2) ds)
      exact ⟨hc, h.carry, h.tn, by have := h.dn; omega, h.t, h.tsort, fun d hd => h.d d (List.mem_of_mem_eraseIdx hd), h.dsort.sublist (List.eraseIdx_sublist _ _)⟩
    · cases hd
  rw [if_neg e4] at hd
  split at hd
  · split at hd
    · rename_i hb
      rw [inB_iff] at hb
      simp only [Option.some.injEq, Prod.mk.injEq] at hd
      obtain ⟨rfl, rfl, rfl, rfl, rfl⟩ := hd
      exact ⟨hc, h.carry, h.tn, h.dn, fun t ht => ⟨(h.t t ht).1, behind_more (h.t t ht).2 (by omega) (by omega) (by omega)⟩, h.tsort, fun d hd => ⟨(h.d d hd).1, (h.d d hd).2.1, in_more (h.d d hd).2.2 (by omega)⟩, h.dsort⟩
    · cases hd
  · cases hd
theorem work_fleet {ts : List Tk} {cs : List Cr} {ds : List Df} {p q r d0 : Int} {d1 : ByteArray} {d2 d3 : Int} (h : fleetB ts cs ds p q r = true) : fleetB (workF ts cs ds p q r d0 d1 d2 d3).1 (workF ts cs ds p q r d0 d1 d2 d3).2.1 (workF ts cs ds p q r d0 d1 d2 d3).2.2.1 (workF ts cs ds p q r d0 d1 d2 d3).2.2.2.1 (workF ts cs ds p q r d0 d1 d2 d3).2.2.2.2.1 (workF ts cs ds p q r d0 d1 d2 d3).2.2.2.2.2.1 = true := by
  by_cases hw : (workF ts cs ds p q r d0 d1 d2 d3).2.2.2.2.2.2 = true
  · obtain ⟨_, ts', ds', p', q', r', hD, hc, hW⟩ := workF_true hw
    rw [hW]
    exact fleetB_of (do_fleet (fleetP_of h) hD hc)
  · rw [(workF_false hw).1]
    exact h
theorem work_fly2 {ts : List Tk} {cs : List Cr} {ds : List Df} {p q r d0 : Int} {d1 : ByteArray} {d2 d3 : Int} {ts' : List Tk} {ds' : List Df} {p' q' r' : Int} (hd : doF ts cs ds p q r d0 d1 d2 d3 = some (ts', ds', p', q', r')) : (d0 = 1 → p' = p + d3 ∧ 1 ≤ d3 ∧ d3 ≤ 100 ∧ q' = q + 1 ∧ (releaseF ts cs ds p q r).1 = 0) ∧ (d0 ≠ 1 → q' = q) := by
  refine ⟨fun e1 => ?_, fun e1 => ?_⟩
  · unfold doF at hd
    rw [if_pos e1] at hd
    split at hd
    · rename_i hb
      simp only [Bool.and_eq_true, decide_eq_true_eq, inB_iff] at hb
      simp only [Option.some.injEq, Prod.mk.injEq] at hd
      obtain ⟨rfl, rfl, rfl, rfl, rfl⟩ := hd
      exact ⟨rfl, hb.2.1, hb.2.2, rfl, hb.1⟩
    · cases hd
  · unfold doF at hd
    rw [if_neg e1] at hd
    repeat' split at hd
    all_goals first | (simp only [Option.some.injEq, Prod.mk.injEq] at hd; exact hd.2.2.2.1.symm) | cases hd
theorem less_irrefl : ∀ a : List UInt8, Op.bytesLess a a = false
  | [] => rfl
  | x :: l => by unfold Op.bytesLess; simp [less_irrefl l, UInt8.lt_irrefl]
/-- A task just done: where it is, that it alone has the name, and that it is not due. -/
theorem work_task {ts : List Tk} {cs : List Cr} {ds : List Df} {p q r : Int} {d1 : ByteArray} {d2 d3 : Int} {ts' : List Tk} {ds' : List Df} {p' q' r' : Int} (h : FleetP ts cs ds p q r) (hd : doF ts cs ds p q r 2 d1 d2 d3 = some (ts', ds', p', q', r')) (hc : clockB p' q' r' = true) :
    ∃ m, ∃ hm : m < ts'.length, (∀ j, ∀ hj : j < ts'.length, (ts'[j]).f0.toList = d1.toList ↔ j = m) ∧ (due19 (ts'[m]).f0 (ts'[m]).f1 (ts'[m]).f2 (ts'[m]).f3 (ts'[m]).f4.f0 (ts'[m]).f4.f1 (ts'[m]).f4.f2 p' q' r').1 = false ∧ (due19 (ts'[m]).f0 (ts'[m]).f1 (ts'[m]).f2 (ts'[m]).f3 (ts'[m]).f4.f0 (ts'[m]).f4.f1 (ts'[m]).f4.f2 p' q' r').2.2.2.2 = true ∧ taskB (ts'[m]).f0 (ts'[m]).f1 (ts'[m]).f2 (ts'[m]).f3 (ts'[m]).f4.f0 (ts'[m]).f4.f1 (ts'[m]).f4.f2 = true := by
  have hF := do_fleet h hd hc
  unfold doF at hd
  rw [if_neg (by decide), if_pos rfl] at hd
  split at hd
  · rename_i hb
    simp only [Option.some.injEq, Prod.mk.injEq] at hd
    obtain ⟨rfl, rfl, rfl, rfl, rfl⟩ := hd
    obtain ⟨hm, hz⟩ := bsHit_at hb
    have hl : (workT ts d1 p q r).length = ts.length := by unfold workT; rw [List.length_set]
    have hm' : cutAt (cmpT d1) ts < (workT ts d1 p q r).length := by rw [hl]; exact hm
    have hk : (workT ts d1 p q r)[cutAt (cmpT d1) ts] = ⟨(ts[cutAt (cmpT d1) ts]).f0, (ts[cutAt (cmpT d1) ts]).f1, (ts[cutAt (cmpT d1) ts]).f2, (ts[cutAt (cmpT d1) ts]).f3, ⟨p, q, r⟩⟩ := by
      simp only [workT, List.getElem_set_self, rd_at44 hm]
    have hn : ((workT ts d1 p q r)[cutAt (cmpT d1) ts]).f0.toList = d1.toList := by rw [hk]; exact (cmpT_zero _ _).1 hz
    have ht := (hF.t _ (List.getElem_mem hm')).1
    have hbh := (hF.t _ (List.getElem_mem hm')).2
    refine ⟨_, hm', fun j hj => ⟨fun e => ?_, fun e => by subst e; exact hn⟩, ?_, ?_, ht⟩
    · rcases Nat.lt_trichotomy j (cutAt (cmpT d1) ts) with x | x | x
      · have := List.pairwise_iff_getElem.1 hF.tsort j _ hj hm' x
        rw [e, hn] at this
        exact absurd this (by rw [less_irrefl]; decide)
      · exact x
      · have := List.pairwise_iff_getElem.1 hF.tsort _ j hm' hj x
        rw [e, hn] at this
        exact absurd this (by rw [less_irrefl]; decide)
    · unfold due19
      rw [if_pos (by rw [ht, hc, hbh]; rfl)]
      rw [hk] at ht ⊢
      have := taskB_in ht
      simp only [dueB, Int.sub_self]
      simp only [Bool.or_eq_false_iff, Bool.and_eq_false_iff, decide_eq_false_iff_not]
      omega
    · unfold due19
      rw [if_pos (by rw [ht, hc, hbh]; rfl)]
  · cases hd
/-! ### laws.FnReleased (by hand) -/
structure Flt (W : World) (b g : Nat) (A0 : Option Addr) (c0 : Nat) (l0 : List S44) (A1 : Option Addr) (c1 : Nat) (l1 : List S84) (A2 : Option Addr) (c2 : Nat) (l2 : List S57) (p q r : Int) : Prop where
  g : W.heap[g]? = some (.cells #[.slice A0 l0.length c0, .slice A1 l1.length c1, .slice A2 l2.length c2, .int .i64 p, .int .i64 q, .int .i64 r] 30 (0, 0))
  r0 : Kd.R k44 44 W b (fun _ => True) (.slice A0 l0.length c0) l0
  r1 : Kd.R k84 84 W b (fun _ => True) (.slice A1 l1.length c1) l1
  r2 : Kd.R k57 57 W b (fun _ => True) (.slice A2 l2.length c2) l2
theorem Flt.up {W W' : World} {b g : Nat} {A0 : Option Addr} {c0 : Nat} {l0 : List S44} {A1 : Option Addr} {c1 : Nat} {l1 : List S84} {A2 : Option Addr} {c2 : Nat} {l2 : List S57} {p q r : Int} (h : Flt W b g A0 c0 l0 A1 c1 l1 A2 c2 l2 p q r) (hb : Below W.heap.size W W') : Flt W' b g A0 c0 l0 A1 c1 l1 A2 c2 l2 p q r := ⟨blk_below h.g hb, Kd.R_below h.r0 hb, Kd.R_below h.r1 hb, Kd.R_below h.r2 hb⟩
theorem R_cap {α : Type} {d : Kd α} {e base n c : Nat} {ok : Nat → Prop} {w : World} {A : Option Addr} {xs : List α} (h : d.R e w base ok (.slice A n c) xs) : xs.length ≤ c ∧ n = xs.length ∧ d.C w A xs.length xs := by
  obtain ⟨A', c', he, hl, hr⟩ := Kd.R_reads h
  injection he with h1 h2 h3
  subst h1; subst h2; subst h3
  exact ⟨hl, rfl, hr⟩
section
variable {W : World} {b g : Nat} {A0 : Option Addr} {c0 : Nat} {l0 : List S44} {A1 : Option Addr} {c1 : Nat} {l1 : List S84} {A2 : Option Addr} {c2 : Nat} {l2 : List S57} {p q r : Int}
theorem Flt.fleetOk (h : Flt W b g A0 c0 l0 A1 c1 l1 A2 c2 l2 p q r) (hz : FleetSz l0 l1 l2) {x : Bool} (hx : fleetB l0 l1 l2 p q r = x) : Calls Try.prog 8 #[.agg #[.slice A0 l0.length c0, .slice A1 l1.length c1, .slice A2 l2.length c2, .int .i64 p, .int .i64 q, .int .i64 r]] W fun e w' => e = .returned (.bool x) ∧ Below W.heap.size W w' :=
  kb_ (impl_FleetOk.go A0 c0 l0 A1 c1 l1 A2 c2 l2 p q r W (R_cap h.r0).2.2 (R_cap h.r0).1 (R_cap h.r1).2.2 (R_cap h.r1).1 (R_cap h.r2).2.2 (R_cap h.r2).1 hz) hx
theorem Flt.release (h : Flt W b g A0 c0 l0 A1 c1 l1 A2 c2 l2 p q r) (hz : FleetSz l0 l1 l2) (hx : fleetB l0 l1 l2 p q r = true) : Calls Try.prog 11 #[.agg #[.slice A0 l0.length c0, .slice A1 l1.length c1, .slice A2 l2.length c2, .int .i64 p, .int .i64 q, .int .i64 r]] W fun e w' => e = .returned (.tuple #[.int .i64 (releaseF l0 l1 l2 p q r).1, .string (releaseF l0 l1 l2 p q r).2]) ∧ Below W.heap.size W w' := by
  have h := impl_Release.go A0 c0 l0 A1 c1 l1 A2 c2 l2 p q r W (R_cap h.r0).2.2 (R_cap h.r0).1 (R_cap h.r1).2.2 (R_cap h.r1).1 (R_cap h.r2).2.2 (R_cap h.r2).1 hz
  unfold releaseB at h
  rwa [if_pos hx] at h
theorem Flt.work (h : Flt W b g A0 c0 l0 A1 c1 l1 A2 c2 l2 p q r) (hz : Good l0 l1 l2) (d0 : Int) (d1 : ByteArray) (d2 d3 : Int) (hd : d1.size ≤ 140737488355328) :
    Calls Try.prog 12 #[.agg #[.slice A0 l0.length c0, .slice A1 l1.length c1, .slice A2 l2.length c2, .int .i64 p, .int .i64 q, .int .i64 r], .agg #[.int .i64 d0, .string d1, .int .i64 d2, .int .i64 d3]] W fun e w' =>
      ∃ v0 v1 v2 : Value, e = .returned (.tuple #[.agg #[v0, v1, v2, .int .i64 (workF l0 l1 l2 p q r d0 d1 d2 d3).2.2.2.1, .int .i64 (workF l0 l1 l2 p q r d0 d1 d2 d3).2.2.2.2.1, .int .i64 (workF l0 l1 l2 p q r d0 d1 d2 d3).2.2.2.2.2.1], .bool (workF l0 l1 l2 p q r d0 d1 d2 d3).2.2.2.2.2.2]) ∧
        Kd.R k44 44 w' W.heap.size (fun _ => True) v0 (workF l0 l1 l2 p q r d0 d1 d2 d3).1 ∧ Kd.R k84 84 w' W.heap.size (fun _ => True) v1 (workF l0 l1 l2 p q r d0 d1 d2 d3).2.1 ∧ Kd.R k57 57 w' W.heap.size (fun _ => True) v2 (workF l0 l1 l2 p q r d0 d1 d2 d3).2.2.1 ∧ Below W.heap.size W w' :=
  dowork_t A0 c0 l0 A1 c1 l1 A2 c2 l2 p q r d0 d1 d2 d3 W (R_cap h.r0).2.2 (R_cap h.r0).1 (R_cap h.r1).2.2 (R_cap h.r1).1 (R_cap h.r2).2.2 (R_cap h.r2).1 (fleetSz_of.1 hz.1) hz.2 hd
end
theorem runF_cons (d : Dd) (l : List Dd) (ts : List Tk) (cs : List Cr) (ds : List Df) (p q r : Int) (told : List Bool) : runF (d :: l) ts cs ds p q r told = runF l (workF ts cs ds p q r d.f0 d.f1 d.f2 d.f3).1 (workF ts cs ds p q r d.f0 d.f1 d.f2 d.f3).2.1 (workF ts cs ds p q r d.f0 d.f1 d.f2 d.f3).2.2.1 (workF ts cs ds p q r d.f0 d.f1 d.f2 d.f3).2.2.2.1 (workF ts cs ds p q r d.f0 d.f1 d.f2 d.f3).2.2.2.2.1 (workF ts cs ds p q r d.f0 d.f1 d.f2 d.f3).2.2.2.2.2.1 (told ++ [(workF ts cs ds p q r d.f0 d.f1 d.f2 d.f3).2.2.2.2.2.2]) := rfl
/-- What the loop carries: the drawn fleet (at g), the one that is flown (at gn), the deeds; behind i deeds. -/
def RelI (w : World) (g gn : Nat) (B0 : Option Addr) (b0 : Nat) (ts : List S44) (B1 : Option Addr) (b1 : Nat) (cs : List S84) (B2 : Option Addr) (b2 : Nat) (ds : List S57) (p q r : Int) (B3 : Option Addr) (b3 : Nat) (xs : List S42) (i : Nat) (W : World) : Prop :=
  ∃ (N0 : Option Addr) (n0 : Nat) (ts1 : List S44) (N1 : Option Addr) (n1 : Nat) (cs1 : List S84) (N2 : Option Addr) (n2 : Nat) (ds1 : List S57) (p1 q1 r1 : Int) (told : List Bool),
    Flt W w.heap.size gn N0 n0 ts1 N1 n1 cs1 N2 n2 ds1 p1 q1 r1 ∧ Flt W w.heap.size g B0 b0 ts B1 b1 cs B2 b2 ds p q r ∧ Kd.R k42 42 W w.heap.size (fun _ => True) (.slice B3 xs.length b3) xs ∧ Below w.heap.size w W ∧ fleetB ts1 cs1 ds1 p1 q1 r1 = true ∧ Good ts1 cs1 ds1 ∧ runF xs ts cs ds p q r [] = runF (xs.drop i) ts1 cs1 ds1 p1 q1 r1 told
theorem sts_ {P : Program} {ops : Array Oper} {o : Oper} {a : Act} {W : World} {K : Act → World → Prop} {Q : Exit → Act → World → Prop} (ty : TypeId) (p : Tmp) (y : Operand) (g off : Nat) (cells old new : Array Value) (t : TypeId) (hw : Region.wanted o (yielded ops a.tmps) = true) (ho : o.op = .store ty (.tmp p) y) (hd : o.dst = none)
  (hx : a.eval (.tmp p) = .pointer (some ⟨g, off, none⟩)) (hy : a.eval y = .agg cells) (hg : W.heap[g]? = some (.cells old t (0, 0))) (hi : (P.info? ty).map (·.size) = some cells.size) (hn : off + cells.size ≤ old.size) (h1 : cells.all (·.oneCell') = true) (hnew : pcs old off cells.toList = new)
  (h : ∀ w1, w1.heap[g]? = some (.cells new t (0, 0)) → W.grownBy w1 (some g) → K a w1) : if Region.wanted o (yielded ops a.tmps) = true then Oper.wp P o a W K Q else K (a.put none undef) W := by
 rw [if_pos hw]
 refine wp_store_mid ty (.tmp p) y ho g off cells hx hy (fun j hj => ⟨?_, blk_frozen hg _⟩) hi h1 ?_
 · rw [blk_cell hg]; simp; omega
 rw [hd]
 show K a _
 exact h _ (by have := blk_pcs cells.toList off hg; rwa [hnew] at this) (grown_pcs _ _ _ _)
set_option maxHeartbeats 16000000 in
set_option maxRecDepth 100000 in
theorem released_t (A : Option Addr) (c : Nat) (l : List Int) (w : World) (hr0 : Kd.C (Kd.int .u8) w A l.length l) (hc0 : l.length ≤ c) :
    Calls Try.prog 3 #[.slice A l.length c] w fun e w' => e = .returned (.bool true) ∧ Below w.heap.size w w' := by
  have hu1 := Try.underlying30
  have hu2 := Try.underlying42
  have hu3 := Try.underlying28
  have hu4 := Try.underlying44
  have hu5 := Try.underlying31
  have hu6 := Try.underlying24
  have HC := Aside0.mk hr0
  by_cases hl : (l.length : Int) > 1048576
  · have KB := Aside0.mk (laws_big.calls A c l true w hr0 hc0 (by unfold laws_big.f; rw [decide_eq_true hl]))
    clear hr0 hl
    go_enter Try.func3, Try.ntmps3
    go_wp2_with (first | (go_at_call 6; (with_reducible refine KB.out.mono ?_); rintro e w1 ⟨rfl, hb⟩))
    go_ret
    exact ⟨rfl, hb.below⟩
  · have KB := Aside0.mk (laws_big.calls A c l false w hr0 hc0 (by unfold laws_big.f; rw [decide_eq_false hl]))
    obtain ⟨ts, cs, ds, p, q, r, xs, e0, o1, o2, ⟨m, o3⟩, o4, o5, o6, o7, o8, o9⟩ := drawfleet_evn l (by omega)
    obtain ⟨hF, hz⟩ := fleet_of o1 o2 o3 o4 o5 o6 o7
    have ht4 : ts.length ≤ 4 := by have := o1.sub.length_le; simpa using this
    have hc4 : cs.length ≤ 4 := by have := o2.sub.length_le; simpa using this
    have HGD := Aside0.mk (show Good ts cs ds from ⟨hz, copy_iff.2 ⟨by omega, by omega, by omega⟩⟩)
    have HFL := Aside0.mk hF
    have HXS := Aside0.mk (show ∀ x ∈ xs, x.f1.size ≤ 140737488355328 from fun x h => by have := o9 x h; omega)
    obtain ⟨k, hk⟩ := e0.rounds
    have KD := Aside0.mk (fun w' (h : Below w.heap.size w w') => spec_DrawFleet.calls k A c l ts cs ds p q r xs w' (Kd.C_below hr0 h) hc0 hk)
    clear hr0 hl hk e0 o1 o2 o3 o4 o5 o6 o7 o9 hz hF ht4 hc4 m
    go_enter Try.func3, Try.ntmps3
    go_upto_region 4 with (first | (go_at_call 6; (with_reducible refine KB.out.mono ?_); rintro e w1 ⟨rfl, hb1⟩) | (go_at_call 7; (with_reducible refine (KD.out _ hb1.below).mono ?_); rintro e w2 ⟨v0, v1, v2, v3, rfl, hR0, hR1, hR2, hR3, hb2⟩; obtain ⟨B0, b0, rfl⟩ := Kd.R_slice hR0; obtain ⟨B1, b1, rfl⟩ := Kd.R_slice hR1; obtain ⟨B2, b2, rfl⟩ := Kd.R_slice hR2; obtain ⟨B3, b3, rfl⟩ := Kd.R_slice hR3))
    have nw := below_alloc (Below.refl w2.heap.size w2) (.cells #[.slice B0 ts.length b0, .slice B1 cs.length b1, .slice B2 ds.length b2, .int .i64 p, .int .i64 q, .int .i64 r] 30 (0, 0))
    have HF := Aside0.mk (And.intro (Flt.mk (blk_new w2 _) (Kd.R_lower (Kd.R_below hR0 nw) (below_size hb1.below)) (Kd.R_lower (Kd.R_below hR1 nw) (below_size hb1.below)) (Kd.R_lower (Kd.R_below hR2 nw) (below_size hb1.below))) (And.intro (Kd.R_lower (Kd.R_below hR3 nw) (below_size hb1.below)) (And.intro (below_step (below_step hb1.below hb2) nw) (below_size (below_step hb1.below hb2)))))
    clear nw hR0 hR1 hR2 hR3 hb1 hb2 KB KD
    generalize w2.heap.size = g at HF ⊢
    refine world_ (fun W => Flt W w.heap.size g B0 b0 ts B1 b1 cs B2 b2 ds p q r ∧ Kd.R k42 42 W w.heap.size (fun _ => True) (.slice B3 xs.length b3) xs ∧ Below w.heap.size w W ∧ w.heap.size ≤ g) HF.out ?_
    clear HF
    rintro W ⟨HF, HX, HB, hg⟩
    replace HF := Aside0.mk HF
    replace HX := Aside0.mk HX
    replace HB := Aside0.mk HB
    have KO := Aside0.mk (HF.out.fleetOk (fleetSz_of.1 HGD.out.1) HFL.out)
    have KK := Aside0.mk (fun w' => kb_ (clock_t p q r w') (fleetP_of HFL.out).now)
    have KY := Aside0.mk (fun w' (h : Below W.heap.size W w') => kb_ (impl_CarryOk.go B1 b1 cs w' (Kd.C_below (R_cap HF.out.r1).2.2 h) (R_cap HF.out.r1).1 (fleetSz_of.1 HGD.out.1).cn (fleetSz_of.1 HGD.out.1).c) (fleetP_of HFL.out).carry)
    obtain ⟨f0, f1, f2, f3, f4, f5⟩ := ck6 HF.out.g
    go_upto_region 7 with (first | (go_at_call 8; (with_reducible refine KO.out.mono ?_); rintro e w5 ⟨rfl, hb5⟩; clear f0 f1 f2 f3 f4 f5; obtain ⟨f0, f1, f2, f3, f4, f5⟩ := ck6 (HF.out.up hb5).g) | (go_at_call 9; (with_reducible refine (KK.out _).mono ?_); rintro e w6 ⟨rfl, hb6⟩; clear f0 f1 f2 f3 f4 f5; obtain ⟨f0, f1, f2, f3, f4, f5⟩ := ck6 (HF.out.up (below_step hb5 hb6)).g) | (go_at_call 10; (with_reducible refine (KY.out _ (below_step hb5 hb6)).mono ?_); rintro e w7 ⟨rfl, hb7⟩; clear f0 f1 f2 f3 f4 f5; obtain ⟨f0, f1, f2, f3, f4, f5⟩ := ck6 (HF.out.up (below_step (below_step hb5 hb6) hb7)).g))
    clear f0 f1 f2 f3 f4 f5
    have h7 := below_step (below_step hb5 hb6) hb7
    have nw := below_alloc (Below.refl w7.heap.size w7) (.cells #[.slice B0 ts.length b0, .slice B1 cs.length b1, .slice B2 ds.length b2, .int .i64 p, .int .i64 q, .int .i64 r] 30 (0, 0))
    have HI := Aside0.mk (show RelI w g w7.heap.size B0 b0 ts B1 b1 cs B2 b2 ds p q r B3 b3 xs 0 (w7.alloc (.cells #[.slice B0 ts.length b0, .slice B1 cs.length b1, .slice B2 ds.length b2, .int .i64 p, .int .i64 q, .int .i64 r] 30 (0, 0))) ∧ g < w7.heap.size from ⟨⟨B0, b0, ts, B1, b1, cs, B2, b2, ds, p, q, r, [], ⟨blk_new w7 _, Kd.R_below (HF.out.up h7).r0 nw, Kd.R_below (HF.out.up h7).r1 nw, Kd.R_below (HF.out.up h7).r2 nw⟩, (HF.out.up h7).up nw, Kd.R_below (Kd.R_below HX.out h7) nw, below_step (below_step HB.out h7) nw, HFL.out, HGD.out, rfl⟩, blk_lt (HF.out.up h7).g⟩)
    clear nw h7 hb5 hb6 hb7 HF HX HB KO KK KY
    generalize w7.heap.size = gn at HI ⊢
    refine world_ (fun W => RelI w g gn B0 b0 ts B1 b1 cs B2 b2 ds p q r B3 b3 xs 0 W ∧ g < gn) HI.out ?_
    clear HI
    rintro W0 ⟨HI, hgn⟩
    replace HI := Aside0.mk HI
    go_wp2
    go_loopw [6] (fun v6 wr => ∃ i : Nat, i ≤ xs.length ∧ v6 = .int .i64 i ∧ Aside0 (RelI w g gn B0 b0 ts B1 b1 cs B2 b2 ds p q r B3 b3 xs i wr)) (fun v6 _ => xs.length - (intOf v6).toNat)
    case atStart => exact ⟨0, Nat.zero_le _, rfl, HI⟩
    case round =>
      clear HI
      obtain ⟨i, hi, rfl, HI⟩ := hrel
      obtain ⟨N0, n0, ts1, N1, n1, cs1, N2, n2, ds1, p1, q1, r1, told, hN, hF, hX, hB, hfl, hgd, hrun⟩ := HI.out
      have HN := Aside0.mk hN
      have HF := Aside0.mk hF
      have HX := Aside0.mk hX
      have HB := Aside0.mk hB
      have HFL1 := Aside0.mk hfl
      have HGD1 := Aside0.mk hgd
      have HRUN := Aside0.mk hrun
      clear hN hF hX hB hfl hgd hrun HI
      by_cases hlt : i < xs.length
      · have hdz := HXS.out _ (List.getElem_mem hlt)
        rw [← rd_atD hlt] at hdz
        obtain ⟨ad, e0, hx0, hx1, hx2, hx3⟩ := at_T42 (R_cap HX.out).2.2 (i : Int) (by omega) (by omega)
        cases e0
        have hcap := (R_cap HX.out).1
        simp only [Int.toNat_natCast] at hx0 hx1 hx2 hx3
        obtain ⟨⟨d0, d1, d2, d3⟩, hX⟩ : ∃ X, rd_T42 xs (i : Int) = X := ⟨_, rfl⟩
        have HDR := Aside0.mk (show xs.drop i = ⟨d0, d1, d2, d3⟩ :: xs.drop (i + 1) by rw [List.drop_eq_getElem_cons hlt, ← rd_atD hlt, hX])
        rw [hX] at hx0 hx1 hx2 hx3 hdz
        clear hX
        dsimp only at hx0 hx1 hx2 hx3 hdz
        have HXC := Aside0.mk (And.intro hx0 (And.intro hx1 (And.intro hx2 hx3)))
        clear hx0 hx1 hx2 hx3
        obtain ⟨x, hx⟩ : ∃ x, releaseF ts1 cs1 ds1 p1 q1 r1 = x := ⟨_, rfl⟩
        have KR := Aside0.mk (HN.out.release (fleetSz_of.1 HGD1.out.1) HFL1.out)
        rw [hx] at KR
        obtain ⟨⟨ts2, cs2, ds2, p2, q2, r2, ok⟩, hO⟩ : ∃ o, workF ts1 cs1 ds1 p1 q1 r1 d0 d1 d2 d3 = o := ⟨_, rfl⟩
        have KW := Aside0.mk (fun w' (h : Below wr.heap.size wr w') => (HN.out.up h).work HGD1.out d0 d1 d2 d3 hdz)
        simp only [hO] at KW
        have HFL2 := Aside0.mk (show fleetB ts2 cs2 ds2 p2 q2 r2 = true by have := work_fleet (d0 := d0) (d1 := d1) (d2 := d2) (d3 := d3) HFL1.out; rw [hO] at this; exact this)
        have HGD2 := Aside0.mk (show Good ts2 cs2 ds2 by have := workF_good (p := p1) (q := q1) (r := r1) (d0 := d0) (d2 := d2) (d3 := d3) HGD1.out hdz; rw [hO] at this; obtain ⟨h1, h2⟩ := this; dsimp only at h1 h2; rw [h1]; exact h2)
        have HO := Aside0.mk hO
        have HREL := Aside0.mk hx
        clear hO hx
        obtain ⟨f0, f1, f2, f3, f4, f5⟩ := ck6 HN.out.g
        go_upto_region 11 with (first | (go_at_call 11; (with_reducible refine KR.out.mono ?_); rintro e w5 ⟨rfl, hb5⟩))
        clear f0 f1 f2 f3 f4 f5
        refine world_ (fun W => Below wr.heap.size wr W) hb5 ?_
        clear hb5 KR
        rintro W hW
        have HW := Aside0.mk hW
        clear hW
        have L := Aside0.mk (fun w' (h : Up W w') => (⟨ck (HN.out.up (below_step HW.out h)).g 0 rfl, ck (HN.out.up (below_step HW.out h)).g 1 rfl, ck (HN.out.up (below_step HW.out h)).g 2 rfl, ck (HN.out.up (below_step HW.out h)).g 3 rfl, ck (HN.out.up (below_step HW.out h)).g 4 rfl, ck (HN.out.up (below_step HW.out h)).g 5 rfl, bc (below_step HW.out h) HXC.out.1, bc (below_step HW.out h) HXC.out.2.1, bc (below_step HW.out h) HXC.out.2.2.1, bc (below_step HW.out h) HXC.out.2.2.2⟩ : w'.cell? ⟨gn, 0, none⟩ = some (.slice N0 ts1.length n0) ∧ w'.cell? ⟨gn, 1, none⟩ = some (.slice N1 cs1.length n1) ∧ w'.cell? ⟨gn, 2, none⟩ = some (.slice N2 ds1.length n2) ∧ w'.cell? ⟨gn, 3, none⟩ = some (.int .i64 p1) ∧ w'.cell? ⟨gn, 4, none⟩ = some (.int .i64 q1) ∧ w'.cell? ⟨gn, 5, none⟩ = some (.int .i64 r1) ∧ w'.cell? (ad.add (i * 4)) = some (.int .i64 d0) ∧ w'.cell? ⟨(ad.add (i * 4)).block, (ad.add (i * 4)).off + 1, none⟩ = some (.string d1) ∧ w'.cell? ⟨(ad.add (i * 4)).block, (ad.add (i * 4)).off + 2, none⟩ = some (.int .i64 d2) ∧ w'.cell? ⟨(ad.add (i * 4)).block, (ad.add (i * 4)).off + 3, none⟩ = some (.int .i64 d3)))
        refine start_ (n := 12) (S := Up W) (ds := []) (Sq.M 0 12) (by kernel_rfl) rfl rfl (below_drew (Below.refl _ _)) (fun hS => ?_)
        generalize W.drew = W1 at hS ⊢
        refine rt_ L.out hS 0 53 (Sq.M 1 12) ?_
        refine ra_ 1 54 (Sq.M 2 12) ?_
        refine ra_ 2 55 (Sq.M 3 12) ?_
        refine ra_ 3 56 (Sq.M 4 12) ?_
        refine rt_ L.out hS 4 57 (Sq.M 5 12) ?_
        refine join_ (σ := Nat × (Option Addr × Nat) × (Option Addr × Nat) × (Option Addr × Nat)) 2 (Sq.M 10 12) (fun s => [(58, .tuple #[.agg #[.slice s.2.1.1 ts2.length s.2.1.2, .slice s.2.2.1.1 cs2.length s.2.2.1.2, .slice s.2.2.2.1 ds2.length s.2.2.2.2, .int .i64 p2, .int .i64 q2, .int .i64 r2], .bool ok]), (52, .tuple #[.agg #[.slice s.2.1.1 ts2.length s.2.1.2, .slice s.2.2.1.1 cs2.length s.2.2.1.2, .slice s.2.2.2.1 ds2.length s.2.2.2.2, .int .i64 p2, .int .i64 q2, .int .i64 r2], .bool ok]), (59, .agg #[.slice s.2.1.1 ts2.length s.2.1.2, .slice s.2.2.1.1 cs2.length s.2.2.1.2, .slice s.2.2.2.1 ds2.length s.2.2.2.2, .int .i64 p2, .int .i64 q2, .int .i64 r2]), (60, .bool ok), (9, .pointer (some ⟨s.1, 0, none⟩))]) (fun s w' => Up W w' ∧ w'.heap[s.1]? = some (.cells #[.slice none 0 0, .slice none 0 0, .slice none 0 0, .int .i64 0, .int .i64 0, .int .i64 0] 30 (0, 0)) ∧ W.heap.size ≤ s.1 ∧ Kd.R k44 44 w' W.heap.size (fun _ => True) (.slice s.2.1.1 ts2.length s.2.1.2) ts2 ∧ Kd.R k84 84 w' W.heap.size (fun _ => True) (.slice s.2.2.1.1 cs2.length s.2.2.1.2) cs2 ∧ Kd.R k57 57 w' W.heap.size (fun _ => True) (.slice s.2.2.2.1 ds2.length s.2.2.2.2) ds2) ?_ ?_
        rotate_left
        · intro hCont
          refine two_ (i := 5) (j := 9) (Ni := some 58) (Nj := some 9) (Sq.M 6 12) #[true, true, true, true, true, false, false, false, false, true, false, false] rfl rfl rfl rfl (by kernel_rfl) (by decide) (by decide) (fun K hK => ?_) (fun K hK => ?_)
          · refine goes_ Try.func12 rfl rfl #[.agg #[.slice N0 ts1.length n0, .slice N1 cs1.length n1, .slice N2 ds1.length n2, .int .i64 p1, .int .i64 q1, .int .i64 r1], .agg #[.int .i64 d0, .string d1, .int .i64 d2, .int .i64 d3]] (by rfl) rfl rfl (by (try simp only [am_]); first | done | rfl) ?_
            (with_reducible refine (KW.out _ (below_step HW.out hS)).mono ?_)
            rintro e w5 ⟨v0, v1, v2, rfl, hR0, hR1, hR2, hb⟩
            obtain ⟨M0, m0, rfl⟩ := Kd.R_slice hR0
            obtain ⟨M1, m1, rfl⟩ := Kd.R_slice hR1
            obtain ⟨M2, m2, rfl⟩ := Kd.R_slice hR2
            refine ⟨_, rfl, ?_⟩
            refine hK.out _ _ (below_step hS hb) (fun hS2 => ?_)
            clear hK K
            refine norm_ (a' := ?_) ?_ ?_
            rotate_left
            · (show Act.put _ (some 58) _ = _; simp only [sp_]; rfl)
            refine ra_ 6 52 (Sq.M 7 12) ?_
            refine ra_ 7 59 (Sq.M 8 12) ?_
            refine ra_ 8 60 (Sq.M 9 12) ?_
            refine one_ (i := 9) (N := some 9) (Sq.M 10 12) rfl rfl (by kernel_rfl) (by decide) (fun K hK => ?_)
            refine box_step ?hg (N := 9) ?hd (cs := #[.slice none 0 0, .slice none 0 0, .slice none 0 0, .int .i64 0, .int .i64 0, .int .i64 0]) (t := 30) ?hr ?_; (case hd => rfl); (case hg => rfl); (case hr => first | (go_simp; done) | (go_simp; rfl))
            intro gb hg w6 hbox hb6
            refine hK.out _ _ (below_step hS2 hb6) (fun hS3 => ?_)
            clear hK K
            refine norm_ (a' := ?_) ?_ ?_
            rotate_left
            · (show Act.put _ (some 9) _ = _; simp only [sp_]; rfl)
            exact norm_ (by simp only [putAll, sp_]) (hCont (gb, (M0, m0), (M1, m1), (M2, m2)) _ ⟨hS3, hbox, by rw [hg]; exact hS2.size, Kd.R_lower (Kd.R_below hR0 hb6) hS.size, Kd.R_lower (Kd.R_below hR1 hb6) hS.size, Kd.R_lower (Kd.R_below hR2 hb6) hS.size⟩)
          · refine box_step ?hg (N := 9) ?hd (cs := #[.slice none 0 0, .slice none 0 0, .slice none 0 0, .int .i64 0, .int .i64 0, .int .i64 0]) (t := 30) ?hr ?_; (case hd => rfl); (case hg => rfl); (case hr => first | (go_simp; done) | (go_simp; rfl))
            intro gb hg w6 hbox hb6
            refine hK.out _ _ (below_step hS hb6) (fun hS2 => ?_)
            clear hK K
            refine norm_ (a' := ?_) ?_ ?_
            rotate_left
            · (show Act.put _ (some 9) _ = _; simp only [sp_]; rfl)
            refine one_ (i := 5) (N := some 58) #[true, true, true, true, true, true, false, false, false, true, false, false] rfl rfl (by kernel_rfl) (by decide) (fun K hK => ?_)
            refine goes_ Try.func12 rfl rfl #[.agg #[.slice N0 ts1.length n0, .slice N1 cs1.length n1, .slice N2 ds1.length n2, .int .i64 p1, .int .i64 q1, .int .i64 r1], .agg #[.int .i64 d0, .string d1, .int .i64 d2, .int .i64 d3]] (by rfl) rfl rfl (by (try simp only [am_]); first | done | rfl) ?_
            (with_reducible refine (KW.out _ (below_step HW.out hS2)).mono ?_)
            rintro e w5 ⟨v0, v1, v2, rfl, hR0, hR1, hR2, hb⟩
            obtain ⟨M0, m0, rfl⟩ := Kd.R_slice hR0
            obtain ⟨M1, m1, rfl⟩ := Kd.R_slice hR1
            obtain ⟨M2, m2, rfl⟩ := Kd.R_slice hR2
            refine ⟨_, rfl, ?_⟩
            refine hK.out _ _ (below_step hS2 hb) (fun hS3 => ?_)
            clear hK K
            refine norm_ (a' := ?_) ?_ ?_
            rotate_left
            · (show Act.put _ (some 58) _ = _; simp only [sp_]; rfl)
            refine ra_ 6 52 #[true, true, true, true, true, true, true, false, false, true, false, false] ?_
            refine ra_ 7 59 #[true, true, true, true, true, true, true, true, false, true, false, false] ?_
            refine ra_ 8 60 (Sq.M 10 12) ?_
            exact norm_ (by simp only [putAll, sp_]) (hCont (gb, (M0, m0), (M1, m1), (M2, m2)) _ ⟨hS3, blk_below hbox hb, by rw [hg]; exact hS.size, Kd.R_lower hR0 hS2.size, Kd.R_lower hR1 hS2.size, Kd.R_lower hR2 hS2.size⟩)
        rintro ⟨gx, ⟨M0, m0⟩, ⟨M1, m1⟩, ⟨M2, m2⟩⟩ w7 ⟨hS4, hbx, hgx, hR0, hR1, hR2⟩
        dsimp only at hbx hgx hR0 hR1 hR2
        refine norm_ (a' := ?_) ?_ ?_
        rotate_left
        · (simp only [putAll, sp_]; rfl)
        refine one_ (i := 10) (N := none) (Sq.M 11 12) rfl rfl (by kernel_rfl) (by decide) (fun K hK => ?_)
        refine sts_ 30 9 (.tmp 59) gx 0 #[.slice M0 ts2.length m0, .slice M1 cs2.length m1, .slice M2 ds2.length m2, .int .i64 p2, .int .i64 q2, .int .i64 r2] #[.slice none 0 0, .slice none 0 0, .slice none 0 0, .int .i64 0, .int .i64 0, .int .i64 0] #[.slice M0 ts2.length m0, .slice M1 cs2.length m1, .slice M2 ds2.length m2, .int .i64 p2, .int .i64 q2, .int .i64 r2] 30 (by rfl) rfl rfl rfl rfl hbx (by kernel_rfl) (Nat.le_of_ble_eq_true rfl) (by kernel_rfl) (by kernel_rfl) ?_
        intro w8 hbx8 hg8
        have hS8 := b_put hS4 hg8 hgx
        refine hK.out _ _ hS8 (fun hS9 => ?_)
        clear hK K hS9
        refine ra_ 11 10 (Sq.M 12 12) ?_
        refine done_ (by kernel_rfl) ?_
        have HQ := Aside0.mk (show Flt w8 w.heap.size gx M0 m0 ts2 M1 m1 cs2 M2 m2 ds2 p2 q2 r2 ∧ Below wr.heap.size wr w8 ∧ wr.heap.size ≤ gx from ⟨⟨hbx8, Kd.R_lower (r_put hR0 hbx (by decide) hg8) (below_size (below_step HB.out HW.out)), Kd.R_lower (r_put hR1 hbx (by decide) hg8) (below_size (below_step HB.out HW.out)), Kd.R_lower (r_put hR2 hbx (by decide) hg8) (below_size (below_step HB.out HW.out))⟩, below_step HW.out hS8, Nat.le_trans HW.out.size hgx⟩)
        clear hS8 hbx8 hg8 hbx hR0 hR1 hR2 hS4 hgx hS L HW KW
        have KO2 := Aside0.mk (HQ.out.1.fleetOk (fleetSz_of.1 HGD2.out.1) HFL2.out)
        obtain ⟨g0, g1, g2, g3, g4, g5⟩ := ck6 HQ.out.1.g
        obtain ⟨h0, h1, h2, h3, h4, h5⟩ := ck6 (HN.out.up HQ.out.2.1).g
        obtain ⟨x0, x1⟩ := x
        have hge : gn < gx := by have := blk_lt HN.out.g; have := HQ.out.2.2; omega
        have hcl := clockB_in (fleetP_of HFL1.out).now
        cases ok with
        | false =>
          have e := (workF_false (ts := ts1) (cs := cs1) (ds := ds1) (p := p1) (q := q1) (r := r1) (d0 := d0) (d1 := d1) (d2 := d2) (d3 := d3) (by rw [HO.out]; simp)).1.symm.trans HO.out
          simp only [Prod.mk.injEq, and_true] at e
          obtain ⟨rfl, rfl, rfl, rfl, rfl, rfl⟩ := e
          go_upto_region 24 with (first | (go_at_call 8; (with_reducible refine KO2.out.mono ?_); rintro e w9 ⟨rfl, hb9⟩; clear g0 g1 g2 g3 g4 g5 h0 h1 h2 h3 h4 h5; obtain ⟨g0, g1, g2, g3, g4, g5⟩ := ck6 (HQ.out.1.up hb9).g; obtain ⟨h0, h1, h2, h3, h4, h5⟩ := ck6 (HN.out.up (below_step HQ.out.2.1 hb9)).g; have hx0 := bc (below_step HQ.out.2.1 hb9) HXC.out.1))
          clear g0 g1 g2 g3 g4 g5 h0 h1 h2 h3 h4 h5 hx0
          refine world_ (fun W => Below w8.heap.size w8 W) hb9 ?_
          clear hb9 KO2
          rintro Wt hz
          have HZ := Aside0.mk hz
          clear hz
          have L2 := Aside0.mk (fun w' (h : Up Wt w') => (⟨ck (HQ.out.1.up (below_step HZ.out h)).g 3 rfl, ck (HN.out.up (below_step HQ.out.2.1 (below_step HZ.out h))).g 3 rfl, bc (below_step HQ.out.2.1 (below_step HZ.out h)) HXC.out.1, bc (below_step HQ.out.2.1 (below_step HZ.out h)) HXC.out.2.2.2⟩ : w'.cell? ⟨gx, 3, none⟩ = some (.int .i64 (p1)) ∧ w'.cell? ⟨gn, 3, none⟩ = some (.int .i64 p1) ∧ w'.cell? (ad.add (i * 4)) = some (.int .i64 (d0)) ∧ w'.cell? ⟨(ad.add (i * 4)).block, (ad.add (i * 4)).off + 3, none⟩ = some (.int .i64 d3)))
          refine rg_ (by kernel_rfl) (by kernel_rfl) ?_
          (repeat (first | refine qn_ ?_ | refine ql_ L2.out ?_))
          refine qd_ ?_
          intro w10 hb10
          have HZ2 := Aside0.mk (below_step HZ.out hb10)
          clear L2 hb10 HZ Wt
          obtain ⟨g0, g1, g2, g3, g4, g5⟩ := ck6 (HQ.out.1.up HZ2.out).g
          have BN := (HN.out.up (below_step HQ.out.2.1 HZ2.out)).g
          go_wp2_with (first | ((with_reducible refine gate_store (t := 30) (p := 5) rfl ?_); refine stm_ 30 5 (.tmp 176) gn 0 #[.slice M0 ts1.length m0, .slice M1 cs1.length m1, .slice M2 ds1.length m2, .int .i64 p1, .int .i64 q1, .int .i64 r1] #[.slice N0 ts1.length n0, .slice N1 cs1.length n1, .slice N2 ds1.length n2, .int .i64 p1, .int .i64 q1, .int .i64 r1] #[.slice M0 ts1.length m0, .slice M1 cs1.length m1, .slice M2 ds1.length m2, .int .i64 p1, .int .i64 q1, .int .i64 r1] 30 ?e1 ?e2 ?e3 ?e4 ?e5 ?e6 ?e7 ?e8 ?e9 ?e10 ?_; (case e1 => rfl); (case e2 => rfl); (case e3 => rfl); (case e4 => rfl); (case e5 => rfl); (case e6 => exact BN); (case e7 => kernel_rfl); (case e8 => exact Nat.le_of_ble_eq_true rfl); (case e9 => kernel_rfl); (case e10 => kernel_rfl); intro w6 hn6 hg6))
          go_roundw
          case rel => exact ⟨i + 1, by omega, by go_num, ⟨M0, m0, ts1, M1, m1, cs1, M2, m2, ds1, p1, q1, r1, told ++ [false], ⟨hn6, r_put (HQ.out.1.up HZ2.out).r0 BN (by decide) hg6, r_put (HQ.out.1.up HZ2.out).r1 BN (by decide) hg6, r_put (HQ.out.1.up HZ2.out).r2 BN (by decide) hg6⟩, ⟨blk_grown (HF.out.up (below_step HQ.out.2.1 HZ2.out)).g hg6 (fun e => by injection e; omega), r_put (HF.out.up (below_step HQ.out.2.1 HZ2.out)).r0 BN (by decide) hg6, r_put (HF.out.up (below_step HQ.out.2.1 HZ2.out)).r1 BN (by decide) hg6, r_put (HF.out.up (below_step HQ.out.2.1 HZ2.out)).r2 BN (by decide) hg6⟩, r_put (Kd.R_below HX.out (below_step HQ.out.2.1 HZ2.out)) BN (by decide) hg6, b_put (below_step HB.out (below_step HQ.out.2.1 HZ2.out)) hg6 (by omega), HFL2.out, HGD2.out, by rw [HRUN.out, HDR.out, runF_cons]; simp only [HO.out]⟩⟩
          case measure => simp [intOf]; omega
        | true =>
          have e := HO.out
          obtain ⟨_, ts', ds', p', q', r', hD, hc, hW⟩ := workF_true (ts := ts1) (cs := cs1) (ds := ds1) (p := p1) (q := q1) (r := r1) (d0 := d0) (d1 := d1) (d2 := d2) (d3 := d3) (by rw [HO.out])
          rw [hW] at e
          simp only [Prod.mk.injEq, and_true] at e
          obtain ⟨e1, -, e3, e4, e5, e6⟩ := e
          rw [e1, e3, e4, e5, e6] at hD
          rw [e4, e5, e6] at hc
          clear e1 e3 e4 e5 e6 hW
          obtain ⟨hf1, hf2⟩ := work_fly2 hD
          by_cases k1 : d0 = 1
          · obtain ⟨hp, hd1, hd2, hq, hr⟩ := hf1 k1
            subst k1
            subst hp
            subst hq
            obtain rfl : x0 = 0 := by have := HREL.out; rw [this] at hr; exact hr
            have hwr : IntKind.i64.wrap (p1 + d3) = p1 + d3 := IntWalk.i64_in _ (by omega)
            have hqn : (q1 + 1 == q1) = false := beq_eq_false_iff_ne.mpr (by omega)
            clear hf2 hf1 hD hc hr
            go_upto_region 24 with (first | (go_at_call 8; (with_reducible refine KO2.out.mono ?_); rintro e w9 ⟨rfl, hb9⟩; clear g0 g1 g2 g3 g4 g5 h0 h1 h2 h3 h4 h5; obtain ⟨g0, g1, g2, g3, g4, g5⟩ := ck6 (HQ.out.1.up hb9).g; obtain ⟨h0, h1, h2, h3, h4, h5⟩ := ck6 (HN.out.up (below_step HQ.out.2.1 hb9)).g; have hx0 := bc (below_step HQ.out.2.1 hb9) HXC.out.1))
            clear g0 g1 g2 g3 g4 g5 h0 h1 h2 h3 h4 h5 hx0
            refine world_ (fun W => Below w8.heap.size w8 W) hb9 ?_
            clear hb9 KO2
            rintro Wt hz
            have HZ := Aside0.mk hz
            clear hz
            have L2 := Aside0.mk (fun w' (h : Up Wt w') => (⟨ck (HQ.out.1.up (below_step HZ.out h)).g 3 rfl, ck (HN.out.up (below_step HQ.out.2.1 (below_step HZ.out h))).g 3 rfl, bc (below_step HQ.out.2.1 (below_step HZ.out h)) HXC.out.1, bc (below_step HQ.out.2.1 (below_step HZ.out h)) HXC.out.2.2.2⟩ : w'.cell? ⟨gx, 3, none⟩ = some (.int .i64 (p1 + d3)) ∧ w'.cell? ⟨gn, 3, none⟩ = some (.int .i64 p1) ∧ w'.cell? (ad.add (i * 4)) = some (.int .i64 (1)) ∧ w'.cell? ⟨(ad.add (i * 4)).block, (ad.add (i * 4)).off + 3, none⟩ = some (.int .i64 d3)))
            refine rg_ (by kernel_rfl) (by kernel_rfl) ?_
            (repeat (first | refine qn_ ?_ | refine ql_ L2.out ?_))
            refine qd_ ?_
            intro w10 hb10
            have HZ2 := Aside0.mk (below_step HZ.out hb10)
            clear L2 hb10 HZ Wt
            obtain ⟨g0, g1, g2, g3, g4, g5⟩ := ck6 (HQ.out.1.up HZ2.out).g
            have BN := (HN.out.up (below_step HQ.out.2.1 HZ2.out)).g
            go_wp2_with (first | ((with_reducible refine gate_store (t := 30) (p := 5) rfl ?_); refine stm_ 30 5 (.tmp 176) gn 0 #[.slice M0 ts2.length m0, .slice M1 cs2.length m1, .slice M2 ds2.length m2, .int .i64 (p1 + d3), .int .i64 (q1 + 1), .int .i64 r2] #[.slice N0 ts1.length n0, .slice N1 cs1.length n1, .slice N2 ds1.length n2, .int .i64 p1, .int .i64 q1, .int .i64 r1] #[.slice M0 ts2.length m0, .slice M1 cs2.length m1, .slice M2 ds2.length m2, .int .i64 (p1 + d3), .int .i64 (q1 + 1), .int .i64 r2] 30 ?e1 ?e2 ?e3 ?e4 ?e5 ?e6 ?e7 ?e8 ?e9 ?e10 ?_; (case e1 => rfl); (case e2 => rfl); (case e3 => rfl); (case e4 => rfl); (case e5 => rfl); (case e6 => exact BN); (case e7 => kernel_rfl); (case e8 => exact Nat.le_of_ble_eq_true rfl); (case e9 => kernel_rfl); (case e10 => kernel_rfl); intro w6 hn6 hg6))
            go_roundw
            case rel => exact ⟨i + 1, by omega, by go_num, ⟨M0, m0, ts2, M1, m1, cs2, M2, m2, ds2, p1 + d3, q1 + 1, r2, told ++ [true], ⟨hn6, r_put (HQ.out.1.up HZ2.out).r0 BN (by decide) hg6, r_put (HQ.out.1.up HZ2.out).r1 BN (by decide) hg6, r_put (HQ.out.1.up HZ2.out).r2 BN (by decide) hg6⟩, ⟨blk_grown (HF.out.up (below_step HQ.out.2.1 HZ2.out)).g hg6 (fun e => by injection e; omega), r_put (HF.out.up (below_step HQ.out.2.1 HZ2.out)).r0 BN (by decide) hg6, r_put (HF.out.up (below_step HQ.out.2.1 HZ2.out)).r1 BN (by decide) hg6, r_put (HF.out.up (below_step HQ.out.2.1 HZ2.out)).r2 BN (by decide) hg6⟩, r_put (Kd.R_below HX.out (below_step HQ.out.2.1 HZ2.out)) BN (by decide) hg6, b_put (below_step HB.out (below_step HQ.out.2.1 HZ2.out)) hg6 (by omega), HFL2.out, HGD2.out, by rw [HRUN.out, HDR.out, runF_cons]; simp only [HO.out]⟩⟩
            case measure => simp [intOf]; omega
          by_cases k2 : d0 = 2
          · subst k2
            obtain rfl := hf2 k1
            obtain ⟨m, hm, hnm, hdue, hfine, htask⟩ := work_task (fleetP_of HFL1.out) hD hc
            have ht40 := (fleetP_of HFL2.out).tn
            have HNM := Aside0.mk hnm
            have HTK := Aside0.mk (And.intro hdue (And.intro hfine htask))
            have HSZ := Aside0.mk (fleetSz_of.1 HGD2.out.1).t
            clear hnm hdue hfine htask hf1 hf2 hD hc k1
            go_upto_region 15 with (first | (go_at_call 8; (with_reducible refine KO2.out.mono ?_); rintro e w9 ⟨rfl, hb9⟩; clear g0 g1 g2 g3 g4 g5 h0 h1 h2 h3 h4 h5; obtain ⟨g0, g1, g2, g3, g4, g5⟩ := ck6 (HQ.out.1.up hb9).g; obtain ⟨h0, h1, h2, h3, h4, h5⟩ := ck6 (HN.out.up (below_step HQ.out.2.1 hb9)).g; have hx0 := bc (below_step HQ.out.2.1 hb9) HXC.out.1))
            clear g0 g1 g2 g3 g4 g5 h0 h1 h2 h3 h4 h5 hx0
            refine world_ (fun W => Below w8.heap.size w8 W) hb9 ?_
            clear hb9 KO2
            rintro Wt hz
            have HZ := Aside0.mk hz
            clear hz
            go_wp2
            go_loopw [11, 12] (fun v11 v12 ws => ∃ j : Nat, j ≤ ts2.length ∧ v12 = .int .i64 j ∧ v11 = .bool (decide (m < j)) ∧ Aside0 (Below w8.heap.size w8 ws)) (fun _ v12 _ => ts2.length - (intOf v12).toNat)
            case atStart => exact ⟨0, Nat.zero_le _, rfl, by simp, HZ⟩
            case round =>
              clear HZ
              obtain ⟨j, hj, rfl, rfl, HZ⟩ := hrel
              by_cases hjt : j < ts2.length
              · obtain ⟨at_, e0, y0, y1, y2, y3, y4, y5, y6⟩ := at_T44 (R_cap (HQ.out.1.up HZ.out).r0).2.2 (j : Int) (by omega) (by omega)
                cases e0
                have hcap2 := (R_cap HQ.out.1.r0).1
                simp only [Int.toNat_natCast] at y0 y1 y2 y3 y4 y5 y6
                obtain ⟨⟨t0, t1, t2, t3, ⟨t4, t5, t6⟩⟩, hY⟩ : ∃ X, rd_T44 ts2 (j : Int) = X := ⟨_, rfl⟩
                rw [hY] at y0 y1 y2 y3 y4 y5 y6
                dsimp only at y0 y1 y2 y3 y4 y5 y6
                have HY := Aside0.mk (show ts2[j] = ⟨t0, t1, t2, t3, ⟨t4, t5, t6⟩⟩ by rw [← rd_at44 hjt, hY])
                clear hY
                have HYC := Aside0.mk (And.intro y0 (And.intro y1 (And.intro y2 (And.intro y3 (And.intro y4 (And.intro y5 y6))))))
                clear y0 y1 y2 y3 y4 y5 y6
                obtain ⟨g0, g1, g2, g3, g4, g5⟩ := ck6 (HQ.out.1.up HZ.out).g
                go_upto_region 19 with (fail)
                clear g0 g1 g2 g3 g4 g5
                have L3 := Aside0.mk (fun w' (h : Up wr w') => (⟨ck (HQ.out.1.up (below_step HZ.out h)).g 0 rfl, bc h HYC.out.1, bc h HYC.out.2.1, bc h HYC.out.2.2.1, bc h HYC.out.2.2.2.1, bc h HYC.out.2.2.2.2.1, bc h HYC.out.2.2.2.2.2.1, bc h HYC.out.2.2.2.2.2.2, bc (below_step HQ.out.2.1 (below_step HZ.out h)) HXC.out.2.1, ck (HQ.out.1.up (below_step HZ.out h)).g 3 rfl, ck (HQ.out.1.up (below_step HZ.out h)).g 4 rfl, ck (HQ.out.1.up (below_step HZ.out h)).g 5 rfl⟩ : w'.cell? ⟨gx, 0, none⟩ = some (.slice (some at_) ts2.length m0) ∧ w'.cell? (at_.add (j * 7)) = some (.string t0) ∧ w'.cell? ⟨(at_.add (j * 7)).block, (at_.add (j * 7)).off + 1, none⟩ = some (.int .i64 t1) ∧ w'.cell? ⟨(at_.add (j * 7)).block, (at_.add (j * 7)).off + 2, none⟩ = some (.int .i64 t2) ∧ w'.cell? ⟨(at_.add (j * 7)).block, (at_.add (j * 7)).off + 3, none⟩ = some (.int .i64 t3) ∧ w'.cell? ⟨(at_.add (j * 7)).block, (at_.add (j * 7)).off + 4, none⟩ = some (.int .i64 t4) ∧ w'.cell? ⟨(at_.add (j * 7)).block, (at_.add (j * 7)).off + 5, none⟩ = some (.int .i64 t5) ∧ w'.cell? ⟨(at_.add (j * 7)).block, (at_.add (j * 7)).off + 6, none⟩ = some (.int .i64 t6) ∧ w'.cell? ⟨(ad.add (i * 4)).block, (ad.add (i * 4)).off + 1, none⟩ = some (.string d1) ∧ w'.cell? ⟨gx, 3, none⟩ = some (.int .i64 p2) ∧ w'.cell? ⟨gx, 4, none⟩ = some (.int .i64 q2) ∧ w'.cell? ⟨gx, 5, none⟩ = some (.int .i64 r2)))
                refine rg_ (by kernel_rfl) (by kernel_rfl) ?_
                (repeat (first | refine qn_ ?_ | refine ql_ L3.out ?_))
                refine qd_ ?_
                intro w10 hb10
                by_cases hjm : j = m
                · subst hjm
                  have hne : (t0.toList == d1.toList) = true := by have := (HNM.out j hjt).2 rfl; rw [HY.out] at this; simpa using this
                  have HT2 := Aside0.mk (show (due19 t0 t1 t2 t3 t4 t5 t6 p2 q2 r2).1 = false ∧ (due19 t0 t1 t2 t3 t4 t5 t6 p2 q2 r2).2.2.2.2 = true ∧ taskB t0 t1 t2 t3 t4 t5 t6 = true by have := HTK.out; rw [HY.out] at this; exact this)
                  have hts := HSZ.out _ (List.getElem_mem hjt)
                  rw [HY.out] at hts
                  dsimp only at hts
                  obtain ⟨⟨b1', c1', c2', c3', b5'⟩, hDu⟩ : ∃ D, due19 t0 t1 t2 t3 t4 t5 t6 p2 q2 r2 = D := ⟨_, rfl⟩
                  have K1 := Aside0.mk (fun w' => due_t t0 t1 t2 t3 t4 t5 t6 p2 q2 r2 hts w')
                  simp only [hDu] at K1 HT2
                  have K2 := Aside0.mk (fun w' => kb_ (task_t t0 t1 t2 t3 t4 t5 t6 hts w') HT2.out.2.2)
                  obtain rfl : b1' = false := HT2.out.1
                  obtain rfl : b5' = true := HT2.out.2.1
                  clear hDu HT2
                  rw [hne]
                  go_upto_region 20 with (fail)
                  refine world_ (fun W => Below wr.heap.size wr W) hb10 ?_
                  clear hb10 hne
                  rintro Wv hv
                  have HV := Aside0.mk hv
                  clear hv
                  refine start_ (n := 16) (S := Up Wv) (ds := []) (Sq.M 0 16) (by kernel_rfl) rfl rfl (below_drew (Below.refl _ _)) (fun hS => ?_)
                  generalize Wv.drew = W1 at hS ⊢
                  have L4 := Aside0.mk (fun w' (h : Up Wv w') => L3.out w' (below_step HV.out h))
                  refine ra_ 0 126 (Sq.M 1 16) ?_
                  refine rt_ L4.out hS 1 127 (Sq.M 2 16) ?_
                  refine ra_ 2 128 (Sq.M 3 16) ?_
                  refine ra_ 3 129 (Sq.M 4 16) ?_
                  refine rt_ L4.out hS 4 130 (Sq.M 5 16) ?_
                  refine ra_ 5 131 (Sq.M 6 16) ?_
                  refine rt_ L4.out hS 6 132 (Sq.M 7 16) ?_
                  refine join_ (σ := Nat) 3 (Sq.M 13 16) (fun b => [(133, .tuple #[.bool false, .agg #[.int .i64 c1', .int .i64 c2', .int .i64 c3'], .bool true]), (125, .tuple #[.bool false, .agg #[.int .i64 c1', .int .i64 c2', .int .i64 c3'], .bool true]), (134, .bool false), (135, .agg #[.int .i64 c1', .int .i64 c2', .int .i64 c3']), (136, .bool true), (14, .pointer (some ⟨b, 0, none⟩))]) (fun b w' => Up Wv w' ∧ w'.heap[b]? = some (.cells #[.int .i64 0, .int .i64 0, .int .i64 0] 28 (0, 0)) ∧ Wv.heap.size ≤ b) ?_ ?_
                  rotate_left
                  · intro hCont
                    refine two_ (i := 7) (j := 12) (Ni := some 133) (Nj := some 14) (Sq.M 8 16) #[true, true, true, true, true, true, true, false, false, false, false, false, true, false, false, false] rfl rfl rfl rfl (by kernel_rfl) (by decide) (by decide) (fun K hK => ?_) (fun K hK => ?_)
                    · refine goes_ Try.func13 rfl rfl #[.agg #[.string t0, .int .i64 t1, .int .i64 t2, .int .i64 t3, .int .i64 t4, .int .i64 t5, .int .i64 t6], .agg #[.int .i64 p2, .int .i64 q2, .int .i64 r2]] (by rfl) rfl rfl (by (try simp only [am_]); first | done | rfl) ?_
                      (with_reducible refine (K1.out _).mono ?_)
                      rintro e w5 ⟨rfl, hb⟩
                      refine ⟨_, rfl, ?_⟩
                      refine hK.out _ _ (below_step hS hb) (fun hS2 => ?_)
                      clear hK K
                      refine norm_ (a' := ?_) ?_ ?_
                      rotate_left
                      · (show Act.put _ (some 133) _ = _; simp only [sp_]; rfl)
                      refine ra_ 8 125 (Sq.M 9 16) ?_
                      refine ra_ 9 134 (Sq.M 10 16) ?_
                      refine ra_ 10 135 (Sq.M 11 16) ?_
                      refine ra_ 11 136 (Sq.M 12 16) ?_
                      refine one_ (i := 12) (N := some 14) (Sq.M 13 16) rfl rfl (by kernel_rfl) (by decide) (fun K hK => ?_)
                      refine box_step ?hg (N := 14) ?hd (cs := #[.int .i64 0, .int .i64 0, .int .i64 0]) (t := 28) ?hr ?_; (case hd => rfl); (case hg => rfl); (case hr => first | (go_simp; done) | (go_simp; rfl))
                      intro gb hg w6 hbox hb6
                      refine hK.out _ _ (below_step hS2 hb6) (fun hS3 => ?_)
                      clear hK K
                      refine norm_ (a' := ?_) ?_ ?_
                      rotate_left
                      · (show Act.put _ (some 14) _ = _; simp only [sp_]; rfl)
                      exact norm_ (by simp only [putAll, sp_]) (hCont gb _ ⟨hS3, hbox, by rw [hg]; exact hS2.size⟩)
                    · refine box_step ?hg (N := 14) ?hd (cs := #[.int .i64 0, .int .i64 0, .int .i64 0]) (t := 28) ?hr ?_; (case hd => rfl); (case hg => rfl); (case hr => first | (go_simp; done) | (go_simp; rfl))
                      intro gb hg w6 hbox hb6
                      refine hK.out _ _ (below_step hS hb6) (fun hS2 => ?_)
                      clear hK K
                      refine norm_ (a' := ?_) ?_ ?_
                      rotate_left
                      · (show Act.put _ (some 14) _ = _; simp only [sp_]; rfl)
                      refine one_ (i := 7) (N := some 133) #[true, true, true, true, true, true, true, true, false, false, false, false, true, false, false, false] rfl rfl (by kernel_rfl) (by decide) (fun K hK => ?_)
                      refine goes_ Try.func13 rfl rfl #[.agg #[.string t0, .int .i64 t1, .int .i64 t2, .int .i64 t3, .int .i64 t4, .int .i64 t5, .int .i64 t6], .agg #[.int .i64 p2, .int .i64 q2, .int .i64 r2]] (by rfl) rfl rfl (by (try simp only [am_]); first | done | rfl) ?_
                      (with_reducible refine (K1.out _).mono ?_)
                      rintro e w5 ⟨rfl, hb⟩
                      refine ⟨_, rfl, ?_⟩
                      refine hK.out _ _ (below_step hS2 hb) (fun hS3 => ?_)
                      clear hK K
                      refine norm_ (a' := ?_) ?_ ?_
                      rotate_left
                      · (show Act.put _ (some 133) _ = _; simp only [sp_]; rfl)
                      refine ra_ 8 125 #[true, true, true, true, true, true, true, true, true, false, false, false, true, false, false, false] ?_
                      refine ra_ 9 134 #[true, true, true, true, true, true, true, true, true, true, false, false, true, false, false, false] ?_
                      refine ra_ 10 135 #[true, true, true, true, true, true, true, true, true, true, true, false, true, false, false, false] ?_
                      refine ra_ 11 136 (Sq.M 13 16) ?_
                      exact norm_ (by simp only [putAll, sp_]) (hCont gb _ ⟨hS3, blk_below hbox hb, by rw [hg]; exact hS.size⟩)
                  rintro gb w7 ⟨hS4, HBX, hgb⟩
                  refine norm_ (a' := ?_) ?_ ?_
                  rotate_left
                  · (simp only [putAll, sp_]; rfl)
                  refine ra_ 13 13 (Sq.M 14 16) ?_
                  refine one_ (i := 14) (N := none) (Sq.M 15 16) rfl rfl (by kernel_rfl) (by decide) (fun K hK => ?_)
                  refine sts_ 28 14 (.tmp 135) gb 0 #[.int .i64 c1', .int .i64 c2', .int .i64 c3'] #[.int .i64 0, .int .i64 0, .int .i64 0] #[.int .i64 c1', .int .i64 c2', .int .i64 c3'] 28 (by rfl) rfl rfl rfl rfl HBX (by kernel_rfl) (Nat.le_of_ble_eq_true rfl) (by kernel_rfl) (by kernel_rfl) ?_
                  intro w8' hbx8' hg8'
                  have hS8' := b_put hS4 hg8' hgb
                  refine hK.out _ _ hS8' (fun hS9 => ?_)
                  clear hK K hS9
                  refine ra_ 15 15 (Sq.M 16 16) ?_
                  refine done_ (by kernel_rfl) ?_
                  have HZ3 := Aside0.mk (below_step HZ.out (below_step HV.out hS8'))
                  obtain ⟨l0, l1, l2, l3, l4, l5, l6, l7, l8, l9, l10, l11⟩ := L4.out _ hS8'
                  clear hbx8' hg8' HBX hgb hS4 hS hS8' L3 L4 K1
                  go_wp2_with (first | (go_at_call 14; (with_reducible refine (K2.out _).mono ?_); rintro e w11 ⟨rfl, hb11⟩))
                  go_roundw
                  case rel => exact ⟨j + 1, by omega, by go_num, by simp, ⟨below_step HZ3.out hb11⟩⟩
                  case measure => simp [intOf]; omega
                · have hne : (t0.toList == d1.toList) = false := by have := mt (HNM.out j hjt).1 hjm; rw [HY.out] at this; simpa using this
                  have hdec : decide (m < j + 1) = decide (m < j) := by by_cases c : m < j <;> simp [c] <;> omega
                  have HDEC := Aside0.mk hdec
                  have HZ3 := Aside0.mk (below_step HZ.out hb10)
                  rw [hne]
                  clear hne
                  clear hdec hb10 L3
                  go_wp2
                  go_roundw
                  case rel => exact ⟨j + 1, by omega, by go_num, by rw [HDEC.out], HZ3⟩
                  case measure => simp [intOf]; omega
              · obtain rfl : j = ts2.length := by omega
                have hdone : decide (m < ts2.length) = true := decide_eq_true hm
                rw [hdone]
                clear hdone
                obtain ⟨g0, g1, g2, g3, g4, g5⟩ := ck6 (HQ.out.1.up HZ.out).g
                go_upto_region 24 with (fail)
                clear g0 g1 g2 g3 g4 g5
                refine world_ (fun W => Below w8.heap.size w8 W) HZ.out ?_
                clear HZ
                rintro Wt hz
                have HZ := Aside0.mk hz
                clear hz
                have L2 := Aside0.mk (fun w' (h : Up Wt w') => (⟨ck (HQ.out.1.up (below_step HZ.out h)).g 3 rfl, ck (HN.out.up (below_step HQ.out.2.1 (below_step HZ.out h))).g 3 rfl, bc (below_step HQ.out.2.1 (below_step HZ.out h)) HXC.out.1, bc (below_step HQ.out.2.1 (below_step HZ.out h)) HXC.out.2.2.2⟩ : w'.cell? ⟨gx, 3, none⟩ = some (.int .i64 (p2)) ∧ w'.cell? ⟨gn, 3, none⟩ = some (.int .i64 p1) ∧ w'.cell? (ad.add (i * 4)) = some (.int .i64 (2)) ∧ w'.cell? ⟨(ad.add (i * 4)).block, (ad.add (i * 4)).off + 3, none⟩ = some (.int .i64 d3)))
                refine rg_ (by kernel_rfl) (by kernel_rfl) ?_
                (repeat (first | refine qn_ ?_ | refine ql_ L2.out ?_))
                refine qd_ ?_
                intro w10 hb10
                have HZ2 := Aside0.mk (below_step HZ.out hb10)
                clear L2 hb10 HZ Wt
                obtain ⟨g0, g1, g2, g3, g4, g5⟩ := ck6 (HQ.out.1.up HZ2.out).g
                have BN := (HN.out.up (below_step HQ.out.2.1 HZ2.out)).g
                go_wp2_with (first | ((with_reducible refine gate_store (t := 30) (p := 5) rfl ?_); refine stm_ 30 5 (.tmp 176) gn 0 #[.slice M0 ts2.length m0, .slice M1 cs2.length m1, .slice M2 ds2.length m2, .int .i64 p2, .int .i64 q2, .int .i64 r2] #[.slice N0 ts1.length n0, .slice N1 cs1.length n1, .slice N2 ds1.length n2, .int .i64 p1, .int .i64 q2, .int .i64 r1] #[.slice M0 ts2.length m0, .slice M1 cs2.length m1, .slice M2 ds2.length m2, .int .i64 p2, .int .i64 q2, .int .i64 r2] 30 ?e1 ?e2 ?e3 ?e4 ?e5 ?e6 ?e7 ?e8 ?e9 ?e10 ?_; (case e1 => rfl); (case e2 => rfl); (case e3 => rfl); (case e4 => rfl); (case e5 => rfl); (case e6 => exact BN); (case e7 => kernel_rfl); (case e8 => exact Nat.le_of_ble_eq_true rfl); (case e9 => kernel_rfl); (case e10 => kernel_rfl); intro w6 hn6 hg6))
                go_roundw
                case rel => exact ⟨i + 1, by omega, by go_num, ⟨M0, m0, ts2, M1, m1, cs2, M2, m2, ds2, p2, q2, r2, told ++ [true], ⟨hn6, r_put (HQ.out.1.up HZ2.out).r0 BN (by decide) hg6, r_put (HQ.out.1.up HZ2.out).r1 BN (by decide) hg6, r_put (HQ.out.1.up HZ2.out).r2 BN (by decide) hg6⟩, ⟨blk_grown (HF.out.up (below_step HQ.out.2.1 HZ2.out)).g hg6 (fun e => by injection e; omega), r_put (HF.out.up (below_step HQ.out.2.1 HZ2.out)).r0 BN (by decide) hg6, r_put (HF.out.up (below_step HQ.out.2.1 HZ2.out)).r1 BN (by decide) hg6, r_put (HF.out.up (below_step HQ.out.2.1 HZ2.out)).r2 BN (by decide) hg6⟩, r_put (Kd.R_below HX.out (below_step HQ.out.2.1 HZ2.out)) BN (by decide) hg6, b_put (below_step HB.out (below_step HQ.out.2.1 HZ2.out)) hg6 (by omega), HFL2.out, HGD2.out, by rw [HRUN.out, HDR.out, runF_cons]; simp only [HO.out]⟩⟩
                case measure => simp [intOf]; omega
          have k1' : (d0 == 1) = false := by simpa using k1
          have k2' : (d0 == 2) = false := by simpa using k2
          obtain rfl := hf2 k1
          clear hf1 hf2 hD hc
          go_upto_region 24 with (first | (go_at_call 8; (with_reducible refine KO2.out.mono ?_); rintro e w9 ⟨rfl, hb9⟩; clear g0 g1 g2 g3 g4 g5 h0 h1 h2 h3 h4 h5; obtain ⟨g0, g1, g2, g3, g4, g5⟩ := ck6 (HQ.out.1.up hb9).g; obtain ⟨h0, h1, h2, h3, h4, h5⟩ := ck6 (HN.out.up (below_step HQ.out.2.1 hb9)).g; have hx0 := bc (below_step HQ.out.2.1 hb9) HXC.out.1))
          clear g0 g1 g2 g3 g4 g5 h0 h1 h2 h3 h4 h5 hx0
          refine world_ (fun W => Below w8.heap.size w8 W) hb9 ?_
          clear hb9 KO2
          rintro Wt hz
          have HZ := Aside0.mk hz
          clear hz
          have L2 := Aside0.mk (fun w' (h : Up Wt w') => (⟨ck (HQ.out.1.up (below_step HZ.out h)).g 3 rfl, ck (HN.out.up (below_step HQ.out.2.1 (below_step HZ.out h))).g 3 rfl, bc (below_step HQ.out.2.1 (below_step HZ.out h)) HXC.out.1, bc (below_step HQ.out.2.1 (below_step HZ.out h)) HXC.out.2.2.2⟩ : w'.cell? ⟨gx, 3, none⟩ = some (.int .i64 (p2)) ∧ w'.cell? ⟨gn, 3, none⟩ = some (.int .i64 p1) ∧ w'.cell? (ad.add (i * 4)) = some (.int .i64 (d0)) ∧ w'.cell? ⟨(ad.add (i * 4)).block, (ad.add (i * 4)).off + 3, none⟩ = some (.int .i64 d3)))
          refine rg_ (by kernel_rfl) (by kernel_rfl) ?_
          (repeat (first | refine qn_ ?_ | refine ql_ L2.out ?_))
          refine qd_ ?_
          intro w10 hb10
          have HZ2 := Aside0.mk (below_step HZ.out hb10)
          clear L2 hb10 HZ Wt
          obtain ⟨g0, g1, g2, g3, g4, g5⟩ := ck6 (HQ.out.1.up HZ2.out).g
          have BN := (HN.out.up (below_step HQ.out.2.1 HZ2.out)).g
          go_wp2_with (first | ((with_reducible refine gate_store (t := 30) (p := 5) rfl ?_); refine stm_ 30 5 (.tmp 176) gn 0 #[.slice M0 ts2.length m0, .slice M1 cs2.length m1, .slice M2 ds2.length m2, .int .i64 p2, .int .i64 q2, .int .i64 r2] #[.slice N0 ts1.length n0, .slice N1 cs1.length n1, .slice N2 ds1.length n2, .int .i64 p1, .int .i64 q2, .int .i64 r1] #[.slice M0 ts2.length m0, .slice M1 cs2.length m1, .slice M2 ds2.length m2, .int .i64 p2, .int .i64 q2, .int .i64 r2] 30 ?e1 ?e2 ?e3 ?e4 ?e5 ?e6 ?e7 ?e8 ?e9 ?e10 ?_; (case e1 => rfl); (case e2 => rfl); (case e3 => rfl); (case e4 => rfl); (case e5 => rfl); (case e6 => exact BN); (case e7 => kernel_rfl); (case e8 => exact Nat.le_of_ble_eq_true rfl); (case e9 => kernel_rfl); (case e10 => kernel_rfl); intro w6 hn6 hg6))
          go_roundw
          case rel => exact ⟨i + 1, by omega, by go_num, ⟨M0, m0, ts2, M1, m1, cs2, M2, m2, ds2, p2, q2, r2, told ++ [true], ⟨hn6, r_put (HQ.out.1.up HZ2.out).r0 BN (by decide) hg6, r_put (HQ.out.1.up HZ2.out).r1 BN (by decide) hg6, r_put (HQ.out.1.up HZ2.out).r2 BN (by decide) hg6⟩, ⟨blk_grown (HF.out.up (below_step HQ.out.2.1 HZ2.out)).g hg6 (fun e => by injection e; omega), r_put (HF.out.up (below_step HQ.out.2.1 HZ2.out)).r0 BN (by decide) hg6, r_put (HF.out.up (below_step HQ.out.2.1 HZ2.out)).r1 BN (by decide) hg6, r_put (HF.out.up (below_step HQ.out.2.1 HZ2.out)).r2 BN (by decide) hg6⟩, r_put (Kd.R_below HX.out (below_step HQ.out.2.1 HZ2.out)) BN (by decide) hg6, b_put (below_step HB.out (below_step HQ.out.2.1 HZ2.out)) hg6 (by omega), HFL2.out, HGD2.out, by rw [HRUN.out, HDR.out, runF_cons]; simp only [HO.out]⟩⟩
          case measure => simp [intOf]; omega
      · obtain rfl : i = xs.length := by omega
        have hE : runF xs ts cs ds p q r [] = (ts1, cs1, ds1, p1, q1, r1, told) := by rw [HRUN.out, List.drop_length]; rfl
        obtain ⟨k2, hk2⟩ := (impl_RunWork_ev xs HXS.out ts cs ds p q r HGD.out).rounds
        have hW : runW ts cs ds p q r xs = (ts1, cs1, ds1, p1, q1, r1, told) := by unfold runW; rw [if_neg (by omega), hE]
        rw [hW] at hk2
        have HTL := Aside0.mk (show told.length = xs.length by have := runF_told xs ts cs ds p q r []; rw [hE] at this; simpa using this)
        have KW := Aside0.mk (impl_RunWork.calls k2 B0 b0 ts B1 b1 cs B2 b2 ds p q r B3 b3 xs ts1 cs1 ds1 p1 q1 r1 told wr (R_cap HF.out.r0).2.2 (R_cap HF.out.r0).1 (R_cap HF.out.r1).2.2 (R_cap HF.out.r1).1 (R_cap HF.out.r2).2.2 (R_cap HF.out.r2).1 (R_cap HX.out).2.2 (R_cap HX.out).1 hk2)
        clear hE hW hk2
        obtain ⟨f0, f1, f2, f3, f4, f5⟩ := ck6 HF.out.g
        go_wp2_with (first | (go_at_call 15; (with_reducible refine KW.out.mono ?_); rintro e w5 ⟨v0, v1, v2, v3, rfl, hR0, hR1, hR2, hR3, hb5⟩; obtain ⟨M0, m0, rfl⟩ := Kd.R_slice hR0; obtain ⟨M1, m1, rfl⟩ := Kd.R_slice hR1; obtain ⟨M2, m2, rfl⟩ := Kd.R_slice hR2; obtain ⟨M3, m3, e3⟩ := Kd.R_slice hR3; rw [HTL.out] at e3; subst e3; clear f0 f1 f2 f3 f4 f5; obtain ⟨y0, y1, y2, y3, y4, y5⟩ := ck6 (HN.out.up hb5).g; have hg5 := blk_lt (HN.out.up hb5).g))
        go_ret
        exact ⟨by simp, by first | exact below_alloc (below_step HB.out hb5) _ | exact below_step HB.out hb5⟩
def laws_FnReleased.f (k : Nat) (l0 : List Int) : Option Bool := some true
theorem laws_FnReleased.calls (k : Nat) (A0 : Option Addr) (c0 : Nat) (l0 : List Int) (r : Bool) (hr_ : r = true) (w : World) (hr0 : Kd.C (Kd.int .u8) w A0 l0.length l0) (hc0 : l0.length ≤ c0) (h : laws_FnReleased.f k l0 = some r) :
  Calls Try.prog 3 #[.slice A0 l0.length c0] w fun e w' => e = .returned (.bool r) ∧ Below w.heap.size w w' := by
  subst hr_
  exact released_t A0 c0 l0 w hr0 hc0
-- HAND TO
/-- THE ONE PURE STATEMENT of laws_FnReleased: yours. -/
def laws_FnReleased.Pure : Prop := ∀ (l0 : List Int), l0.length ≤ maxLen → l0.length * 1 ≤ 140737488351232 → (∀ x ∈ l0, (Lit.int .u8 x).wf = true) → ∃ k, laws_FnReleased.f k l0 = some true
theorem laws_FnReleased.walk (P : laws_FnReleased.Pure) (a0 : Option Addr) (len0 cap0 : Nat) (z0 : List Int) (w : World) (w0 : (a0 = none ∧ len0 = 0 ∧ cap0 = 0 ∧ z0 = []) ∨ ∃ x, a0 = some x ∧ len0 ≤ cap0 ∧ cap0 ≤ maxLen ∧ z0.length = cap0 ∧ (∀ i, i < z0.length → w.cell? (x.add i) = some (.int .u8 (z0.getD i 0))) ∧ ∀ n ∈ z0, (Lit.int .u8 n).wf = true) (y0 : len0 * 1 ≤ 140737488351232) :
  Calls Try.prog 3 #[.slice a0 len0 cap0] w fun e w' => e = .returned (.bool true) ∧ Below w.heap.size w w' := by
 obtain ⟨l0, rfl, hr0, hm0, hw0, hc0⟩ := ReadsInt.ofRowC w0
 obtain ⟨k, h⟩ := P l0 hm0 y0 hw0
 refine (laws_FnReleased.calls k _ _ l0 true rfl w (Kd.C_of_reads (d := (0 : Int)) (h1 := fun _ => rfl) hr0) hc0 h).mono ?_
 rintro e w' ⟨rfl, hd⟩
 exact ⟨rfl, hd⟩

end Go.Proofs.Ytdimdlifjdbgnaa.PFnReleased
