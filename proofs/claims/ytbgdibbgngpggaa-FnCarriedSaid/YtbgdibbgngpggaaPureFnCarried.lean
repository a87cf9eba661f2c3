/- a drawn fleet that may fly has no task due, and no defect that is not on its list, one too many or there too long; the next one due is due after as many cycles. (P19) -/
import Derived.Test.YtbgdibbgngpggaaPFnCarriedx15
import Derived.Test.YtbgdibbgngpggaaBase
set_option linter.unusedVariables false
set_option linter.unusedSimpArgs false
namespace Go.Proofs.Ytbgdibbgngpggaa.Pure
open Go.RowKit Go.Proofs.Ytbgdibbgngpggaa.PFnCarried Go.Proofs.Ytbgdibbgngpggaa.Base Go.Proofs.YtbgdibbgngpggaaW.PrintWords Go.Proofs.YtbgdibbgngpggaaW.PrintLast
/-! What is drawn: a cursor over the bytes, at place i, with the number h. -/
def Cur (l : List Int) (i : Int) : Prop := l.length ≤ 1048576 ∧ 0 ≤ i ∧ i ≤ (l.length : Int)
theorem draw_new (l : List Int) (hl : l.length ≤ 1048576) : ∃ h, Ev (fun k => spec_l1New.f k l) (l, 0, h) := by
  have loop : ∀ (d : Nat) (i : Nat) (h : Int), i + d = l.length → ∃ h', Ev (fun k => spec_l1New.l0 k l h (i : Int)) (l, 0, h') := by
    intro d
    induction d with
    | zero =>
      intro i h hi
      refine ⟨h, ev_succ ?_⟩
      simp only [spec_l1New.l0, if_neg (show ¬ ((i : Int) < (l.length : Int)) by omega)]
      exact ev_now _
    | succ d ih =>
      intro i h hi
      by_cases h4 : (i : Int) < 4000
      · obtain ⟨h', hh⟩ := ih (i + 1) (Go.bits .and .i64 (wrap64 ((wrap64 ((wrap64 (h * 131)) + (wrap64 (rd l (i : Int))))) + 7)) 1073741823) (by omega)
        refine ⟨h', ev_succ ?_⟩
        simp only [spec_l1New.l0, if_pos (show ((i : Int) < (l.length : Int)) by omega), if_pos h4, if_pos (show (0 : Int) ≤ (i : Int) by omega), w64s i (by omega)]
        exact hh
      · refine ⟨h, ev_succ ?_⟩
        simp only [spec_l1New.l0, if_pos (show ((i : Int) < (l.length : Int)) by omega), if_neg h4]
        exact ev_now _
  obtain ⟨h', hh⟩ := loop l.length 0 (wrap64 (63063 + (l.length : Int))) (by omega)
  exact ⟨h', by simpa [spec_l1New.f] using hh⟩
theorem draw_byte {l : List Int} {i : Int} (h : Int) (hc : Cur l i) : ∃ v i' h', spec_l1Byte.f l i h = some (v, i', h') ∧ 0 ≤ v ∧ v ≤ 255 ∧ Cur l i' := by
  obtain ⟨h1, h2, h3⟩ := hc
  unfold spec_l1Byte.f
  by_cases e : i < (l.length : Int)
  · rw [if_pos e, if_pos h2]
    have := bits_and_le (wrap64 ((Go.bits .and .i64 (Go.bits .xor .i64 ((wrap64 ((wrap64 (h * 6364136223846793005)) + 1442695040888963407)) / 8589934592) ((wrap64 ((wrap64 (h * 6364136223846793005)) + 1442695040888963407)) / 35184372088832)) 255) + (wrap64 (rd l i)))) 255 (by omega) (by omega)
    exact ⟨_, _, _, rfl, this.1, this.2, h1, by rw [w64 (by omega) (by omega)]; omega, by rw [w64 (by omega) (by omega)]; omega⟩
  · rw [if_neg e]
    have := bits_and_le (Go.bits .xor .i64 ((wrap64 ((wrap64 (h * 6364136223846793005)) + 1442695040888963407)) / 8589934592) ((wrap64 ((wrap64 (h * 6364136223846793005)) + 1442695040888963407)) / 35184372088832)) 255 (by omega) (by omega)
    exact ⟨_, _, _, rfl, this.1, this.2, h1, h2, h3⟩
theorem draw_below {l : List Int} {i : Int} (h n : Int) (hc : Cur l i) (h0 : 0 < n) (h1 : n ≤ 1099511627776) : ∃ v i' h', spec_l1Below.f l i h n = some (v, i', h') ∧ 0 ≤ v ∧ v < n ∧ Cur l i' := by
  unfold spec_l1Below.f
  rw [if_neg (by omega)]
  by_cases e : n ≤ 256
  · obtain ⟨v, i', h', e1, v0, v1, c1⟩ := draw_byte h hc
    rw [if_pos e, e1]
    simp only [Option.bind_some, if_neg (show ¬ n = 0 by omega)]
    exact ⟨_, _, _, rfl, Int.tmod_nonneg _ v0, Int.tmod_lt_of_pos _ h0, c1⟩
  · obtain ⟨v, i', h', e1, v0, v1, c1⟩ := draw_byte h hc
    obtain ⟨v', i2, h2, e2, v2, v3, c2⟩ := draw_byte h' c1
    obtain ⟨v4, i3, h3, e3, v5, v6, c3⟩ := draw_byte h2 c2
    obtain ⟨v7, i4, h4, e4, v8, v9, c4⟩ := draw_byte h3 c3
    rw [if_neg e, e1]
    simp only [Option.bind_some, e2, e3, e4, if_neg (show ¬ n = 0 by omega)]
    refine ⟨_, _, _, rfl, ?_, Int.tmod_lt_of_pos _ h0, c4⟩
    rw [w64 (n := v * 16777216) (by omega) (by omega), w64 (n := v' * 65536) (by omega) (by omega), w64 (n := v4 * 256) (by omega) (by omega), w64 (n := v * 16777216 + v' * 65536) (by omega) (by omega), w64 (n := v * 16777216 + v' * 65536 + v4 * 256) (by omega) (by omega), w64 (by omega) (by omega)]
    exact Int.tmod_nonneg _ (by omega)
theorem draw_once {l : List Int} {i : Int} (h n : Int) (hc : Cur l i) (h0 : 0 < n) (h1 : n ≤ 1099511627776) : ∃ v i' h', spec_l1Once.f l i h n = some (v, i', h') ∧ Cur l i' := by
  obtain ⟨v, i', h', e1, _, _, c1⟩ := draw_below h n hc h0 h1
  unfold spec_l1Once.f
  rw [e1]
  exact ⟨_, _, _, rfl, c1⟩
/-! The draws of chapter 19. -/
theorem draw_pick {l : List Int} {i : Int} (h : Int) (hc : Cur l i) (xs : List ByteArray) (h0 : 0 < xs.length) (h1 : xs.length ≤ 1000) : ∃ v i' h', spec_l1Pick.f l i h xs = some (v, i', h') ∧ v ∈ xs ∧ Cur l i' := by
  obtain ⟨v, i', h', e1, v0, v1, c1⟩ := draw_below h (xs.length : Int) hc (by omega) (by omega)
  unfold spec_l1Pick.f
  rw [e1]
  simp only [Option.bind_some, if_pos v0, if_pos v1]
  refine ⟨_, _, _, rfl, ?_, c1⟩
  have hv : v.toNat < xs.length := by omega
  have : rdOf ByteArray.empty xs v = xs[v.toNat] := by simp [rdOf, List.getD_eq_getElem?_getD, hv]
  rw [this]
  exact List.getElem_mem hv
theorem rdOf_at {xs : List ByteArray} {i : Nat} (h : i < xs.length) : rdOf ByteArray.empty xs (i : Int) = xs[i] := by simp [rdOf, List.getD_eq_getElem?_getD, h]
abbrev cN : List ByteArray := [(⟨#[98, 101, 108, 116]⟩ : ByteArray), (⟨#[108, 97, 109, 112]⟩ : ByteArray), (⟨#[114, 97, 100, 105, 111]⟩ : ByteArray), (⟨#[115, 101, 97, 116]⟩ : ByteArray)]
abbrev tN : List ByteArray := [(⟨#[101, 110, 103, 105, 110, 101]⟩ : ByteArray), (⟨#[102, 114, 97, 109, 101]⟩ : ByteArray), (⟨#[103, 101, 97, 114]⟩ : ByteArray), (⟨#[119, 105, 110, 103]⟩ : ByteArray)]
abbrev dN : List ByteArray := [(⟨#[98, 101, 108, 116]⟩ : ByteArray), (⟨#[108, 97, 109, 112]⟩ : ByteArray), (⟨#[114, 97, 100, 105, 111]⟩ : ByteArray), (⟨#[115, 101, 97, 116]⟩ : ByteArray), (⟨#[108, 97, 109, 112]⟩ : ByteArray)]
structure CsOk (cs : List Cr) (N : List ByteArray) : Prop where
  sub : (cs.map (·.f0)).Sublist N
  b : ∀ c ∈ cs, (0 ≤ c.f1 ∧ c.f1 ≤ 3) ∧ 0 ≤ c.f2 ∧ c.f2 ≤ 59
theorem take_more {N : List ByteArray} {i : Nat} (h : i < N.length) : N.take (i + 1) = N.take i ++ [N[i]] := by simp
theorem sub_skip {xs N : List ByteArray} {i : Nat} (h : i < N.length) (s : xs.Sublist (N.take i)) : xs.Sublist (N.take (i + 1)) := by
  rw [take_more h]; exact s.trans (List.sublist_append_left _ _)
theorem sub_more {xs N : List ByteArray} {i : Nat} (h : i < N.length) (s : xs.Sublist (N.take i)) : (xs ++ [N[i]]).Sublist (N.take (i + 1)) := by
  rw [take_more h]; exact s.append (List.Sublist.refl _)
theorem drawcarries_l {l : List Int} (N : List ByteArray) (hN : N.length ≤ 1000) (d : Nat) : ∀ (j : Nat) (i h : Int) (cs : List Cr), j + d = N.length → Cur l i → CsOk cs (N.take j) → ∃ cs' i' h', Ev (fun k => spec_l19DrawCarries.l0 k cs N (j : Int) l i h) (cs', i', h') ∧ CsOk cs' N ∧ Cur l i' := by
  induction d with
  | zero =>
    intro j i h cs hj hc ho
    refine ⟨cs, i, h, ev_succ ?_, by rwa [List.take_of_length_le (by omega)] at ho, hc⟩
    simp only [spec_l19DrawCarries.l0, if_neg (show ¬ ((j : Int) < (N.length : Int)) by omega)]
    exact ev_now _
  | succ d ih =>
    intro j i h cs hj hc ho
    have hlt : j < N.length := by omega
    have hl : cs.length ≤ j := by have := ho.sub.length_le; simp only [List.length_map, List.length_take] at this; omega
    obtain ⟨v, i1, h1, e1, c1⟩ := draw_once h 5 hc (by omega) (by omega)
    cases v with
    | true =>
      obtain ⟨cs', i', h', e, o, c⟩ := ih (j + 1) i1 h1 cs (by omega) c1 ⟨sub_skip hlt ho.sub, ho.b⟩
      refine ⟨cs', i', h', ev_succ ?_, o, c⟩
      simp only [spec_l19DrawCarries.l0, if_pos (show ((j : Int) < (N.length : Int)) by omega), e1, Option.bind_some, if_true, w64s j (by omega)]
      exact e
    | false =>
      obtain ⟨a, i2, h2, e2, a0, a1, c2⟩ := draw_below h1 4 c1 (by omega) (by omega)
      obtain ⟨b, i3, h3, e3, b0, b1, c3⟩ := draw_below h2 60 c2 (by omega) (by omega)
      obtain ⟨cs', i', h', e, o, c⟩ := ih (j + 1) i3 h3 (cs ++ [⟨N[j], a, b⟩]) (by omega) c3 ⟨by rw [List.map_append]; exact sub_more hlt ho.sub, by
        intro c hc'
        rcases List.mem_append.1 hc' with hc' | hc'
        · exact ho.b c hc'
        · obtain rfl := List.mem_singleton.1 hc'
          exact ⟨⟨a0, by show a ≤ 3; omega⟩, b0, by show b ≤ 59; omega⟩⟩
      refine ⟨cs', i', h', ev_succ ?_, o, c⟩
      simp only [spec_l19DrawCarries.l0, if_pos (show ((j : Int) < (N.length : Int)) by omega), e1, Option.bind_some, Bool.false_eq_true, if_false, if_pos (show (0 : Int) ≤ (j : Int) by omega), e2, e3, if_pos (show cs.length < 4398046511104 by omega), rdOf_at hlt, w64s j (by omega)]
      exact e
theorem drawcarries_ev {l : List Int} {i : Int} (h : Int) (hc : Cur l i) : ∃ cs i' h', Ev (fun k => spec_l19DrawCarries.f k l i h) (cs, i', h') ∧ CsOk cs cN ∧ Cur l i' := by
  obtain ⟨cs, i', h', e, o, c⟩ := drawcarries_l cN (by decide) 4 0 i h [] (by decide) hc ⟨by simp, by simp⟩
  exact ⟨cs, i', h', by unfold spec_l19DrawCarries.f; exact e, o, c⟩
def TOk (t : Tk) : Prop := (0 ≤ t.f1 ∧ t.f1 ≤ 149) ∧ (0 ≤ t.f2 ∧ t.f2 ≤ 89) ∧ (0 ≤ t.f3 ∧ t.f3 ≤ 200) ∧ t.f1 + t.f2 + t.f3 > 0 ∧ (0 ≤ t.f4.f0 ∧ t.f4.f0 ≤ 50) ∧ (0 ≤ t.f4.f1 ∧ t.f4.f1 ≤ 50) ∧ 0 ≤ t.f4.f2 ∧ t.f4.f2 ≤ 50
theorem drawclock {l : List Int} {i : Int} (h : Int) (hc : Cur l i) : ∃ a b c i' h', spec_l19DrawClock.f l i h 51 = some (a, b, c, i', h') ∧ (0 ≤ a ∧ a ≤ 50) ∧ (0 ≤ b ∧ b ≤ 50) ∧ (0 ≤ c ∧ c ≤ 50) ∧ Cur l i' := by
  obtain ⟨a, i1, h1, e1, a0, a1, c1⟩ := draw_below h 51 hc (by omega) (by omega)
  obtain ⟨b, i2, h2, e2, b0, b1, c2⟩ := draw_below h1 51 c1 (by omega) (by omega)
  obtain ⟨c, i3, h3, e3, d0, d1, c3⟩ := draw_below h2 51 c2 (by omega) (by omega)
  unfold spec_l19DrawClock.f
  rw [e1]
  simp only [Option.bind_some, e2, e3]
  exact ⟨_, _, _, _, _, rfl, ⟨a0, by omega⟩, ⟨b0, by omega⟩, ⟨d0, by omega⟩, c3⟩
theorem mul01 {a b m : Int} (a0 : 0 ≤ a) (a1 : a ≤ m) (b0 : 0 ≤ b) (b1 : b < 2) (hm : m ≤ 1000) : 0 ≤ wrap64 (a * b) ∧ wrap64 (a * b) ≤ m := by
  have : b = 0 ∨ b = 1 := by omega
  rcases this with rfl | rfl
  · rw [Int.mul_zero]; rw [w64 (by omega) (by omega)]; omega
  · rw [Int.mul_one]; rw [w64 (by omega) (by omega)]; omega
theorem drawtask {l : List Int} {i : Int} (h : Int) (n : ByteArray) (hc : Cur l i) : ∃ a b c x y z i' h', spec_l19DrawTask.f l i h n 51 = some (n, a, b, c, x, y, z, i', h') ∧ TOk ⟨n, a, b, c, ⟨x, y, z⟩⟩ ∧ Cur l i' := by
  obtain ⟨a, i1, h1, e1, a0, a1, c1⟩ := draw_below h 150 hc (by omega) (by omega)
  obtain ⟨a', i2, h2, e2, a2, a3, c2⟩ := draw_below h1 2 c1 (by omega) (by omega)
  obtain ⟨b, i3, h3, e3, b0, b1, c3⟩ := draw_below h2 90 c2 (by omega) (by omega)
  obtain ⟨b', i4, h4, e4, b2, b3, c4⟩ := draw_below h3 2 c3 (by omega) (by omega)
  obtain ⟨d, i5, h5, e5, d0, d1, c5⟩ := draw_below h4 200 c4 (by omega) (by omega)
  obtain ⟨x, y, z, i6, h6, e6, x0, y0, z0, c6⟩ := drawclock h5 c5
  have hA := mul01 a0 (m := 149) (by omega) a2 a3 (by omega)
  have hB := mul01 b0 (m := 89) (by omega) b2 b3 (by omega)
  have hD : wrap64 (1 + d) = 1 + d := w64 (by omega) (by omega)
  unfold spec_l19DrawTask.f
  rw [e1]
  simp only [Option.bind_some, e2, e3, e4, e5, e6, hD]
  generalize wrap64 (a * a') = A at *
  generalize wrap64 (b * b') = B at *
  by_cases hA0 : A > 0
  · obtain ⟨v, i7, h7, e7, c7⟩ := draw_once h6 2 c6 (by omega) (by omega)
    simp only [if_pos hA0, e7, Option.bind_some]
    cases v with
    | true =>
      simp only [if_true]
      exact ⟨_, _, _, _, _, _, _, _, rfl, ⟨hA, hB, ⟨by show (0 : Int) ≤ 0; omega, by show (0 : Int) ≤ 200; omega⟩, by show A + B + 0 > 0; omega, x0, y0, z0⟩, c7⟩
    | false =>
      simp only [Bool.false_eq_true, if_false]
      exact ⟨_, _, _, _, _, _, _, _, rfl, ⟨hA, hB, ⟨by show 0 ≤ 1 + d; omega, by show 1 + d ≤ 200; omega⟩, by show A + B + (1 + d) > 0; omega, x0, y0, z0⟩, c7⟩
  · simp only [if_neg hA0]
    exact ⟨_, _, _, _, _, _, _, _, rfl, ⟨hA, hB, ⟨by show 0 ≤ 1 + d; omega, by show 1 + d ≤ 200; omega⟩, by show A + B + (1 + d) > 0; omega, x0, y0, z0⟩, c6⟩
structure DsOk (r : Int) (ds : List Df) (m : Int) : Prop where
  m0 : 0 ≤ m ∧ m ≤ 3 * (ds.length : Int)
  b : ∀ d ∈ ds, d.f0 ∈ dN ∧ (1 ≤ d.f1 ∧ d.f1 ≤ m) ∧ r - 49 ≤ d.f2 ∧ d.f2 ≤ r
  s : ds.Pairwise (fun a b => a.f1 < b.f1)
theorem drawdefects_l {l : List Int} (ts : List Tk) (cs : List Cr) (p q r : Int) (hr : 0 ≤ r ∧ r ≤ 1000000) (n : Nat) : ∀ (i h m : Int) (ds : List Df), Cur l i → ds.length + n ≤ 3 → DsOk r ds m →
    ∃ ds' i' h', Ev (fun k => spec_l19Draw.l1 k m (n : Int) l i h ts cs ds p q r) (ts, cs, ds', p, q, r, i', h') ∧ (∃ m', DsOk r ds' m') ∧ ds'.length ≤ 3 ∧ Cur l i' := by
  induction n with
  | zero =>
    intro i h m ds hc hn ho
    refine ⟨ds, i, h, ev_succ ?_, ⟨m, ho⟩, by omega, hc⟩
    simp only [spec_l19Draw.l1, if_neg (show ¬ (((0 : Nat) : Int) > 0) by omega)]
    exact ev_now _
  | succ n ih =>
    intro i h m ds hc hn ho
    obtain ⟨a, i1, h1, e1, a0, a1, c1⟩ := draw_below h 3 hc (by omega) (by omega)
    obtain ⟨v, i2, h2, e2, hv, c2⟩ := draw_pick h1 c1 dN (by decide) (by decide)
    obtain ⟨b, i3, h3, e3, b0, b1, c3⟩ := draw_below h2 50 c2 (by omega) (by omega)
    have hm := ho.m0
    have w1 : wrap64 (wrap64 (m + 1) + a) = m + 1 + a := by rw [w64 (n := m + 1) (by omega) (by omega), w64 (by omega) (by omega)]
    have w2 : wrap64 (r - b) = r - b := w64 (by omega) (by omega)
    have w3 : wrap64 (((n + 1 : Nat) : Int) - 1) = (n : Int) := by rw [w64 (by omega) (by omega)]; omega
    obtain ⟨ds', i', h', e, o, ol, c⟩ := ih i3 h3 (m + 1 + a) (ds ++ [⟨v, m + 1 + a, r - b⟩]) c3 (by simp; omega) ⟨⟨by omega, by simp only [List.length_append, List.length_singleton]; omega⟩, by
      intro d hd
      rcases List.mem_append.1 hd with hd | hd
      · obtain ⟨g1, g2, g3⟩ := ho.b d hd
        exact ⟨g1, ⟨g2.1, by omega⟩, g3⟩
      · obtain rfl := List.mem_singleton.1 hd
        exact ⟨hv, ⟨by show 1 ≤ m + 1 + a; omega, Int.le_refl _⟩, by show r - 49 ≤ r - b; omega, by show r - b ≤ r; omega⟩, by
      rw [List.pairwise_append]
      refine ⟨ho.s, List.pairwise_singleton _ _, ?_⟩
      intro d hd d' hd'
      obtain rfl := List.mem_singleton.1 hd'
      have := (ho.b d hd).2.1.2
      show d.f1 < m + 1 + a
      omega⟩
    refine ⟨ds', i', h', ev_succ ?_, o, ol, c⟩
    simp only [spec_l19Draw.l1, if_pos (show ((n + 1 : Nat) : Int) > 0 by omega), e1, Option.bind_some, e2, e3, if_pos (show ds.length < 4398046511104 by omega), w1, w2, w3]
    exact e
structure TsOk (ts : List Tk) (N : List ByteArray) : Prop where
  sub : (ts.map (·.f0)).Sublist N
  b : ∀ t ∈ ts, TOk t
theorem drawtasks_l {l : List Int} (cs : List Cr) (p q r : Int) (hr : 0 ≤ r ∧ r ≤ 1000000) (N : List ByteArray) (hN : N.length ≤ 1000) (d : Nat) : ∀ (j : Nat) (i h : Int) (ts : List Tk), j + d = N.length → Cur l i → TsOk ts (N.take j) →
    ∃ ts' ds i' h', Ev (fun k => spec_l19Draw.l0 k N (j : Int) l i h ts cs p q r) (ts', cs, ds, p, q, r, i', h') ∧ TsOk ts' N ∧ (∃ m', DsOk r ds m') ∧ ds.length ≤ 3 ∧ Cur l i' := by
  induction d with
  | zero =>
    intro j i h ts hj hc ho
    obtain ⟨a, i1, h1, e1, a0, a1, c1⟩ := draw_below h 4 hc (by omega) (by omega)
    obtain ⟨ds, i', h', e, o, ol, c⟩ := drawdefects_l ts cs p q r hr a.toNat i1 h1 0 [] c1 (by simp; omega) ⟨⟨by omega, by simp⟩, by simp, List.Pairwise.nil⟩
    rw [show ((a.toNat : Nat) : Int) = a by omega] at e
    refine ⟨ts, ds, i', h', ev_succ ?_, by rwa [List.take_of_length_le (by omega)] at ho, o, ol, c⟩
    simp only [spec_l19Draw.l0, if_neg (show ¬ ((j : Int) < (N.length : Int)) by omega), e1, Option.bind_some]
    exact e
  | succ d ih =>
    intro j i h ts hj hc ho
    have hlt : j < N.length := by omega
    have hl : ts.length ≤ j := by have := ho.sub.length_le; simp only [List.length_map, List.length_take] at this; omega
    obtain ⟨v, i1, h1, e1, c1⟩ := draw_once h 4 hc (by omega) (by omega)
    cases v with
    | true =>
      obtain ⟨ts', ds, i', h', e, o⟩ := ih (j + 1) i1 h1 ts (by omega) c1 ⟨sub_skip hlt ho.sub, ho.b⟩
      refine ⟨ts', ds, i', h', ev_succ ?_, o⟩
      simp only [spec_l19Draw.l0, if_pos (show ((j : Int) < (N.length : Int)) by omega), e1, Option.bind_some, if_true, w64s j (by omega)]
      exact e
    | false =>
      obtain ⟨a, b, c, x, y, z, i2, h2, e2, k2, c2⟩ := drawtask h1 N[j] c1
      obtain ⟨ts', ds, i', h', e, o⟩ := ih (j + 1) i2 h2 (ts ++ [⟨N[j], a, b, c, ⟨x, y, z⟩⟩]) (by omega) c2 ⟨by rw [List.map_append]; exact sub_more hlt ho.sub, by
        intro t ht
        rcases List.mem_append.1 ht with ht | ht
        · exact ho.b t ht
        · obtain rfl := List.mem_singleton.1 ht
          exact k2⟩
      refine ⟨ts', ds, i', h', ev_succ ?_, o⟩
      simp only [spec_l19Draw.l0, if_pos (show ((j : Int) < (N.length : Int)) by omega), e1, Option.bind_some, Bool.false_eq_true, if_false, if_pos (show (0 : Int) ≤ (j : Int) by omega), e2, if_pos (show ts.length < 2199023255552 by omega), rdOf_at hlt, w64s j (by omega)]
      exact e
theorem draw19_ev {l : List Int} {i : Int} (h : Int) (hc : Cur l i) : ∃ ts cs ds p q r i' h', Ev (fun k => spec_l19Draw.f k l i h) (ts, cs, ds, p, q, r, i', h') ∧ TsOk ts tN ∧ CsOk cs cN ∧ (∃ m', DsOk r ds m') ∧ ds.length ≤ 3 ∧ (50 ≤ p ∧ p ≤ 149) ∧ (50 ≤ q ∧ q ≤ 149) ∧ (50 ≤ r ∧ r ≤ 149) ∧ Cur l i' := by
  obtain ⟨cs, i1, h1, e1, oc, c1⟩ := drawcarries_ev h hc
  obtain ⟨a, i2, h2, e2, a0, a1, c2⟩ := draw_below h1 100 c1 (by omega) (by omega)
  obtain ⟨b, i3, h3, e3, b0, b1, c3⟩ := draw_below h2 60 c2 (by omega) (by omega)
  obtain ⟨d, i4, h4, e4, d0, d1, c4⟩ := draw_below h3 100 c3 (by omega) (by omega)
  obtain ⟨ts, ds, i', h', e, o1, o2, o3, c⟩ := drawtasks_l cs (50 + a) (50 + b) (50 + d) (by omega) tN (by decide) 4 0 i4 h4 [] (by decide) c4 ⟨by simp, by simp⟩
  refine ⟨ts, cs, ds, 50 + a, 50 + b, 50 + d, i', h', ?_, o1, oc, o2, o3, by omega, by omega, by omega, c⟩
  simp only [spec_l19Draw.f]
  refine e1.bind ?_
  simp only [e2, e3, e4, Option.bind_some, w64 (n := 50 + a) (by omega) (by omega), w64 (n := 50 + b) (by omega) (by omega), w64 (n := 50 + d) (by omega) (by omega)]
  exact e
theorem draw_pickint_ {l : List Int} {i : Int} (h : Int) (hc : Cur l i) (xs : List Int) (h0 : 0 < xs.length) (h1 : xs.length ≤ 1000) : ∃ v i' h', spec_l1PickInt.f l i h xs = some (v, i', h') ∧ Cur l i' := by
  obtain ⟨v, i', h', e1, v0, v1, c1⟩ := draw_below h (xs.length : Int) hc (by omega) (by omega)
  unfold spec_l1PickInt.f
  rw [e1]
  simp only [Option.bind_some, if_pos v0, if_pos v1]
  exact ⟨_, _, _, rfl, c1⟩
theorem drawdeed_j {l : List Int} {i : Int} (h : Int) (hc : Cur l i) (a : Int) (n : ByteArray) (b c : Int) : ∃ (x : Int × ByteArray × Int × Int) (i' h' : Int), Ev (fun k => spec_l19DrawDeed.j0 k l i h a n b c) (x.1, x.2.1, x.2.2.1, x.2.2.2, i', h') ∧ Cur l i' := by
  obtain ⟨v, i1, h1, e1, v0, v1, c1⟩ := draw_below h 40 hc (by omega) (by omega)
  obtain ⟨x1, i2, h2, e2, c2⟩ := draw_pickint_ h1 c1 [0, 6] (by decide) (by decide)
  obtain ⟨x2, i3, h3, e3, _, c3⟩ := draw_pick h1 c1 [(⟨#[]⟩ : ByteArray), (⟨#[97, 32, 98]⟩ : ByteArray), (⟨#[110, 111, 110, 101]⟩ : ByteArray)] (by decide) (by decide)
  obtain ⟨x3, i4, h4, e4, c4⟩ := draw_pickint_ h1 c1 [0, (-1), 1000000, 1000001] (by decide) (by decide)
  obtain ⟨x4, i5, h5, e5, c5⟩ := draw_pickint_ h1 c1 [0, 100, 101, 9223372036854775807] (by decide) (by decide)
  by_cases k0 : v = 0
  · refine ⟨(x1, n, b, c), i2, h2, ev_succ ?_, c2⟩
    simp only [spec_l19DrawDeed.j0, e1, Option.bind_some, if_pos k0, e2]
    exact ev_now _
  by_cases k1 : v = 1
  · refine ⟨(a, x2, b, c), i3, h3, ev_succ ?_, c3⟩
    simp only [spec_l19DrawDeed.j0, e1, Option.bind_some, if_neg k0, if_pos k1, e3]
    exact ev_now _
  by_cases k2 : v = 2
  · refine ⟨(a, n, x3, c), i4, h4, ev_succ ?_, c4⟩
    simp only [spec_l19DrawDeed.j0, e1, Option.bind_some, if_neg k0, if_neg k1, if_pos k2, e4]
    exact ev_now _
  by_cases k3 : v = 3
  · refine ⟨(a, n, b, x4), i5, h5, ev_succ ?_, c5⟩
    simp only [spec_l19DrawDeed.j0, e1, Option.bind_some, if_neg k0, if_neg k1, if_neg k2, if_pos k3, e5]
    exact ev_now _
  · refine ⟨(a, n, b, c), i1, h1, ev_succ ?_, c1⟩
    simp only [spec_l19DrawDeed.j0, e1, Option.bind_some, if_neg k0, if_neg k1, if_neg k2, if_neg k3]
    exact ev_now _
theorem drawdeed_ev {l : List Int} {i : Int} (h : Int) (hc : Cur l i) : ∃ (x : Int × ByteArray × Int × Int) (i' h' : Int), Ev (fun k => spec_l19DrawDeed.f k l i h) (x.1, x.2.1, x.2.2.1, x.2.2.2, i', h') ∧ Cur l i' := by
  obtain ⟨a, i1, h1, e1, a0, a1, c1⟩ := draw_below h 5 hc (by omega) (by omega)
  obtain ⟨v, i2, h2, e2, hv, c2⟩ := draw_pick h1 c1 [(⟨#[101, 110, 103, 105, 110, 101]⟩ : ByteArray), (⟨#[102, 114, 97, 109, 101]⟩ : ByteArray), (⟨#[103, 101, 97, 114]⟩ : ByteArray), (⟨#[119, 105, 110, 103]⟩ : ByteArray), (⟨#[108, 97, 109, 112]⟩ : ByteArray), (⟨#[115, 101, 97, 116]⟩ : ByteArray)] (by decide) (by decide)
  obtain ⟨b, i3, h3, e3, b0, b1, c3⟩ := draw_below h2 12 c2 (by omega) (by omega)
  obtain ⟨c, i4, h4, e4, d0, d1, c4⟩ := draw_below h3 15 c3 (by omega) (by omega)
  obtain ⟨o, i5, h5, e5, c5⟩ := draw_once h4 3 c4 (by omega) (by omega)
  simp only [spec_l19DrawDeed.f, e1, e2, e3, e4, e5, Option.bind_some]
  cases o with
  | true => simp only [if_true]; exact drawdeed_j h5 c5 _ _ _ _
  | false => simp only [Bool.false_eq_true, if_false]; exact drawdeed_j h5 c5 _ _ _ _
theorem drawdeeds_l {l : List Int} (ts : List Tk) (cs : List Cr) (ds : List Df) (p q r : Int) (n : Nat) : ∀ (i h : Int) (xs : List S76), Cur l i → xs.length + n ≤ 100 → ∃ xs', Ev (fun k => spec_DrawFleet.l0 k xs (n : Int) l i h ts cs ds p q r) (ts, cs, ds, p, q, r, xs') := by
  induction n with
  | zero =>
    intro i h xs hc hn
    refine ⟨xs, ev_succ ?_⟩
    simp only [spec_DrawFleet.l0, if_neg (show ¬ (((0 : Nat) : Int) > 0) by omega)]
    exact ev_now _
  | succ n ih =>
    intro i h xs hc hn
    obtain ⟨x, i1, h1, e1, c1⟩ := drawdeed_ev h hc
    have w3 : wrap64 (((n + 1 : Nat) : Int) - 1) = (n : Int) := by rw [w64 (by omega) (by omega)]; omega
    obtain ⟨xs', e⟩ := ih i1 h1 (xs ++ [⟨x.1, x.2.1, x.2.2.1, x.2.2.2⟩]) c1 (by simp; omega)
    refine ⟨xs', ev_succ ?_⟩
    simp only [spec_DrawFleet.l0, if_pos (show ((n + 1 : Nat) : Int) > 0 by omega)]
    refine e1.bind ?_
    simp only [if_pos (show xs.length < 3518437208883 by omega), w3]
    exact e
theorem drawfleet_ev (l : List Int) (hl : l.length ≤ 1048576) : ∃ ts cs ds p q r xs, Ev (fun k => spec_DrawFleet.f k l) (ts, cs, ds, p, q, r, xs) ∧ TsOk ts tN ∧ CsOk cs cN ∧ (∃ m', DsOk r ds m') ∧ ds.length ≤ 3 ∧ (50 ≤ p ∧ p ≤ 149) ∧ (50 ≤ q ∧ q ≤ 149) ∧ (50 ≤ r ∧ r ≤ 149) := by
  obtain ⟨h0, e0⟩ := draw_new l hl
  obtain ⟨ts, cs, ds, p, q, r, i1, h1, e1, o1, o2, o3, o4, o5, o6, o7, c1⟩ := draw19_ev h0 (⟨hl, by omega, by omega⟩ : Cur l 0)
  obtain ⟨a, i2, h2, e2, a0, a1, c2⟩ := draw_below h1 25 c1 (by omega) (by omega)
  obtain ⟨xs, e3⟩ := drawdeeds_l ts cs ds p q r a.toNat i2 h2 [] c2 (by simp; omega)
  rw [show ((a.toNat : Nat) : Int) = a by omega] at e3
  refine ⟨ts, cs, ds, p, q, r, xs, ?_, o1, o2, o3, o4, o5, o6, o7⟩
  simp only [spec_DrawFleet.f]
  refine e0.bind ?_
  refine e1.bind ?_
  simp only [e2, Option.bind_some]
  exact e3
theorem rdiTask {l : List Tk} {i : Nat} (h : i < l.length) : rd_T33 l (i : Int) = l[i] := rd_at33 h
/-! The next task that is due. -/
abbrev Nx := ByteArray × Int × Bool
def dueAt (ts : List Tk) (p q r i : Int) : Bool × Int × Int × Int × Bool := due19 (rd_T33 ts i).f0 (rd_T33 ts i).f1 (rd_T33 ts i).f2 (rd_T33 ts i).f3 (rd_T33 ts i).f4.f0 (rd_T33 ts i).f4.f1 (rd_T33 ts i).f4.f2 p q r
def nxt1 (x : Tk) (D : Bool × Int × Int × Int × Bool) (s : Nx) : Nx :=
  if D.1 = true then s else if x.f2 > 0 then (if s.2.2 = true then (if D.2.2.1 < s.2.1 then (x.f0, D.2.2.1, true) else s) else (x.f0, D.2.2.1, true)) else s
def nxtFrom (ts : List Tk) (p q r : Int) : Nat → Nat → Nx → Nx
  | 0, _, s => s
  | d + 1, i, s => nxtFrom ts p q r d (i + 1) (nxt1 (rd_T33 ts (i : Int)) (dueAt ts p q r (i : Int)) s)
def next19 (ts : List Tk) (cs : List Cr) (ds : List Df) (p q r : Int) : Nx := if fleetB ts cs ds p q r = true then nxtFrom ts p q r ts.length 0 ((⟨#[]⟩ : ByteArray), 0, false) else ((⟨#[]⟩ : ByteArray), 0, false)
theorem tasksFrom_at {β : Int → Int → Int → Bool} {xs : List Tk} (d : Nat) : ∀ i, tasksFrom β xs d i = true → ∀ j : Nat, i ≤ j → j < i + d → taskAt β xs (j : Int) = true := by
  induction d with
  | zero => intro i _ j h1 h2; omega
  | succ d ih =>
    intro i h j h1 h2
    simp only [tasksFrom, Bool.and_eq_true] at h
    by_cases e : j = i
    · subst e; exact h.1
    · exact ih (i + 1) h.2 j (by omega) (by omega)
theorem fleet_name {ts : List Tk} {cs : List Cr} {ds : List Df} {p q r : Int} (h : fleetB ts cs ds p q r = true) (i : Nat) (hi : i < ts.length) : (rd_T33 ts (i : Int)).f0.toList ≠ [] := by
  simp only [fleetB, Bool.and_eq_true] at h
  have := tasksFrom_at ts.length 0 h.2.2.2.2.1 i (by omega) (by omega)
  simp only [taskAt, Bool.and_eq_true] at this
  have hn := (taskB_in this.1).1
  simp only [nameB, Bool.and_eq_true, inB_iff] at hn
  intro e
  rw [ByteArray.toList_eq] at e
  have hl : (rd_T33 ts (i : Int)).f0.data.toList.length = (rd_T33 ts (i : Int)).f0.size := by rw [Array.length_toList]; rfl
  rw [e] at hl
  simp only [List.length_nil] at hl
  omega
section
variable (ts : List Tk) (cs : List Cr) (ds : List Df) (p q r : Int) (ht : ts.length ≤ 140737488355328) (htx : ∀ x ∈ ts, x.f0.size ≤ 140737488355328) (hc : cs.length ≤ 140737488355328) (hcx : ∀ x ∈ cs, x.f0.size ≤ 140737488355328) (hn : ds.length ≤ 140737488355328) (hx : ∀ x ∈ ds, x.f0.size ≤ 140737488355328)
include ht htx hc hcx hn hx
omit hc hcx hn hx in
theorem impl_NextDue_l (hF : fleetB ts cs ds p q r = true) (d : Nat) : ∀ (i : Nat) (s : Nx), i + d = ts.length → s.2.2 = (s.1.toList != ([] : List UInt8)) → Ev (fun k => impl_NextDue.l0 k s.1 s.2.1 ts (ts.length : Int) (i : Int) ts cs ds p q r) (nxtFrom ts p q r d i s) := by
  induction d with
  | zero =>
    intro i s h ho
    refine ev_succ ?_
    simp only [impl_NextDue.l0, if_neg (show ¬ ((i : Int) < (ts.length : Int)) by omega)]
    refine ev_some ?_
    rw [← ho]
    rfl
  | succ d ih =>
    intro i s h ho
    have hlt : i < ts.length := by omega
    have hne := fleet_name hF i hlt
    have hs : (rd_T33 ts (i : Int)).f0.size ≤ 140737488355328 := by rw [rdiTask hlt]; exact htx _ (List.getElem_mem hlt)
    have hD := impl_Due19_ev _ hs (rd_T33 ts (i : Int)).f1 (rd_T33 ts (i : Int)).f2 (rd_T33 ts (i : Int)).f3 (rd_T33 ts (i : Int)).f4.f0 (rd_T33 ts (i : Int)).f4.f1 (rd_T33 ts (i : Int)).f4.f2 p q r
    refine ev_succ ?_
    simp only [impl_NextDue.l0, if_pos (show ((i : Int) < (ts.length : Int)) by omega), if_pos (show (0 : Int) ≤ (i : Int) by omega)]
    refine hD.bind ?_
    simp only [nxtFrom]
    change Ev _ (nxtFrom ts p q r d (i + 1) (nxt1 (rd_T33 ts (i : Int)) (due19 (rd_T33 ts (i : Int)).f0 (rd_T33 ts (i : Int)).f1 (rd_T33 ts (i : Int)).f2 (rd_T33 ts (i : Int)).f3 (rd_T33 ts (i : Int)).f4.f0 (rd_T33 ts (i : Int)).f4.f1 (rd_T33 ts (i : Int)).f4.f2 p q r) s))
    generalize due19 (rd_T33 ts (i : Int)).f0 (rd_T33 ts (i : Int)).f1 (rd_T33 ts (i : Int)).f2 (rd_T33 ts (i : Int)).f3 (rd_T33 ts (i : Int)).f4.f0 (rd_T33 ts (i : Int)).f4.f1 (rd_T33 ts (i : Int)).f4.f2 p q r = D
    have hj : ∀ b : Bool, Ev (fun k => impl_NextDue.j1 k s.1 s.2.1 ts (ts.length : Int) (i : Int) b ts cs ds p q r (rd_T33 ts (i : Int)).f0 (rd_T33 ts (i : Int)).f1 (rd_T33 ts (i : Int)).f2 (rd_T33 ts (i : Int)).f3 (rd_T33 ts (i : Int)).f4.f0 (rd_T33 ts (i : Int)).f4.f1 (rd_T33 ts (i : Int)).f4.f2 D.2.1 D.2.2.1 D.2.2.2.1) (nxtFrom ts p q r d (i + 1) (if b = true then ((rd_T33 ts (i : Int)).f0, D.2.2.1, true) else s)) := by
      intro b
      refine ev_succ ?_
      cases b with
      | true =>
        simp only [impl_NextDue.j1, if_true, w64s i (by omega)]
        exact ih (i + 1) ((rd_T33 ts (i : Int)).f0, D.2.2.1, true) (by omega) (by simp only; exact (bne_iff_ne.2 hne).symm)
      | false =>
        simp only [impl_NextDue.j1, Bool.false_eq_true, if_false, w64s i (by omega)]
        exact ih (i + 1) s (by omega) ho
    unfold nxt1
    by_cases d2 : (rd_T33 ts (i : Int)).f2 > 0
    · simp only [if_pos d2]
      by_cases d1 : D.1 = true
      · simp only [if_pos d1]
        simpa using hj false
      · simp only [if_neg d1]
        by_cases d3 : s.1.toList = ([] : List UInt8)
        · have e3 : s.2.2 = false := by rw [ho, d3]; rfl
          simp only [if_pos d3, e3, Bool.false_eq_true, if_false]
          simpa using hj true
        · have e3 : s.2.2 = true := by rw [ho]; exact bne_iff_ne.2 d3
          simp only [if_neg d3, e3, if_true]
          by_cases d4 : D.2.2.1 < s.2.1
          · simp only [if_pos d4]
            simpa [d4] using hj true
          · simp only [if_neg d4]
            simpa [d4] using hj false
    · simp only [if_neg d2, ite_self]
      simpa using hj false
theorem impl_NextDue_ev : Ev (fun k => impl_NextDue.f k ts cs ds p q r) (next19 ts cs ds p q r) := by
  simp only [impl_NextDue.f]
  have hz : fleetSzB ts cs ds = true := fleetSz_of.2 ⟨htx, hcx, hx, ht, hc, hn⟩
  simp only [impl_FleetOk.f, if_pos hz, Option.bind_some]
  unfold next19
  cases hF : fleetB ts cs ds p q r with
  | true =>
    simp only [if_true]
    exact impl_NextDue_l ts cs ds p q r ht htx hF ts.length 0 ((⟨#[]⟩ : ByteArray), 0, false) (by omega) (by rw [ByteArray.toList_eq]; rfl)
  | false =>
    simp only [Bool.false_eq_true, if_false]
    exact ev_now _
end
/-! A drawn fleet is in order. -/
theorem names_ok : ∀ n ∈ cN ++ tN, nameB n = true ∧ n.size ≤ 20 := by
  intro n hn
  simp only [List.mem_append, List.mem_cons, List.not_mem_nil, or_false] at hn
  rcases hn with (rfl | rfl | rfl | rfl) | rfl | rfl | rfl | rfl <;> exact ⟨by decide, by decide⟩
theorem dN_in {n : ByteArray} (h : n ∈ dN) : n ∈ cN := by
  simp only [List.mem_cons, List.not_mem_nil, or_false] at h ⊢
  rcases h with h | h | h | h | h <;> simp [h]
theorem pw_c : cN.Pairwise (fun a b => Op.bytesLess a.toList b.toList = true) := by simp [ByteArray.toList_eq]; decide
theorem pw_t : tN.Pairwise (fun a b => Op.bytesLess a.toList b.toList = true) := by simp [ByteArray.toList_eq]; decide
theorem ne_t : tN.Pairwise (fun a b => a.toList ≠ b.toList) := by simp [ByteArray.toList_eq]
theorem carryFrom_of {xs : List Cr} (h : ∀ i : Nat, i < xs.length → carryAt xs (i : Int) = true) (hl : xs.length ≤ 20) (d : Nat) : ∀ i, i + d = xs.length → carryFrom xs d i = true := by
  induction d with
  | zero => intro i _; simp only [carryFrom, decide_eq_true_eq]; omega
  | succ d ih => intro i hi; simp only [carryFrom, h i (by omega), ih (i + 1) (by omega), Bool.and_self]
theorem tasksFrom_of {β : Int → Int → Int → Bool} {xs : List Tk} (h : ∀ i : Nat, i < xs.length → taskAt β xs (i : Int) = true) (d : Nat) : ∀ i, i + d = xs.length → tasksFrom β xs d i = true := by
  induction d with
  | zero => intro i _; rfl
  | succ d ih => intro i hi; simp only [tasksFrom, h i (by omega), ih (i + 1) (by omega), Bool.and_self]
theorem defectsFrom_of {r : Int} {xs : List Df} (h : ∀ i : Nat, i < xs.length → defectAt r xs (i : Int) = true) (d : Nat) : ∀ i, i + d = xs.length → defectsFrom r xs d i = true := by
  induction d with
  | zero => intro i _; rfl
  | succ d ih => intro i hi; simp only [defectsFrom, h i (by omega), ih (i + 1) (by omega), Bool.and_self]
theorem in_of {a b c : Int} (h : b ≤ a ∧ a ≤ c) : inB a b c = true := inB_iff.2 h
theorem pred_ {i : Nat} (h : ¬ ¬ (i : Int) > 0) : ((i : Int) - 1) = ((i - 1 : Nat) : Int) := by omega
theorem carryB_of {cs : List Cr} (h : CsOk cs cN) : carryB cs = true := by
  have hl : cs.length ≤ 4 := by have := h.sub.length_le; simpa using this
  have hp := List.pairwise_map.1 (pw_c.sublist h.sub)
  refine carryFrom_of (fun i hi => ?_) (by omega) cs.length 0 (by omega)
  have hm : cs[i] ∈ cs := List.getElem_mem hi
  have hb := h.b _ hm
  have hn := (names_ok cs[i].f0 (List.mem_append_left _ (h.sub.subset (List.mem_map_of_mem hm)))).1
  simp only [carryAt, rd_at70 hi, hn, in_of (a := cs[i].f1) (b := 0) (c := 10) (by omega), in_of (a := cs[i].f2) (b := 0) (c := 120) (by omega), Bool.true_and]
  by_cases c : ¬ (i : Int) > 0
  · rw [decide_eq_true c, Bool.true_or]
  · have hi' : i - 1 < cs.length := by omega
    rw [pred_ c, rd_at70 hi', List.pairwise_iff_getElem.1 hp (i - 1) i hi' hi (by omega), Bool.or_true]
theorem fleet_of {ts : List Tk} {cs : List Cr} {ds : List Df} {p q r m : Int} (ht : TsOk ts tN) (hc : CsOk cs cN) (hd : DsOk r ds m) (hl : ds.length ≤ 3) (hp : 50 ≤ p ∧ p ≤ 149) (hq : 50 ≤ q ∧ q ≤ 149) (hr : 50 ≤ r ∧ r ≤ 149) : fleetB ts cs ds p q r = true ∧ fleetSzB ts cs ds = true := by
  have ht4 : ts.length ≤ 4 := by have := ht.sub.length_le; simpa using this
  have hc4 : cs.length ≤ 4 := by have := hc.sub.length_le; simpa using this
  have nt : ∀ t ∈ ts, nameB t.f0 = true ∧ t.f0.size ≤ 20 := fun t h => names_ok _ (List.mem_append_right _ (ht.sub.subset (List.mem_map_of_mem h)))
  have nc : ∀ t ∈ cs, nameB t.f0 = true ∧ t.f0.size ≤ 20 := fun t h => names_ok _ (List.mem_append_left _ (hc.sub.subset (List.mem_map_of_mem h)))
  have nd : ∀ t ∈ ds, nameB t.f0 = true ∧ t.f0.size ≤ 20 := fun t h => names_ok _ (List.mem_append_left _ (dN_in (hd.b t h).1))
  have htp := List.pairwise_map.1 (pw_t.sublist ht.sub)
  constructor
  · have e1 : clockB p q r = true := by unfold clockB; rw [in_of (by omega), in_of (by omega), in_of (by omega)]; rfl
    have e2 : tasksFrom (fun a b c => behindB a b c p q r) ts ts.length 0 = true := by
      refine tasksFrom_of (fun i hi => ?_) ts.length 0 (by omega)
      have hm : ts[i] ∈ ts := List.getElem_mem hi
      obtain ⟨b1, b2, b3, b4, b5, b6, b7⟩ := ht.b _ hm
      have k1 : taskB ts[i].f0 ts[i].f1 ts[i].f2 ts[i].f3 ts[i].f4.f0 ts[i].f4.f1 ts[i].f4.f2 = true := by
        unfold taskB clockB
        rw [(nt _ hm).1, in_of (a := ts[i].f1) (by omega), in_of (a := ts[i].f2) (by omega), in_of (a := ts[i].f3) (by omega), decide_eq_true b4, in_of (a := ts[i].f4.f0) (by omega), in_of (a := ts[i].f4.f1) (by omega), in_of (a := ts[i].f4.f2) (by omega)]
        rfl
      have k2 : behindB ts[i].f4.f0 ts[i].f4.f1 ts[i].f4.f2 p q r = true := by
        unfold behindB
        rw [decide_eq_true (show ts[i].f4.f0 ≤ p by omega), decide_eq_true (show ts[i].f4.f1 ≤ q by omega), decide_eq_true (show ts[i].f4.f2 ≤ r by omega)]
        rfl
      simp only [taskAt, rd_at33 hi, k1, k2, Bool.true_and]
      by_cases c : ¬ (i : Int) > 0
      · rw [decide_eq_true c, Bool.true_or]
      · have hi' : i - 1 < ts.length := by omega
        rw [pred_ c, rd_at33 hi', List.pairwise_iff_getElem.1 htp (i - 1) i hi' hi (by omega), Bool.or_true]
    have e3 : defectsFrom r ds ds.length 0 = true := by
      refine defectsFrom_of (fun i hi => ?_) ds.length 0 (by omega)
      have hm : ds[i] ∈ ds := List.getElem_mem hi
      have hb := hd.b _ hm
      have h0 := hd.m0
      simp only [defectAt, rd_at72 hi, (nd _ hm).1, in_of (a := ds[i].f1) (b := 1) (c := 1000000) (by omega), in_of (a := ds[i].f2) (b := 0) (c := r) (by omega), Bool.true_and, Bool.and_true]
      by_cases c : ¬ (i : Int) > 0
      · rw [decide_eq_true c, Bool.true_or]
      · have hi' : i - 1 < ds.length := by omega
        rw [pred_ c, rd_at72 hi', decide_eq_true (List.pairwise_iff_getElem.1 hd.s (i - 1) i hi' hi (by omega)), Bool.or_true]
    unfold fleetB
    rw [e1, carryB_of hc, decide_eq_true (show (ts.length : Int) ≤ 40 by omega), decide_eq_true (show (ds.length : Int) ≤ 20 by omega), e2, e3]
    rfl
  · exact fleetSz_of.2 ⟨fun x h => by have := (nt x h).2; omega, fun x h => by have := (nc x h).2; omega, fun x h => by have := (nd x h).2; omega, by omega, by omega, by omega⟩
/-! What the next one due is. -/
def Elig (ts : List Tk) (p q r : Int) (j : Nat) : Prop := (dueAt ts p q r (j : Int)).1 = false ∧ (rd_T33 ts (j : Int)).f2 > 0
structure NInv (ts : List Tk) (p q r : Int) (i : Nat) (s : Nx) : Prop where
  no : s.2.2 = false → s.1 = (⟨#[]⟩ : ByteArray)
  yes : s.2.2 = true → ∃ j, j < i ∧ s.1 = (rd_T33 ts (j : Int)).f0 ∧ Elig ts p q r j ∧ s.2.1 = (dueAt ts p q r (j : Int)).2.2.1
  most : s.2.2 = true → ∀ j, j < i → Elig ts p q r j → s.2.1 ≤ (dueAt ts p q r (j : Int)).2.2.1
  none : s.2.2 = false → ∀ j, j < i → ¬ Elig ts p q r j
theorem ninv_skip {ts : List Tk} {p q r : Int} {i : Nat} {s : Nx} (h : NInv ts p q r i s) (hn : ¬ Elig ts p q r i ∨ s.2.2 = true ∧ s.2.1 ≤ (dueAt ts p q r (i : Int)).2.2.1) : NInv ts p q r (i + 1) s := by
  refine ⟨h.no, fun hy => ?_, fun hy j hj he => ?_, fun hy j hj he => ?_⟩
  · obtain ⟨j, h1, h2⟩ := h.yes hy
    exact ⟨j, by omega, h2⟩
  · by_cases e : j = i
    · subst e
      rcases hn with hn | hn
      · exact absurd he hn
      · exact hn.2
    · exact h.most hy j (by omega) he
  · by_cases e : j = i
    · subst e
      rcases hn with hn | hn
      · exact hn he
      · rw [hy] at hn; exact absurd hn.1 (by decide)
    · exact h.none hy j (by omega) he
theorem ninv_take {ts : List Tk} {p q r : Int} {i : Nat} {s : Nx} (h : NInv ts p q r i s) (he : Elig ts p q r i) (hs : s.2.2 = true → (dueAt ts p q r (i : Int)).2.2.1 < s.2.1) : NInv ts p q r (i + 1) ((rd_T33 ts (i : Int)).f0, (dueAt ts p q r (i : Int)).2.2.1, true) := by
  refine ⟨fun hy => (nomatch hy), fun _ => ⟨i, by omega, rfl, he, rfl⟩, fun _ j hj hj2 => ?_, fun hy => (nomatch hy)⟩
  by_cases e : j = i
  · subst e; exact Int.le_refl _
  · cases hb : s.2.2 with
    | true => have h1 := h.most hb j (by omega) hj2; have h2 := hs hb; show (dueAt ts p q r (i : Int)).2.2.1 ≤ _; omega
    | false => exact absurd hj2 (h.none hb j (by omega))
theorem nxtFrom_inv (ts : List Tk) (p q r : Int) (d : Nat) : ∀ (i : Nat) (s : Nx), NInv ts p q r i s → NInv ts p q r (i + d) (nxtFrom ts p q r d i s) := by
  induction d with
  | zero => intro i s h; exact h
  | succ d ih =>
    intro i s h
    rw [show i + (d + 1) = (i + 1) + d by omega]
    simp only [nxtFrom]
    refine ih (i + 1) _ ?_
    unfold nxt1
    cases h1 : (dueAt ts p q r (i : Int)).1 with
    | true => rw [if_pos rfl]; exact ninv_skip h (Or.inl fun he => by have := he.1; rw [h1] at this; exact absurd this (by decide))
    | false =>
      rw [if_neg (by decide)]
      by_cases h2 : (rd_T33 ts (i : Int)).f2 > 0
      · rw [if_pos h2]
        cases h3 : s.2.2 with
        | false => rw [if_neg (by decide)]; exact ninv_take h ⟨h1, h2⟩ (fun hh => by rw [h3] at hh; exact absurd hh (by decide))
        | true =>
          rw [if_pos rfl]
          by_cases h4 : (dueAt ts p q r (i : Int)).2.2.1 < s.2.1
          · rw [if_pos h4]; exact ninv_take h ⟨h1, h2⟩ (fun _ => h4)
          · rw [if_neg h4]; exact ninv_skip h (Or.inr ⟨h3, by omega⟩)
      · rw [if_neg h2]; exact ninv_skip h (Or.inl fun he => h2 he.2)
section
variable {ts : List Tk} {cs : List Cr} {ds : List Df} {p q r : Int} (hF : fleetB ts cs ds p q r = true) (hz : fleetSzB ts cs ds = true)
include hF hz
omit hF hz in
theorem free_none (hx : (releaseF ts cs ds p q r).1 = 0) : (∀ i : Nat, i < ts.length → (dueAt ts p q r (i : Int)).1 = false) ∧ ds.any (rel1 cs) = false ∧ ds.any (rel3 cs r) = false := by
  unfold releaseF at hx
  cases hf : ts.find? (relT p q r) with
  | some t => rw [hf] at hx; exact absurd hx (by simp)
  | none =>
    rw [hf] at hx
    simp only at hx
    refine ⟨fun i hi => ?_, ?_⟩
    · have := List.find?_eq_none.1 hf ts[i] (List.getElem_mem hi)
      unfold dueAt
      rw [rd_at33 hi]
      exact Bool.eq_false_iff.2 this
    · cases a1 : ds.any (rel1 cs) with
      | true => rw [a1, if_pos rfl] at hx; exact absurd hx (by simp)
      | false =>
        rw [a1, if_neg (by decide)] at hx
        cases a2 : ds.any (rel2 cs ds) with
        | true => rw [a2, if_pos rfl] at hx; exact absurd hx (by simp)
        | false =>
          rw [a2, if_neg (by decide)] at hx
          cases a3 : ds.any (rel3 cs r) with
          | true => rw [a3, if_pos rfl] at hx; exact absurd hx (by simp)
          | false => exact ⟨rfl, rfl⟩
omit hz in
theorem due_fine (i : Nat) (hi : i < ts.length) : (dueAt ts p q r (i : Int)).2.2.2.2 = true := by
  have h := hF
  simp only [fleetB, Bool.and_eq_true] at h
  have hb := tasksFrom_at ts.length 0 h.2.2.2.2.1 i (by omega) (by omega)
  simp only [taskAt, Bool.and_eq_true] at hb
  unfold dueAt due19
  rw [if_pos (by rw [hb.1, h.1, hb.2.1]; rfl)]
omit hz in
theorem on_list (hx : (releaseF ts cs ds p q r).1 = 0) (i : Nat) (hi : i < ds.length) : ∃ m : Nat, m < cs.length ∧ (rd_T70 cs (m : Int)).f0.toList = (rd_T72 ds (i : Int)).f0.toList ∧ wrap64 (r - (rd_T72 ds (i : Int)).f2) ≤ (rd_T70 cs (m : Int)).f2 := by
  obtain ⟨_, h1, h3⟩ := free_none hx
  have hm : ds[i] ∈ ds := List.getElem_mem hi
  have k1 := List.any_eq_false.1 h1 ds[i] hm
  have k3 := List.any_eq_false.1 h3 ds[i] hm
  have hd := (fleet_days hF).2.2 ds[i] hm
  have hr := (fleet_days hF).1
  unfold rel1 at k1
  unfold rel3 at k3
  simp only [decide_eq_true_eq] at k1 k3
  rw [rd_at72 hi, w64 (by omega) (by omega)]
  rcases ixOf_ways (fun c : Cr => c.f0.toList == ds[i].f0.toList) cs with ⟨e1, e2⟩ | ⟨m, hm, e1, e2, e3⟩
  · unfold cix at k1; rw [e1] at k1; omega
  · refine ⟨m, hm, ?_, ?_⟩
    · rw [rd_at70 hm]; exact beq_iff_eq.1 e3
    · unfold cix at k3; rw [e1] at k3; omega
omit hF hz in
theorem carried_l2 (X : Int) (n : ByteArray) (ok : Bool) (i : Nat) (hi : i < ds.length) (b : Bool) (hl : cs.length ≤ 1000000) (hn : ds.length ≤ 1000000)
    (hnext : Ev (fun k => laws_FnCarried.l1 k X n ok ((i + 1 : Nat) : Int) ts cs ds p q r) b) (d : Nat) : ∀ (j : Nat) (on : Bool), j + d = cs.length →
      (on = true ∨ ∃ m : Nat, j ≤ m ∧ m < cs.length ∧ (rd_T70 cs (m : Int)).f0.toList = (rd_T72 ds (i : Int)).f0.toList ∧ wrap64 (r - (rd_T72 ds (i : Int)).f2) ≤ (rd_T70 cs (m : Int)).f2) →
      Ev (fun k => laws_FnCarried.l2 k X n ok (i : Int) on (j : Int) ts cs ds p q r) b := by
  induction d with
  | zero =>
    intro j on hj h
    have ht : on = true := by
      rcases h with h | ⟨m, h1, h2, _⟩
      · exact h
      · omega
    subst ht
    refine ev_succ ?_
    simp only [laws_FnCarried.l2, if_neg (show ¬ ((j : Int) < (cs.length : Int)) by omega), if_true, w64s i (by omega)]
    exact hnext
  | succ d ih =>
    intro j on hj h
    refine ev_succ ?_
    cases on with
    | true =>
      simp only [laws_FnCarried.l2, if_pos (show ((j : Int) < (cs.length : Int)) by omega), if_true, w64s j (by omega)]
      exact ih (j + 1) true (by omega) (Or.inl rfl)
    | false =>
      obtain ⟨m, h1, h2, h3, h4⟩ : ∃ m : Nat, j ≤ m ∧ m < cs.length ∧ (rd_T70 cs (m : Int)).f0.toList = (rd_T72 ds (i : Int)).f0.toList ∧ wrap64 (r - (rd_T72 ds (i : Int)).f2) ≤ (rd_T70 cs (m : Int)).f2 := by
        rcases h with h | h
        · exact absurd h (by decide)
        · exact h
      simp only [laws_FnCarried.l2, if_pos (show ((j : Int) < (cs.length : Int)) by omega), Bool.false_eq_true, if_false, if_pos (show (0 : Int) ≤ (j : Int) by omega), if_pos (show (0 : Int) ≤ (i : Int) by omega), if_pos (show (i : Int) < (ds.length : Int) by omega), w64s j (by omega)]
      by_cases e : m = j
      · subst e
        simp only [if_pos h3, decide_eq_true h4]
        exact ih (m + 1) true (by omega) (Or.inl rfl)
      · by_cases e2 : (rd_T70 cs (j : Int)).f0.toList = (rd_T72 ds (i : Int)).f0.toList
        · simp only [if_pos e2]
          exact ih (j + 1) _ (by omega) (Or.inr ⟨m, by omega, h2, h3, h4⟩)
        · simp only [if_neg e2]
          exact ih (j + 1) false (by omega) (Or.inr ⟨m, by omega, h2, h3, h4⟩)
omit hz in
theorem carried_l1 (n : ByteArray) (ok : Bool) (hl : cs.length ≤ 1000000) (hn : ds.length ≤ 1000000) (ho : (ok == (n.toList != ([] : List UInt8))) = true) (d : Nat) : ∀ i : Nat, i + d = ds.length → Ev (fun k => laws_FnCarried.l1 k (releaseF ts cs ds p q r).1 n ok (i : Int) ts cs ds p q r) true := by
  have out : ∀ i : Nat, Ev (fun k => laws_FnCarried.j6 k (releaseF ts cs ds p q r).1 n ok (i : Int) false ts cs ds p q r) true := by
    intro i
    refine ev_succ ?_
    simp only [laws_FnCarried.j6, Bool.false_eq_true, if_false]
    exact ev_some ho
  induction d with
  | zero =>
    intro i hi
    refine ev_succ ?_
    simp only [laws_FnCarried.l1, if_neg (show ¬ ((i : Int) < (ds.length : Int)) by omega)]
    exact out i
  | succ d ih =>
    intro i hi
    refine ev_succ ?_
    simp only [laws_FnCarried.l1, if_pos (show ((i : Int) < (ds.length : Int)) by omega)]
    cases hx : ((releaseF ts cs ds p q r).1 == 0) with
    | false => exact out i
    | true =>
      refine ev_succ ?_
      simp only [laws_FnCarried.j6, if_true]
      obtain ⟨m, h1, h2, h3⟩ := on_list hF (beq_iff_eq.1 hx) i (by omega)
      exact carried_l2 _ n ok i (by omega) true hl hn (ih (i + 1) (by omega)) cs.length 0 false (by omega) (Or.inr ⟨m, by omega, h1, h2, h3⟩)
theorem carried_l0 (s : Nx) (hs : NInv ts p q r ts.length s) (hd : ∀ i j : Nat, i < ts.length → j < ts.length → (rd_T33 ts (i : Int)).f0.toList = (rd_T33 ts (j : Int)).f0.toList → i = j) (hl : ts.length ≤ 1000000)
    (hout : Ev (fun k => laws_FnCarried.l1 k (releaseF ts cs ds p q r).1 s.1 s.2.2 0 ts cs ds p q r) true) (d : Nat) : ∀ i : Nat, i + d = ts.length → Ev (fun k => laws_FnCarried.l0 k (releaseF ts cs ds p q r).1 s.1 s.2.1 s.2.2 (i : Int) ts cs ds p q r) true := by
  induction d with
  | zero =>
    intro i hi
    refine ev_succ ?_
    simp only [laws_FnCarried.l0, if_neg (show ¬ ((i : Int) < (ts.length : Int)) by omega)]
    exact hout
  | succ d ih =>
    intro i hi
    have hlt : i < ts.length := by omega
    have hsz : (rd_T33 ts (i : Int)).f0.size ≤ 140737488355328 := by rw [rd_at33 hlt]; exact (fleetSz_of.1 hz).t _ (List.getElem_mem hlt)
    have hD := impl_Due19_ev _ hsz (rd_T33 ts (i : Int)).f1 (rd_T33 ts (i : Int)).f2 (rd_T33 ts (i : Int)).f3 (rd_T33 ts (i : Int)).f4.f0 (rd_T33 ts (i : Int)).f4.f1 (rd_T33 ts (i : Int)).f4.f2 p q r
    change Ev _ (dueAt ts p q r (i : Int)) at hD
    have hfine := due_fine hF i hlt
    have hne := fleet_name hF i hlt
    have hfree : (dueAt ts p q r (i : Int)).1 = true → ((releaseF ts cs ds p q r).1 == 0) = false := by
      intro h
      cases hx : ((releaseF ts cs ds p q r).1 == 0) with
      | false => rfl
      | true => have := (free_none (beq_iff_eq.1 hx)).1 i hlt; rw [h] at this; exact absurd this (by decide)
    have hE : Elig ts p q r i ↔ (dueAt ts p q r (i : Int)).1 = false ∧ (rd_T33 ts (i : Int)).f2 > 0 := Iff.rfl
    have hsame : (rd_T33 ts (i : Int)).f0.toList = s.1.toList → s.2.2 = true ∧ Elig ts p q r i ∧ s.2.1 = (dueAt ts p q r (i : Int)).2.2.1 := by
      intro e
      cases ho : s.2.2 with
      | false => rw [hs.no ho] at e; exact absurd (e.trans (by rw [ByteArray.toList_eq])) hne
      | true =>
        obtain ⟨j, h1, h2, h3, h4⟩ := hs.yes ho
        rw [h2] at e
        obtain rfl := hd i j hlt h1 e
        exact ⟨rfl, h3, h4⟩
    have hmost : s.2.2 = true → Elig ts p q r i → s.2.1 ≤ (dueAt ts p q r (i : Int)).2.2.1 := fun h h' => hs.most h i hlt h'
    refine ev_succ ?_
    simp only [laws_FnCarried.l0, if_pos (show ((i : Int) < (ts.length : Int)) by omega), if_pos (show (0 : Int) ≤ (i : Int) by omega)]
    refine hD.bind ?_
    generalize dueAt ts p q r (i : Int) = D at *
    simp only [if_pos hfine]
    have j4 : Ev (fun k => laws_FnCarried.j4 k (releaseF ts cs ds p q r).1 s.1 s.2.1 s.2.2 (i : Int) false ts cs ds p q r) true := by
      refine ev_succ ?_
      simp only [laws_FnCarried.j4, Bool.false_eq_true, if_false, w64s i (by omega)]
      exact ih (i + 1) (by omega)
    have j3 : Ev (fun k => laws_FnCarried.j3 k (releaseF ts cs ds p q r).1 s.1 s.2.1 s.2.2 (i : Int) D.1 false ts cs ds p q r D.2.1 D.2.2.1 D.2.2.2.1) true := by
      refine ev_succ ?_
      simp only [laws_FnCarried.j3, Bool.false_eq_true, if_false]
      cases ho : s.2.2 with
      | false => simp only [Bool.false_eq_true, if_false]; rw [ho] at j4; exact j4
      | true =>
        rw [ho] at j4
        simp only [if_true]
        cases h1 : D.1 with
        | true => simp only [if_true]; exact j4
        | false =>
          simp only [Bool.false_eq_true, if_false, if_pos (show (0 : Int) ≤ (i : Int) by omega), if_pos (show ((i : Int) < (ts.length : Int)) by omega)]
          by_cases h2 : (rd_T33 ts (i : Int)).f2 > 0
          · have h3 := hmost ho (hE.2 ⟨h1, h2⟩)
            simp only [if_pos h2, decide_eq_false (show ¬ D.2.2.1 < s.2.1 by omega)]
            exact j4
          · simp only [if_neg h2]; exact j4
    have j2 : Ev (fun k => laws_FnCarried.j2 k (releaseF ts cs ds p q r).1 s.1 s.2.1 s.2.2 (i : Int) D.1 false ts cs ds p q r D.2.1 D.2.2.1 D.2.2.2.1) true := by
      refine ev_succ ?_
      simp only [laws_FnCarried.j2, Bool.false_eq_true, if_false, if_pos (show (0 : Int) ≤ (i : Int) by omega), if_pos (show ((i : Int) < (ts.length : Int)) by omega)]
      by_cases e : (rd_T33 ts (i : Int)).f0.toList = s.1.toList
      · obtain ⟨ho, hel, h4⟩ := hsame e
        have h1 := (hE.1 hel).1
        rw [ho, h1] at j3
        simp only [if_pos e, ho, h1, if_true, Bool.false_eq_true, if_false, show (D.2.2.1 != s.2.1) = false by rw [h4]; exact bne_self_eq_false _]
        exact j3
      · simp only [if_neg e]; exact j3
    cases h1 : D.1 with
    | true => simp only [if_true, hfree h1]; rw [h1] at j2; exact j2
    | false => simp only [Bool.false_eq_true, if_false]; rw [h1] at j2; exact j2
end
theorem FnCarried (l0 : List (Int)) (g0 : (l0.length * 1 ≤ 140737488351232 ∧ ∀ x ∈ l0, (Lit.int .u8 x).wf = true)) : ∃ k, laws_FnCarried.f k l0 = some true := by
  by_cases hl : (l0.length : Int) > 1048576
  · exact ⟨0, by simp only [laws_FnCarried.f, laws_big.f, Option.bind_some, if_pos (decide_eq_true hl)]⟩
  · refine Ev.rounds ?_
    simp only [laws_FnCarried.f, laws_big.f, Option.bind_some, decide_eq_false hl, Bool.false_eq_true, if_false]
    obtain ⟨ts, cs, ds, p, q, r, xs, e0, o1, o2, ⟨m, o3⟩, o4, o5, o6, o7⟩ := drawfleet_ev l0 (by omega)
    obtain ⟨hF, hz⟩ := fleet_of o1 o2 o3 o4 o5 o6 o7
    refine e0.bind ?_
    have hR : releaseB ts cs ds p q r = releaseF ts cs ds p q r := by unfold releaseB; rw [if_pos hF]
    simp only [impl_Release.f, spec_Release.f, if_pos hz, Option.bind_some, hR, if_true, bne_self_eq_false]
    refine ev_succ ?_
    simp only [laws_FnCarried.j0, Bool.false_eq_true, if_false]
    have sz := fleetSz_of.1 hz
    refine (impl_NextDue_ev ts cs ds p q r sz.tn sz.t sz.cn sz.c sz.dn sz.d).bind ?_
    have hN : next19 ts cs ds p q r = nxtFrom ts p q r ts.length 0 ((⟨#[]⟩ : ByteArray), 0, false) := by unfold next19; rw [if_pos hF]
    have hI := nxtFrom_inv ts p q r ts.length 0 ((⟨#[]⟩ : ByteArray), 0, false) ⟨fun _ => rfl, fun h => absurd h (by decide), fun h => absurd h (by decide), fun _ j hj => by omega⟩
    rw [Nat.zero_add] at hI
    rw [hN]
    generalize nxtFrom ts p q r ts.length 0 ((⟨#[]⟩ : ByteArray), 0, false) = s at hI
    have ht4 : ts.length ≤ 4 := by have := o1.sub.length_le; simpa using this
    have hc4 : cs.length ≤ 4 := by have := o2.sub.length_le; simpa using this
    have hpw := List.pairwise_map.1 (ne_t.sublist o1.sub)
    have hd : ∀ i j : Nat, i < ts.length → j < ts.length → (rd_T33 ts (i : Int)).f0.toList = (rd_T33 ts (j : Int)).f0.toList → i = j := by
      intro i j hi hj e
      rw [rd_at33 hi, rd_at33 hj] at e
      rcases Nat.lt_trichotomy i j with h | h | h
      · exact absurd e (List.pairwise_iff_getElem.1 hpw i j hi hj h)
      · exact h
      · exact absurd e.symm (List.pairwise_iff_getElem.1 hpw j i hj hi h)
    have ho : (s.2.2 == (s.1.toList != ([] : List UInt8))) = true := by
      cases hb : s.2.2 with
      | false => rw [hI.no hb, ByteArray.toList_eq]; rfl
      | true =>
        obtain ⟨j, h1, h2, _⟩ := hI.yes hb
        rw [h2, bne_iff_ne.2 (fleet_name hF j h1)]
        rfl
    exact carried_l0 hF hz s hI hd (by omega) (carried_l1 hF s.1 s.2.2 (by omega) (by omega) ho ds.length 0 (by omega)) ts.length 0 (by omega)
end Go.Proofs.Ytbgdibbgngpggaa.Pure
