/- How an argument's data read, kind by kind: whole numbers, bools, strings, slices and structs of these, as deep as one likes. No function of the program in sight. -/
import Derived.Test.YtdimdlifjdbgnaaGreatWMore
import Derived.ProofKit
import Derived.Deep.Slices
import Derived.Deep.Fields
import Derived.SizedLaws
set_option linter.unusedVariables false
set_option linter.unusedSimpArgs false
namespace Go.Proofs.YtdimdlifjdbgnaaGreat.Opens
open Go.RowKit Go.ChangeShapes Go.WideShapes Go.Deep Go.Proofs.YtdimdlifjdbgnaaGreatW.PrintWords

/-- Whatever reads as data of type t is of kind d, and good. -/
def Opens {α : Type} (P : Program) (t : TypeId) (d : Kd α) (good : α → Prop) : Prop :=
  ∀ {H : Type} (enc : TypeId × Value → H) (w : World) (base : Nat) (spare : Nat → Bool) (held : Bool) (fuel : Nat) (cs : List Value) (x : DataW H × List MemPlace),
    DataW.trod enc P w base spare held fuel t cs = some x → (∀ n ∈ x.1.weights P t, n ≤ reachBytes) → ∃ a, d.K w a cs ∧ good a

variable {P : Program} {t e : TypeId}
theorem opens_int {k : IntKind} (ht : P.underlying t = some (.int k)) : Opens P t (Kd.int k) (fun n => (Lit.int k n).wf = true) := by
  intro H enc w base spare held fuel cs x h hz
  obtain ⟨n, rfl, _, hw⟩ := DataW.trod_int ht h
  exact ⟨n, rfl, hw⟩
theorem opens_bool (ht : P.underlying t = some .bool) : Opens P t Kd.bool (fun _ => True) := by
  intro H enc w base spare held fuel cs x h hz
  obtain ⟨b, rfl, _⟩ := DataW.trod_bool ht h
  exact ⟨b, rfl, trivial⟩
theorem opens_string (ht : P.underlying t = some .string) : Opens P t Kd.string (fun s => s.size ≤ 140737488351232) := by
  intro H enc w base spare held fuel cs x h hz
  obtain ⟨s, rfl, rfl, hs⟩ := DataW.trod_string ht h
  refine ⟨s, rfl, ?_⟩
  have := hz s.data.toList.length (by simp [DataW.weights])
  simpa [reachBytes] using this
theorem mem_all {H : Type} : ∀ {l : List (DataW H)} {d : DataW H}, d ∈ l → ∀ n ∈ d.weights P t, n ∈ DataW.weightsAll P t l
  | d0 :: l, d, hd, n, hn => by
    simp only [DataW.weightsAll, List.mem_append]
    rcases List.mem_cons.1 hd with rfl | hd
    · exact .inl hn
    · exact .inr (mem_all hd n hn)
theorem choose_list {α : Type} (n : Nat) (p : Nat → α → Prop) (h : ∀ i, i < n → ∃ a, p i a) : ∃ l : List α, l.length = n ∧ ∀ i a, l[i]? = some a → p i a := by
  induction n with
  | zero => exact ⟨[], rfl, fun i a ha => by simp at ha⟩
  | succ n ih =>
    obtain ⟨l, hl, hp⟩ := ih (fun i hi => h i (by omega))
    obtain ⟨a, ha⟩ := h n (by omega)
    refine ⟨l ++ [a], by simp [hl], fun i b hb => ?_⟩
    rcases Nat.lt_or_ge i n with hi | hi
    · exact hp i b (by rw [List.getElem?_append_left (by omega)] at hb; exact hb)
    · rw [List.getElem?_append_right (by omega)] at hb
      have hi' : i = n := by
        have := (List.getElem?_eq_some_iff.1 hb).1
        simp at this
        omega
      subst hi'
      simp [hl] at hb
      subst hb
      exact ha
theorem opens_slice {α : Type} {d : Kd α} {good : α → Prop} (ht : P.underlying t = some (.slice e)) (hc : P.cellsOf e = d.sz) (ho : Opens P e d good) (n : Nat) {B : Nat} (hB : P.bytesOf e = B) : Opens P t (Kd.slice n d) (fun xs => xs.length * B ≤ 140737488351232 ∧ ∀ x ∈ xs, good x) := by
  intro H enc w base spare held fuel cs x h hz
  rcases open_slice ht h with ⟨rfl, _⟩ | ⟨a, len, cap, m, f, D, Pl, rfl, hb, hl, hm, hmm, rfl, hx⟩
  · exact ⟨[], ⟨none, 0, rfl, Nat.le_refl _, Kd.C_nil d w⟩, by simp, by simp⟩
  · have hlm : len ≤ m := by rw [hmm]; split <;> omega
    obtain ⟨l, hll, hp⟩ := choose_list (α := α) len (fun i y => good y ∧ ∃ c, c.length = d.sz ∧ d.K w y c ∧ ∀ j u, c[j]? = some u → w.cell? (a.add (i * d.sz + j)) = some u) (fun i hi => by
      obtain ⟨cs', h1, h2⟩ := hx i (by omega)
      obtain ⟨y, hk, hg⟩ := ho enc w base spare held f cs' _ h2 (fun q hq => hz q (by
        simp only [DataW.weights, ht, List.mem_cons, List.mem_append]
        exact .inr (.inl (mem_all (List.mem_map.2 ⟨i, by simpa using hi, rfl⟩) q hq))))
      obtain ⟨_, hcl, hat⟩ := World.cells?_some h1
      rw [hc] at hcl hat
      refine ⟨y, hg, cs', hcl, hk, fun j u hu => ?_⟩
      have hj : j < d.sz := by rw [← hcl]; exact (List.getElem?_eq_some_iff.1 hu).1
      rw [← Go.Deep.add_add, hat j hj]
      exact hu)
    refine ⟨l, ⟨some a, cap, by rw [hll], by rw [hll]; exact hl, ?_⟩, ?_, fun y hy => ?_⟩
    · refine ⟨rfl, by rw [hll]; unfold maxLen at hm; omega, fun _ => ⟨a, rfl, fun j p hj => ?_⟩⟩
      obtain ⟨_, c, h1, h2, h3⟩ := hp j p hj
      exact ⟨c, h1, h2, h3⟩
    · have h1 := hz _ (by simp only [DataW.weights, ht]; exact List.mem_cons_self)
      simp only [List.length_map, List.length_range, hB, reachBytes] at h1
      rw [hll]
      exact Nat.le_trans (Nat.mul_le_mul_right _ (by omega)) h1
    · obtain ⟨i, hi⟩ := List.getElem?_of_mem hy
      exact (hp i y hi).1
/-- The fields of a struct from one on, in line. -/
def OpensFs {α : Type} (P : Program) (fs : List Field) (off : Nat) (d : Kd α) (good : α → Prop) : Prop :=
  ∀ {H : Type} (enc : TypeId × Value → H) (w : World) (base : Nat) (spare : Nat → Bool) (held : Bool) (n : Nat) (cs : List Value),
    (∀ f ∈ fs, ∃ y, DataW.trod enc P w base spare held n f.type ((cs.drop f.offset).take (P.cellsOf f.type)) = some y ∧ ∀ n ∈ y.1.weights P f.type, n ≤ reachBytes) → ∃ a, d.K w a ((cs.drop off).take d.sz) ∧ good a
theorem fs_last {α : Type} {d : Kd α} {good : α → Prop} {f : Field} {off : Nat} (h : Opens P f.type d good) (hf : f.offset = off) (hc : P.cellsOf f.type = d.sz) : OpensFs P [f] off d good := by
  intro H enc w base spare held n cs hx
  obtain ⟨y, hy, hz⟩ := hx f (by simp)
  rw [hf, hc] at hy
  exact h enc w base spare held n _ _ hy hz
theorem fs_cons {α β : Type} {d : Kd α} {d' : Kd β} {good : α → Prop} {good' : β → Prop} {f : Field} {fs : List Field} {off : Nat} (h : Opens P f.type d good) (hf : f.offset = off) (hc : P.cellsOf f.type = d.sz) (hr : OpensFs P fs (off + d.sz) d' good') :
    OpensFs P (f :: fs) off (Kd.pair d d') (fun x => good x.1 ∧ good' x.2) := by
  intro H enc w base spare held n cs hx
  obtain ⟨y, hy, hz⟩ := hx f (by simp)
  rw [hf, hc] at hy
  obtain ⟨a, ha, ga⟩ := h enc w base spare held n _ _ hy hz
  obtain ⟨b, hb, gb⟩ := hr enc w base spare held n cs (fun f' hf' => hx f' (by simp [hf']))
  refine ⟨(a, b), ⟨_, _, ?_, ha, hb⟩, ga, gb⟩
  show List.take (d.sz + d'.sz) (List.drop off cs) = _
  rw [List.take_add, List.drop_drop]
theorem opens_struct {α : Type} {d : Kd α} {good : α → Prop} {fs : Array Field} (ht : P.underlying t = some (.struct fs)) (hc : P.cellsOf t = d.sz) (h : OpensFs P fs.toList 0 d good) : Opens P t d good := by
  intro H enc w base spare held fuel cs x hx hz
  obtain ⟨xs, n, _, rfl, hlen, hxl, hf⟩ := DataW.trod_struct ht hx
  obtain ⟨a, ha, hg⟩ := h enc w base spare held n cs (fun f hf' => by
    obtain ⟨i, hi⟩ := List.getElem?_of_mem hf'
    have hi' : fs[i]? = some f := by simpa using hi
    have hlt : i < xs.length := by rw [hxl]; exact (Array.getElem?_eq_some_iff.1 hi').1
    refine ⟨_, (hf i f hi').trans (List.getElem?_eq_getElem hlt), fun q hq => hz q ?_⟩
    simp only [DataW.weights, ht]
    exact DataW.weights_mem_each (j := i) (by rw [List.getElem?_map, hi]; rfl) (by rw [List.getElem?_map, List.getElem?_eq_getElem hlt]; rfl) q hq)
  refine ⟨a, ?_, hg⟩
  rw [List.drop_zero, List.take_of_length_le (by omega)] at ha
  exact ha
/-- The same, told as a structure. -/
theorem opens_iso {α β : Type} {d : Kd α} {d' : Kd β} {good : α → Prop} {good' : β → Prop} {g : α → β} (hk : ∀ w (a : α), ∀ cs, d.K w a cs → d'.K w (g a) cs) (hs : d'.sz = d.sz) (h : Opens P t d good) (hg : ∀ a, good a → good' (g a) := by exact fun _ h => h) : Opens P t d' good' := by
  intro H enc w base spare held fuel cs x hx hz
  obtain ⟨a, ha, hga⟩ := h enc w base spare held fuel cs x hx hz
  exact ⟨g a, hk w a cs (by simpa using ha), hg a hga⟩
/-- A struct's own fields stand in line with those behind it: the same, told flat. -/
theorem opens_flat {α β γ : Type} {a : Kd α} {b : Kd β} {c : Kd γ} {fs : List Field} {off : Nat} {good : (α × β) × γ → Prop} (h : OpensFs P fs off (Kd.pair (Kd.pair a b) c) good) : OpensFs P fs off (Kd.pair a (Kd.pair b c)) (fun x => good ((x.1, x.2.1), x.2.2)) := by
  intro H enc w base spare held n cs hx
  obtain ⟨⟨⟨x, y⟩, z⟩, ⟨c0, c1, e, ⟨c2, c3, rfl, h2, h3⟩, h1⟩, hg⟩ := h enc w base spare held n cs hx
  have es : (Kd.pair a (Kd.pair b c)).sz = (Kd.pair (Kd.pair a b) c).sz := (Nat.add_assoc _ _ _).symm
  refine ⟨(x, (y, z)), ?_, hg⟩
  rw [es, e]
  exact ⟨c2, c3 ++ c1, List.append_assoc _ _ _, h2, c3, c1, rfl, h3, h1⟩
end Go.Proofs.YtdimdlifjdbgnaaGreat.Opens
