import Derived.Test.YtdimdlifjdbgnaaGreatPFnExactRunWorkx5
namespace Go.Proofs.YtdimdlifjdbgnaaGreat.PFnExactRunWork
open Go.RowKit Go.Proofs.YtdimdlifjdbgnaaGreatW.PrintWords Go.Proofs.YtdimdlifjdbgnaaGreatW.PrintLast Go.Proofs.YtdimdlifjdbgnaaGreatW.PrintMore Go.Proofs.YtdimdlifjdbgnaaGreat.Sq
attribute [local go_sem] max2_int min2_int max_two min_two max_three min_three max_four min_four
set_option linter.unusedVariables false
set_option linter.unusedSimpArgs false

-- HAND FROM
open Go.Proofs.YtdimdlifjdbgnaaGreat.Base Go.Proofs.YtdimdlifjdbgnaaGreat.Sq
def cmpI (a b : Int) : Int := if a < b then -1 else if b < a then 1 else 0
def bsHit {α : Type} (f : α → Int) (l : List α) (m : Nat) : Bool := match l[m]? with | some x => f x == 0 | none => false
/-! ### Order, and the place where a list parts (plain) -/
theorem cmp_lt : ∀ a b : List UInt8, Lib.compareBytes a b < 0 ↔ Op.bytesLess a b = true
  | [], [] => by simp [Lib.compareBytes, Op.bytesLess]
  | [], _ :: _ => by simp [Lib.compareBytes, Op.bytesLess]
  | _ :: _, [] => by simp [Lib.compareBytes, Op.bytesLess]
  | a :: x, b :: y => by
    unfold Lib.compareBytes Op.bytesLess
    by_cases h : a < b
    · simp [h]
    · by_cases h2 : b < a
      · have hne : ¬ a = b := fun e => by subst e; exact h h2
        simp [h, h2, hne]
      · have he : a = b := UInt8.le_antisymm (UInt8.not_lt.1 h2) (UInt8.not_lt.1 h)
        simp [h, h2, he, cmp_lt x y]
theorem cmp_zero : ∀ a b : List UInt8, Lib.compareBytes a b = 0 ↔ a = b
  | [], [] => by simp [Lib.compareBytes]
  | [], _ :: _ => by simp [Lib.compareBytes]
  | _ :: _, [] => by simp [Lib.compareBytes]
  | a :: x, b :: y => by
    unfold Lib.compareBytes
    by_cases h : a < b
    · have hne : ¬ a = b := fun e => by subst e; exact absurd h (UInt8.lt_irrefl _)
      simp [h, hne]
    · by_cases h2 : b < a
      · have hne : ¬ a = b := fun e => by subst e; exact h h2
        simp [h, h2, hne]
      · have he : a = b := UInt8.le_antisymm (UInt8.not_lt.1 h2) (UInt8.not_lt.1 h)
        simp [h, h2, he, cmp_zero x y]
theorem less_trans : ∀ a b c : List UInt8, Op.bytesLess a b = true → Op.bytesLess b c = true → Op.bytesLess a c = true
  | _, [], _, h, _ => by simp [Op.bytesLess] at h
  | _, _ :: _, [], _, h => by simp [Op.bytesLess] at h
  | [], _ :: _, _ :: _, _, _ => by simp [Op.bytesLess]
  | a :: x, b :: y, c :: z, h1, h2 => by
    simp only [Op.bytesLess, Bool.or_eq_true, Bool.and_eq_true, decide_eq_true_eq, beq_iff_eq] at h1 h2 ⊢
    rcases h1 with h1 | ⟨rfl, h1⟩
    · rcases h2 with h2 | ⟨rfl, h2⟩
      · exact .inl (UInt8.lt_trans h1 h2)
      · exact .inl h1
    · rcases h2 with h2 | ⟨rfl, h2⟩
      · exact .inl h2
      · exact .inr ⟨rfl, less_trans x y z h1 h2⟩
def cutAt {α : Type} (f : α → Int) : List α → Nat
  | [] => 0
  | x :: l => if f x < 0 then cutAt f l + 1 else 0
theorem cutAt_le {α : Type} (f : α → Int) : ∀ l : List α, cutAt f l ≤ l.length
  | [] => Nat.le_refl _
  | x :: l => by
    unfold cutAt
    have := cutAt_le f l
    split
    · simp; omega
    · exact Nat.zero_le _
theorem cutAt_below {α : Type} (f : α → Int) : ∀ (l : List α) (j : Nat) (h : j < l.length), j < cutAt f l → f l[j] < 0
  | [], j, h, _ => absurd h (by simp)
  | x :: l, j, h, hj => by
    unfold cutAt at hj
    by_cases hx : f x < 0
    · rw [if_pos hx] at hj
      cases j with
      | zero => exact hx
      | succ j => exact cutAt_below f l j (by simpa using h) (by omega)
    · rw [if_neg hx] at hj; omega
theorem cutAt_above {α : Type} (f : α → Int) : ∀ (l : List α), l.Pairwise (fun a b => f b < 0 → f a < 0) → ∀ (j : Nat) (h : j < l.length), cutAt f l ≤ j → ¬ f l[j] < 0
  | [], _, j, h, _ => absurd h (by simp)
  | x :: l, hp, j, h, hj => by
    unfold cutAt at hj
    rw [List.pairwise_cons] at hp
    by_cases hx : f x < 0
    · rw [if_pos hx] at hj
      cases j with
      | zero => omega
      | succ j => exact cutAt_above f l hp.2 j (by simpa using h) (by omega)
    · cases j with
      | zero => exact hx
      | succ j => exact fun hn => hx (hp.1 _ (List.getElem_mem _) hn)
/-! ### A fleet that is in order, and deeds (plain) -/
structure FleetP (ts : List S86) (cs : List S88) (ds : List S90) (p q r : Int) : Prop where
  now : clockB p q r = true
  carry : carryB cs = true
  tn : ts.length ≤ 40
  dn : ds.length ≤ 20
  t : ∀ t ∈ ts, taskB t.f0 t.f1 t.f2 t.f3 t.f4.f0 t.f4.f1 t.f4.f2 = true ∧ behindB t.f4.f0 t.f4.f1 t.f4.f2 p q r = true
  tsort : ts.Pairwise (fun a b => Op.bytesLess a.f0.toList b.f0.toList = true)
  d : ∀ d ∈ ds, nameB d.f0 = true ∧ inB d.f1 1 1000000 = true ∧ inB d.f2 0 r = true
  dsort : ds.Pairwise (fun a b => a.f1 < b.f1)
theorem chain_pw {α : Type} {R : α → α → Prop} (tr : ∀ a b c, R a b → R b c → R a c) : ∀ l : List α, (∀ i (h : i + 1 < l.length), R l[i] l[i + 1]) → l.Pairwise R
  | [], _ => .nil
  | [x], _ => by simp
  | x :: y :: l, h => by
    have ih := chain_pw tr (y :: l) (fun i hi => h (i + 1) (Nat.succ_lt_succ hi))
    refine List.pairwise_cons.2 ⟨?_, ih⟩
    intro z hz
    have hxy := h 0 (by simp)
    rcases List.mem_cons.1 hz with rfl | hz
    · simpa using hxy
    · exact tr _ _ _ hxy ((List.pairwise_cons.1 ih).1 z hz)
theorem from_iff {α : Type} {F : List α → Nat → Nat → Bool} {at_ : List α → Int → Bool} (h0 : ∀ l i, F l 0 i = true) (h1 : ∀ l d i, F l (d + 1) i = (at_ l (i : Int) && F l d (i + 1))) (l : List α) : ∀ d i : Nat, F l d i = true ↔ ∀ j, i ≤ j → j < i + d → at_ l (j : Int) = true := by
  intro d
  induction d with
  | zero => intro i; simp only [h0, true_iff]; intro j a b; omega
  | succ d ih =>
    intro i
    rw [h1, Bool.and_eq_true, ih]
    constructor
    · rintro ⟨a, b⟩ j c e
      rcases Nat.eq_or_lt_of_le c with rfl | c
      · exact a
      · exact b j c (by omega)
    · exact fun a => ⟨a i (Nat.le_refl _) (by omega), fun j b c => a j (by omega) (by omega)⟩
theorem taskAt_iff (β : Int → Int → Int → Bool) (l : List S86) (j : Nat) (hj : j < l.length) : taskAt β l (j : Int) = true ↔ (taskB l[j].f0 l[j].f1 l[j].f2 l[j].f3 l[j].f4.f0 l[j].f4.f1 l[j].f4.f2 = true ∧ β l[j].f4.f0 l[j].f4.f1 l[j].f4.f2 = true) ∧ (0 < j → Op.bytesLess (l[j - 1]'(by omega)).f0.toList l[j].f0.toList = true) := by
  unfold taskAt
  rw [rd_at86 hj]
  cases j with
  | zero => simp
  | succ i =>
    rw [show ((i + 1 : Nat) : Int) - 1 = (i : Int) by omega, rd_at86 (show i < l.length by omega)]
    simp only [Bool.and_eq_true, Bool.or_eq_true, decide_eq_true_eq, Nat.add_sub_cancel]
    constructor
    · rintro ⟨a, b, c⟩; exact ⟨⟨a, b⟩, fun _ => c.resolve_left (by omega)⟩
    · rintro ⟨⟨a, b⟩, c⟩; exact ⟨a, b, .inr (c (by omega))⟩
theorem defectAt_iff (r : Int) (l : List S90) (j : Nat) (hj : j < l.length) : defectAt r l (j : Int) = true ↔ (nameB l[j].f0 = true ∧ inB l[j].f1 1 1000000 = true ∧ inB l[j].f2 0 r = true) ∧ (0 < j → (l[j - 1]'(by omega)).f1 < l[j].f1) := by
  unfold defectAt
  rw [rd_at90 hj]
  cases j with
  | zero => simp
  | succ i =>
    rw [show ((i + 1 : Nat) : Int) - 1 = (i : Int) by omega, rd_at90 (show i < l.length by omega)]
    simp only [Bool.and_eq_true, Bool.or_eq_true, decide_eq_true_eq, Nat.add_sub_cancel]
    constructor
    · rintro ⟨a, b, c, d⟩; exact ⟨⟨a, b, d⟩, fun _ => c.resolve_left (by omega)⟩
    · rintro ⟨⟨a, b, d⟩, c⟩; exact ⟨a, b, .inr (c (by omega)), d⟩
theorem fleetP_of {ts : List S86} {cs : List S88} {ds : List S90} {p q r : Int} (h : fleetB ts cs ds p q r = true) : FleetP ts cs ds p q r := by
  unfold fleetB at h
  simp only [Bool.and_eq_true, decide_eq_true_eq] at h
  obtain ⟨h1, h2, h3, h4, h5, h6⟩ := h
  have T := (from_iff (F := tasksFrom (fun a b c => behindB a b c p q r)) (at_ := taskAt (fun a b c => behindB a b c p q r)) (fun _ _ => rfl) (fun _ _ _ => rfl) ts ts.length 0).1 h5
  have D := (from_iff (F := defectsFrom r) (at_ := defectAt r) (fun _ _ => rfl) (fun _ _ _ => rfl) ds ds.length 0).1 h6
  refine ⟨h1, h2, by omega, by omega, ?_, chain_pw (R := fun a b : S86 => Op.bytesLess a.f0.toList b.f0.toList = true) (fun a b c => less_trans _ _ _) _ ?_, ?_, chain_pw (R := fun a b : S90 => a.f1 < b.f1) (fun a b c => Int.lt_trans) _ ?_⟩
  · intro t ht
    obtain ⟨j, hj, rfl⟩ := List.getElem_of_mem ht
    exact ((taskAt_iff _ _ j hj).1 (T j (Nat.zero_le _) (by omega))).1
  · intro i h
    exact ((taskAt_iff _ _ (i + 1) h).1 (T (i + 1) (Nat.zero_le _) (by omega))).2 (by omega)
  · intro t ht
    obtain ⟨j, hj, rfl⟩ := List.getElem_of_mem ht
    exact ((defectAt_iff _ _ j hj).1 (D j (Nat.zero_le _) (by omega))).1
  · intro i h
    exact ((defectAt_iff _ _ (i + 1) h).1 (D (i + 1) (Nat.zero_le _) (by omega))).2 (by omega)
/-- By name, by item: before, at, behind. -/
def cmpT (n : ByteArray) (t : S86) : Int := Lib.compareBytes t.f0.data.toList n.data.toList
def cmpD (n : Int) (d : S90) : Int := cmpI d.f1 n
theorem cmpI_lt (a b : Int) : cmpI a b < 0 ↔ a < b := by unfold cmpI; split; · omega
                                                         · split <;> omega
theorem cmpI_zero (a b : Int) : cmpI a b = 0 ↔ a = b := by unfold cmpI; split; · omega
                                                           · split <;> omega
theorem cmpT_lt (n : ByteArray) (t : S86) : cmpT n t < 0 ↔ Op.bytesLess t.f0.toList n.toList = true := by
  unfold cmpT; rw [cmp_lt, ByteArray.toList_eq, ByteArray.toList_eq]
theorem cmpT_zero (n : ByteArray) (t : S86) : cmpT n t = 0 ↔ t.f0.toList = n.toList := by
  unfold cmpT; rw [cmp_zero, ByteArray.toList_eq, ByteArray.toList_eq]
theorem tasks_part {ts : List S86} {cs : List S88} {ds : List S90} {p q r : Int} (h : FleetP ts cs ds p q r) (n : ByteArray) : ts.Pairwise (fun a b => cmpT n b < 0 → cmpT n a < 0) :=
  h.tsort.imp (fun {a b} h1 h2 => (cmpT_lt n a).2 (less_trans _ _ _ h1 ((cmpT_lt n b).1 h2)))
theorem defects_part {ts : List S86} {cs : List S88} {ds : List S90} {p q r : Int} (h : FleetP ts cs ds p q r) (n : Int) : ds.Pairwise (fun a b => cmpD n b < 0 → cmpD n a < 0) :=
  h.dsort.imp (fun {a b} h1 h2 => (cmpI_lt _ _).2 (Int.lt_trans h1 ((cmpI_lt _ _).1 h2)))
def workT (ts : List S86) (n : ByteArray) (p q r : Int) : List S86 := ts.set (cutAt (cmpT n) ts) ⟨(rd_T86 ts (cutAt (cmpT n) ts : Nat)).f0, (rd_T86 ts (cutAt (cmpT n) ts : Nat)).f1, (rd_T86 ts (cutAt (cmpT n) ts : Nat)).f2, (rd_T86 ts (cutAt (cmpT n) ts : Nat)).f3, ⟨p, q, r⟩⟩
/-- A deed done with a fleet that is in order; none where it can't be. -/
def doF (ts : List S86) (cs : List S88) (ds : List S90) (p q r : Int) (d0 : Int) (d1 : ByteArray) (d2 d3 : Int) : Option (List S86 × List S90 × Int × Int × Int) :=
  if d0 = 1 then (if (decide ((releaseF ts cs ds p q r).1 = 0) && inB d3 1 100) = true then some (ts, ds, p + d3, q + 1, r) else none)
  else if d0 = 2 then (if bsHit (cmpT d1) ts (cutAt (cmpT d1) ts) = true then some (workT ts d1 p q r, ds, p, q, r) else none)
  else if d0 = 3 then (if (!bsHit (cmpD d2) ds (cutAt (cmpD d2) ds) && (nameB d1 && (inB d2 1 1000000 && decide (ds.length < 20)))) = true then some (ts, ds.take (cutAt (cmpD d2) ds) ++ ⟨d1, d2, r⟩ :: ds.drop (cutAt (cmpD d2) ds), p, q, r) else none)
  else if d0 = 4 then (if bsHit (cmpD d2) ds (cutAt (cmpD d2) ds) = true then some (ts, ds.eraseIdx (cutAt (cmpD d2) ds), p, q, r) else none)
  else if d0 = 5 then (if inB d3 1 100 = true then some (ts, ds, p, q, r + d3) else none)
  else none
def workF (ts : List S86) (cs : List S88) (ds : List S90) (p q r : Int) (d0 : Int) (d1 : ByteArray) (d2 d3 : Int) : List S86 × List S88 × List S90 × Int × Int × Int × Bool :=
  if fleetB ts cs ds p q r = true then
    match doF ts cs ds p q r d0 d1 d2 d3 with
    | some (ts', ds', p', q', r') => if clockB p' q' r' = true then (ts', cs, ds', p', q', r', true) else (ts, cs, ds, p, q, r, false)
    | none => (ts, cs, ds, p, q, r, false)
  else (ts, cs, ds, p, q, r, false)
/-- One of a list in strict order struck out: where it is, or none. -/
theorem filter_all {α : Type} {f : α → Bool} {l : List α} (h : ∀ x ∈ l, f x = true) : l.filter f = l := List.filter_eq_self.2 h
theorem strike_hit {ds : List S90} (hs : ds.Pairwise (fun a b => a.f1 < b.f1)) (n : Int) (k : Nat) (hk : k < ds.length) (he : ds[k].f1 = n) : ds.filter (fun x => !(x.f1 == n)) = ds.eraseIdx k := by
  induction ds generalizing k with
  | nil => simp at hk
  | cons x l ih =>
    rw [List.pairwise_cons] at hs
    cases k with
    | zero =>
      simp only [List.getElem_cons_zero] at he
      rw [List.eraseIdx_cons_zero, List.filter_cons_of_neg (by simp [he]), filter_all]
      intro y hy
      have := hs.1 y hy
      simp; omega
    | succ k =>
      simp only [List.getElem_cons_succ] at he
      have := hs.1 _ (List.getElem_mem (show k < l.length by simpa using hk))
      rw [List.eraseIdx_cons_succ, List.filter_cons_of_pos (by simp; omega), ih hs.2 k (by simpa using hk) he]
theorem bsHit_at {α : Type} {f : α → Int} {l : List α} {m : Nat} (h : bsHit f l m = true) : ∃ hm : m < l.length, f l[m] = 0 := by
  unfold bsHit at h
  rcases Nat.lt_or_ge m l.length with hm | hm
  · rw [List.getElem?_eq_getElem hm] at h
    exact ⟨hm, by simpa using h⟩
  · rw [List.getElem?_eq_none hm] at h; simp at h
theorem bsHit_of {α : Type} {f : α → Int} {l : List α} {m : Nat} (hm : m < l.length) (h : f l[m] = 0) : bsHit f l m = true := by
  unfold bsHit; rw [List.getElem?_eq_getElem hm]; simpa using h
theorem strike_none {n : Int} {ds : List S90} (hs : ds.Pairwise (fun a b => cmpD n b < 0 → cmpD n a < 0)) (h1 : ds.Pairwise (fun a b => a.f1 < b.f1)) (h : bsHit (cmpD n) ds (cutAt (cmpD n) ds) = false) : ∀ x ∈ ds, ¬ x.f1 = n := by
  intro x hx he
  obtain ⟨j, hj, rfl⟩ := List.getElem_of_mem hx
  have hz : cmpD n ds[j] = 0 := (cmpI_zero _ _).2 he
  rcases Nat.lt_or_ge j (cutAt (cmpD n) ds) with h2 | h2
  · have := cutAt_below (cmpD n) ds j hj h2; omega
  · rcases Nat.eq_or_lt_of_le h2 with h3 | h3
    · have := bsHit_of (f := cmpD n) hj hz; rw [← h3] at this; rw [this] at h; cases h
    · have a := cutAt_above (cmpD n) ds hs _ (show cutAt (cmpD n) ds < ds.length by omega) (Nat.le_refl _)
      have b := (List.pairwise_iff_getElem.1 h1) _ _ (show cutAt (cmpD n) ds < ds.length by omega) hj h3
      exact a ((cmpI_lt _ _).2 (by omega))
def Only (w w' : World) (g : Nat) (T : List Nat) : Prop := w.heap.size ≤ w'.heap.size ∧ ∀ k, k < w.heap.size → k ≠ g → w'.heap[k]? = w.heap[k]? ∨ ∃ t, t ∈ T ∧ ∃ cells, w.heap[k]? = some (.cells cells t (0, 0))
theorem Only.of_below {w w' : World} (h : Below w.heap.size w w') (g : Nat) (T : List Nat) : Only w w' g T := ⟨h.size, fun k hk _ => .inl (h.block k hk)⟩
theorem Only.then_below {w W w' : World} {g : Nat} {T : List Nat} (h : Below w.heap.size w W) (k : Only W w' g T) : Only w w' g T :=
  ⟨Nat.le_trans h.size k.1, fun i hi hn => by
    rcases k.2 i (Nat.lt_of_lt_of_le hi h.size) hn with e | ⟨t, ht, c, hc⟩
    · exact .inl (e.trans (h.block i hi))
    · exact .inr ⟨t, ht, c, (h.block i hi).symm.trans hc⟩⟩
theorem Only.below {w W w' : World} {g : Nat} {T : List Nat} (k : Only w W g T) (h : Below W.heap.size W w') : Only w w' g T :=
  ⟨Nat.le_trans k.1 h.size, fun i hi hn => (k.2 i hi hn).imp (fun e => (h.block i (Nat.lt_of_lt_of_le hi k.1)).trans e) id⟩
theorem Only.at {w W : World} {g : Nat} {T : List Nat} (h : Only w W g T) (j : Nat) (u : Value) : Only w (W.setCell ⟨g, j, none⟩ u) g T :=
  ⟨by rw [World.size_setCell]; exact h.1, fun i hi e => (h.2 i hi e).imp (fun x => (Below.heap_setCell W ⟨g, j, none⟩ u i e).trans x) id⟩
theorem Only.set {w W : World} {g : Nat} {T : List Nat} {a t : Nat} {cells : Array Value} (h : Only w W g T) (hb : w.heap[a]? = some (.cells cells t (0, 0))) (ht : t ∈ T) (j : Nat) (u : Value) : Only w (W.setCell ⟨a, j, none⟩ u) g T :=
  ⟨by rw [World.size_setCell]; exact h.1, fun i hi hn => by
    by_cases e : i = a
    · subst e; exact .inr ⟨t, ht, cells, hb⟩
    · exact (h.2 i hi hn).imp (fun x => (Below.heap_setCell W ⟨a, j, none⟩ u i e).trans x) id⟩
theorem Only.of_kept {w W w' : World} {g : Nat} {T : List Nat} {S : Nat → Prop} (hb : Below w.heap.size w W) (h : Kept W w' S) (hS : ∀ k, S k → k < w.heap.size → ∃ t, t ∈ T ∧ ∃ cells, W.heap[k]? = some (.cells cells t (0, 0))) : Only w w' g T :=
  ⟨Nat.le_trans hb.size h.1, fun i hi _ => by
    by_cases e : S i
    · obtain ⟨t, ht, c, hc⟩ := hS i e hi
      exact .inr ⟨t, ht, c, (hb.block i hi).symm.trans hc⟩
    · exact .inl ((h.2 i (Nat.lt_of_lt_of_le hi hb.size) e).trans (hb.block i hi))⟩
theorem Only.mono {w w' : World} {g : Nat} {T T' : List Nat} (h : Only w w' g T) (hT : ∀ t, t ∈ T → t ∈ T') : Only w w' g T' := ⟨h.1, fun k hk hn => (h.2 k hk hn).imp id fun ⟨t, ht, c⟩ => ⟨t, hT t ht, c⟩⟩
theorem typed_one {w : World} {k t t' : Nat} {c c' : Array Value} (h : w.heap[k]? = some (.cells c t (0, 0))) (h' : w.heap[k]? = some (.cells c' t' (0, 0))) : t = t' := by
  rw [h] at h'; injection h' with h'; injection h' with _ h'
theorem R_only {α : Type} {d : Kd α} {e base g t : Nat} {ok : Nat → Prop} {w w' : World} {v : Value} {xs : List α} {T : List Nat} {cells : Array Value} (h : d.R e w base ok v xs) (k : Only w w' g T) (hb : w.heap[g]? = some (.cells cells t (0, 0))) (ht : ∀ q, q ∈ e :: d.E → q ∉ t :: T) : d.R e w' base ok v xs :=
  Kd.R_mono (Kd.R_move (Kd.R_bound h) (fun i hi => by
    obtain ⟨_, _, hlt, q, hq, c, hc⟩ := hi
    have hn : i ≠ g := fun e => ht q hq (by subst e; rw [typed_one hc hb]; exact List.mem_cons_self)
    rcases k.2 i hlt hn with e | ⟨t, ht', c', hc'⟩
    · exact e
    · exact absurd (List.mem_cons_of_mem _ (typed_one hc hc' ▸ ht')) (ht q hq))) (fun _ hk => hk.1)
theorem blk_only {w w' : World} {g a t : Nat} {T : List Nat} {cells : Array Value} (h : w.heap[a]? = some (.cells cells t (0, 0))) (k : Only w w' g T) (hn : a ≠ g) (ht : t ∉ T) : w'.heap[a]? = some (.cells cells t (0, 0)) := by
  rcases k.2 a (blk_lt h) hn with e | ⟨t', ht', c', hc'⟩
  · exact e.trans h
  · exact absurd (typed_one h hc' ▸ ht') ht
/-! ### Stores of parts of a block as one event (by hand) -/
def pcs (cs : Array Value) (o : Nat) : List Value → Array Value
 | [] => cs
 | v :: r => pcs (cs.setIfInBounds o v) (o + 1) r
theorem blk_pcs : ∀ (vs : List Value) (o : Nat) {w : World} {g : Nat} {t : TypeId} {cs : Array Value} (h : w.heap[g]? = some (.cells cs t (0, 0))), (w.setCells g o vs).heap[g]? = some (.cells (pcs cs o vs) t (0, 0))
 | [], _, _, _, _, _, h => h
 | v :: r, o, _, _, _, _, h => blk_pcs r (o + 1) (blk_set h o v)
theorem grown_pcs (vs : List Value) (o : Nat) (w : World) (g : Nat) : w.grownBy (w.setCells g o vs) (some g) := by
 obtain ⟨s1, s2, s3, s4⟩ := setCells_same g vs o w
 exact ⟨s1, s2, s3, by omega, fun k _ hk => setCells_far vs o k (fun he => hk (by rw [he]))⟩
theorem stm_ {P : Program} {ops : Array Oper} {o : Oper} {rest : List Oper} {a : Act} {W : World} {Q : Exit → Act → World → Prop} (ty : TypeId) (p : Tmp) (y : Operand) (g off : Nat) (cells old new : Array Value) (t : TypeId) (hgd : o.guard = none) (ho : o.op = .store ty (.tmp p) y) (hd : o.dst = none)
  (hx : a.eval (.tmp p) = .pointer (some ⟨g, off, none⟩)) (hy : a.eval y = .agg cells) (hg : W.heap[g]? = some (.cells old t (0, 0))) (hi : (P.info? ty).map (·.size) = some cells.size) (hn : off + cells.size ≤ old.size) (h1 : cells.all (·.oneCell') = true) (hnew : pcs old off cells.toList = new)
  (h : ∀ w1, w1.heap[g]? = some (.cells new t (0, 0)) → W.grownBy w1 (some g) → wpList P ops Q rest a w1) : wpList P ops Q (o :: rest) a W := by
 refine wpList_store_mid hgd ty (.tmp p) y ho g off cells hx hy (fun j hj => ⟨?_, blk_frozen hg _⟩) hi h1 ?_
 · rw [blk_cell hg]; simp; omega
 rw [hd]
 show wpList P ops Q rest a _
 exact h _ (by have := blk_pcs cells.toList off hg; rwa [hnew] at this) (grown_pcs _ _ _ _)
theorem r_put {α : Type} {d : Kd α} {e : Nat} {w w1 : World} {base : Nat} {ok : Nat → Prop} {v : Value} {xs : List α} (h : d.R e w base ok v xs) {g t : Nat} {cells : Array Value} (hb : w.heap[g]? = some (.cells cells t (0, 0))) (ht : ∀ q, q ∈ e :: d.E → q ≠ t) (hg : w.grownBy w1 (some g)) : d.R e w1 base ok v xs :=
 Kd.R_mono (Kd.R_grown (Kd.R_types h hb ht) hg (fun k hk e_ => hk.2 (by injection e_))) (fun _ h_ => h_.1)
theorem b_put {w W w1 : World} {g : Nat} (h : Below w.heap.size w W) (hg : W.grownBy w1 (some g)) (hn : w.heap.size ≤ g) : Below w.heap.size w w1 := h.grown hg h.size (fun k hk => by injection hk with hk; rw [← hk]; exact hn)
def fleetCopyB (ts : List S86) (cs : List S88) (ds : List S90) : Bool := decide (ts.length < 2199023255552) && (decide (cs.length < 4398046511104) && decide (ds.length < 4398046511104))
theorem workF_false {ts : List S86} {cs : List S88} {ds : List S90} {p q r d0 : Int} {d1 : ByteArray} {d2 d3 : Int} (h : ¬ (workF ts cs ds p q r d0 d1 d2 d3).2.2.2.2.2.2 = true) : workF ts cs ds p q r d0 d1 d2 d3 = (ts, cs, ds, p, q, r, false) ∧ (fleetB ts cs ds p q r = false ∨ (fleetB ts cs ds p q r = true ∧ doF ts cs ds p q r d0 d1 d2 d3 = none) ∨ (fleetB ts cs ds p q r = true ∧ ∃ ts' ds' p' q' r', doF ts cs ds p q r d0 d1 d2 d3 = some (ts', ds', p', q', r') ∧ clockB p' q' r' = false)) := by
  unfold workF at h ⊢
  split
  · rename_i hf
    rw [if_pos hf] at h
    split
    · rename_i ts' ds' p' q' r' hd
      rw [hd] at h
      by_cases hc : clockB p' q' r' = true
      · exact absurd (by dsimp only; rw [if_pos hc]) h
      · rw [if_neg hc]; exact ⟨rfl, .inr (.inr ⟨hf, _, _, _, _, _, hd, by simpa using hc⟩)⟩
    · rename_i hd; exact ⟨rfl, .inr (.inl ⟨hf, hd⟩)⟩
  · rename_i hf; exact ⟨rfl, .inl (by simpa using hf)⟩
theorem workF_true {ts : List S86} {cs : List S88} {ds : List S90} {p q r d0 : Int} {d1 : ByteArray} {d2 d3 : Int} (h : (workF ts cs ds p q r d0 d1 d2 d3).2.2.2.2.2.2 = true) : fleetB ts cs ds p q r = true ∧ ∃ ts' ds' p' q' r', doF ts cs ds p q r d0 d1 d2 d3 = some (ts', ds', p', q', r') ∧ clockB p' q' r' = true ∧ workF ts cs ds p q r d0 d1 d2 d3 = (ts', cs, ds', p', q', r', true) := by
  unfold workF at h ⊢
  by_cases hf : fleetB ts cs ds p q r = true
  · rw [if_pos hf] at h ⊢
    refine ⟨hf, ?_⟩
    cases hd : doF ts cs ds p q r d0 d1 d2 d3 with
    | none => rw [hd] at h; simp at h
    | some x =>
      obtain ⟨ts', ds', p', q', r'⟩ := x
      rw [hd] at h
      dsimp only at h
      by_cases hc : clockB p' q' r' = true
      · exact ⟨ts', ds', p', q', r', rfl, hc, by dsimp only; rw [if_pos hc]⟩
      · rw [if_neg hc] at h; simp at h
  · rw [if_neg hf] at h; simp at h
/-! ### A fleet behind an address (by hand) -/
structure Flt (W : World) (b g : Nat) (A0 : Option Addr) (c0 : Nat) (l0 : List S86) (A1 : Option Addr) (c1 : Nat) (l1 : List S88) (A2 : Option Addr) (c2 : Nat) (l2 : List S90) (p q r : Int) : Prop where
  g : W.heap[g]? = some (.cells #[.slice A0 l0.length c0, .slice A1 l1.length c1, .slice A2 l2.length c2, .int .i64 p, .int .i64 q, .int .i64 r] 37 (0, 0))
  r0 : Kd.R k86 86 W b (fun _ => True) (.slice A0 l0.length c0) l0
  r1 : Kd.R k88 88 W b (fun _ => True) (.slice A1 l1.length c1) l1
  r2 : Kd.R k90 90 W b (fun _ => True) (.slice A2 l2.length c2) l2
theorem Flt.up {W W' : World} {b g : Nat} {A0 : Option Addr} {c0 : Nat} {l0 : List S86} {A1 : Option Addr} {c1 : Nat} {l1 : List S88} {A2 : Option Addr} {c2 : Nat} {l2 : List S90} {p q r : Int} (h : Flt W b g A0 c0 l0 A1 c1 l1 A2 c2 l2 p q r) (hb : Below W.heap.size W W') : Flt W' b g A0 c0 l0 A1 c1 l1 A2 c2 l2 p q r := ⟨blk_below h.g hb, Kd.R_below h.r0 hb, Kd.R_below h.r1 hb, Kd.R_below h.r2 hb⟩
theorem R_cap {α : Type} {d : Kd α} {e base n c : Nat} {ok : Nat → Prop} {w : World} {A : Option Addr} {xs : List α} (h : d.R e w base ok (.slice A n c) xs) : xs.length ≤ c ∧ n = xs.length ∧ d.C w A xs.length xs := by
  obtain ⟨A', c', he, hl, hr⟩ := Kd.R_reads h
  injection he with h1 h2 h3
  subst h1; subst h2; subst h3
  exact ⟨hl, rfl, hr⟩
theorem sts_ {P : Program} {ops : Array Oper} {o : Oper} {a : Act} {W : World} {K : Act → World → Prop} {Q : Exit → Act → World → Prop} (ty : TypeId) (p : Tmp) (y : Operand) (g off : Nat) (cells old new : Array Value) (t : TypeId) (hw : Region.wanted o (yielded ops a.tmps) = true) (ho : o.op = .store ty (.tmp p) y) (hd : o.dst = none)
  (hx : a.eval (.tmp p) = .pointer (some ⟨g, off, none⟩)) (hy : a.eval y = .agg cells) (hg : W.heap[g]? = some (.cells old t (0, 0))) (hi : (P.info? ty).map (·.size) = some cells.size) (hn : off + cells.size ≤ old.size) (h1 : cells.all (·.oneCell') = true) (hnew : pcs old off cells.toList = new)
  (h : ∀ w1, w1.heap[g]? = some (.cells new t (0, 0)) → W.grownBy w1 (some g) → K a w1) : if Region.wanted o (yielded ops a.tmps) = true then Oper.wp P o a W K Q else K (a.put none undef) W := by
 rw [if_pos hw]
 refine wp_store_mid ty (.tmp p) y ho g off cells hx hy (fun j hj => ⟨?_, blk_frozen hg _⟩) hi h1 ?_
 · rw [blk_cell hg]; simp; omega
 rw [hd]
 show K a _
 exact h _ (by have := blk_pcs cells.toList off hg; rwa [hnew] at this) (grown_pcs _ _ _ _)
/-! ### spec.l19Do (by hand) -/
abbrev Out19 : Type := List S86 × List S88 × List S90 × Int × Int × Int × Bool
def SdoPost (w0 w : World) (o : Out19) (e : Ending) (w' : World) : Prop := ∃ (V0 : Option Addr) (m0 n0 : Nat) (V1 : Option Addr) (m1 n1 : Nat) (V2 : Option Addr) (m2 n2 : Nat) (P Q R : Int),
  e = .returned (.tuple #[.agg #[.slice V0 m0 n0, .slice V1 m1 n1, .slice V2 m2 n2, .int .i64 P, .int .i64 Q, .int .i64 R], .bool o.2.2.2.2.2.2]) ∧ Below w0.heap.size w0 w' ∧ Only w w' w.heap.size [86] ∧
    (o.2.2.2.2.2.2 = true → P = o.2.2.2.1 ∧ Q = o.2.2.2.2.1 ∧ R = o.2.2.2.2.2.1 ∧ Kd.R k86 86 w' w0.heap.size (fun _ => True) (.slice V0 m0 n0) o.1 ∧ Kd.R k88 88 w' w0.heap.size (fun _ => True) (.slice V1 m1 n1) o.2.1 ∧ Kd.R k90 90 w' w0.heap.size (fun _ => True) (.slice V2 m2 n2) o.2.2.1)
theorem Only.put {w W W' : World} {g b : Nat} {T : List Nat} (h : Only w W g T) (hg : W.grownBy W' (some b)) (hb : w.heap.size ≤ b) : Only w W' g T :=
  ⟨Nat.le_trans h.1 hg.size, fun i hi hn => (h.2 i hi hn).imp (fun e => (hg.block i (Nat.lt_of_lt_of_le hi h.1) (fun x => by injection x; omega)).trans e) id⟩
theorem workF_some {ts : List S86} {cs : List S88} {ds : List S90} {p q r d0 : Int} {d1 : ByteArray} {d2 d3 : Int} {ts' : List S86} {ds' : List S90} {p' q' r' : Int} (h : fleetB ts cs ds p q r = true) (hd : doF ts cs ds p q r d0 d1 d2 d3 = some (ts', ds', p', q', r')) : workF ts cs ds p q r d0 d1 d2 d3 = if clockB p' q' r' = true then (ts', cs, ds', p', q', r', true) else (ts, cs, ds, p, q, r, false) := by unfold workF; rw [if_pos h, hd]
theorem workF_none {ts : List S86} {cs : List S88} {ds : List S90} {p q r d0 : Int} {d1 : ByteArray} {d2 d3 : Int} (h : fleetB ts cs ds p q r = true) (hd : doF ts cs ds p q r d0 d1 d2 d3 = none) : workF ts cs ds p q r d0 d1 d2 d3 = (ts, cs, ds, p, q, r, false) := by unfold workF; rw [if_pos h, hd]
theorem task_hit {ts : List S86} {cs : List S88} {ds : List S90} {p q r : Int} (h : FleetP ts cs ds p q r) (n : ByteArray) (i : Nat) (hi : i < ts.length) (e : ts[i].f0.toList = n.toList) : cutAt (cmpT n) ts = i ∧ bsHit (cmpT n) ts (cutAt (cmpT n) ts) = true := by
  have hz := (cmpT_zero n ts[i]).2 e
  have hc : cutAt (cmpT n) ts = i := by
    rcases Nat.lt_trichotomy i (cutAt (cmpT n) ts) with x | x | x
    · have := cutAt_below (cmpT n) ts i hi x; omega
    · exact x.symm
    · have h1 := List.pairwise_iff_getElem.1 h.tsort _ i (by omega) hi x
      rw [e] at h1
      exact absurd ((cmpT_lt n _).2 h1) (cutAt_above (cmpT n) ts (tasks_part h n) _ (by omega) (Nat.le_refl _))
  exact ⟨hc, by rw [hc]; exact bsHit_of hi hz⟩
set_option maxHeartbeats 16000000 in
set_option maxRecDepth 100000 in
theorem sdo_t (w0 : World) (A0 : Option Addr) (c0 : Nat) (l0 : List S86) (A1 : Option Addr) (c1 : Nat) (l1 : List S88) (A2 : Option Addr) (c2 : Nat) (l2 : List S90) (p q r d0 : Int) (d1 : ByteArray) (d2 d3 : Int) (w : World) (hbase : Below w0.heap.size w0 w)
    (h0 : Kd.R k86 86 w w0.heap.size (fun _ => True) (.slice A0 l0.length c0) l0) (h1 : Kd.R k88 88 w w0.heap.size (fun _ => True) (.slice A1 l1.length c1) l1) (h2 : Kd.R k90 90 w w0.heap.size (fun _ => True) (.slice A2 l2.length c2) l2) (hz : d1.size ≤ 140737488355328) (hsz : FleetSz l0 l1 l2) (hok : fleetB l0 l1 l2 p q r = true) :
    Calls Tryz.prog 47 #[.agg #[.slice A0 l0.length c0, .slice A1 l1.length c1, .slice A2 l2.length c2, .int .i64 p, .int .i64 q, .int .i64 r], .agg #[.int .i64 d0, .string d1, .int .i64 d2, .int .i64 d3]] w (SdoPost w0 w (workF l0 l1 l2 p q r d0 d1 d2 d3)) := by
  have hu1 := Tryz.underlying37
  have hu2 := Tryz.underlying60
  have hu3 := Tryz.underlying90
  have hu4 := Tryz.underlying34
  have hu5 := Tryz.underlying32
  have hu6 := Tryz.underlying86
  have hu7 := Tryz.underlying35
  have HP := Aside0.mk (fleetP_of hok)
  have hclk := clockB_in (fleetP_of hok).now
  have hn0 := (fleetP_of hok).tn
  have hn2 := (fleetP_of hok).dn
  have hcc0 := (R_cap h0).1
  have hcc2 := (R_cap h2).1
  have HOK := Aside0.mk hok
  have HSZ := Aside0.mk hsz
  have HBB := Aside0.mk hbase
  have n1 := below_alloc (Below.refl w.heap.size w) (.cells #[.slice A0 l0.length c0, .slice A1 l1.length c1, .slice A2 l2.length c2, .int .i64 p, .int .i64 q, .int .i64 r] 37 (0, 0))
  have n2 := below_alloc n1 (.cells #[.int .i64 d0, .string d1, .int .i64 d2, .int .i64 d3] 60 (0, 0))
  have n3 := below_alloc n2 (.cells #[.slice none 0 0, .slice none 0 0, .slice none 0 0, .int .i64 0, .int .i64 0, .int .i64 0] 37 (0, 0))
  have m1 := blk_alloc (blk_alloc (blk_new w (.cells #[.slice A0 l0.length c0, .slice A1 l1.length c1, .slice A2 l2.length c2, .int .i64 p, .int .i64 q, .int .i64 r] 37 (0, 0))) (.cells #[.int .i64 d0, .string d1, .int .i64 d2, .int .i64 d3] 60 (0, 0))) (.cells #[.slice none 0 0, .slice none 0 0, .slice none 0 0, .int .i64 0, .int .i64 0, .int .i64 0] 37 (0, 0))
  have m2 := blk_alloc (blk_new (w.alloc (.cells #[.slice A0 l0.length c0, .slice A1 l1.length c1, .slice A2 l2.length c2, .int .i64 p, .int .i64 q, .int .i64 r] 37 (0, 0))) (.cells #[.int .i64 d0, .string d1, .int .i64 d2, .int .i64 d3] 60 (0, 0))) (.cells #[.slice none 0 0, .slice none 0 0, .slice none 0 0, .int .i64 0, .int .i64 0, .int .i64 0] 37 (0, 0))
  have m3 := blk_new ((w.alloc (.cells #[.slice A0 l0.length c0, .slice A1 l1.length c1, .slice A2 l2.length c2, .int .i64 p, .int .i64 q, .int .i64 r] 37 (0, 0))).alloc (.cells #[.int .i64 d0, .string d1, .int .i64 d2, .int .i64 d3] 60 (0, 0))) (.cells #[.slice none 0 0, .slice none 0 0, .slice none 0 0, .int .i64 0, .int .i64 0, .int .i64 0] 37 (0, 0))
  rw [World.size_alloc] at m2
  rw [World.size_alloc, World.size_alloc] at m3
  have HF := Aside0.mk (And.intro (Flt.mk m1 (Kd.R_below h0 n3) (Kd.R_below h1 n3) (Kd.R_below h2 n3)) (And.intro m2 (And.intro m3 n3)))
  have HR0w := Aside0.mk h0
  have KR := Aside0.mk (fun w' (h : Below w.heap.size w w') => spec_Release.go A0 c0 l0 A1 c1 l1 A2 c2 l2 p q r w' (Kd.C_below (R_cap h0).2.2 h) (R_cap h0).1 (Kd.C_below (R_cap h1).2.2 h) (R_cap h1).1 (Kd.C_below (R_cap h2).2.2 h) (R_cap h2).1 hsz)
  rw [show releaseB l0 l1 l2 p q r = releaseF l0 l1 l2 p q r by unfold releaseB; rw [if_pos hok]] at KR
  clear h0 h1 h2 n1 n2 n3 m1 m2 m3 hbase hok hsz
  by_cases e1 : d0 = 1
  · subst e1
    obtain ⟨⟨x0, x1⟩, hx⟩ : ∃ x, releaseF l0 l1 l2 p q r = x := ⟨_, rfl⟩
    rw [hx] at KR
    obtain ⟨ib, hi⟩ : ∃ b, inB d3 1 100 = b := ⟨_, rfl⟩
    have KI := Aside0.mk (fun w' => kb_ (in_u d3 1 100 w') hi)
    go_enter Tryz.func47, Tryz.ntmps47
    go_upto_region 3 with (fail)
    refine world_ (fun W => Flt W w0.heap.size w.heap.size A0 c0 l0 A1 c1 l1 A2 c2 l2 p q r ∧ W.heap[w.heap.size + 1]? = some (.cells #[.int .i64 1, .string d1, .int .i64 d2, .int .i64 d3] 60 (0, 0)) ∧ W.heap[w.heap.size + 1 + 1]? = some (.cells #[.slice none 0 0, .slice none 0 0, .slice none 0 0, .int .i64 0, .int .i64 0, .int .i64 0] 37 (0, 0)) ∧ Below w.heap.size w W) HF.out ?_
    clear HF
    rintro W ⟨HFl, BD, BR, HB⟩
    replace HFl := Aside0.mk HFl
    replace BD := Aside0.mk BD
    replace BR := Aside0.mk BR
    replace HB := Aside0.mk HB
    obtain ⟨z0, z1, z2, z3, z4, z5⟩ := ck6 HFl.out.g
    have y3 := ck BD.out 3 rfl
    cases ib with
    | false =>
      have HW := Aside0.mk (show workF l0 l1 l2 p q r 1 d1 d2 d3 = (l0, l1, l2, p, q, r, false) from workF_none HOK.out (by unfold doF; rw [if_pos rfl, hi]; simp))
      clear hx hi
      go_upto_region 5 with (first | (go_at_call 66; (with_reducible refine (KR.out _ HB.out).mono ?_); rintro e w5 ⟨rfl, hb5⟩; clear z0 z1 z2 z3 z4 z5 y3; obtain ⟨z0, z1, z2, z3, z4, z5⟩ := ck6 (HFl.out.up hb5).g; have y3 := ck (blk_below BD.out hb5) 3 rfl) | (go_at_call 65; (with_reducible refine (KI.out _).mono ?_); rintro e w6 ⟨rfl, hb6⟩; clear z0 z1 z2 z3 z4 z5 y3; obtain ⟨z0, z1, z2, z3, z4, z5⟩ := ck6 (HFl.out.up (below_step hb5 hb6)).g; obtain ⟨k0, k1, k2, k3, k4, k5⟩ := fz6 (HFl.out.up (below_step hb5 hb6)).g; have y3 := ck (blk_below BD.out (below_step hb5 hb6)) 3 rfl))
      refine world_ (fun W' => Below W.heap.size W W') (below_step hb5 hb6) ?_
      clear hb5 hb6 z0 z1 z2 z3 z4 z5 y3 k0 k1 k2 k3 k4 k5
      rintro Wx hu
      obtain ⟨z0, z1, z2, z3, z4, z5⟩ := ck6 (HFl.out.up hu).g
      have BRk := blk_below BR.out hu
      go_wp2_with (first | ((with_reducible refine gate_store (t := 37) (p := 4) rfl ?_); refine stm_ 37 4 (.tmp 29) (w.heap.size + 1 + 1) 0 #[.slice A0 l0.length c0, .slice A1 l1.length c1, .slice A2 l2.length c2, .int .i64 p, .int .i64 q, .int .i64 r] #[.slice none 0 0, .slice none 0 0, .slice none 0 0, .int .i64 0, .int .i64 0, .int .i64 0] #[.slice A0 l0.length c0, .slice A1 l1.length c1, .slice A2 l2.length c2, .int .i64 p, .int .i64 q, .int .i64 r] 37 ?e1 ?e2 ?e3 ?e4 ?e5 ?e6 ?e7 ?e8 ?e9 ?e10 ?_; (case e1 => rfl); (case e2 => rfl); (case e3 => rfl); (case e4 => rfl); (case e5 => rfl); (case e6 => exact BRk); (case e7 => kernel_rfl); (case e8 => exact Nat.le_of_ble_eq_true rfl); (case e9 => kernel_rfl); (case e10 => kernel_rfl); intro w6 hn6 hg6))
      refine bodyPost_ret (results_ct rfl _ _ (w.heap.size + 1 + 1) 37 #[.slice A0 l0.length c0, .slice A1 l1.length c1, .slice A2 l2.length c2, .int .i64 p, .int .i64 q, .int .i64 r] (0, 0) _ rfl hn6 Tryz.underlying37 rfl (by kernel_rfl)) rfl ?_
      exact ⟨_, _, _, _, _, _, _, _, _, _, _, _, by rw [HW.out]; rfl, b_put (below_step HBB.out (below_step HB.out hu)) hg6 (by have := HBB.out.size; omega), Only.of_below (b_put (below_step HB.out hu) hg6 (by omega)) _ _, fun h => by rw [HW.out] at h; simp at h⟩
    | true =>
      by_cases hx0 : x0 = 0
      · subst hx0
        have hd := inB_iff.1 hi
        obtain ⟨cb, hc⟩ : ∃ b, clockB (p + d3) (q + 1) r = b := ⟨_, rfl⟩
        have KK := Aside0.mk (fun w' => kb_ (clock_u (p + d3) (q + 1) r w') hc)
        have HW := Aside0.mk (show workF l0 l1 l2 p q r 1 d1 d2 d3 = if cb = true then (l0, l1, l2, p + d3, q + 1, r, true) else (l0, l1, l2, p, q, r, false) from by rw [workF_some HOK.out (show doF l0 l1 l2 p q r 1 d1 d2 d3 = some (l0, l2, p + d3, q + 1, r) by unfold doF; rw [if_pos rfl, hi, hx]; rfl), hc])
        clear hx hi hc
        go_upto_region 8 with (first | (go_at_call 66; (with_reducible refine (KR.out _ HB.out).mono ?_); rintro e w5 ⟨rfl, hb5⟩; clear z0 z1 z2 z3 z4 z5 y3; obtain ⟨z0, z1, z2, z3, z4, z5⟩ := ck6 (HFl.out.up hb5).g; have y3 := ck (blk_below BD.out hb5) 3 rfl) | (go_at_call 65; (with_reducible refine (KI.out _).mono ?_); rintro e w6 ⟨rfl, hb6⟩; clear z0 z1 z2 z3 z4 z5 y3; obtain ⟨z0, z1, z2, z3, z4, z5⟩ := ck6 (HFl.out.up (below_step hb5 hb6)).g; obtain ⟨k0, k1, k2, k3, k4, k5⟩ := fz6 (HFl.out.up (below_step hb5 hb6)).g; have y3 := ck (blk_below BD.out (below_step hb5 hb6)) 3 rfl))
        have HF5 := Aside0.mk (show ((w6.setCell ⟨w.heap.size, 4, none⟩ (.int .i64 (q + 1))).setCell ⟨w.heap.size, 3, none⟩ (.int .i64 (p + d3))).heap[w.heap.size]? = some (.cells #[.slice A0 l0.length c0, .slice A1 l1.length c1, .slice A2 l2.length c2, .int .i64 (p + d3), .int .i64 (q + 1), .int .i64 r] 37 (0, 0)) ∧ ((w6.setCell ⟨w.heap.size, 4, none⟩ (.int .i64 (q + 1))).setCell ⟨w.heap.size, 3, none⟩ (.int .i64 (p + d3))).heap[w.heap.size + 1 + 1]? = some (.cells #[.slice none 0 0, .slice none 0 0, .slice none 0 0, .int .i64 0, .int .i64 0, .int .i64 0] 37 (0, 0)) ∧ Below w.heap.size w ((w6.setCell ⟨w.heap.size, 4, none⟩ (.int .i64 (q + 1))).setCell ⟨w.heap.size, 3, none⟩ (.int .i64 (p + d3))) ∧ Kd.R k86 86 ((w6.setCell ⟨w.heap.size, 4, none⟩ (.int .i64 (q + 1))).setCell ⟨w.heap.size, 3, none⟩ (.int .i64 (p + d3))) w0.heap.size (fun _ => True) (.slice A0 l0.length c0) l0 ∧ Kd.R k88 88 ((w6.setCell ⟨w.heap.size, 4, none⟩ (.int .i64 (q + 1))).setCell ⟨w.heap.size, 3, none⟩ (.int .i64 (p + d3))) w0.heap.size (fun _ => True) (.slice A1 l1.length c1) l1 ∧ Kd.R k90 90 ((w6.setCell ⟨w.heap.size, 4, none⟩ (.int .i64 (q + 1))).setCell ⟨w.heap.size, 3, none⟩ (.int .i64 (p + d3))) w0.heap.size (fun _ => True) (.slice A2 l2.length c2) l2 from ⟨(blk_put (cs' := #[.slice A0 l0.length c0, .slice A1 l1.length c1, .slice A2 l2.length c2, .int .i64 (p + d3), .int .i64 (q + 1), .int .i64 r]) (blk_put (cs' := #[.slice A0 l0.length c0, .slice A1 l1.length c1, .slice A2 l2.length c2, .int .i64 p, .int .i64 (q + 1), .int .i64 r]) (HFl.out.up (below_step hb5 hb6)).g 4 (.int .i64 (q + 1)) rfl) 3 (.int .i64 (p + d3)) rfl), (blk_far (p := ⟨w.heap.size, 3, none⟩) (blk_far (p := ⟨w.heap.size, 4, none⟩) (blk_below BR.out (below_step hb5 hb6)) (by show w.heap.size + 1 + 1 ≠ w.heap.size; omega) (.int .i64 (q + 1))) (by show w.heap.size + 1 + 1 ≠ w.heap.size; omega) (.int .i64 (p + d3))), (below_set (below_set (below_step HB.out (below_step hb5 hb6)) (Nat.le_refl _)) (Nat.le_refl _)), (Kd.R_mono (Kd.R_set (Kd.R_mono (Kd.R_set (HFl.out.up (below_step hb5 hb6)).r0 (HFl.out.up (below_step hb5 hb6)).g (by decide) 4 (.int .i64 (q + 1))) (fun _ _ => trivial)) (blk_put (cs' := #[.slice A0 l0.length c0, .slice A1 l1.length c1, .slice A2 l2.length c2, .int .i64 p, .int .i64 (q + 1), .int .i64 r]) (HFl.out.up (below_step hb5 hb6)).g 4 (.int .i64 (q + 1)) rfl) (by decide) 3 (.int .i64 (p + d3))) (fun _ _ => trivial)), (Kd.R_mono (Kd.R_set (Kd.R_mono (Kd.R_set (HFl.out.up (below_step hb5 hb6)).r1 (HFl.out.up (below_step hb5 hb6)).g (by decide) 4 (.int .i64 (q + 1))) (fun _ _ => trivial)) (blk_put (cs' := #[.slice A0 l0.length c0, .slice A1 l1.length c1, .slice A2 l2.length c2, .int .i64 p, .int .i64 (q + 1), .int .i64 r]) (HFl.out.up (below_step hb5 hb6)).g 4 (.int .i64 (q + 1)) rfl) (by decide) 3 (.int .i64 (p + d3))) (fun _ _ => trivial)), (Kd.R_mono (Kd.R_set (Kd.R_mono (Kd.R_set (HFl.out.up (below_step hb5 hb6)).r2 (HFl.out.up (below_step hb5 hb6)).g (by decide) 4 (.int .i64 (q + 1))) (fun _ _ => trivial)) (blk_put (cs' := #[.slice A0 l0.length c0, .slice A1 l1.length c1, .slice A2 l2.length c2, .int .i64 p, .int .i64 (q + 1), .int .i64 r]) (HFl.out.up (below_step hb5 hb6)).g 4 (.int .i64 (q + 1)) rfl) (by decide) 3 (.int .i64 (p + d3))) (fun _ _ => trivial))⟩)
        clear hb5 hb6 z0 z1 z2 z3 z4 z5 y3 k0 k1 k2 k3 k4 k5 HFl BD BR HB KR KI
        generalize ((w6.setCell ⟨w.heap.size, 4, none⟩ (.int .i64 (q + 1))).setCell ⟨w.heap.size, 3, none⟩ (.int .i64 (p + d3))) = W5 at HF5 ⊢
        obtain ⟨HG5, BR5, HB5, HR0, HR1, HR2⟩ := HF5.out
        clear HF5
        replace HG5 := Aside0.mk HG5
        replace BR5 := Aside0.mk BR5
        replace HB5 := Aside0.mk HB5
        replace HR0 := Aside0.mk HR0
        replace HR1 := Aside0.mk HR1
        replace HR2 := Aside0.mk HR2
        have L := Aside0.mk (fun w' (h : Up W5 w') => ck6 (blk_below HG5.out h))
        refine start_ (n := 6) (S := Up W5) (ds := [4]) (Sq.M 0 6) (by kernel_rfl) rfl rfl (below_drew (Below.refl _ _)) (fun hS => ?_)
        generalize W5.drew = W6 at hS ⊢
        refine rt_ L.out hS 0 44 (Sq.M 1 6) ?_
        refine ra_ 1 45 (Sq.M 2 6) ?_
        refine rt_ L.out hS 2 46 (Sq.M 3 6) ?_
        refine one_ (i := 3) (N := some 47) (Sq.M 4 6) rfl rfl (by kernel_rfl) (by decide) (fun K hK => ?_)
        refine goes_ Tryz.func60 rfl rfl #[.agg #[.int .i64 (p + d3), .int .i64 (q + 1), .int .i64 r]] (by rfl) rfl rfl (by (try simp only [am_]); first | done | rfl) ?_
        (with_reducible refine (KK.out _).mono ?_)
        rintro e w7 ⟨rfl, hb7⟩
        refine ⟨_, rfl, ?_⟩
        refine hK.out _ _ (below_step hS hb7) (fun hS2 => ?_)
        clear hK K
        refine norm_ (a' := ?_) ?_ ?_
        rotate_left
        · (show Act.put _ (some 47) _ = _; simp only [sp_]; rfl)
        refine last_ (i := 4) (N := none) (Sq.M 5 6) rfl rfl (by kernel_rfl) (by decide) (fun K hK => ?_)
        refine sts_ 37 4 (.tmp 44) (w.heap.size + 1 + 1) 0 #[.slice A0 l0.length c0, .slice A1 l1.length c1, .slice A2 l2.length c2, .int .i64 (p + d3), .int .i64 (q + 1), .int .i64 r] #[.slice none 0 0, .slice none 0 0, .slice none 0 0, .int .i64 0, .int .i64 0, .int .i64 0] #[.slice A0 l0.length c0, .slice A1 l1.length c1, .slice A2 l2.length c2, .int .i64 (p + d3), .int .i64 (q + 1), .int .i64 r] 37 (by rfl) rfl rfl rfl rfl (blk_below BR5.out hS2) (by kernel_rfl) (Nat.le_of_ble_eq_true rfl) (by kernel_rfl) (by kernel_rfl) ?_
        intro w6 hn6 hg6
        refine hK.out _ _ ?_
        clear hK K
        refine ra_ 5 5 (Sq.M 6 6) ?_
        refine done_ (by kernel_rfl) ?_
        go_wp2
        refine bodyPost_ret (results_ct rfl _ _ (w.heap.size + 1 + 1) 37 #[.slice A0 l0.length c0, .slice A1 l1.length c1, .slice A2 l2.length c2, .int .i64 (p + d3), .int .i64 (q + 1), .int .i64 r] (0, 0) _ rfl hn6 Tryz.underlying37 rfl (by kernel_rfl)) rfl ?_
        refine ⟨_, _, _, _, _, _, _, _, _, _, _, _, by rw [HW.out]; cases cb <;> rfl, b_put (below_step HBB.out (below_step HB5.out hS2)) hg6 (by have := HBB.out.size; omega), Only.of_below (b_put (below_step HB5.out hS2) hg6 (by omega)) _ _, fun h => ?_⟩
        rw [HW.out] at h ⊢
        cases cb with
        | false => simp at h
        | true => exact ⟨rfl, rfl, rfl, r_put (Kd.R_below HR0.out hS2) (blk_below BR5.out hS2) (by decide) hg6, r_put (Kd.R_below HR1.out hS2) (blk_below BR5.out hS2) (by decide) hg6, r_put (Kd.R_below HR2.out hS2) (blk_below BR5.out hS2) (by decide) hg6⟩
      · have HW := Aside0.mk (show workF l0 l1 l2 p q r 1 d1 d2 d3 = (l0, l1, l2, p, q, r, false) from workF_none HOK.out (by unfold doF; rw [if_pos rfl, hx]; simp [hx0]))
        have hx1 : (x0 == 0) = false := by simpa using hx0
        clear hx hi
        go_upto_region 5 with (first | (go_at_call 66; (with_reducible refine (KR.out _ HB.out).mono ?_); rintro e w5 ⟨rfl, hb5⟩; clear z0 z1 z2 z3 z4 z5 y3; obtain ⟨z0, z1, z2, z3, z4, z5⟩ := ck6 (HFl.out.up hb5).g; have y3 := ck (blk_below BD.out hb5) 3 rfl) | (go_at_call 65; (with_reducible refine (KI.out _).mono ?_); rintro e w6 ⟨rfl, hb6⟩; clear z0 z1 z2 z3 z4 z5 y3; obtain ⟨z0, z1, z2, z3, z4, z5⟩ := ck6 (HFl.out.up (below_step hb5 hb6)).g; obtain ⟨k0, k1, k2, k3, k4, k5⟩ := fz6 (HFl.out.up (below_step hb5 hb6)).g; have y3 := ck (blk_below BD.out (below_step hb5 hb6)) 3 rfl))
        refine world_ (fun W' => Below W.heap.size W W') (below_step hb5 hb6) ?_
        clear hb5 hb6 z0 z1 z2 z3 z4 z5 y3 k0 k1 k2 k3 k4 k5
        rintro Wx hu
        obtain ⟨z0, z1, z2, z3, z4, z5⟩ := ck6 (HFl.out.up hu).g
        have BRk := blk_below BR.out hu
        go_wp2_with (first | ((with_reducible refine gate_store (t := 37) (p := 4) rfl ?_); refine stm_ 37 4 (.tmp 29) (w.heap.size + 1 + 1) 0 #[.slice A0 l0.length c0, .slice A1 l1.length c1, .slice A2 l2.length c2, .int .i64 p, .int .i64 q, .int .i64 r] #[.slice none 0 0, .slice none 0 0, .slice none 0 0, .int .i64 0, .int .i64 0, .int .i64 0] #[.slice A0 l0.length c0, .slice A1 l1.length c1, .slice A2 l2.length c2, .int .i64 p, .int .i64 q, .int .i64 r] 37 ?e1 ?e2 ?e3 ?e4 ?e5 ?e6 ?e7 ?e8 ?e9 ?e10 ?_; (case e1 => rfl); (case e2 => rfl); (case e3 => rfl); (case e4 => rfl); (case e5 => rfl); (case e6 => exact BRk); (case e7 => kernel_rfl); (case e8 => exact Nat.le_of_ble_eq_true rfl); (case e9 => kernel_rfl); (case e10 => kernel_rfl); intro w6 hn6 hg6))
        refine bodyPost_ret (results_ct rfl _ _ (w.heap.size + 1 + 1) 37 #[.slice A0 l0.length c0, .slice A1 l1.length c1, .slice A2 l2.length c2, .int .i64 p, .int .i64 q, .int .i64 r] (0, 0) _ rfl hn6 Tryz.underlying37 rfl (by kernel_rfl)) rfl ?_
        exact ⟨_, _, _, _, _, _, _, _, _, _, _, _, by rw [HW.out]; rfl, b_put (below_step HBB.out (below_step HB.out hu)) hg6 (by have := HBB.out.size; omega), Only.of_below (b_put (below_step HB.out hu) hg6 (by omega)) _ _, fun h => by rw [HW.out] at h; simp at h⟩
  by_cases e5 : d0 = 5
  · subst e5
    clear e1 KR
    obtain ⟨ib, hi⟩ : ∃ b, inB d3 1 100 = b := ⟨_, rfl⟩
    have KI := Aside0.mk (fun w' => kb_ (in_u d3 1 100 w') hi)
    go_enter Tryz.func47, Tryz.ntmps47
    go_upto_region 10 with (fail)
    refine world_ (fun W => Flt W w0.heap.size w.heap.size A0 c0 l0 A1 c1 l1 A2 c2 l2 p q r ∧ W.heap[w.heap.size + 1]? = some (.cells #[.int .i64 5, .string d1, .int .i64 d2, .int .i64 d3] 60 (0, 0)) ∧ W.heap[w.heap.size + 1 + 1]? = some (.cells #[.slice none 0 0, .slice none 0 0, .slice none 0 0, .int .i64 0, .int .i64 0, .int .i64 0] 37 (0, 0)) ∧ Below w.heap.size w W) HF.out ?_
    clear HF
    rintro W ⟨HFl, BD, BR, HB⟩
    replace HFl := Aside0.mk HFl
    replace BD := Aside0.mk BD
    replace BR := Aside0.mk BR
    replace HB := Aside0.mk HB
    obtain ⟨z0, z1, z2, z3, z4, z5⟩ := ck6 HFl.out.g
    have y3 := ck BD.out 3 rfl
    cases ib with
    | false =>
      have HW := Aside0.mk (show workF l0 l1 l2 p q r 5 d1 d2 d3 = (l0, l1, l2, p, q, r, false) from workF_none HOK.out (by unfold doF; rw [if_neg (by decide), if_neg (by decide), if_neg (by decide), if_neg (by decide), if_pos rfl, hi]; simp))
      clear hi
      go_upto_region 11 with (first | (go_at_call 65; (with_reducible refine (KI.out _).mono ?_); rintro e w6 ⟨rfl, hb6⟩; clear z0 z1 z2 z3 z4 z5 y3; obtain ⟨z0, z1, z2, z3, z4, z5⟩ := ck6 (HFl.out.up hb6).g; obtain ⟨k0, k1, k2, k3, k4, k5⟩ := fz6 (HFl.out.up hb6).g; have y3 := ck (blk_below BD.out hb6) 3 rfl))
      refine world_ (fun W' => Below W.heap.size W W') hb6 ?_
      clear hb6 z0 z1 z2 z3 z4 z5 y3 k0 k1 k2 k3 k4 k5
      rintro Wx hu
      obtain ⟨z0, z1, z2, z3, z4, z5⟩ := ck6 (HFl.out.up hu).g
      have BRk := blk_below BR.out hu
      go_wp2_with (first | ((with_reducible refine gate_store (t := 37) (p := 4) rfl ?_); refine stm_ 37 4 (.tmp 54) (w.heap.size + 1 + 1) 0 #[.slice A0 l0.length c0, .slice A1 l1.length c1, .slice A2 l2.length c2, .int .i64 p, .int .i64 q, .int .i64 r] #[.slice none 0 0, .slice none 0 0, .slice none 0 0, .int .i64 0, .int .i64 0, .int .i64 0] #[.slice A0 l0.length c0, .slice A1 l1.length c1, .slice A2 l2.length c2, .int .i64 p, .int .i64 q, .int .i64 r] 37 ?e1 ?e2 ?e3 ?e4 ?e5 ?e6 ?e7 ?e8 ?e9 ?e10 ?_; (case e1 => rfl); (case e2 => rfl); (case e3 => rfl); (case e4 => rfl); (case e5 => rfl); (case e6 => exact BRk); (case e7 => kernel_rfl); (case e8 => exact Nat.le_of_ble_eq_true rfl); (case e9 => kernel_rfl); (case e10 => kernel_rfl); intro w6 hn6 hg6))
      refine bodyPost_ret (results_ct rfl _ _ (w.heap.size + 1 + 1) 37 #[.slice A0 l0.length c0, .slice A1 l1.length c1, .slice A2 l2.length c2, .int .i64 p, .int .i64 q, .int .i64 r] (0, 0) _ rfl hn6 Tryz.underlying37 rfl (by kernel_rfl)) rfl ?_
      exact ⟨_, _, _, _, _, _, _, _, _, _, _, _, by rw [HW.out]; rfl, b_put (below_step HBB.out (below_step HB.out hu)) hg6 (by have := HBB.out.size; omega), Only.of_below (b_put (below_step HB.out hu) hg6 (by omega)) _ _, fun h => by rw [HW.out] at h; simp at h⟩
    | true =>
      have hd := inB_iff.1 hi
      obtain ⟨cb, hc⟩ : ∃ b, clockB p q (r + d3) = b := ⟨_, rfl⟩
      have KK := Aside0.mk (fun w' => kb_ (clock_u p q (r + d3) w') hc)
      have HW := Aside0.mk (show workF l0 l1 l2 p q r 5 d1 d2 d3 = if cb = true then (l0, l1, l2, p, q, r + d3, true) else (l0, l1, l2, p, q, r, false) from by rw [workF_some HOK.out (show doF l0 l1 l2 p q r 5 d1 d2 d3 = some (l0, l2, p, q, r + d3) by unfold doF; rw [if_neg (by decide), if_neg (by decide), if_neg (by decide), if_neg (by decide), if_pos rfl, hi]; rfl), hc])
      clear hi hc
      go_upto_region 13 with (first | (go_at_call 65; (with_reducible refine (KI.out _).mono ?_); rintro e w6 ⟨rfl, hb6⟩; clear z0 z1 z2 z3 z4 z5 y3; obtain ⟨z0, z1, z2, z3, z4, z5⟩ := ck6 (HFl.out.up hb6).g; obtain ⟨k0, k1, k2, k3, k4, k5⟩ := fz6 (HFl.out.up hb6).g; have y3 := ck (blk_below BD.out hb6) 3 rfl))
      have HF5 := Aside0.mk (show (w6.setCell ⟨w.heap.size, 5, none⟩ (.int .i64 (r + d3))).heap[w.heap.size]? = some (.cells #[.slice A0 l0.length c0, .slice A1 l1.length c1, .slice A2 l2.length c2, .int .i64 p, .int .i64 q, .int .i64 (r + d3)] 37 (0, 0)) ∧ (w6.setCell ⟨w.heap.size, 5, none⟩ (.int .i64 (r + d3))).heap[w.heap.size + 1 + 1]? = some (.cells #[.slice none 0 0, .slice none 0 0, .slice none 0 0, .int .i64 0, .int .i64 0, .int .i64 0] 37 (0, 0)) ∧ Below w.heap.size w (w6.setCell ⟨w.heap.size, 5, none⟩ (.int .i64 (r + d3))) ∧ Kd.R k86 86 (w6.setCell ⟨w.heap.size, 5, none⟩ (.int .i64 (r + d3))) w0.heap.size (fun _ => True) (.slice A0 l0.length c0) l0 ∧ Kd.R k88 88 (w6.setCell ⟨w.heap.size, 5, none⟩ (.int .i64 (r + d3))) w0.heap.size (fun _ => True) (.slice A1 l1.length c1) l1 ∧ Kd.R k90 90 (w6.setCell ⟨w.heap.size, 5, none⟩ (.int .i64 (r + d3))) w0.heap.size (fun _ => True) (.slice A2 l2.length c2) l2 from ⟨(blk_put (cs' := #[.slice A0 l0.length c0, .slice A1 l1.length c1, .slice A2 l2.length c2, .int .i64 p, .int .i64 q, .int .i64 (r + d3)]) (HFl.out.up hb6).g 5 (.int .i64 (r + d3)) rfl), (blk_far (p := ⟨w.heap.size, 5, none⟩) (blk_below BR.out hb6) (by show w.heap.size + 1 + 1 ≠ w.heap.size; omega) (.int .i64 (r + d3))), (below_set (below_step HB.out hb6) (Nat.le_refl _)), (Kd.R_mono (Kd.R_set (HFl.out.up hb6).r0 (HFl.out.up hb6).g (by decide) 5 (.int .i64 (r + d3))) (fun _ _ => trivial)), (Kd.R_mono (Kd.R_set (HFl.out.up hb6).r1 (HFl.out.up hb6).g (by decide) 5 (.int .i64 (r + d3))) (fun _ _ => trivial)), (Kd.R_mono (Kd.R_set (HFl.out.up hb6).r2 (HFl.out.up hb6).g (by decide) 5 (.int .i64 (r + d3))) (fun _ _ => trivial))⟩)
      clear hb6 z0 z1 z2 z3 z4 z5 y3 k0 k1 k2 k3 k4 k5 HFl BD BR HB KI
      generalize (w6.setCell ⟨w.heap.size, 5, none⟩ (.int .i64 (r + d3))) = W5 at HF5 ⊢
      obtain ⟨HG5, BR5, HB5, HR0, HR1, HR2⟩ := HF5.out
      clear HF5
      replace HG5 := Aside0.mk HG5
      replace BR5 := Aside0.mk BR5
      replace HB5 := Aside0.mk HB5
      replace HR0 := Aside0.mk HR0
      replace HR1 := Aside0.mk HR1
      replace HR2 := Aside0.mk HR2
      have L := Aside0.mk (fun w' (h : Up W5 w') => ck6 (blk_below HG5.out h))
      refine start_ (n := 6) (S := Up W5) (ds := [4]) (Sq.M 0 6) (by kernel_rfl) rfl rfl (below_drew (Below.refl _ _)) (fun hS => ?_)
      generalize W5.drew = W6 at hS ⊢
      refine rt_ L.out hS 0 63 (Sq.M 1 6) ?_
      refine ra_ 1 64 (Sq.M 2 6) ?_
      refine rt_ L.out hS 2 65 (Sq.M 3 6) ?_
      refine one_ (i := 3) (N := some 66) (Sq.M 4 6) rfl rfl (by kernel_rfl) (by decide) (fun K hK => ?_)
      refine goes_ Tryz.func60 rfl rfl #[.agg #[.int .i64 p, .int .i64 q, .int .i64 (r + d3)]] (by rfl) rfl rfl (by (try simp only [am_]); first | done | rfl) ?_
      (with_reducible refine (KK.out _).mono ?_)
      rintro e w7 ⟨rfl, hb7⟩
      refine ⟨_, rfl, ?_⟩
      refine hK.out _ _ (below_step hS hb7) (fun hS2 => ?_)
      clear hK K
      refine norm_ (a' := ?_) ?_ ?_
      rotate_left
      · (show Act.put _ (some 66) _ = _; simp only [sp_]; rfl)
      refine last_ (i := 4) (N := none) (Sq.M 5 6) rfl rfl (by kernel_rfl) (by decide) (fun K hK => ?_)
      refine sts_ 37 4 (.tmp 63) (w.heap.size + 1 + 1) 0 #[.slice A0 l0.length c0, .slice A1 l1.length c1, .slice A2 l2.length c2, .int .i64 p, .int .i64 q, .int .i64 (r + d3)] #[.slice none 0 0, .slice none 0 0, .slice none 0 0, .int .i64 0, .int .i64 0, .int .i64 0] #[.slice A0 l0.length c0, .slice A1 l1.length c1, .slice A2 l2.length c2, .int .i64 p, .int .i64 q, .int .i64 (r + d3)] 37 (by rfl) rfl rfl rfl rfl (blk_below BR5.out hS2) (by kernel_rfl) (Nat.le_of_ble_eq_true rfl) (by kernel_rfl) (by kernel_rfl) ?_
      intro w6 hn6 hg6
      refine hK.out _ _ ?_
      clear hK K
      refine ra_ 5 5 (Sq.M 6 6) ?_
      refine done_ (by kernel_rfl) ?_
      go_wp2
      refine bodyPost_ret (results_ct rfl _ _ (w.heap.size + 1 + 1) 37 #[.slice A0 l0.length c0, .slice A1 l1.length c1, .slice A2 l2.length c2, .int .i64 p, .int .i64 q, .int .i64 (r + d3)] (0, 0) _ rfl hn6 Tryz.underlying37 rfl (by kernel_rfl)) rfl ?_
      refine ⟨_, _, _, _, _, _, _, _, _, _, _, _, by rw [HW.out]; cases cb <;> rfl, b_put (below_step HBB.out (below_step HB5.out hS2)) hg6 (by have := HBB.out.size; omega), Only.of_below (b_put (below_step HB5.out hS2) hg6 (by omega)) _ _, fun h => ?_⟩
      rw [HW.out] at h ⊢
      cases cb with
      | false => simp at h
      | true => exact ⟨rfl, rfl, rfl, r_put (Kd.R_below HR0.out hS2) (blk_below BR5.out hS2) (by decide) hg6, r_put (Kd.R_below HR1.out hS2) (blk_below BR5.out hS2) (by decide) hg6, r_put (Kd.R_below HR2.out hS2) (blk_below BR5.out hS2) (by decide) hg6⟩
  by_cases e2 : d0 = 2
  · subst e2
    clear e1 e5 KR
    go_enter Tryz.func47, Tryz.ntmps47
    go_upto_region 15 with (fail)
    refine world_ (fun W => Flt W w0.heap.size w.heap.size A0 c0 l0 A1 c1 l1 A2 c2 l2 p q r ∧ W.heap[w.heap.size + 1]? = some (.cells #[.int .i64 2, .string d1, .int .i64 d2, .int .i64 d3] 60 (0, 0)) ∧ W.heap[w.heap.size + 1 + 1]? = some (.cells #[.slice none 0 0, .slice none 0 0, .slice none 0 0, .int .i64 0, .int .i64 0, .int .i64 0] 37 (0, 0)) ∧ Below w.heap.size w W) HF.out ?_
    clear HF
    rintro W ⟨HFl, BD, BR, HB⟩
    replace HFl := Aside0.mk HFl
    replace BD := Aside0.mk BD
    replace BR := Aside0.mk BR
    replace HB := Aside0.mk HB
    go_wp2
    go_loopw [8] (fun v8 wr => ∃ i : Nat, i ≤ l0.length ∧ v8 = .int .i64 i ∧ Aside0 (∀ j, ∀ h : j < l0.length, j < i → ¬ (l0[j]).f0.toList = d1.toList) ∧ Aside0 (Below W.heap.size W wr)) (fun v8 _ => l0.length - (intOf v8).toNat)
    case atStart => exact ⟨0, Nat.zero_le _, rfl, ⟨fun j _ h => absurd h (Nat.not_lt_zero _)⟩, ⟨Below.refl _ _⟩⟩
    case round =>
      obtain ⟨i, hi, rfl, HN, HZ⟩ := hrel
      by_cases hlt : i < l0.length
      · obtain ⟨ga, ca, ea, hga, hgl, cells, hcells⟩ := Kd.R_form HR0w.out (by omega)
        injection ea with ea1 _ ea2
        subst ea1
        subst ea2
        obtain ⟨ce, hcl, hM, hcc, hfr⟩ := Kd.R_elem (HFl.out.up HZ.out).r0 z86 (i : Int) (by omega) (by omega)
        obtain rfl := k86_openM hM
        have hx0 := hcc 0 _ rfl
        simp only [show (k86).sz = 7 from rfl, Int.toNat_natCast, Nat.add_zero] at hx0
        obtain ⟨s, hs⟩ : ∃ s, (l0[i]).f0 = s := ⟨_, rfl⟩
        have hs2 : (l0.getD i z86).f0 = s := by rw [← hs]; simp [List.getD_eq_getElem?_getD, hlt]
        rw [hs2] at hx0
        have HS := Aside0.mk hs
        have HX := Aside0.mk hx0
        clear hx0 hcc hfr hcl hM hs hs2
        obtain ⟨z0, z1, z2, z3, z4, z5⟩ := ck6 (HFl.out.up HZ.out).g
        go_upto_region 18 with (fail)
        clear z0 z1 z2 z3 z4 z5
        have L := Aside0.mk (fun w' (h : Up wr w') => (⟨ck (HFl.out.up (below_step HZ.out h)).g 0 rfl, bc h HX.out, ck (blk_below BD.out (below_step HZ.out h)) 1 rfl⟩ : w'.cell? ⟨w.heap.size, 0, none⟩ = some (.slice (some ⟨ga, 0, none⟩) l0.length c0) ∧ w'.cell? ⟨ga, i * 7, none⟩ = some (.string s) ∧ w'.cell? ⟨w.heap.size + 1, 1, none⟩ = some (.string d1)))
        refine rg_ (by kernel_rfl) (by kernel_rfl) ?_
        (repeat (first | refine qn_ ?_ | refine ql_ L.out ?_))
        refine qd_ ?_
        intro wq hbq
        clear L
        by_cases he : s.toList = d1.toList
        · have hne : (s.toList == d1.toList) = true := by simpa using he
          rw [← HS.out] at he
          obtain ⟨hc, hb⟩ := task_hit HP.out d1 i hlt he
          have HT := Aside0.mk (show workT l0 d1 p q r = l0.set i (⟨(rd_T86 l0 (i : Int)).f0, (rd_T86 l0 (i : Int)).f1, (rd_T86 l0 (i : Int)).f2, (rd_T86 l0 (i : Int)).f3, (⟨p, q, r⟩ : S35)⟩ : S86) by unfold workT; rw [hc])
          have HW := Aside0.mk (show workF l0 l1 l2 p q r 2 d1 d2 d3 = (workT l0 d1 p q r, l1, l2, p, q, r, true) from by rw [workF_some HOK.out (show doF l0 l1 l2 p q r 2 d1 d2 d3 = some (workT l0 d1 p q r, l2, p, q, r) by unfold doF; rw [if_neg (by decide), if_pos rfl, if_pos hb]), if_pos HP.out.now])
          rw [hne]
          clear hne he hc hb
          have HZ2 := Aside0.mk (below_step HZ.out hbq)
          have hcells2 := blk_below (blk_below (blk_below hcells HB.out) HZ.out) hbq
          clear hbq HZ HN HX
          have hR5 := (HFl.out.up HZ2.out).r0
          obtain ⟨ce, hcl, hM, hcc, hfr⟩ := Kd.R_elem hR5 z86 (i : Int) (by omega) (by omega)
          obtain rfl := k86_openM hM
          have HP5 := Kd.R_seg hR5 (i : Int) (by omega) (by omega) (seg := [.int .i64 p, .int .i64 q, .int .i64 r]) (j := 4) hcl hcc (show 7 ≤ 7 from by decide) (x' := (⟨(rd_T86 l0 (i : Int)).f0, (rd_T86 l0 (i : Int)).f1, (rd_T86 l0 (i : Int)).f2, (rd_T86 l0 (i : Int)).f3, (⟨p, q, r⟩ : S35)⟩ : S86)) (k86_mkM _ _ _ (⟨(rd_T86 l0 (i : Int)).f0, (rd_T86 l0 (i : Int)).f1, (rd_T86 l0 (i : Int)).f2, (rd_T86 l0 (i : Int)).f3, (⟨p, q, r⟩ : S35)⟩ : S86)) (fun _ hk => hk)
          have hx4 := hcc 4 _ rfl
          have hx5 := hcc 5 _ rfl
          have hx6 := hcc 6 _ rfl
          have hf4 := hfr 4
          have hf5 := hfr 5
          have hf6 := hfr 6
          simp only [show (k86).sz = 7 from rfl, Int.toNat_natCast] at hx4 hx5 hx6 hf4 hf5 hf6 HP5
          clear hcl hM hcc hfr hR5
          obtain ⟨z0, z1, z2, z3, z4, z5⟩ := ck6 (HFl.out.up HZ2.out).g
          go_upto_region 20 with (fail)
          have HF5 := Aside0.mk (show (((wq.setCell ⟨ga, i * 7 + 4, none⟩ (.int .i64 p)).setCell ⟨ga, i * 7 + 4 + 1, none⟩ (.int .i64 q)).setCell ⟨ga, i * 7 + 4 + 2, none⟩ (.int .i64 r)).heap[w.heap.size]? = some (.cells #[.slice (some ⟨ga, 0, none⟩) l0.length c0, .slice A1 l1.length c1, .slice A2 l2.length c2, .int .i64 p, .int .i64 q, .int .i64 r] 37 (0, 0)) ∧ (((wq.setCell ⟨ga, i * 7 + 4, none⟩ (.int .i64 p)).setCell ⟨ga, i * 7 + 4 + 1, none⟩ (.int .i64 q)).setCell ⟨ga, i * 7 + 4 + 2, none⟩ (.int .i64 r)).heap[w.heap.size + 1 + 1]? = some (.cells #[.slice none 0 0, .slice none 0 0, .slice none 0 0, .int .i64 0, .int .i64 0, .int .i64 0] 37 (0, 0)) ∧ Below w0.heap.size w0 (((wq.setCell ⟨ga, i * 7 + 4, none⟩ (.int .i64 p)).setCell ⟨ga, i * 7 + 4 + 1, none⟩ (.int .i64 q)).setCell ⟨ga, i * 7 + 4 + 2, none⟩ (.int .i64 r)) ∧ Only w (((wq.setCell ⟨ga, i * 7 + 4, none⟩ (.int .i64 p)).setCell ⟨ga, i * 7 + 4 + 1, none⟩ (.int .i64 q)).setCell ⟨ga, i * 7 + 4 + 2, none⟩ (.int .i64 r)) w.heap.size [86] ∧ Kd.R k86 86 (((wq.setCell ⟨ga, i * 7 + 4, none⟩ (.int .i64 p)).setCell ⟨ga, i * 7 + 4 + 1, none⟩ (.int .i64 q)).setCell ⟨ga, i * 7 + 4 + 2, none⟩ (.int .i64 r)) w0.heap.size (fun _ => True) (.slice (some ⟨ga, 0, none⟩) l0.length c0) (workT l0 d1 p q r) ∧ Kd.R k88 88 (((wq.setCell ⟨ga, i * 7 + 4, none⟩ (.int .i64 p)).setCell ⟨ga, i * 7 + 4 + 1, none⟩ (.int .i64 q)).setCell ⟨ga, i * 7 + 4 + 2, none⟩ (.int .i64 r)) w0.heap.size (fun _ => True) (.slice A1 l1.length c1) l1 ∧ Kd.R k90 90 (((wq.setCell ⟨ga, i * 7 + 4, none⟩ (.int .i64 p)).setCell ⟨ga, i * 7 + 4 + 1, none⟩ (.int .i64 q)).setCell ⟨ga, i * 7 + 4 + 2, none⟩ (.int .i64 r)) w0.heap.size (fun _ => True) (.slice A2 l2.length c2) l2 from
            ⟨blk_grown (HFl.out.up HZ2.out).g HP5.2 (fun e => by injection e with e; exact absurd (typed_one (HFl.out.up HZ2.out).g (by rw [e]; exact hcells2)) (by decide)), blk_grown (blk_below BR.out HZ2.out) HP5.2 (fun e => by injection e with e; exact absurd (typed_one (blk_below BR.out HZ2.out) (by rw [e]; exact hcells2)) (by decide)), below_set (below_set (below_set (below_step HBB.out (below_step HB.out HZ2.out)) hga) hga) hga, Only.set (Only.set (Only.set (Only.of_below (below_step HB.out HZ2.out) _ _) hcells (by simp) _ _) hcells (by simp) _ _) hcells (by simp) _ _, by rw [HT.out]; exact HP5.1, r_put (HFl.out.up HZ2.out).r1 hcells2 (by decide) HP5.2, r_put (HFl.out.up HZ2.out).r2 hcells2 (by decide) HP5.2⟩)
          clear HP5 HT hcells2 hcells z0 z1 z2 z3 z4 z5 hx4 hx5 hx6 hf4 hf5 hf6 HFl BD BR HB HZ2
          generalize ((wq.setCell ⟨ga, i * 7 + 4, none⟩ (.int .i64 p)).setCell ⟨ga, i * 7 + 4 + 1, none⟩ (.int .i64 q)).setCell ⟨ga, i * 7 + 4 + 2, none⟩ (.int .i64 r) = W5 at HF5 ⊢
          obtain ⟨hg5, BRk, hb5, ho5, hr0, hr1, hr2⟩ := HF5.out
          clear HF5
          have HB5 := Aside0.mk hb5
          have HO5 := Aside0.mk ho5
          have HR5 := Aside0.mk (And.intro hr0 (And.intro hr1 hr2))
          obtain ⟨z0, z1, z2, z3, z4, z5⟩ := ck6 hg5
          clear hg5 hb5 ho5 hr0 hr1 hr2
          have BR5 := Aside0.mk BRk
          go_wp2_with (first | ((with_reducible refine gate_store (t := 37) (p := 4) rfl ?_); refine stm_ 37 4 (.tmp 92) (w.heap.size + 1 + 1) 0 #[.slice (some ⟨ga, 0, none⟩) l0.length c0, .slice A1 l1.length c1, .slice A2 l2.length c2, .int .i64 p, .int .i64 q, .int .i64 r] #[.slice none 0 0, .slice none 0 0, .slice none 0 0, .int .i64 0, .int .i64 0, .int .i64 0] #[.slice (some ⟨ga, 0, none⟩) l0.length c0, .slice A1 l1.length c1, .slice A2 l2.length c2, .int .i64 p, .int .i64 q, .int .i64 r] 37 ?e1 ?e2 ?e3 ?e4 ?e5 ?e6 ?e7 ?e8 ?e9 ?e10 ?_; (case e1 => rfl); (case e2 => rfl); (case e3 => rfl); (case e4 => rfl); (case e5 => rfl); (case e6 => exact BRk); (case e7 => kernel_rfl); (case e8 => exact Nat.le_of_ble_eq_true rfl); (case e9 => kernel_rfl); (case e10 => kernel_rfl); intro w6 hn6 hg6))
          refine bodyPost_ret (results_ct rfl _ _ (w.heap.size + 1 + 1) 37 #[.slice (some ⟨ga, 0, none⟩) l0.length c0, .slice A1 l1.length c1, .slice A2 l2.length c2, .int .i64 p, .int .i64 q, .int .i64 r] (0, 0) _ rfl hn6 Tryz.underlying37 rfl (by kernel_rfl)) rfl ?_
          exact ⟨_, _, _, _, _, _, _, _, _, _, _, _, by rw [HW.out]; rfl, b_put HB5.out hg6 (by have := HBB.out.size; omega), Only.put HO5.out hg6 (by omega), fun _ => by rw [HW.out]; exact ⟨rfl, rfl, rfl, r_put HR5.out.1 BR5.out (by decide) hg6, r_put HR5.out.2.1 BR5.out (by decide) hg6, r_put HR5.out.2.2 BR5.out (by decide) hg6⟩⟩
        · have hne : (s.toList == d1.toList) = false := by simpa using he
          rw [← HS.out] at he
          have HN2 := Aside0.mk (show ∀ j, ∀ h : j < l0.length, j < i + 1 → ¬ (l0[j]).f0.toList = d1.toList from fun j h hj => by
            rcases Nat.lt_or_ge j i with x | x
            · exact HN.out j h x
            · obtain rfl : j = i := by omega
              exact he)
          have HZ2 := Aside0.mk (below_step HZ.out hbq)
          rw [hne]
          clear hne he hbq HN HX HS
          go_wp2
          go_roundw
          case rel => exact ⟨i + 1, by omega, by go_num, HN2, HZ2⟩
          case measure => simp [intOf]; omega
      · obtain rfl : i = l0.length := by omega
        have HW := Aside0.mk (show workF l0 l1 l2 p q r 2 d1 d2 d3 = (l0, l1, l2, p, q, r, false) from workF_none HOK.out (by
          unfold doF
          rw [if_neg (by decide), if_pos rfl, if_neg (fun hb => by
            obtain ⟨hm, hz⟩ := bsHit_at hb
            exact HN.out _ hm hm ((cmpT_zero _ _).1 hz))]))
        clear HN
        obtain ⟨z0, z1, z2, z3, z4, z5⟩ := ck6 (HFl.out.up HZ.out).g
        have BRk := blk_below BR.out HZ.out
        go_wp2_with (first | ((with_reducible refine gate_store (t := 37) (p := 4) rfl ?_); refine stm_ 37 4 (.tmp 93) (w.heap.size + 1 + 1) 0 #[.slice A0 l0.length c0, .slice A1 l1.length c1, .slice A2 l2.length c2, .int .i64 p, .int .i64 q, .int .i64 r] #[.slice none 0 0, .slice none 0 0, .slice none 0 0, .int .i64 0, .int .i64 0, .int .i64 0] #[.slice A0 l0.length c0, .slice A1 l1.length c1, .slice A2 l2.length c2, .int .i64 p, .int .i64 q, .int .i64 r] 37 ?e1 ?e2 ?e3 ?e4 ?e5 ?e6 ?e7 ?e8 ?e9 ?e10 ?_; (case e1 => rfl); (case e2 => rfl); (case e3 => rfl); (case e4 => rfl); (case e5 => rfl); (case e6 => exact BRk); (case e7 => kernel_rfl); (case e8 => exact Nat.le_of_ble_eq_true rfl); (case e9 => kernel_rfl); (case e10 => kernel_rfl); intro w6 hn6 hg6))
        refine bodyPost_ret (results_ct rfl _ _ (w.heap.size + 1 + 1) 37 #[.slice A0 l0.length c0, .slice A1 l1.length c1, .slice A2 l2.length c2, .int .i64 p, .int .i64 q, .int .i64 r] (0, 0) _ rfl hn6 Tryz.underlying37 rfl (by kernel_rfl)) rfl ?_
        exact ⟨_, _, _, _, _, _, _, _, _, _, _, _, by rw [HW.out]; rfl, b_put (below_step HBB.out (below_step HB.out HZ.out)) hg6 (by have := HBB.out.size; omega), Only.of_below (b_put (below_step HB.out HZ.out) hg6 (by omega)) _ _, fun h => by rw [HW.out] at h; simp at h⟩
  have k1' : (d0 == 1) = false := by simpa using e1
  have k2' : (d0 == 2) = false := by simpa using e2
  have k5' : (d0 == 5) = false := by simpa using e5
  clear KR
  go_enter Tryz.func47, Tryz.ntmps47
  go_upto_region 22 with (fail)
  refine world_ (fun W => Flt W w0.heap.size w.heap.size A0 c0 l0 A1 c1 l1 A2 c2 l2 p q r ∧ W.heap[w.heap.size + 1]? = some (.cells #[.int .i64 d0, .string d1, .int .i64 d2, .int .i64 d3] 60 (0, 0)) ∧ W.heap[w.heap.size + 1 + 1]? = some (.cells #[.slice none 0 0, .slice none 0 0, .slice none 0 0, .int .i64 0, .int .i64 0, .int .i64 0] 37 (0, 0)) ∧ Below w.heap.size w W) HF.out ?_
  clear HF
  rintro W ⟨HFl, BD, BR, HB⟩
  replace HFl := Aside0.mk HFl
  replace BD := Aside0.mk BD
  replace BR := Aside0.mk BR
  replace HB := Aside0.mk HB
  obtain ⟨m, hm⟩ : ∃ m, cutAt (cmpD d2) l2 = m := ⟨_, rfl⟩
  have hml : m ≤ l2.length := hm ▸ cutAt_le _ _
  have HM := Aside0.mk hm
  clear hm
  go_wp2
  clear k1' k2' k5'
  go_loopw [9] (fun v9 wr => ∃ i : Nat, i ≤ m ∧ v9 = .int .i64 i ∧ Aside0 (Below W.heap.size W wr)) (fun v9 _ => m - (intOf v9).toNat)
  case atStart => exact ⟨0, Nat.zero_le _, rfl, ⟨Below.refl _ _⟩⟩
  case round =>
    obtain ⟨i, hi, rfl, HZ⟩ := hrel
    by_cases hlt : i < m
    · have hlt2 : i < l2.length := by omega
      obtain ⟨ad, e0, hx0, hx1, hx2⟩ := at_T90 (R_cap (HFl.out.up HZ.out).r2).2.2 (i : Int) (by omega) (by omega)
      cases e0
      simp only [Int.toNat_natCast] at hx1
      obtain ⟨f, hf⟩ : ∃ f, (l2[i]).f1 = f := ⟨_, rfl⟩
      rw [rd_at90 hlt2, hf] at hx1
      have hcmp : f < d2 := by rw [← hf]; exact (cmpI_lt _ _).1 (cutAt_below (cmpD d2) l2 i hlt2 (by rw [HM.out]; exact hlt))
      have HX1 := Aside0.mk hx1
      clear hx0 hx1 hx2 hf
      go_upto_region 23 with (fail)
      have L := Aside0.mk (fun w' (h : Up wr w') => (⟨ck (HFl.out.up (below_step HZ.out h)).g 2 rfl, bc h HX1.out, ck (blk_below BD.out (below_step HZ.out h)) 2 rfl⟩ : w'.cell? ⟨w.heap.size, 2, none⟩ = some (.slice (some ad) l2.length c2) ∧ w'.cell? ⟨(ad.add (i * 3)).block, (ad.add (i * 3)).off + 1, none⟩ = some (.int .i64 f) ∧ w'.cell? ⟨w.heap.size + 1, 2, none⟩ = some (.int .i64 d2)))
      refine rg_ (by kernel_rfl) (by kernel_rfl) ?_
      (repeat (first | refine qn_ ?_ | refine ql_ L.out ?_))
      refine qd_ ?_
      intro wq hbq
      have HZ2 := Aside0.mk (below_step HZ.out hbq)
      clear L HX1 hbq HZ
      go_wp2
      go_roundw
      case rel => exact ⟨i + 1, by omega, by go_num, HZ2⟩
      case measure => simp [intOf]; omega
    · obtain rfl : i = m := by omega
      have hE : (∃ hl : i < l2.length, (l2[i]).f1 = d2) ∨ (∃ hl : i < l2.length, ¬ (l2[i]).f1 = d2) ∨ i = l2.length := by
        rcases Nat.lt_or_ge i l2.length with h | h
        · by_cases c : (l2[i]).f1 = d2
          · exact .inl ⟨h, c⟩
          · exact .inr (.inl ⟨h, c⟩)
        · exact .inr (.inr (by omega))
      have HBS := Aside0.mk (show bsHit (cmpD d2) l2 (cutAt (cmpD d2) l2) = match l2[i]? with | some x => cmpD d2 x == 0 | none => false by rw [HM.out]; unfold bsHit; cases l2[i]? <;> rfl)
      refine Or.elim hE (fun h => ?c1) (fun h => Or.elim h (fun h => ?c2) (fun h => ?c3))
      case c1 =>
        obtain ⟨hl, hc⟩ := h
        obtain ⟨ad, e0, hx0, hx1, hx2⟩ := at_T90 (R_cap (HFl.out.up HZ.out).r2).2.2 (i : Int) (by omega) (by omega)
        simp only [Int.toNat_natCast] at hx1
        obtain ⟨f, hf⟩ : ∃ f, (l2[i]).f1 = f := ⟨_, rfl⟩
        rw [rd_at90 hl, hf] at hx1
        rw [hf] at hc
        have hge : ¬ f < d2 := by rw [← hf]; exact fun x => cutAt_above (cmpD d2) l2 (defects_part HP.out d2) i hl (by rw [HM.out]; exact Nat.le_refl _) ((cmpI_lt _ _).2 x)
        have HB1 := Aside0.mk (show bsHit (cmpD d2) l2 (cutAt (cmpD d2) l2) = true by rw [HBS.out, List.getElem?_eq_getElem hl]; show (cmpI (l2[i]).f1 d2 == 0) = _; rw [hf]; simp [cmpI, hc])
        have HX1 := Aside0.mk hx1
        cases e0
        clear hx0 hx1 hx2 hf HBS hE
        have hc2 := hc.symm
        subst hc2
        go_upto_region 23 with (fail)
        have L := Aside0.mk (fun w' (h : Up wr w') => (⟨ck (HFl.out.up (below_step HZ.out h)).g 2 rfl, bc h HX1.out, ck (blk_below BD.out (below_step HZ.out h)) 2 rfl⟩ : w'.cell? ⟨w.heap.size, 2, none⟩ = some (.slice (some ad) l2.length c2) ∧ w'.cell? ⟨(ad.add (i * 3)).block, (ad.add (i * 3)).off + 1, none⟩ = some (.int .i64 d2) ∧ w'.cell? ⟨w.heap.size + 1, 2, none⟩ = some (.int .i64 d2)))
        refine rg_ (by kernel_rfl) (by kernel_rfl) ?_
        (repeat (first | refine qn_ ?_ | refine ql_ L.out ?_))
        refine qd_ ?_
        intro wq hbq
        have HZ2 := Aside0.mk (below_step HZ.out hbq)
        go_upto_region 25 with (fail)
        have HX2 := Aside0.mk (bc hbq HX1.out)
        clear hbq L HX1 HZ
        replace HX1 := HX2
        have L := Aside0.mk (fun w' (h : Up wq w') => (⟨ck (HFl.out.up (below_step HZ2.out h)).g 2 rfl, bc h HX1.out, ck (blk_below BD.out (below_step HZ2.out h)) 2 rfl⟩ : w'.cell? ⟨w.heap.size, 2, none⟩ = some (.slice (some ad) l2.length c2) ∧ w'.cell? ⟨(ad.add (i * 3)).block, (ad.add (i * 3)).off + 1, none⟩ = some (.int .i64 d2) ∧ w'.cell? ⟨w.heap.size + 1, 2, none⟩ = some (.int .i64 d2)))
        refine rg_ (by kernel_rfl) (by kernel_rfl) ?_
        (repeat (first | refine qn_ ?_ | refine ql_ L.out ?_))
        refine qd_ ?_
        intro wp hbp
        have HZ := Aside0.mk (below_step HZ2.out hbp)
        clear L HX1 HX2 HZ2 hbp hge
        by_cases k4 : d0 = 4
        · subst k4
          have HW := Aside0.mk (show workF l0 l1 l2 p q r 4 d1 d2 d3 = (l0, l1, l2.take i ++ l2.drop (i + 1), p, q, r, true) from by rw [workF_some HOK.out (show doF l0 l1 l2 p q r 4 d1 d2 d3 = some (l0, l2.take i ++ l2.drop (i + 1), p, q, r) by unfold doF; rw [if_neg (by decide), if_neg (by decide), if_neg (by decide), if_pos rfl, if_pos HB1.out, HM.out, List.eraseIdx_eq_take_drop_succ]), if_pos HP.out.now])
          clear e1 e2 e5 HB1
          have y0 := ck (blk_below BD.out HZ.out) 0 rfl
          go_upto_region 27 with (fail)
          refine world_ (fun W' => Below W.heap.size W W') HZ.out ?_
          clear HZ y0
          rintro W4 hz4
          have HZ4 := Aside0.mk hz4
          have HB4 := Aside0.mk (below_step HBB.out (below_step HB.out hz4))
          clear hz4
          obtain ⟨i0_, hi0_, _, hsz_, _⟩ := info_parts info90
          have hC := (R_cap (HFl.out.up HZ4.out).r2).2.2
          have hcut1 := cut_to (P := Tryz.prog) 34 90 .i64 Tryz.underlying34 hi0_ (some ad) l2.length c2 (i : Int) (by omega) (by omega) hcc2
          have hcut2 := cut_from (P := Tryz.prog) 34 90 .i64 Tryz.underlying34 hi0_ 3 hsz_ (some ad) l2.length c2 ((i : Int) + 1) (by omega) (by omega)
          simp only [Int.toNat_natCast, show ((i : Int) + 1).toNat = i + 1 by omega] at hcut1 hcut2
          have hr1 := Kd.C_take (m := i) hC (by omega)
          have hr2 := Kd.C_drop (m := i + 1) (c := c2) hC (by omega) hcc2
          rw [List.length_take, Nat.min_eq_left (by omega)] at hr1
          rw [List.length_drop, show (k90).sz = 3 from rfl] at hr2
          obtain ⟨A3, hA3⟩ : ∃ A, A = (if c2 = i + 1 then some ad else (some ad : Option Addr).map (·.add ((i + 1) * 3))) := ⟨_, rfl⟩
          obtain ⟨n3, hn3⟩ : ∃ n, n = l2.length - (i + 1) := ⟨_, rfl⟩
          obtain ⟨c3, hc3⟩ : ∃ n, n = c2 - (i + 1) := ⟨_, rfl⟩
          rw [← hA3, ← hn3] at hr2
          rw [← hA3, ← hn3, ← hc3] at hcut2
          have HC1_ := Aside0.mk hr1
          have HC2_ := Aside0.mk hr2
          have hn3' : n3 ≤ 20 := by omega
          have hwi : IntKind.i64.wrap ((i : Int) + 1) = (i : Int) + 1 := IntWalk.i64_in _ (by omega)
          clear hC hr1 hr2 hA3 hn3 hc3 hi0_ hsz_
          have L := Aside0.mk (fun w' (h : Up W4 w') => ck (HFl.out.up (below_step HZ4.out h)).g 2 rfl)
          refine start_ (n := 14) (S := Up W4) (ds := [13]) (Sq.M 0 14) (by kernel_rfl) rfl rfl (below_drew (Below.refl _ _)) (fun hS => ?_)
          generalize W4.drew = W6 at hS ⊢
          refine ra_ 1 136 (mn_ 14 2) ?_
          refine rt_ L.out hS 2 137 (mn_ 14 6) ?_
          refine ra_ 3 138 (mn_ 14 14) ?_
          refine ra_ 4 139 (mn_ 14 30) ?_
          refine ra_ 6 141 (mn_ 14 94) ?_
          refine rt_ L.out hS 7 142 (mn_ 14 222) ?_
          refine ra_ 8 143 (mn_ 14 478) ?_
          refine ra_ 9 144 (mn_ 14 990) ?_
          refine ra_ 10 145 (mn_ 14 2014) ?_
          clear hcut1 hcut2 hwi
          refine one_ (i := 0) (N := some 135) (mn_ 14 2015) rfl rfl (by kernel_rfl) (by decide) (fun K hK => ?_)
          refine Kd.R_lit_step k90 (w0 := w0) w0.heap.size 90 ?hg (N := 135) ?hd (xs := ([] : List S90)) (inner := []) (ok := fun k => W4.heap.size ≤ k) (okp := fun _ => False) ?hr ?hp (fun _ hk => hk.elim) hS.size (below_step HB4.out hS) (Nat.le_trans HB4.out.size hS.size) (by simp) ?_; (case hd => rfl); (case hg => rfl); (case hr => first | (go_simp; done) | (go_simp; rfl)); (case hp => exact (Reps.none _ _))
          intro v1 w1 hR1 hb1 hg1 hfr1
          have hS1 : Up W4 w1 := hS.grown hg1 hS.size (fun k hk => by cases hk)
          refine hK.out _ _ hS1 (fun hS1' => ?_)
          clear hK K hS1' hfr1 hS hg1
          refine norm_ (a' := ?_) ?_ ?_
          rotate_left
          · (show Act.put _ (some 135) _ = _; simp only [sp_]; rfl)
          refine one_ (i := 5) (N := some 140) (Sq.M 11 14) rfl rfl (by kernel_rfl) (by decide) (fun K hK => ?_)
          refine Kd.R_append_rows_step k90 (w0 := w0) w0.heap.size (by rfl) (.tmp 135) (.tmp 139) 34 90 (.agg #[(.string ⟨#[]⟩), (.int .i64 0), (.int .i64 0)]) 32 rfl Tryz.underlying34 info90 rfl (by decide) (by omega) v1 ([] : List S90) (l2.take i) _ _ _ (fun k => W4.heap.size ≤ k) (fun _ => False) rfl rfl hR1 (Kd.C_below HC1_.out hS1) (fun _ _ h => h) (fun _ h => h.elim) (fun k hk => Nat.le_trans hS1.size hk) hb1 (Nat.le_trans HB4.out.size hS1.size) (by simp; omega) ?_
          intro v2 w2 hR2 w2hb w2hg w2at
          have hS2 : Up W4 w2 := hS1.grown w2hg hS1.size (fun k hk => hR1.1 k hk)
          refine hK.out _ _ hS2 (fun hSx => ?_)
          clear hK K hSx w2at w2hg
          obtain ⟨A_v2, c_v2, e_v2⟩ := Kd.R_slice hR2
          obtain ⟨n_v2, hn_v2⟩ : ∃ n, n = (([] : List S90) ++ (l2.take i)).length := ⟨_, rfl⟩
          rw [← hn_v2] at e_v2
          have HN_v2 := Aside0.mk hn_v2
          clear hn_v2
          subst e_v2
          refine norm_ (a' := ?_) ?_ ?_
          rotate_left
          · (show Act.put _ (some 140) _ = _; simp only [sp_]; rfl)
          refine one_ (i := 11) (N := some 146) (Sq.M 12 14) rfl rfl (by kernel_rfl) (by decide) (fun K hK => ?_)
          refine Kd.R_append_rows_step k90 (w0 := w0) w0.heap.size (by rfl) (.tmp 140) (.tmp 145) 34 90 (.agg #[(.string ⟨#[]⟩), (.int .i64 0), (.int .i64 0)]) 32 rfl Tryz.underlying34 info90 rfl (by decide) (by omega) _ ([] ++ l2.take i) (l2.drop (i + 1)) _ _ _ (fun k => W4.heap.size ≤ k) (fun _ => False) rfl rfl hR2 (Kd.C_below HC2_.out hS2) (fun _ _ h => h) (fun _ h => h.elim) (fun k hk => Nat.le_trans hS2.size hk) w2hb (Nat.le_trans HB4.out.size hS2.size) (by simp; omega) ?_
          intro v3 w3 hR3 w3hb w3hg w3at
          have hS3 : Up W4 w3 := hS2.grown w3hg hS2.size (fun k hk => hR2.1 k hk)
          refine hK.out _ _ hS3 (fun hSx => ?_)
          clear hK K hSx w3at w3hg
          obtain ⟨A_v3, c_v3, e_v3⟩ := Kd.R_slice hR3
          obtain ⟨n_v3, hn_v3⟩ : ∃ n, n = (([] ++ l2.take i) ++ (l2.drop (i + 1))).length := ⟨_, rfl⟩
          rw [← hn_v3] at e_v3
          have HN_v3 := Aside0.mk hn_v3
          clear hn_v3
          subst e_v3
          refine norm_ (a' := ?_) ?_ ?_
          rotate_left
          · (show Act.put _ (some 146) _ = _; simp only [sp_]; rfl)
          refine ra_ 12 147 (Sq.M 13 14) ?_
          refine last_ (i := 13) (N := none) (Sq.M 14 14) rfl rfl (by kernel_rfl) (by decide) (fun K hK => ?_)
          have hgw := (HFl.out.up (below_step HZ4.out hS3)).g
          have hf0 := ck hgw 2 rfl
          have hz0 := blk_frozen hgw 2
          refine skip_ (w1 := ?_) (by rfl) rfl ?_ ?_
          rotate_left
          · go_simp
            rfl
          refine hK.out _ _ ?_
          clear hK K hf0 hz0
          refine done_ (by kernel_rfl) ?_
          have HF5 := Aside0.mk (show (w3.setCell ⟨w.heap.size, 2, none⟩ (.slice A_v3 n_v3 c_v3)).heap[w.heap.size]? = some (.cells #[.slice A0 l0.length c0, .slice A1 l1.length c1, .slice A_v3 n_v3 c_v3, .int .i64 p, .int .i64 q, .int .i64 r] 37 (0, 0)) ∧ (w3.setCell ⟨w.heap.size, 2, none⟩ (.slice A_v3 n_v3 c_v3)).heap[w.heap.size + 1 + 1]? = some (.cells #[.slice none 0 0, .slice none 0 0, .slice none 0 0, .int .i64 0, .int .i64 0, .int .i64 0] 37 (0, 0)) ∧ (Below w0.heap.size w0 (w3.setCell ⟨w.heap.size, 2, none⟩ (.slice A_v3 n_v3 c_v3)) ∧ Below w.heap.size w (w3.setCell ⟨w.heap.size, 2, none⟩ (.slice A_v3 n_v3 c_v3))) ∧ Kd.R k86 86 (w3.setCell ⟨w.heap.size, 2, none⟩ (.slice A_v3 n_v3 c_v3)) w0.heap.size (fun _ => True) (.slice A0 l0.length c0) l0 ∧ Kd.R k88 88 (w3.setCell ⟨w.heap.size, 2, none⟩ (.slice A_v3 n_v3 c_v3)) w0.heap.size (fun _ => True) (.slice A1 l1.length c1) l1 ∧ Kd.R k90 90 (w3.setCell ⟨w.heap.size, 2, none⟩ (.slice A_v3 n_v3 c_v3)) w0.heap.size (fun _ => True) (.slice A_v3 n_v3 c_v3) (l2.take i ++ l2.drop (i + 1)) from
            ⟨blk_put (cs' := #[.slice A0 l0.length c0, .slice A1 l1.length c1, .slice A_v3 n_v3 c_v3, .int .i64 p, .int .i64 q, .int .i64 r]) hgw 2 _ rfl, blk_far (p := ⟨w.heap.size, 2, none⟩) (blk_below BR.out (below_step HZ4.out hS3)) (by show w.heap.size + 1 + 1 ≠ w.heap.size; omega) _, ⟨below_set (below_step HB4.out hS3) HBB.out.size, below_set (below_step HB.out (below_step HZ4.out hS3)) (Nat.le_refl _)⟩, Kd.R_mono (Kd.R_set (HFl.out.up (below_step HZ4.out hS3)).r0 hgw (by decide) 2 _) (fun _ _ => trivial), Kd.R_mono (Kd.R_set (HFl.out.up (below_step HZ4.out hS3)).r1 hgw (by decide) 2 _) (fun _ _ => trivial), Kd.R_mono (Kd.R_set hR3 hgw (by decide) 2 _) (fun _ _ => trivial)⟩)
          clear hgw hR3 hS3 HFl BD BR HB
          generalize w3.setCell ⟨w.heap.size, 2, none⟩ (.slice A_v3 n_v3 c_v3) = W5 at HF5 ⊢
          obtain ⟨hg5, br5, hb5, hr0, hr1, hr2⟩ := HF5.out
          clear HF5
          have BR5 := Aside0.mk br5
          have HB5 := Aside0.mk hb5.1
          have HBw := Aside0.mk hb5.2
          have HR5 := Aside0.mk (And.intro hr0 (And.intro hr1 hr2))
          clear br5 hb5 hr0 hr1 hr2
          obtain ⟨z0, z1, z2, z3, z4, z5⟩ := ck6 hg5
          have BRk := BR5.out
          clear hg5
          go_wp2_with (first | ((with_reducible refine gate_store (t := 37) (p := 4) rfl ?_); refine stm_ 37 4 (.tmp 148) (w.heap.size + 1 + 1) 0 #[.slice A0 l0.length c0, .slice A1 l1.length c1, .slice A_v3 n_v3 c_v3, .int .i64 p, .int .i64 q, .int .i64 r] #[.slice none 0 0, .slice none 0 0, .slice none 0 0, .int .i64 0, .int .i64 0, .int .i64 0] #[.slice A0 l0.length c0, .slice A1 l1.length c1, .slice A_v3 n_v3 c_v3, .int .i64 p, .int .i64 q, .int .i64 r] 37 ?e1 ?e2 ?e3 ?e4 ?e5 ?e6 ?e7 ?e8 ?e9 ?e10 ?_; (case e1 => rfl); (case e2 => rfl); (case e3 => rfl); (case e4 => rfl); (case e5 => rfl); (case e6 => exact BRk); (case e7 => kernel_rfl); (case e8 => exact Nat.le_of_ble_eq_true rfl); (case e9 => kernel_rfl); (case e10 => kernel_rfl); intro w6 hn6 hg6))
          refine bodyPost_ret (results_ct rfl _ _ (w.heap.size + 1 + 1) 37 #[.slice A0 l0.length c0, .slice A1 l1.length c1, .slice A_v3 n_v3 c_v3, .int .i64 p, .int .i64 q, .int .i64 r] (0, 0) _ rfl hn6 Tryz.underlying37 rfl (by kernel_rfl)) rfl ?_
          exact ⟨_, _, _, _, _, _, _, _, _, _, _, _, by rw [HW.out]; rfl, b_put HB5.out hg6 (by have := HBB.out.size; omega), Only.of_below (b_put HBw.out hg6 (by omega)) _ _, fun _ => by rw [HW.out]; exact ⟨rfl, rfl, rfl, r_put HR5.out.1 BR5.out (by decide) hg6, r_put HR5.out.2.1 BR5.out (by decide) hg6, r_put HR5.out.2.2 BR5.out (by decide) hg6⟩⟩
        · by_cases k3 : d0 = 3
          · subst k3
            have k4' : ((3 : Int) == 4) = false := by decide
            have HW := Aside0.mk (show workF l0 l1 l2 p q r 3 d1 d2 d3 = (l0, l1, l2, p, q, r, false) from workF_none HOK.out (by unfold doF; rw [if_neg (by decide), if_neg (by decide), if_pos rfl, HB1.out]; simp))
            clear e1 e2 e5 k4 HB1
            have y0 := ck (blk_below BD.out HZ.out) 0 rfl
            go_upto_region 33 with (fail)
            clear y0
            obtain ⟨z0, z1, z2, z3, z4, z5⟩ := ck6 (HFl.out.up HZ.out).g
            have BRk := blk_below BR.out HZ.out
            go_wp2_with (first | ((with_reducible refine gate_store (t := 37) (p := 4) rfl ?_); refine stm_ 37 4 (.tmp 197) (w.heap.size + 1 + 1) 0 #[.slice A0 l0.length c0, .slice A1 l1.length c1, .slice (some ad) l2.length c2, .int .i64 p, .int .i64 q, .int .i64 r] #[.slice none 0 0, .slice none 0 0, .slice none 0 0, .int .i64 0, .int .i64 0, .int .i64 0] #[.slice A0 l0.length c0, .slice A1 l1.length c1, .slice (some ad) l2.length c2, .int .i64 p, .int .i64 q, .int .i64 r] 37 ?e1 ?e2 ?e3 ?e4 ?e5 ?e6 ?e7 ?e8 ?e9 ?e10 ?_; (case e1 => rfl); (case e2 => rfl); (case e3 => rfl); (case e4 => rfl); (case e5 => rfl); (case e6 => exact BRk); (case e7 => kernel_rfl); (case e8 => exact Nat.le_of_ble_eq_true rfl); (case e9 => kernel_rfl); (case e10 => kernel_rfl); intro w6 hn6 hg6))
            refine bodyPost_ret (results_ct rfl _ _ (w.heap.size + 1 + 1) 37 #[.slice A0 l0.length c0, .slice A1 l1.length c1, .slice (some ad) l2.length c2, .int .i64 p, .int .i64 q, .int .i64 r] (0, 0) _ rfl hn6 Tryz.underlying37 rfl (by kernel_rfl)) rfl ?_
            exact ⟨_, _, _, _, _, _, _, _, _, _, _, _, by rw [HW.out]; rfl, b_put (below_step HBB.out (below_step HB.out HZ.out)) hg6 (by have := HBB.out.size; omega), Only.of_below (b_put (below_step HB.out HZ.out) hg6 (by omega)) _ _, fun h => by rw [HW.out] at h; simp at h⟩
          · have k3' : (d0 == 3) = false := by simpa using k3
            have k4' : (d0 == 4) = false := by simpa using k4
            have HW := Aside0.mk (show workF l0 l1 l2 p q r d0 d1 d2 d3 = (l0, l1, l2, p, q, r, false) from workF_none HOK.out (by unfold doF; rw [if_neg e1, if_neg e2, if_neg k3, if_neg k4, if_neg e5]))
            clear e1 e2 e5 k3 k4 HB1
            have y0 := ck (blk_below BD.out HZ.out) 0 rfl
            go_upto_region 33 with (fail)
            clear y0
            obtain ⟨z0, z1, z2, z3, z4, z5⟩ := ck6 (HFl.out.up HZ.out).g
            have BRk := blk_below BR.out HZ.out
            go_wp2_with (first | ((with_reducible refine gate_store (t := 37) (p := 4) rfl ?_); refine stm_ 37 4 (.tmp 197) (w.heap.size + 1 + 1) 0 #[.slice A0 l0.length c0, .slice A1 l1.length c1, .slice (some ad) l2.length c2, .int .i64 p, .int .i64 q, .int .i64 r] #[.slice none 0 0, .slice none 0 0, .slice none 0 0, .int .i64 0, .int .i64 0, .int .i64 0] #[.slice A0 l0.length c0, .slice A1 l1.length c1, .slice (some ad) l2.length c2, .int .i64 p, .int .i64 q, .int .i64 r] 37 ?e1 ?e2 ?e3 ?e4 ?e5 ?e6 ?e7 ?e8 ?e9 ?e10 ?_; (case e1 => rfl); (case e2 => rfl); (case e3 => rfl); (case e4 => rfl); (case e5 => rfl); (case e6 => exact BRk); (case e7 => kernel_rfl); (case e8 => exact Nat.le_of_ble_eq_true rfl); (case e9 => kernel_rfl); (case e10 => kernel_rfl); intro w6 hn6 hg6))
            refine bodyPost_ret (results_ct rfl _ _ (w.heap.size + 1 + 1) 37 #[.slice A0 l0.length c0, .slice A1 l1.length c1, .slice (some ad) l2.length c2, .int .i64 p, .int .i64 q, .int .i64 r] (0, 0) _ rfl hn6 Tryz.underlying37 rfl (by kernel_rfl)) rfl ?_
            exact ⟨_, _, _, _, _, _, _, _, _, _, _, _, by rw [HW.out]; rfl, b_put (below_step HBB.out (below_step HB.out HZ.out)) hg6 (by have := HBB.out.size; omega), Only.of_below (b_put (below_step HB.out HZ.out) hg6 (by omega)) _ _, fun h => by rw [HW.out] at h; simp at h⟩
      case' c2 =>
        obtain ⟨hl, hc⟩ := h
        obtain ⟨ad, e0, hx0, hx1, hx2⟩ := at_T90 (R_cap (HFl.out.up HZ.out).r2).2.2 (i : Int) (by omega) (by omega)
        simp only [Int.toNat_natCast] at hx1
        obtain ⟨f, hf⟩ : ∃ f, (l2[i]).f1 = f := ⟨_, rfl⟩
        rw [rd_at90 hl, hf] at hx1
        rw [hf] at hc
        have hge : ¬ f < d2 := by rw [← hf]; exact fun x => cutAt_above (cmpD d2) l2 (defects_part HP.out d2) i hl (by rw [HM.out]; exact Nat.le_refl _) ((cmpI_lt _ _).2 x)
        have HB1 := Aside0.mk (show bsHit (cmpD d2) l2 (cutAt (cmpD d2) l2) = false by rw [HBS.out, List.getElem?_eq_getElem hl]; show (cmpI (l2[i]).f1 d2 == 0) = _; rw [hf]; simp [cmpI_zero, hc])
        have HX1 := Aside0.mk hx1
        cases e0
        clear hx0 hx1 hx2 hf HBS hE
        have hc' : (f == d2) = false := by simpa using hc
        go_upto_region 23 with (fail)
        have L := Aside0.mk (fun w' (h : Up wr w') => (⟨ck (HFl.out.up (below_step HZ.out h)).g 2 rfl, bc h HX1.out, ck (blk_below BD.out (below_step HZ.out h)) 2 rfl⟩ : w'.cell? ⟨w.heap.size, 2, none⟩ = some (.slice (some ad) l2.length c2) ∧ w'.cell? ⟨(ad.add (i * 3)).block, (ad.add (i * 3)).off + 1, none⟩ = some (.int .i64 f) ∧ w'.cell? ⟨w.heap.size + 1, 2, none⟩ = some (.int .i64 d2)))
        refine rg_ (by kernel_rfl) (by kernel_rfl) ?_
        (repeat (first | refine qn_ ?_ | refine ql_ L.out ?_))
        refine qd_ ?_
        intro wq hbq
        have HZ2 := Aside0.mk (below_step HZ.out hbq)
        go_upto_region 25 with (fail)
        have HX2 := Aside0.mk (bc hbq HX1.out)
        clear hbq L HX1 HZ
        replace HX1 := HX2
        have L := Aside0.mk (fun w' (h : Up wq w') => (⟨ck (HFl.out.up (below_step HZ2.out h)).g 2 rfl, bc h HX1.out, ck (blk_below BD.out (below_step HZ2.out h)) 2 rfl⟩ : w'.cell? ⟨w.heap.size, 2, none⟩ = some (.slice (some ad) l2.length c2) ∧ w'.cell? ⟨(ad.add (i * 3)).block, (ad.add (i * 3)).off + 1, none⟩ = some (.int .i64 f) ∧ w'.cell? ⟨w.heap.size + 1, 2, none⟩ = some (.int .i64 d2)))
        refine rg_ (by kernel_rfl) (by kernel_rfl) ?_
        (repeat (first | refine qn_ ?_ | refine ql_ L.out ?_))
        refine qd_ ?_
        intro wp hbp
        have HZ := Aside0.mk (below_step HZ2.out hbp)
        clear L HX1 HX2 HZ2 hbp hge
        clear hc hc'
        replace hl := Nat.le_of_lt hl
        obtain ⟨A2, hA2⟩ : ∃ A, A = some ad := ⟨_, rfl⟩
        rw [← hA2] at HFl ⊢
        clear hA2
      case' c3 =>
        have hge := Nat.le_of_eq h.symm
        have HB1 := Aside0.mk (show bsHit (cmpD d2) l2 (cutAt (cmpD d2) l2) = false by rw [HBS.out, List.getElem?_eq_none hge])
        have hl := Nat.le_of_eq h
        have hnl : ¬ i < l2.length := Nat.not_lt.2 hge
        clear HBS hE h
        go_upto_region 23 with (fail)
        have L := Aside0.mk (fun w' (h : Up wr w') => (⟨ck (HFl.out.up (below_step HZ.out h)).g 2 rfl, ck (blk_below BD.out (below_step HZ.out h)) 2 rfl⟩ : w'.cell? ⟨w.heap.size, 2, none⟩ = some (.slice A2 l2.length c2) ∧ w'.cell? ⟨w.heap.size + 1, 2, none⟩ = some (.int .i64 d2)))
        refine rg_ (by kernel_rfl) (by kernel_rfl) ?_
        (repeat (first | refine qn_ ?_ | refine ql_ L.out ?_))
        refine qd_ ?_
        intro wq hbq
        have HZ2 := Aside0.mk (below_step HZ.out hbq)
        go_upto_region 25 with (fail)
        clear hbq L HZ
        have L := Aside0.mk (fun w' (h : Up wq w') => (⟨ck (HFl.out.up (below_step HZ2.out h)).g 2 rfl, ck (blk_below BD.out (below_step HZ2.out h)) 2 rfl⟩ : w'.cell? ⟨w.heap.size, 2, none⟩ = some (.slice A2 l2.length c2) ∧ w'.cell? ⟨w.heap.size + 1, 2, none⟩ = some (.int .i64 d2)))
        refine rg_ (by kernel_rfl) (by kernel_rfl) ?_
        (repeat (first | refine qn_ ?_ | refine ql_ L.out ?_))
        refine qd_ ?_
        intro wp hbp
        have HZ := Aside0.mk (below_step HZ2.out hbp)
        clear L HZ2 hbp
      all_goals
        by_cases k4 : d0 = 4
        · subst k4
          have HW := Aside0.mk (show workF l0 l1 l2 p q r 4 d1 d2 d3 = (l0, l1, l2, p, q, r, false) from workF_none HOK.out (by unfold doF; rw [if_neg (by decide), if_neg (by decide), if_neg (by decide), if_pos rfl, HB1.out]; simp))
          clear e1 e2 e5 HB1
          have k3' : ((4 : Int) == 3) = false := by decide
          have y0 := ck (blk_below BD.out HZ.out) 0 rfl
          go_upto_region 33 with (fail)
          clear y0
          obtain ⟨z0, z1, z2, z3, z4, z5⟩ := ck6 (HFl.out.up HZ.out).g
          have BRk := blk_below BR.out HZ.out
          go_wp2_with (first | ((with_reducible refine gate_store (t := 37) (p := 4) rfl ?_); refine stm_ 37 4 (.tmp 197) (w.heap.size + 1 + 1) 0 #[.slice A0 l0.length c0, .slice A1 l1.length c1, .slice A2 l2.length c2, .int .i64 p, .int .i64 q, .int .i64 r] #[.slice none 0 0, .slice none 0 0, .slice none 0 0, .int .i64 0, .int .i64 0, .int .i64 0] #[.slice A0 l0.length c0, .slice A1 l1.length c1, .slice A2 l2.length c2, .int .i64 p, .int .i64 q, .int .i64 r] 37 ?e1 ?e2 ?e3 ?e4 ?e5 ?e6 ?e7 ?e8 ?e9 ?e10 ?_; (case e1 => rfl); (case e2 => rfl); (case e3 => rfl); (case e4 => rfl); (case e5 => rfl); (case e6 => exact BRk); (case e7 => kernel_rfl); (case e8 => exact Nat.le_of_ble_eq_true rfl); (case e9 => kernel_rfl); (case e10 => kernel_rfl); intro w6 hn6 hg6))
          refine bodyPost_ret (results_ct rfl _ _ (w.heap.size + 1 + 1) 37 #[.slice A0 l0.length c0, .slice A1 l1.length c1, .slice A2 l2.length c2, .int .i64 p, .int .i64 q, .int .i64 r] (0, 0) _ rfl hn6 Tryz.underlying37 rfl (by kernel_rfl)) rfl ?_
          exact ⟨_, _, _, _, _, _, _, _, _, _, _, _, by rw [HW.out]; rfl, b_put (below_step HBB.out (below_step HB.out HZ.out)) hg6 (by have := HBB.out.size; omega), Only.of_below (b_put (below_step HB.out HZ.out) hg6 (by omega)) _ _, fun h => by rw [HW.out] at h; simp at h⟩
        · by_cases k3 : d0 = 3
          · subst k3
            have k4' : ((3 : Int) == 4) = false := by decide
            obtain ⟨nb, hnb⟩ : ∃ b, nameB d1 = b := ⟨_, rfl⟩
            obtain ⟨ib, hib⟩ : ∃ b, inB d2 1 1000000 = b := ⟨_, rfl⟩
            have KN := Aside0.mk (fun w' => kb_ (name_u d1 hz w') hnb)
            have KI := Aside0.mk (fun w' => kb_ (in_u d2 1 1000000 w') hib)
            have HD := Aside0.mk (show doF l0 l1 l2 p q r 3 d1 d2 d3 = if (nb && (ib && decide (l2.length < 20))) = true then some (l0, l2.take i ++ ⟨d1, d2, r⟩ :: l2.drop i, p, q, r) else none by unfold doF; rw [if_neg (by decide), if_neg (by decide), if_pos rfl, HB1.out, HM.out, hnb, hib]; rfl)
            clear hnb hib e1 e2 e5 k4 HB1
            have y0 := ck (blk_below BD.out HZ.out) 0 rfl
            have y1 := ck (blk_below BD.out HZ.out) 1 rfl
            cases nb with
            | false =>
              have HW := Aside0.mk (show workF l0 l1 l2 p q r 3 d1 d2 d3 = (l0, l1, l2, p, q, r, false) from workF_none HOK.out (by rw [HD.out]; rfl))
              go_upto_region 33 with (first | (go_at_call 64; (with_reducible refine (KN.out _).mono ?_); rintro e w5 ⟨rfl, hb5⟩; clear y0 y1; have y2 := ck (blk_below BD.out (below_step HZ.out hb5)) 2 rfl))
              refine world_ (fun W' => Below W.heap.size W W') (below_step HZ.out hb5) ?_
              clear hb5 y2 HZ KN KI HD
              rintro Wx hu
              obtain ⟨z0, z1, z2, z3, z4, z5⟩ := ck6 (HFl.out.up hu).g
              have BRk := blk_below BR.out hu
              go_wp2_with (first | ((with_reducible refine gate_store (t := 37) (p := 4) rfl ?_); refine stm_ 37 4 (.tmp 197) (w.heap.size + 1 + 1) 0 #[.slice A0 l0.length c0, .slice A1 l1.length c1, .slice A2 l2.length c2, .int .i64 p, .int .i64 q, .int .i64 r] #[.slice none 0 0, .slice none 0 0, .slice none 0 0, .int .i64 0, .int .i64 0, .int .i64 0] #[.slice A0 l0.length c0, .slice A1 l1.length c1, .slice A2 l2.length c2, .int .i64 p, .int .i64 q, .int .i64 r] 37 ?e1 ?e2 ?e3 ?e4 ?e5 ?e6 ?e7 ?e8 ?e9 ?e10 ?_; (case e1 => rfl); (case e2 => rfl); (case e3 => rfl); (case e4 => rfl); (case e5 => rfl); (case e6 => exact BRk); (case e7 => kernel_rfl); (case e8 => exact Nat.le_of_ble_eq_true rfl); (case e9 => kernel_rfl); (case e10 => kernel_rfl); intro w6 hn6 hg6))
              refine bodyPost_ret (results_ct rfl _ _ (w.heap.size + 1 + 1) 37 #[.slice A0 l0.length c0, .slice A1 l1.length c1, .slice A2 l2.length c2, .int .i64 p, .int .i64 q, .int .i64 r] (0, 0) _ rfl hn6 Tryz.underlying37 rfl (by kernel_rfl)) rfl ?_
              exact ⟨_, _, _, _, _, _, _, _, _, _, _, _, by rw [HW.out]; rfl, b_put (below_step HBB.out (below_step HB.out hu)) hg6 (by have := HBB.out.size; omega), Only.of_below (b_put (below_step HB.out hu) hg6 (by omega)) _ _, fun h => by rw [HW.out] at h; simp at h⟩
            | true =>
              cases ib with
              | false =>
                have HW := Aside0.mk (show workF l0 l1 l2 p q r 3 d1 d2 d3 = (l0, l1, l2, p, q, r, false) from workF_none HOK.out (by rw [HD.out]; rfl))
                go_upto_region 33 with (first | (go_at_call 64; (with_reducible refine (KN.out _).mono ?_); rintro e w5 ⟨rfl, hb5⟩; clear y0 y1; have y2 := ck (blk_below BD.out (below_step HZ.out hb5)) 2 rfl) | (go_at_call 65; (with_reducible refine (KI.out _).mono ?_); rintro e w6 ⟨rfl, hb6⟩; clear y2; have z2 := ck (HFl.out.up (below_step HZ.out (below_step hb5 hb6))).g 2 rfl))
                refine world_ (fun W' => Below W.heap.size W W') (below_step HZ.out (below_step hb5 hb6)) ?_
                clear hb5 hb6 z2 HZ KN KI HD
                rintro Wx hu
                obtain ⟨z0, z1, z2, z3, z4, z5⟩ := ck6 (HFl.out.up hu).g
                have BRk := blk_below BR.out hu
                go_wp2_with (first | ((with_reducible refine gate_store (t := 37) (p := 4) rfl ?_); refine stm_ 37 4 (.tmp 197) (w.heap.size + 1 + 1) 0 #[.slice A0 l0.length c0, .slice A1 l1.length c1, .slice A2 l2.length c2, .int .i64 p, .int .i64 q, .int .i64 r] #[.slice none 0 0, .slice none 0 0, .slice none 0 0, .int .i64 0, .int .i64 0, .int .i64 0] #[.slice A0 l0.length c0, .slice A1 l1.length c1, .slice A2 l2.length c2, .int .i64 p, .int .i64 q, .int .i64 r] 37 ?e1 ?e2 ?e3 ?e4 ?e5 ?e6 ?e7 ?e8 ?e9 ?e10 ?_; (case e1 => rfl); (case e2 => rfl); (case e3 => rfl); (case e4 => rfl); (case e5 => rfl); (case e6 => exact BRk); (case e7 => kernel_rfl); (case e8 => exact Nat.le_of_ble_eq_true rfl); (case e9 => kernel_rfl); (case e10 => kernel_rfl); intro w6 hn6 hg6))
                refine bodyPost_ret (results_ct rfl _ _ (w.heap.size + 1 + 1) 37 #[.slice A0 l0.length c0, .slice A1 l1.length c1, .slice A2 l2.length c2, .int .i64 p, .int .i64 q, .int .i64 r] (0, 0) _ rfl hn6 Tryz.underlying37 rfl (by kernel_rfl)) rfl ?_
                exact ⟨_, _, _, _, _, _, _, _, _, _, _, _, by rw [HW.out]; rfl, b_put (below_step HBB.out (below_step HB.out hu)) hg6 (by have := HBB.out.size; omega), Only.of_below (b_put (below_step HB.out hu) hg6 (by omega)) _ _, fun h => by rw [HW.out] at h; simp at h⟩
              | true =>
                by_cases hlt : l2.length < 20
                · have HW := Aside0.mk (show workF l0 l1 l2 p q r 3 d1 d2 d3 = (l0, l1, l2.take i ++ ⟨d1, d2, r⟩ :: l2.drop i, p, q, r, true) from by rw [workF_some HOK.out (HD.out.trans (by rw [decide_eq_true hlt]; rfl)), if_pos HP.out.now])
                  clear HD
                  go_upto_region 30 with (first | (go_at_call 64; (with_reducible refine (KN.out _).mono ?_); rintro e w5 ⟨rfl, hb5⟩; clear y0 y1; have y2 := ck (blk_below BD.out (below_step HZ.out hb5)) 2 rfl) | (go_at_call 65; (with_reducible refine (KI.out _).mono ?_); rintro e w6 ⟨rfl, hb6⟩; clear y2; have z2 := ck (HFl.out.up (below_step HZ.out (below_step hb5 hb6))).g 2 rfl))
                  refine world_ (fun W' => Below W.heap.size W W') (below_step HZ.out (below_step hb5 hb6)) ?_
                  clear hb5 hb6 z2 HZ KN KI
                  rintro W4 hz4
                  have HZ4 := Aside0.mk hz4
                  have HB4 := Aside0.mk (below_step HBB.out (below_step HB.out hz4))
                  clear hz4
                  obtain ⟨i0_, hi0_, _, hsz_, _⟩ := info_parts info90
                  have hC := (R_cap (HFl.out.up HZ4.out).r2).2.2
                  have hcut2 := cut_from (P := Tryz.prog) 34 90 .i64 Tryz.underlying34 hi0_ 3 hsz_ A2 l2.length c2 (i : Int) (by omega) (by omega)
                  have hcut1 := cut_to (P := Tryz.prog) 34 90 .i64 Tryz.underlying34 hi0_ A2 l2.length c2 (i : Int) (by omega) (by omega) hcc2
                  simp only [Int.toNat_natCast] at hcut1 hcut2
                  have hr1 := Kd.C_take (m := i) hC (by omega)
                  have hr2 := Kd.C_drop (m := i) (c := c2) hC (by omega) hcc2
                  rw [List.length_take, Nat.min_eq_left (by omega)] at hr1
                  rw [List.length_drop, show (k90).sz = 3 from rfl] at hr2
                  obtain ⟨A3, hA3⟩ : ∃ A, A = (if c2 = i then A2 else (A2 : Option Addr).map (·.add (i * 3))) := ⟨_, rfl⟩
                  obtain ⟨n3, hn3⟩ : ∃ n, n = l2.length - i := ⟨_, rfl⟩
                  obtain ⟨c3, hc3⟩ : ∃ n, n = c2 - i := ⟨_, rfl⟩
                  rw [← hA3, ← hn3] at hr2
                  rw [← hA3, ← hn3, ← hc3] at hcut2
                  have HC1_ := Aside0.mk hr1
                  have HC2_ := Aside0.mk hr2
                  have HCUT1 := Aside0.mk hcut1
                  have hn3' : n3 ≤ 20 := by omega
                  clear hC hr1 hr2 hA3 hn3 hc3 hi0_ hsz_ hcut1
                  have L := Aside0.mk (fun w' (h : Up W4 w') => (⟨ck (HFl.out.up (below_step HZ4.out h)).g 2 rfl, ck (HFl.out.up (below_step HZ4.out h)).g 5 rfl, ck (blk_below BD.out (below_step HZ4.out h)) 1 rfl, ck (blk_below BD.out (below_step HZ4.out h)) 2 rfl⟩ : w'.cell? ⟨w.heap.size, 2, none⟩ = some (.slice A2 l2.length c2) ∧ w'.cell? ⟨w.heap.size, 5, none⟩ = some (.int .i64 r) ∧ w'.cell? ⟨w.heap.size + 1, 1, none⟩ = some (.string d1) ∧ w'.cell? ⟨w.heap.size + 1, 2, none⟩ = some (.int .i64 d2)))
                  refine start_ (n := 15) (S := Up W4) (ds := []) (Sq.M 0 15) (by kernel_rfl) rfl rfl (below_drew (Below.refl _ _)) (fun hS => ?_)
                  generalize W4.drew = W6 at hS ⊢
                  refine ra_ 0 173 (Sq.M 1 15) ?_
                  refine rt_ L.out hS 1 174 (Sq.M 2 15) ?_
                  refine ra_ 2 175 (Sq.M 3 15) ?_
                  refine rt_ L.out hS 3 176 (Sq.M 4 15) ?_
                  refine ra_ 4 177 (Sq.M 5 15) ?_
                  refine ra_ 5 178 (Sq.M 6 15) ?_
                  refine rt_ L.out hS 6 179 (Sq.M 7 15) ?_
                  refine ra_ 7 180 (Sq.M 8 15) ?_
                  refine ra_ 9 182 (mn_ 15 767) ?_
                  refine rt_ L.out hS 10 183 (mn_ 15 1791) ?_
                  refine ra_ 11 184 (mn_ 15 3839) ?_
                  refine ra_ 12 185 (mn_ 15 7935) ?_
                  clear hcut2
                  refine one_ (i := 8) (N := some 181) (Sq.M 13 15) rfl rfl (by kernel_rfl) (by decide) (fun K hK => ?_)
                  refine Kd.R_lit_step k90 (w0 := w0) w0.heap.size 90 ?hg (N := 181) ?hd (xs := [(⟨d1, d2, r⟩ : S90)]) (inner := [.string d1, .int .i64 d2, .int .i64 r]) (ok := fun k => W4.heap.size ≤ k) (okp := fun _ => False) ?hr ?hp (fun _ hk => hk.elim) hS.size (below_step HB4.out hS) (Nat.le_trans HB4.out.size hS.size) (by simp) ?_; (case hd => rfl); (case hg => rfl); (case hr => first | (go_simp; done) | (go_simp; rfl)); (case hp => exact (Reps.c3 (show Kd.M k90 _ _ _ (⟨d1, d2, r⟩ : S90) [.string d1, .int .i64 d2, .int .i64 r] from (k90_mkM _ _ _ (⟨d1, d2, r⟩ : S90))) (Reps.none _ _)))
                  intro v1 w1 hR1 hb1 hg1 hfr1
                  have hS1 : Up W4 w1 := hS.grown hg1 hS.size (fun k hk => by cases hk)
                  refine hK.out _ _ hS1 (fun hS1' => ?_)
                  clear hK K hS1' hfr1 hS hg1
                  refine norm_ (a' := ?_) ?_ ?_
                  rotate_left
                  · (show Act.put _ (some 181) _ = _; simp only [sp_]; rfl)
                  refine one_ (i := 13) (N := some 186) (Sq.M 14 15) rfl rfl (by kernel_rfl) (by decide) (fun K hK => ?_)
                  refine Kd.R_append_rows_step k90 (w0 := w0) w0.heap.size (by rfl) (.tmp 181) (.tmp 185) 34 90 (.agg #[(.string ⟨#[]⟩), (.int .i64 0), (.int .i64 0)]) 32 rfl Tryz.underlying34 info90 rfl (by decide) (by omega) v1 [(⟨d1, d2, r⟩ : S90)] (l2.drop i) _ _ _ (fun k => W4.heap.size ≤ k) (fun _ => False) rfl rfl hR1 (Kd.C_below HC2_.out hS1) (fun _ _ h => h) (fun _ h => h.elim) (fun k hk => Nat.le_trans hS1.size hk) hb1 (Nat.le_trans HB4.out.size hS1.size) (by simp; omega) ?_
                  intro v2 w2 hR2 w2hb w2hg w2at
                  have hS2 : Up W4 w2 := hS1.grown w2hg hS1.size (fun k hk => hR1.1 k hk)
                  refine hK.out _ _ hS2 (fun hSx => ?_)
                  clear hK K hSx w2at w2hg
                  obtain ⟨A_v2, c_v2, e_v2⟩ := Kd.R_slice hR2
                  obtain ⟨n_v2, hn_v2⟩ : ∃ n, n = ([(⟨d1, d2, r⟩ : S90)] ++ (l2.drop i)).length := ⟨_, rfl⟩
                  rw [← hn_v2] at e_v2
                  have HN_v2 := Aside0.mk hn_v2
                  clear hn_v2
                  subst e_v2
                  refine norm_ (a' := ?_) ?_ ?_
                  rotate_left
                  · (show Act.put _ (some 186) _ = _; simp only [sp_]; rfl)
                  refine ra_ 14 11 (Sq.M 15 15) ?_
                  refine done_ (by kernel_rfl) ?_
                  go_upto_region 31 with (fail)
                  have HF6 := Aside0.mk (And.intro hS2 (And.intro hR2 w2hb))
                  clear hS2 hR2 w2hb hS1 hR1 hb1 L HC2_
                  refine world_ (fun W' => Up W4 W' ∧ Kd.R k90 90 W' w0.heap.size (fun k => W4.heap.size ≤ k) (.slice A_v2 n_v2 c_v2) ([(⟨d1, d2, r⟩ : S90)] ++ l2.drop i) ∧ Below w0.heap.size w0 W') HF6.out ?_
                  clear HF6
                  rintro W7 ⟨hS7, hR7, hB7⟩
                  have HR7 := Aside0.mk hR7
                  have HB7 := Aside0.mk hB7
                  have HS7 := Aside0.mk hS7
                  have hnv : n_v2 ≤ 21 := by rw [HN_v2.out]; simp; omega
                  have hcut1 := HCUT1.out
                  clear hR7 hB7 hS7
                  have z2 := ck (HFl.out.up (below_step HZ4.out HS7.out)).g 2 rfl
                  go_upto_region 32 with (first | ((with_reducible refine gate_dst (N := 187) rfl ?_); refine Kd.R_lit k90 (w0 := w0) w0.heap.size 90 ?hg (N := 187) ?hd (xs := ([] : List S90)) (inner := []) (ok := fun k => W7.heap.size ≤ k) (okp := fun _ => False) ?hr ?hp (fun _ hk => hk.elim) (Nat.le_refl _) HB7.out HB7.out.size (by simp) ?_; (case hd => rfl); (case hg => rfl); (case hr => first | (go_simp; done) | (go_simp; rfl)); (case hp => exact (Reps.none _ _)); intro v8 w8 hR8 hb8 hg8 hfr8; clear hfr8; have HR8 := Aside0.mk hR8; have HB8 := Aside0.mk hb8; have HU8 := Aside0.mk (show Up W7 w8 from (Below.refl W7.heap.size W7).grown hg8 (Nat.le_refl _) (fun k hk => by cases hk)); clear hR8 hb8 hg8 z2; have z2 := ck (HFl.out.up (below_step HZ4.out (below_step HS7.out HU8.out))).g 2 rfl) | ((with_reducible refine gate_dst (N := 192) rfl ?_); refine Kd.R_append_rows k90 (w0 := w0) w0.heap.size (by rfl) (.tmp 187) (.tmp 191) 34 90 (.agg #[(.string ⟨#[]⟩), (.int .i64 0), (.int .i64 0)]) 32 rfl Tryz.underlying34 info90 rfl (by decide) (by omega) v8 ([] : List S90) (l2.take i) _ _ _ (fun k => W7.heap.size ≤ k) (fun _ => False) rfl rfl ?h1 ?h2 (fun _ _ h => h) (fun _ h => h.elim) (fun k hk => Nat.le_trans HU8.out.size hk) ?h3 ?h4 ?h5 ?_; (case h1 => exact HR8.out); (case h2 => exact Kd.C_below HC1_.out (below_step HS7.out HU8.out)); (case h3 => exact HB8.out); (case h4 => exact HB8.out.size); (case h5 => simp; omega); intro v9 w9 hR9 hb9 hg9 hat9; clear hat9; have HU9 := Aside0.mk (show Up W7 w9 from HU8.out.grown hg9 HU8.out.size (fun k hk => HR8.out.1 k hk)); have HR9 := Aside0.mk hR9; have HB9 := Aside0.mk hb9; clear hR9 hb9 hg9 z2 HR8 HB8 HU8; have z2 := ck (HFl.out.up (below_step HZ4.out (below_step HS7.out HU9.out))).g 2 rfl) | ((with_reducible refine gate_dst (N := 194) rfl ?_); refine Kd.R_append_rows k90 (w0 := w0) w0.heap.size (by rfl) (.tmp 192) (.tmp 193) 34 90 (.agg #[(.string ⟨#[]⟩), (.int .i64 0), (.int .i64 0)]) 32 rfl Tryz.underlying34 info90 rfl (by decide) (by omega) v9 ([] ++ l2.take i) ([(⟨d1, d2, r⟩ : S90)] ++ l2.drop i) A_v2 n_v2 c_v2 (fun k => W7.heap.size ≤ k) (fun _ => False) rfl rfl ?h1 ?h2 (fun _ _ h => h) (fun _ h => h.elim) (fun k hk => Nat.le_trans HU9.out.size hk) ?h3 ?h4 ?h5 ?_; (case h1 => exact HR9.out); (case h2 => rw [HN_v2.out]; exact (R_cap (Kd.R_below HR7.out HU9.out)).2.2); (case h3 => exact HB9.out); (case h4 => exact HB9.out.size); (case h5 => simp; omega); intro v3 w3 hR3 hb3 hg3 hat3; clear hat3; have HU3 := Aside0.mk (show Up W7 w3 from HU9.out.grown hg3 HU9.out.size (fun k hk => HR9.out.1 k hk)); obtain ⟨A_v3, c_v3, e_v3⟩ := Kd.R_slice hR3; obtain ⟨n_v3, hn_v3⟩ : ∃ n, n = (([] ++ l2.take i) ++ ([(⟨d1, d2, r⟩ : S90)] ++ l2.drop i)).length := ⟨_, rfl⟩; rw [← hn_v3] at e_v3; subst e_v3; clear hn_v3; have HR3 := Aside0.mk hR3; clear hR3 hb3 hg3 z2 HR9 HB9 HU9; have z2 := ck (HFl.out.up (below_step HZ4.out (below_step HS7.out HU3.out))).g 2 rfl; have k2 := blk_frozen (HFl.out.up (below_step HZ4.out (below_step HS7.out HU3.out))).g 2))
                  have hS3 := below_step HS7.out HU3.out
                  have hR3 := HR3.out
                  have hgw := (HFl.out.up (below_step HZ4.out hS3)).g
                  clear z2 k2 HR3 HU3 HR7 HB7 HS7
                  have HF5 := Aside0.mk (show (w3.setCell ⟨w.heap.size, 2, none⟩ (.slice A_v3 n_v3 c_v3)).heap[w.heap.size]? = some (.cells #[.slice A0 l0.length c0, .slice A1 l1.length c1, .slice A_v3 n_v3 c_v3, .int .i64 p, .int .i64 q, .int .i64 r] 37 (0, 0)) ∧ (w3.setCell ⟨w.heap.size, 2, none⟩ (.slice A_v3 n_v3 c_v3)).heap[w.heap.size + 1 + 1]? = some (.cells #[.slice none 0 0, .slice none 0 0, .slice none 0 0, .int .i64 0, .int .i64 0, .int .i64 0] 37 (0, 0)) ∧ (Below w0.heap.size w0 (w3.setCell ⟨w.heap.size, 2, none⟩ (.slice A_v3 n_v3 c_v3)) ∧ Below w.heap.size w (w3.setCell ⟨w.heap.size, 2, none⟩ (.slice A_v3 n_v3 c_v3))) ∧ Kd.R k86 86 (w3.setCell ⟨w.heap.size, 2, none⟩ (.slice A_v3 n_v3 c_v3)) w0.heap.size (fun _ => True) (.slice A0 l0.length c0) l0 ∧ Kd.R k88 88 (w3.setCell ⟨w.heap.size, 2, none⟩ (.slice A_v3 n_v3 c_v3)) w0.heap.size (fun _ => True) (.slice A1 l1.length c1) l1 ∧ Kd.R k90 90 (w3.setCell ⟨w.heap.size, 2, none⟩ (.slice A_v3 n_v3 c_v3)) w0.heap.size (fun _ => True) (.slice A_v3 n_v3 c_v3) (l2.take i ++ ⟨d1, d2, r⟩ :: l2.drop i) from
                    ⟨blk_put (cs' := #[.slice A0 l0.length c0, .slice A1 l1.length c1, .slice A_v3 n_v3 c_v3, .int .i64 p, .int .i64 q, .int .i64 r]) hgw 2 _ rfl, blk_far (p := ⟨w.heap.size, 2, none⟩) (blk_below BR.out (below_step HZ4.out hS3)) (by show w.heap.size + 1 + 1 ≠ w.heap.size; omega) _, ⟨below_set (below_step HB4.out hS3) HBB.out.size, below_set (below_step HB.out (below_step HZ4.out hS3)) (Nat.le_refl _)⟩, Kd.R_mono (Kd.R_set (HFl.out.up (below_step HZ4.out hS3)).r0 hgw (by decide) 2 _) (fun _ _ => trivial), Kd.R_mono (Kd.R_set (HFl.out.up (below_step HZ4.out hS3)).r1 hgw (by decide) 2 _) (fun _ _ => trivial), Kd.R_mono (Kd.R_set hR3 hgw (by decide) 2 _) (fun _ _ => trivial)⟩)
                  clear hgw hR3 hS3 HFl BD BR HB
                  generalize w3.setCell ⟨w.heap.size, 2, none⟩ (.slice A_v3 n_v3 c_v3) = W5 at HF5 ⊢
                  obtain ⟨hg5, br5, hb5, hr0, hr1, hr2⟩ := HF5.out
                  clear HF5
                  have BR5 := Aside0.mk br5
                  have HB5 := Aside0.mk hb5.1
                  have HBw := Aside0.mk hb5.2
                  have HR5 := Aside0.mk (And.intro hr0 (And.intro hr1 hr2))
                  clear br5 hb5 hr0 hr1 hr2
                  obtain ⟨z0, z1, z2, z3, z4, z5⟩ := ck6 hg5
                  have BRk := BR5.out
                  clear hg5
                  go_wp2_with (first | ((with_reducible refine gate_store (t := 37) (p := 4) rfl ?_); refine stm_ 37 4 (.tmp 196) (w.heap.size + 1 + 1) 0 #[.slice A0 l0.length c0, .slice A1 l1.length c1, .slice A_v3 n_v3 c_v3, .int .i64 p, .int .i64 q, .int .i64 r] #[.slice none 0 0, .slice none 0 0, .slice none 0 0, .int .i64 0, .int .i64 0, .int .i64 0] #[.slice A0 l0.length c0, .slice A1 l1.length c1, .slice A_v3 n_v3 c_v3, .int .i64 p, .int .i64 q, .int .i64 r] 37 ?e1 ?e2 ?e3 ?e4 ?e5 ?e6 ?e7 ?e8 ?e9 ?e10 ?_; (case e1 => rfl); (case e2 => rfl); (case e3 => rfl); (case e4 => rfl); (case e5 => rfl); (case e6 => exact BRk); (case e7 => kernel_rfl); (case e8 => exact Nat.le_of_ble_eq_true rfl); (case e9 => kernel_rfl); (case e10 => kernel_rfl); intro w6 hn6 hg6))
                  refine bodyPost_ret (results_ct rfl _ _ (w.heap.size + 1 + 1) 37 #[.slice A0 l0.length c0, .slice A1 l1.length c1, .slice A_v3 n_v3 c_v3, .int .i64 p, .int .i64 q, .int .i64 r] (0, 0) _ rfl hn6 Tryz.underlying37 rfl (by kernel_rfl)) rfl ?_
                  exact ⟨_, _, _, _, _, _, _, _, _, _, _, _, by rw [HW.out]; rfl, b_put HB5.out hg6 (by have := HBB.out.size; omega), Only.of_below (b_put HBw.out hg6 (by omega)) _ _, fun _ => by rw [HW.out]; exact ⟨rfl, rfl, rfl, r_put HR5.out.1 BR5.out (by decide) hg6, r_put HR5.out.2.1 BR5.out (by decide) hg6, r_put HR5.out.2.2 BR5.out (by decide) hg6⟩⟩
                · have HW := Aside0.mk (show workF l0 l1 l2 p q r 3 d1 d2 d3 = (l0, l1, l2, p, q, r, false) from workF_none HOK.out (by rw [HD.out, decide_eq_false hlt]; rfl))
                  go_upto_region 33 with (first | (go_at_call 64; (with_reducible refine (KN.out _).mono ?_); rintro e w5 ⟨rfl, hb5⟩; clear y0 y1; have y2 := ck (blk_below BD.out (below_step HZ.out hb5)) 2 rfl) | (go_at_call 65; (with_reducible refine (KI.out _).mono ?_); rintro e w6 ⟨rfl, hb6⟩; clear y2; have z2 := ck (HFl.out.up (below_step HZ.out (below_step hb5 hb6))).g 2 rfl))
                  refine world_ (fun W' => Below W.heap.size W W') (below_step HZ.out (below_step hb5 hb6)) ?_
                  clear hb5 hb6 z2 HZ KN KI HD
                  rintro Wx hu
                  obtain ⟨z0, z1, z2, z3, z4, z5⟩ := ck6 (HFl.out.up hu).g
                  have BRk := blk_below BR.out hu
                  go_wp2_with (first | ((with_reducible refine gate_store (t := 37) (p := 4) rfl ?_); refine stm_ 37 4 (.tmp 197) (w.heap.size + 1 + 1) 0 #[.slice A0 l0.length c0, .slice A1 l1.length c1, .slice A2 l2.length c2, .int .i64 p, .int .i64 q, .int .i64 r] #[.slice none 0 0, .slice none 0 0, .slice none 0 0, .int .i64 0, .int .i64 0, .int .i64 0] #[.slice A0 l0.length c0, .slice A1 l1.length c1, .slice A2 l2.length c2, .int .i64 p, .int .i64 q, .int .i64 r] 37 ?e1 ?e2 ?e3 ?e4 ?e5 ?e6 ?e7 ?e8 ?e9 ?e10 ?_; (case e1 => rfl); (case e2 => rfl); (case e3 => rfl); (case e4 => rfl); (case e5 => rfl); (case e6 => exact BRk); (case e7 => kernel_rfl); (case e8 => exact Nat.le_of_ble_eq_true rfl); (case e9 => kernel_rfl); (case e10 => kernel_rfl); intro w6 hn6 hg6))
                  refine bodyPost_ret (results_ct rfl _ _ (w.heap.size + 1 + 1) 37 #[.slice A0 l0.length c0, .slice A1 l1.length c1, .slice A2 l2.length c2, .int .i64 p, .int .i64 q, .int .i64 r] (0, 0) _ rfl hn6 Tryz.underlying37 rfl (by kernel_rfl)) rfl ?_
                  exact ⟨_, _, _, _, _, _, _, _, _, _, _, _, by rw [HW.out]; rfl, b_put (below_step HBB.out (below_step HB.out hu)) hg6 (by have := HBB.out.size; omega), Only.of_below (b_put (below_step HB.out hu) hg6 (by omega)) _ _, fun h => by rw [HW.out] at h; simp at h⟩
          · have k3' : (d0 == 3) = false := by simpa using k3
            have k4' : (d0 == 4) = false := by simpa using k4
            have HW := Aside0.mk (show workF l0 l1 l2 p q r d0 d1 d2 d3 = (l0, l1, l2, p, q, r, false) from workF_none HOK.out (by unfold doF; rw [if_neg e1, if_neg e2, if_neg k3, if_neg k4, if_neg e5]))
            clear e1 e2 e5 k3 k4 HB1
            have y0 := ck (blk_below BD.out HZ.out) 0 rfl
            go_upto_region 33 with (fail)
            clear y0
            obtain ⟨z0, z1, z2, z3, z4, z5⟩ := ck6 (HFl.out.up HZ.out).g
            have BRk := blk_below BR.out HZ.out
            go_wp2_with (first | ((with_reducible refine gate_store (t := 37) (p := 4) rfl ?_); refine stm_ 37 4 (.tmp 197) (w.heap.size + 1 + 1) 0 #[.slice A0 l0.length c0, .slice A1 l1.length c1, .slice A2 l2.length c2, .int .i64 p, .int .i64 q, .int .i64 r] #[.slice none 0 0, .slice none 0 0, .slice none 0 0, .int .i64 0, .int .i64 0, .int .i64 0] #[.slice A0 l0.length c0, .slice A1 l1.length c1, .slice A2 l2.length c2, .int .i64 p, .int .i64 q, .int .i64 r] 37 ?e1 ?e2 ?e3 ?e4 ?e5 ?e6 ?e7 ?e8 ?e9 ?e10 ?_; (case e1 => rfl); (case e2 => rfl); (case e3 => rfl); (case e4 => rfl); (case e5 => rfl); (case e6 => exact BRk); (case e7 => kernel_rfl); (case e8 => exact Nat.le_of_ble_eq_true rfl); (case e9 => kernel_rfl); (case e10 => kernel_rfl); intro w6 hn6 hg6))
            refine bodyPost_ret (results_ct rfl _ _ (w.heap.size + 1 + 1) 37 #[.slice A0 l0.length c0, .slice A1 l1.length c1, .slice A2 l2.length c2, .int .i64 p, .int .i64 q, .int .i64 r] (0, 0) _ rfl hn6 Tryz.underlying37 rfl (by kernel_rfl)) rfl ?_
            exact ⟨_, _, _, _, _, _, _, _, _, _, _, _, by rw [HW.out]; rfl, b_put (below_step HBB.out (below_step HB.out HZ.out)) hg6 (by have := HBB.out.size; omega), Only.of_below (b_put (below_step HB.out HZ.out) hg6 (by omega)) _ _, fun h => by rw [HW.out] at h; simp at h⟩
-- HAND TO

end Go.Proofs.YtdimdlifjdbgnaaGreat.PFnExactRunWork
