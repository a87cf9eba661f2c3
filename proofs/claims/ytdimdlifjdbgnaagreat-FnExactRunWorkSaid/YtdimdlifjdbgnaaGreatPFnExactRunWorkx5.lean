import Derived.Test.YtdimdlifjdbgnaaGreatPFnExactRunWorkx4
namespace Go.Proofs.YtdimdlifjdbgnaaGreat.PFnExactRunWork
open Go.RowKit Go.Proofs.YtdimdlifjdbgnaaGreatW.PrintWords Go.Proofs.YtdimdlifjdbgnaaGreatW.PrintLast Go.Proofs.YtdimdlifjdbgnaaGreatW.PrintMore Go.Proofs.YtdimdlifjdbgnaaGreat.Sq
attribute [local go_sem] max2_int min2_int max_two min_two max_three min_three max_four min_four
set_option linter.unusedVariables false
set_option linter.unusedSimpArgs false

/- spec_l19Carry: told with spec.Release -/

/- spec_l19Many: told with spec.Release -/

-- HAND FROM
open Go.Proofs.YtdimdlifjdbgnaaGreat.Base Go.Proofs.YtdimdlifjdbgnaaGreat.Sq
def leftI (b p : Int) : Int := mx (b - p) 0
def dueB (h c d p q r : Int) : Bool := (decide (h > 0) && decide (p ≥ h)) || ((decide (c > 0) && decide (q ≥ c)) || (decide (d > 0) && decide (r ≥ d)))
def due19 (n : ByteArray) (h c d p q r p' q' r' : Int) : Bool × Int × Int × Int × Bool :=
  if (taskB n h c d p q r && (clockB p' q' r' && behindB p q r p' q' r')) = true then (dueB h c d (p' - p) (q' - q) (r' - r), leftI h (p' - p), leftI c (q' - q), leftI d (r' - r), true) else (false, 0, 0, 0, false)
def ixOf {α : Type} (q : α → Bool) : List α → Int
  | [] => -1
  | x :: l => if q x = true then 0 else if ixOf q l < 0 then -1 else ixOf q l + 1
theorem ixOf_none {α : Type} {q : α → Bool} : ∀ {l : List α}, l.any q = false → ixOf q l = -1
  | [], _ => rfl
  | x :: l, h => by
    simp only [List.any_cons, Bool.or_eq_false_iff] at h
    simp [ixOf, h.1, ixOf_none h.2]
theorem ixOf_at {α : Type} {q : α → Bool} : ∀ {l : List α} {i : Nat} (hi : i < l.length), (l.take i).any q = false → q l[i] = true → ixOf q l = (i : Int)
  | x :: l, 0, _, _, h => by simp at h; simp [ixOf, h]
  | x :: l, i + 1, hi, hn, h => by
    simp only [List.take_succ_cons, List.any_cons, Bool.or_eq_false_iff] at hn
    have := ixOf_at (l := l) (i := i) (by simpa using hi) hn.2 (by simpa using h)
    simp [ixOf, hn.1, this]
    omega
theorem find_at {α : Type} {q : α → Bool} : ∀ {l : List α} {i : Nat} (hi : i < l.length), (l.take i).any q = false → q l[i] = true → l.find? q = some l[i]
  | x :: l, 0, _, _, h => by simp at h; simp [h]
  | x :: l, i + 1, hi, hn, h => by
    simp only [List.take_succ_cons, List.any_cons, Bool.or_eq_false_iff] at hn
    have := find_at (l := l) (i := i) (by simpa using hi) hn.2 (by simpa using h)
    simp [hn.1, this]
theorem find_no {α : Type} {q : α → Bool} {l : List α} (h : l.any q = false) : l.find? q = none := by
  rw [List.find?_eq_none]; intro x hx; simpa using List.any_eq_false.1 h x hx
theorem ixOf_ways {α : Type} (q : α → Bool) : ∀ l : List α, (ixOf q l = -1 ∧ l.any q = false) ∨ ∃ i : Nat, ∃ h : i < l.length, ixOf q l = (i : Int) ∧ (l.take i).any q = false ∧ q l[i] = true
  | [] => .inl ⟨rfl, rfl⟩
  | x :: l => by
    cases hx : q x with
    | true => exact .inr ⟨0, by simp, by simp [ixOf, hx], by simp, by simpa using hx⟩
    | false =>
      rcases ixOf_ways q l with ⟨e1, e2⟩ | ⟨i, h, e1, e2, e3⟩
      · exact .inl ⟨by simp [ixOf, hx, e1], by simp [hx, e2]⟩
      · exact .inr ⟨i + 1, by simpa using h, by simp [ixOf, hx, e1]; omega, by simp [hx, e2], by simpa using e3⟩
theorem any_step {α : Type} {q : α → Bool} {l : List α} {i : Nat} (h : i < l.length) (hn : (l.take i).any q = false) (hb : q l[i] = false) : (l.take (i + 1)).any q = false := by
  rw [List.take_succ_eq_append_getElem h, List.any_append, hn]; simp [hb]
theorem any_hit {α : Type} {q : α → Bool} {l : List α} {i : Nat} (h : i < l.length) (hb : q l[i] = true) : l.any q = true := List.any_eq_true.2 ⟨l[i], List.getElem_mem h, hb⟩
def nameOf (q : S90 → Bool) (l : List S90) : ByteArray := match l.find? q with | some d => d.f0 | none => ⟨#[]⟩
def cntOf (s : ByteArray) (l : List S90) : Nat := l.countP (fun d => d.f0.toList == s.toList)
def cix (cs : List S88) (d : S90) : Int := ixOf (fun c => c.f0.toList == d.f0.toList) cs
def relT (p q r : Int) (t : S86) : Bool := (due19 t.f0 t.f1 t.f2 t.f3 t.f4.f0 t.f4.f1 t.f4.f2 p q r).1
def rel1 (cs : List S88) (d : S90) : Bool := decide (cix cs d < 0)
def rel2 (cs : List S88) (ds : List S90) (d : S90) : Bool := decide ((rd_T88 cs (cix cs d)).f1 < (cntOf d.f0 ds : Int))
def rel3 (cs : List S88) (r : Int) (d : S90) : Bool := decide ((rd_T88 cs (cix cs d)).f2 < r - d.f2)
def releaseF (ts : List S86) (cs : List S88) (ds : List S90) (p q r : Int) : Int × ByteArray :=
  match ts.find? (relT p q r) with
  | some t => (2, t.f0)
  | none => if ds.any (rel1 cs) = true then (3, nameOf (rel1 cs) ds) else if ds.any (rel2 cs ds) = true then (4, nameOf (rel2 cs ds) ds) else if ds.any (rel3 cs r) = true then (5, nameOf (rel3 cs r) ds) else (0, ⟨#[]⟩)
def releaseB (ts : List S86) (cs : List S88) (ds : List S90) (p q r : Int) : Int × ByteArray := if fleetB ts cs ds p q r = true then releaseF ts cs ds p q r else (1, ⟨#[]⟩)
set_option maxRecDepth 10000 in
theorem fleet_days {ts : List S86} {cs : List S88} {ds : List S90} {p q r : Int} (h : fleetB ts cs ds p q r = true) : (0 ≤ r ∧ r ≤ 1000000) ∧ ds.length ≤ 20 ∧ ∀ d ∈ ds, 0 ≤ d.f2 ∧ d.f2 ≤ r := by
  unfold fleetB at h
  simp only [Bool.and_eq_true, decide_eq_true_eq] at h
  obtain ⟨h1, _, _, h4, _, h6⟩ := h
  refine ⟨⟨(clockB_in h1).2.2.1, (clockB_in h1).2.2.2⟩, by omega, ?_⟩
  have key : ∀ d i : Nat, i + d = ds.length → defectsFrom r ds d i = true → ∀ j : Nat, i ≤ j → ∀ hj : j < ds.length, 0 ≤ ds[j].f2 ∧ ds[j].f2 ≤ r := by
    intro d
    induction d with
    | zero => intro i e _ j hij hj; omega
    | succ d ih =>
      intro i e hd j hij hj
      simp only [defectsFrom, Bool.and_eq_true] at hd
      rcases Nat.eq_or_lt_of_le hij with rfl | hlt
      · have := hd.1
        unfold defectAt at this
        simp only [Bool.and_eq_true, inB_iff] at this
        rw [rd_at90 hj] at this
        exact this.2.2.2
      · exact ih (i + 1) (by omega) hd.2 j (by omega) hj
  intro d hd
  obtain ⟨j, hj, rfl⟩ := List.getElem_of_mem hd
  exact key ds.length 0 (by omega) h6 j (Nat.zero_le _) hj
theorem cnt_step {l : List S90} {k : Nat} (h : k < l.length) (t : ByteArray) : cntOf t (l.take (k + 1)) = if t.toList == (l[k]).f0.toList then cntOf (l[k]).f0 (l.take k) + 1 else cntOf t (l.take k) := by
  unfold cntOf
  rw [List.take_succ_eq_append_getElem h, List.countP_append]
  by_cases e : t.toList = (l[k]).f0.toList
  · rw [if_pos (by simpa using e), e]; simp
  · rw [if_neg (by simpa using e)]; simp [Ne.symm e]
theorem cnt_le (s : ByteArray) (l : List S90) : cntOf s l ≤ l.length := List.countP_le_length
theorem released {ts : List S86} {cs : List S88} {ds : List S90} {p q r : Int} {i : Nat} (hi : i < ts.length) (hn : (ts.take i).any (relT p q r) = false) (h : relT p q r ts[i] = true) : releaseF ts cs ds p q r = (2, ts[i].f0) := by
  unfold releaseF; rw [find_at hi hn h]
theorem not_released {ts : List S86} {cs : List S88} {ds : List S90} {p q r : Int} (hn : ts.any (relT p q r) = false) : releaseF ts cs ds p q r = if ds.any (rel1 cs) = true then (3, nameOf (rel1 cs) ds) else if ds.any (rel2 cs ds) = true then (4, nameOf (rel2 cs ds) ds) else if ds.any (rel3 cs r) = true then (5, nameOf (rel3 cs r) ds) else (0, ⟨#[]⟩) := by
  unfold releaseF; rw [find_no hn]
/-! Steps of a region that draws, with no table. -/
section
variable {P : Program} {md : Region.Mode} {ops : Array Oper} {Q : Exit → Act → World → Prop} {S : World → Prop} {ds : List Nat}
theorem ra_ {oi : Oper} {v : Value} {fuel : Nat} {l : Array Bool} {a a' : Act} {w : World} (i n : Nat) (l' : Array Bool) (h : wpAnyLast P md ops Q S ds fuel l' a' w) (hi : ops[i]? = some oi := by rfl) (hN : oi.dst = some n := by rfl) (hc : anyB md ops l l' i = true := by kernel_rfl)
    (hw : Region.wanted oi (yielded ops a.tmps) = true := by rfl) (hy : ∀ w, (execOp a.eval oi).run P w = .ok (.value v) w := by intro w'; go_simp; with_reducible rfl) (ha : a.put (some n) v = a' := by simp only [sp_]; rfl) (hQ : ∀ c a w, Q (.panic c) (a.put oi.dst v) w → Q (.panic c) a w := by exact fun _ _ _ h => h) :
    wpAnyLast P md ops Q S ds (fuel + 1) l a w := pure_ l' hi hN hc hQ (Or.inl ⟨hw, hy⟩) ha h
theorem rt_ {F : World → Prop} {oi : Oper} {v : Value} {fuel : Nat} {l : Array Bool} {a a' : Act} {w : World} (hL : ∀ w, S w → F w) (hS : S w) (i n : Nat) (l' : Array Bool) (h : wpAnyLast P md ops Q S ds fuel l' a' w) (hi : ops[i]? = some oi := by rfl) (hN : oi.dst = some n := by rfl) (hc : takeB md ops ds l l' i = true := by kernel_rfl)
    (hw : Region.wanted oi (yielded ops a.tmps) = true := by rfl) (hy : ∀ w, F w → (execOp a.eval oi).run P w = .ok (.value v) w := by intro w' hf; (try go_split_ands); go_simp; with_reducible rfl) (ha : a.put (some n) v = a' := by simp only [sp_]; rfl) (hQ : ∀ c a w, Q (.panic c) (a.put oi.dst v) w → Q (.panic c) a w := by exact fun _ _ _ h => h) :
    wpAnyLast P md ops Q S ds (fuel + 1) l a w := take_ l' hi hN hc hQ (Or.inl ⟨hw, fun w' hs => hy w' (hL w' hs)⟩) hS ha h
theorem rn_ {fuel : Nat} {l : Array Bool} {a a' : Act} {w : World} (h : wpAnyLast P md ops Q S ds fuel l a' w) (ha : a = a' := by simp only [putAll, sp_]; rfl) : wpAnyLast P md ops Q S ds fuel l a w := norm_ ha h
end
theorem spec_l19Left_eq (b p : Int) (h : 0 ≤ b ∧ b ≤ 100000) (hp : 0 ≤ p ∧ p ≤ 1000000) : spec_l19Left.f b p = some (leftI b p) := by
  simp only [spec_l19Left.f, spec_l1Max.f, w64 (n := b - p) (by omega) (by omega), leftI, mx]
  by_cases h0 : b = 0
  · rw [if_pos h0]; congr 1; split <;> omega
  · rw [if_neg h0]
    by_cases h1 : (0 : Int) > b - p
    · rw [if_pos h1, if_pos (by omega)]; rfl
    · rw [if_neg h1, if_neg (by omega)]; rfl
theorem spec_Due19_ev (n : ByteArray) (hn : n.size ≤ 140737488355328) (h c d p q r p' q' r' : Int) : Ev (fun k => spec_Due19.f k n h c d p q r p' q' r') (due19 n h c d p q r p' q' r') := by
  simp only [spec_Due19.f, spec_ClockOk_eq, spec_l19Behind.f, Option.bind_some]
  refine (spec_TaskOk_ev n hn h c d p q r).bind ?_
  have hj : ∀ b : Bool, (b = true ∨ (taskB n h c d p q r = true ∧ clockB p' q' r' = true ∧ behindB p q r p' q' r' = true)) → Ev (fun k => spec_Due19.j0 k b n h c d p q r p' q' r') (if b = true then (false, 0, 0, 0, false) else (dueB h c d (p' - p) (q' - q) (r' - r), leftI h (p' - p), leftI c (q' - q), leftI d (r' - r), true)) := by
    intro b hb
    refine ev_succ ?_
    cases b with
    | true => simpa only [spec_Due19.j0, if_true] using ev_now _
    | false =>
      obtain ⟨h1, h2, h3⟩ := hb.resolve_left (by simp)
      obtain ⟨-, ⟨a1, a2, a3⟩, -, a4⟩ := taskB_in h1
      have a4 := clockB_in a4
      have a5 := clockB_in h2
      simp only [behindB, Bool.and_eq_true, decide_eq_true_eq] at h3
      have hk : ∀ b : Bool, Ev (fun k => spec_Due19.j1 k (p' - p) (q' - q) (r' - r) b n h c d p q r) (b, leftI h (p' - p), leftI c (q' - q), leftI d (r' - r), true) := by
        intro b
        refine ev_succ ?_
        simp only [spec_Due19.j1, spec_l19Left_eq h (p' - p) a1 (by omega), spec_l19Left_eq c (q' - q) a2 (by omega), spec_l19Left_eq d (r' - r) a3 (by omega), Option.bind_some]
        exact ev_now _
      simp only [spec_Due19.j0, Bool.false_eq_true, if_false, w64 (n := p' - p) (by omega) (by omega), w64 (n := q' - q) (by omega) (by omega), w64 (n := r' - r) (by omega) (by omega)]
      refine Ev.congr (f := fun k => spec_Due19.j1 k (p' - p) (q' - q) (r' - r) (dueB h c d (p' - p) (q' - q) (r' - r)) n h c d p q r) (fun k => ?_) (hk _)
      unfold dueB
      by_cases x1 : h > 0 <;> by_cases x2 : p' - p ≥ h <;> by_cases x3 : c > 0 <;> by_cases x4 : q' - q ≥ c <;> by_cases x5 : d > 0 <;> simp only [x1, x2, x3, x4, x5, if_true, if_false, decide_true, decide_false, Bool.true_and, Bool.false_and, Bool.true_or, Bool.false_or]
  unfold due19
  cases h1 : taskB n h c d p q r with
  | false => simpa using hj true (.inl rfl)
  | true =>
    cases h2 : clockB p' q' r' with
    | false => simpa using hj true (.inl rfl)
    | true =>
      simp only [if_true, Bool.true_and]
      have e : (if p ≤ p' then (if q ≤ q' then some (decide (r ≤ r')) else some false) else some false) = some (behindB p q r p' q' r') := by
        unfold behindB
        by_cases x1 : p ≤ p' <;> by_cases x2 : q ≤ q' <;> simp [x1, x2]
      rw [e]
      simp only [Option.bind_some]
      cases h3 : behindB p q r p' q' r' with
      | false => simpa using hj true (.inl rfl)
      | true => simpa using hj false (.inr ⟨h1, h2, h3⟩)
theorem many_hit {l : List S90} {i c : Nat} {s : ByteArray} (h : i < l.length) (hb : ((l[i]).f0.toList == s.toList) = true) (hc : cntOf s (l.take i) = c) : cntOf s (l.take (i + 1)) = c + 1 := by
  unfold cntOf at hc ⊢
  rw [List.take_succ_eq_append_getElem h, List.countP_append, hc]; simp [hb]
theorem many_miss {l : List S90} {i c : Nat} {s : ByteArray} (h : i < l.length) (hb : ((l[i]).f0.toList == s.toList) = false) (hc : cntOf s (l.take i) = c) : cntOf s (l.take (i + 1)) = c := by
  unfold cntOf at hc ⊢
  rw [List.take_succ_eq_append_getElem h, List.countP_append, hc]; simp [hb]
set_option maxHeartbeats 4000000 in
set_option maxRecDepth 100000 in
theorem carry_u (s : ByteArray) (A0 : Option Addr) (c0 : Nat) (l0 : List S86) (A1 : Option Addr) (c1 : Nat) (l1 : List S88) (A2 : Option Addr) (c2 : Nat) (l2 : List S90) (p q r : Int) (w : World) (hr1 : Kd.C k88 w A1 l1.length l1) (hc1 : l1.length ≤ c1) (hn1 : l1.length ≤ 140737488355328) :
    Calls Tryz.prog 82 #[.agg #[.slice A0 l0.length c0, .slice A1 l1.length c1, .slice A2 l2.length c2, .int .i64 p, .int .i64 q, .int .i64 r], .string s] w fun e w' => e = .returned (.int .i64 (ixOf (fun c => c.f0.toList == s.toList) l1)) ∧ Below w.heap.size w w' := by
  have hu_ := Tryz.underlying88
  have hu2_ := Tryz.underlying37
  have HR1 := Aside0.mk hr1
  have BK0 := Aside0.mk (blk_new w (.cells #[.slice A0 l0.length c0, .slice A1 l1.length c1, .slice A2 l2.length c2, .int .i64 p, .int .i64 q, .int .i64 r] 37 (0, 0)))
  have HB0 := Aside0.mk (below_alloc (Below.refl w.heap.size w) (.cells #[.slice A0 l0.length c0, .slice A1 l1.length c1, .slice A2 l2.length c2, .int .i64 p, .int .i64 q, .int .i64 r] 37 (0, 0)))
  clear hr1
  go_enter Tryz.func82, Tryz.ntmps82
  go_wp2
  go_loopw [5] (fun v wr => ∃ i : Nat, i ≤ l1.length ∧ v = .int .i64 i ∧ Aside0 ((l1.take i).any (fun c => c.f0.toList == s.toList) = false) ∧ Aside0 (wr.heap[w.heap.size]? = some (.cells #[.slice A0 l0.length c0, .slice A1 l1.length c1, .slice A2 l2.length c2, .int .i64 p, .int .i64 q, .int .i64 r] 37 (0, 0))) ∧ Aside0 (Below w.heap.size w wr)) (fun v _ => l1.length - (intOf v).toNat)
  case atStart => exact ⟨0, Nat.zero_le _, rfl, ⟨by simp⟩, BK0, HB0⟩
  case round =>
    clear BK0 HB0
    obtain ⟨i, hi, rfl, HN, BK, HB⟩ := hrel
    by_cases hlt : i < l1.length
    · obtain ⟨ad, e0, hx0, hx1, hx2⟩ := at_T88 (Kd.C_below HR1.out HB.out) (i : Int) (by omega) (by omega)
      cases e0
      simp only [Int.toNat_natCast] at hx0 hx1 hx2
      rw [rd_at88 hlt] at hx0
      obtain ⟨hf0, hf1, hf2, hf3, hf4, hf5⟩ := ck6 BK.out
      cases hb : ((l1[i]).f0.toList == s.toList) with
      | true =>
        have HE := Aside0.mk (ixOf_at (q := fun c => c.f0.toList == s.toList) hlt HN.out hb)
        clear HN
        go_wp2
        go_ret
        exact ⟨by rw [HE.out]; rfl, HB.out⟩
      | false =>
        have HE := Aside0.mk (any_step (q := fun c => c.f0.toList == s.toList) hlt HN.out hb)
        clear HN
        go_wp2
        go_roundw
        case rel => exact ⟨i + 1, by omega, by go_num, HE, BK, HB⟩
        case measure => simp [intOf]; omega
    · obtain rfl : i = l1.length := by omega
      have hn := HN.out
      rw [List.take_length] at hn
      have HE := Aside0.mk (ixOf_none hn)
      clear hn HN
      obtain ⟨hf0, hf1, hf2, hf3, hf4, hf5⟩ := ck6 BK.out
      go_wp2
      go_ret
      exact ⟨by rw [HE.out]; rfl, HB.out⟩
set_option maxHeartbeats 4000000 in
set_option maxRecDepth 100000 in
theorem many_u (s : ByteArray) (A0 : Option Addr) (c0 : Nat) (l0 : List S86) (A1 : Option Addr) (c1 : Nat) (l1 : List S88) (A2 : Option Addr) (c2 : Nat) (l2 : List S90) (p q r : Int) (w : World) (hr2 : Kd.C k90 w A2 l2.length l2) (hc2 : l2.length ≤ c2) (hn2 : l2.length ≤ 140737488355328) :
    Calls Tryz.prog 83 #[.agg #[.slice A0 l0.length c0, .slice A1 l1.length c1, .slice A2 l2.length c2, .int .i64 p, .int .i64 q, .int .i64 r], .string s] w fun e w' => e = .returned (.int .i64 (cntOf s l2 : Int)) ∧ Below w.heap.size w w' := by
  have hu_ := Tryz.underlying90
  have hu2_ := Tryz.underlying37
  have HR2 := Aside0.mk hr2
  have BK0 := Aside0.mk (blk_new w (.cells #[.slice A0 l0.length c0, .slice A1 l1.length c1, .slice A2 l2.length c2, .int .i64 p, .int .i64 q, .int .i64 r] 37 (0, 0)))
  have HB0 := Aside0.mk (below_alloc (Below.refl w.heap.size w) (.cells #[.slice A0 l0.length c0, .slice A1 l1.length c1, .slice A2 l2.length c2, .int .i64 p, .int .i64 q, .int .i64 r] 37 (0, 0)))
  clear hr2
  go_enter Tryz.func83, Tryz.ntmps83
  go_wp2
  go_loopw [5, 6] (fun u v wr => ∃ i c : Nat, i ≤ l2.length ∧ v = .int .i64 i ∧ u = .int .i64 c ∧ c ≤ l2.length ∧ Aside0 (cntOf s (l2.take i) = c) ∧ Aside0 (wr.heap[w.heap.size]? = some (.cells #[.slice A0 l0.length c0, .slice A1 l1.length c1, .slice A2 l2.length c2, .int .i64 p, .int .i64 q, .int .i64 r] 37 (0, 0))) ∧ Aside0 (Below w.heap.size w wr)) (fun _ v _ => l2.length - (intOf v).toNat)
  case atStart => exact ⟨0, 0, Nat.zero_le _, rfl, rfl, Nat.zero_le _, ⟨by simp [cntOf]⟩, BK0, HB0⟩
  case round =>
    clear BK0 HB0
    obtain ⟨i, c, hi, rfl, rfl, hcl, HN, BK, HB⟩ := hrel
    by_cases hlt : i < l2.length
    · obtain ⟨ad, e0, hx0, hx1, hx2⟩ := at_T90 (Kd.C_below HR2.out HB.out) (i : Int) (by omega) (by omega)
      cases e0
      simp only [Int.toNat_natCast] at hx0 hx1 hx2
      rw [rd_at90 hlt] at hx0
      obtain ⟨hf0, hf1, hf2, hf3, hf4, hf5⟩ := ck6 BK.out
      have hc' : cntOf s (l2.take i) ≤ i := Nat.le_trans (cnt_le s (l2.take i)) (List.length_take_le _ _)
      rw [HN.out] at hc'
      cases hb : ((l2[i]).f0.toList == s.toList) with
      | true =>
        have HE := Aside0.mk (many_hit hlt hb HN.out)
        clear HN
        go_wp2
        go_roundw
        case rel => exact ⟨i + 1, c + 1, by omega, by go_num, by go_num, by omega, HE, BK, HB⟩
        case measure => simp [intOf]; omega
      | false =>
        have HE := Aside0.mk (many_miss hlt hb HN.out)
        clear HN
        go_wp2
        go_roundw
        case rel => exact ⟨i + 1, c, by omega, by go_num, by go_num, by omega, HE, BK, HB⟩
        case measure => simp [intOf]; omega
    · obtain rfl : i = l2.length := by omega
      have hn := HN.out
      rw [List.take_length] at hn
      have HE := Aside0.mk hn
      clear hn HN
      obtain ⟨hf0, hf1, hf2, hf3, hf4, hf5⟩ := ck6 BK.out
      go_wp2
      go_ret
      exact ⟨by rw [HE.out]; rfl, HB.out⟩
theorem due_u (n : ByteArray) (h c d p q r p' q' r' : Int) (hn : n.size ≤ 140737488355328) (w : World) : Calls Tryz.prog 81 #[.agg #[.string n, .int .i64 h, .int .i64 c, .int .i64 d, .int .i64 p, .int .i64 q, .int .i64 r], .agg #[.int .i64 p', .int .i64 q', .int .i64 r']] w fun e w' => e = .returned (.tuple #[.bool (due19 n h c d p q r p' q' r').1, .agg #[.int .i64 (due19 n h c d p q r p' q' r').2.1, .int .i64 (due19 n h c d p q r p' q' r').2.2.1, .int .i64 (due19 n h c d p q r p' q' r').2.2.2.1], .bool (due19 n h c d p q r p' q' r').2.2.2.2]) ∧ Below w.heap.size w w' := by
  obtain ⟨k, hk⟩ := (spec_Due19_ev n hn h c d p q r p' q' r').rounds
  exact spec_Due19.calls k n h c d p q r p' q' r' _ _ _ _ _ w hk
theorem eL19Many : Ent Tryz.prog 83 := fun a w => enters_ Tryz.func83 rfl rfl a w
def relC (cs : List S88) (ds : List S90) (r : Int) (k : Nat) (d : S90) : Bool := if k = 0 then rel1 cs d else if k = 1 then rel2 cs ds d else rel3 cs r d
def relEnd (cs : List S88) (ds : List S90) (r : Int) (k : Nat) : Int × ByteArray :=
  if k = 0 ∧ ds.any (rel1 cs) = true then (3, nameOf (rel1 cs) ds) else if k ≤ 1 ∧ ds.any (rel2 cs ds) = true then (4, nameOf (rel2 cs ds) ds) else if k ≤ 2 ∧ ds.any (rel3 cs r) = true then (5, nameOf (rel3 cs r) ds) else (0, ⟨#[]⟩)
theorem relEnd_step {cs : List S88} {ds : List S90} {r : Int} {k : Nat} (hk : k < 3) (h : ds.any (relC cs ds r k) = false) : relEnd cs ds r k = relEnd cs ds r (k + 1) := by
  rcases (by omega : k = 0 ∨ k = 1 ∨ k = 2) with rfl | rfl | rfl
  · have h' : ds.any (rel1 cs) = false := h
    simp [relEnd, h']
  · have h' : ds.any (rel2 cs ds) = false := h
    simp [relEnd, h']
  · have h' : ds.any (rel3 cs r) = false := h
    simp [relEnd, h']
theorem relEnd_hit {cs : List S88} {ds : List S90} {r : Int} {k i : Nat} (hk : k < 3) (hi : i < ds.length) (hn : (ds.take i).any (relC cs ds r k) = false) (h : relC cs ds r k ds[i] = true) : relEnd cs ds r k = ((k : Int) + 3, ds[i].f0) := by
  have h1 := any_hit hi h
  have h2 := find_at hi hn h
  rcases (by omega : k = 0 ∨ k = 1 ∨ k = 2) with rfl | rfl | rfl
  · have h1 : ds.any (rel1 cs) = true := h1
    have h2 : ds.find? (rel1 cs) = some ds[i] := h2
    simp [relEnd, nameOf, h1, h2]
  · have h1 : ds.any (rel2 cs ds) = true := h1
    have h2 : ds.find? (rel2 cs ds) = some ds[i] := h2
    simp [relEnd, nameOf, h1, h2]
  · have h1 : ds.any (rel3 cs r) = true := h1
    have h2 : ds.find? (rel3 cs r) = some ds[i] := h2
    simp [relEnd, nameOf, h1, h2]
set_option maxHeartbeats 8000000 in
set_option maxRecDepth 100000 in
theorem spec_Release.go (A0 : Option Addr) (c0 : Nat) (l0 : List S86) (A1 : Option Addr) (c1 : Nat) (l1 : List S88) (A2 : Option Addr) (c2 : Nat) (l2 : List S90) (p q r : Int) (w : World) (hr0 : Kd.C k86 w A0 l0.length l0) (hc0 : l0.length ≤ c0) (hr1 : Kd.C k88 w A1 l1.length l1) (hc1 : l1.length ≤ c1) (hr2 : Kd.C k90 w A2 l2.length l2) (hc2 : l2.length ≤ c2) (hz : FleetSz l0 l1 l2) :
    Calls Tryz.prog 66 #[.agg #[.slice A0 l0.length c0, .slice A1 l1.length c1, .slice A2 l2.length c2, .int .i64 p, .int .i64 q, .int .i64 r]] w fun e w' => e = .returned (.tuple #[.int .i64 (releaseB l0 l1 l2 p q r).1, .string (releaseB l0 l1 l2 p q r).2]) ∧ Below w.heap.size w w' := by
  have hu33 := Tryz.underlying86
  have hu70 := Tryz.underlying88
  have hu72 := Tryz.underlying90
  have hu56 := Tryz.underlying37
  have hu25 := Tryz.underlying35
  have HR0 := Aside0.mk hr0
  have HR1 := Aside0.mk hr1
  have HR2 := Aside0.mk hr2
  have HX0 := Aside0.mk hz.t
  have hn0 := hz.tn
  have hn1 := hz.cn
  have hn2 := hz.dn
  have HZZ := Aside0.mk hz
  have hnew := below_alloc (Below.refl w.heap.size w) (.cells #[.slice A0 l0.length c0, .slice A1 l1.length c1, .slice A2 l2.length c2, .int .i64 p, .int .i64 q, .int .i64 r] 37 (0, 0))
  have HF := Aside0.mk (And.intro (blk_new w (.cells #[.slice A0 l0.length c0, .slice A1 l1.length c1, .slice A2 l2.length c2, .int .i64 p, .int .i64 q, .int .i64 r] 37 (0, 0))) hnew)
  have KF := Aside0.mk (spec_FleetOk.go A0 c0 l0 A1 c1 l1 A2 c2 l2 p q r (w.alloc (.cells #[.slice A0 l0.length c0, .slice A1 l1.length c1, .slice A2 l2.length c2, .int .i64 p, .int .i64 q, .int .i64 r] 37 (0, 0))) (Kd.C_below hr0 hnew) hc0 (Kd.C_below hr1 hnew) hc1 (Kd.C_below hr2 hnew) hc2 hz)
  clear hr0 hr1 hr2 hz hnew
  cases hok : fleetB l0 l1 l2 p q r with
  | false =>
    rw [hok] at KF
    have HS := Aside0.mk (show releaseB l0 l1 l2 p q r = (1, ⟨#[]⟩) by unfold releaseB; rw [if_neg (by rw [hok]; simp)])
    clear hok
    go_enter Tryz.func66, Tryz.ntmps66
    go_wp2_with (first | (go_at_call 46; (with_reducible refine KF.out.mono ?_); rintro e w5 ⟨rfl, hb⟩))
    go_ret2
    exact ⟨by rw [HS.out]; rfl, below_step HF.out.2 hb⟩
  | true =>
    rw [hok] at KF
    have HS0 := Aside0.mk (show releaseB l0 l1 l2 p q r = releaseF l0 l1 l2 p q r by unfold releaseB; rw [if_pos hok])
    have HOK := Aside0.mk (fleet_days hok)
    clear hok
    go_enter Tryz.func66, Tryz.ntmps66
    go_wp2_with (first | (go_at_call 46; (with_reducible refine KF.out.mono ?_); rintro e w5 ⟨rfl, hb⟩; have BK0 := Aside0.mk (blk_below HF.out.1 hb); have HB0 := Aside0.mk (below_step HF.out.2 hb); clear hb HF KF))
    go_loopw [4] (fun v wr => ∃ i : Nat, i ≤ l0.length ∧ v = .int .i64 i ∧ Aside0 ((l0.take i).any (relT p q r) = false) ∧ Aside0 (wr.heap[w.heap.size]? = some (.cells #[.slice A0 l0.length c0, .slice A1 l1.length c1, .slice A2 l2.length c2, .int .i64 p, .int .i64 q, .int .i64 r] 37 (0, 0))) ∧ Aside0 (Below w.heap.size w wr)) (fun v _ => l0.length - (intOf v).toNat)
    case atStart => exact ⟨0, Nat.zero_le _, rfl, ⟨by simp⟩, BK0, HB0⟩
    case round =>
     clear BK0 HB0
     obtain ⟨i, hi, rfl, HN, BK, HB⟩ := hrel
     have hfs := ck6 BK.out
     by_cases hlt : i < l0.length
     ·
      obtain ⟨ad, e0, hx0, hx1, hx2, hx3, hx4, hx5, hx6⟩ := at_T86 (Kd.C_below HR0.out HB.out) (i : Int) (by omega) (by omega)
      cases e0
      simp only [Int.toNat_natCast] at hx0 hx1 hx2 hx3 hx4 hx5 hx6
      obtain ⟨hf0, hf1, hf2, hf3, hf4, hf5⟩ := hfs
      have HZ := Aside0.mk (HX0.out _ (List.getElem_mem hlt))
      rw [← rd_at86 hlt] at HZ
      generalize hX : rd_T86 l0 (i : Int) = X at hx0 hx1 hx2 hx3 hx4 hx5 hx6 HZ
      rw [rd_at86 hlt] at hX
      have HXX := Aside0.mk hX
      clear hX
      go_upto_region 6 with (fail)
      have L := Aside0.mk (fun w' (h : Up wr w') => (⟨bc h hx0, bc h hx1, bc h hx2, bc h hx3, bc h hx4, bc h hx5, bc h hx6, ck (blk_below BK.out h) 0 rfl, ck (blk_below BK.out h) 3 rfl, ck (blk_below BK.out h) 4 rfl, ck (blk_below BK.out h) 5 rfl⟩ : w'.cell? (ad.add (i * 7)) = some (.string X.f0) ∧ w'.cell? ⟨(ad.add (i * 7)).block, (ad.add (i * 7)).off + 1, none⟩ = some (.int .i64 X.f1) ∧ w'.cell? ⟨(ad.add (i * 7)).block, (ad.add (i * 7)).off + 2, none⟩ = some (.int .i64 X.f2) ∧ w'.cell? ⟨(ad.add (i * 7)).block, (ad.add (i * 7)).off + 3, none⟩ = some (.int .i64 X.f3) ∧ w'.cell? ⟨(ad.add (i * 7)).block, (ad.add (i * 7)).off + 4, none⟩ = some (.int .i64 X.f4.f0) ∧ w'.cell? ⟨(ad.add (i * 7)).block, (ad.add (i * 7)).off + 5, none⟩ = some (.int .i64 X.f4.f1) ∧ w'.cell? ⟨(ad.add (i * 7)).block, (ad.add (i * 7)).off + 6, none⟩ = some (.int .i64 X.f4.f2) ∧ w'.cell? ⟨w.heap.size, 0, none⟩ = some (.slice (some ad) l0.length c0) ∧ w'.cell? ⟨w.heap.size, 3, none⟩ = some (.int .i64 p) ∧ w'.cell? ⟨w.heap.size, 4, none⟩ = some (.int .i64 q) ∧ w'.cell? ⟨w.heap.size, 5, none⟩ = some (.int .i64 r)))
      obtain ⟨⟨d1, d2, d3, d4, d5⟩, hD⟩ : ∃ D, due19 X.f0 X.f1 X.f2 X.f3 X.f4.f0 X.f4.f1 X.f4.f2 p q r = D := ⟨_, rfl⟩
      have K1 := Aside0.mk (fun w' => due_u X.f0 X.f1 X.f2 X.f3 X.f4.f0 X.f4.f1 X.f4.f2 p q r HZ.out w')
      rw [hD] at K1
      have HRT : Aside0 (relT p q r X = d1) := ⟨by unfold relT; rw [hD]⟩
      clear hD hx0 hx1 hx2 hx3 hx4 hx5 hx6 hf0 hf1 hf2 hf3 hf4 hf5
      refine start_ (n := 16) (S := Up wr) (ds := []) (Sq.M 0 16) (by kernel_rfl) rfl rfl (below_drew (Below.refl _ _)) (fun hS => ?_)
      generalize wr.drew = W1 at hS ⊢
      refine ra_ 0 24 (Sq.M 1 16) ?_
      refine ra_ 2 26 (mn_ 16 5) ?_
      refine ra_ 5 29 (mn_ 16 37) ?_
      refine rt_ L.out hS 1 25 (mn_ 16 39) ?_
      refine ra_ 3 27 (mn_ 16 47) ?_
      refine rt_ L.out hS 4 28 (Sq.M 6 16) ?_
      refine rt_ L.out hS 6 30 (Sq.M 7 16) ?_
      refine join_ (σ := Nat) 3 (Sq.M 13 16) (fun b => [(31, .tuple #[.bool d1, .agg #[.int .i64 d2, .int .i64 d3, .int .i64 d4], .bool d5]), (23, .tuple #[.bool d1, .agg #[.int .i64 d2, .int .i64 d3, .int .i64 d4], .bool d5]), (32, .bool d1), (33, .agg #[.int .i64 d2, .int .i64 d3, .int .i64 d4]), (34, .bool d5), (6, .pointer (some ⟨b, 0, none⟩))]) (fun b w' => Up wr w' ∧ w'.heap[b]? = some (.cells #[.int .i64 0, .int .i64 0, .int .i64 0] 35 (0, 0)) ∧ wr.heap.size ≤ b) ?_ ?_
      rotate_left
      · intro hCont
        refine two_ (i := 7) (j := 12) (Ni := some 31) (Nj := some 6) (Sq.M 8 16) (mn_ 16 4223) rfl rfl rfl rfl (by kernel_rfl) (by decide) (by decide) (fun K hK => ?_) (fun K hK => ?_)
        · skip
          refine goes_ Tryz.func81 rfl rfl #[.agg #[.string X.f0, .int .i64 X.f1, .int .i64 X.f2, .int .i64 X.f3, .int .i64 X.f4.f0, .int .i64 X.f4.f1, .int .i64 X.f4.f2], .agg #[.int .i64 p, .int .i64 q, .int .i64 r]] (by rfl) rfl rfl (by (try simp only [am_]); first | done | rfl) ?_
          (with_reducible refine (K1.out _).mono ?_)
          rintro e w5 ⟨rfl, hb⟩
          refine ⟨_, rfl, ?_⟩
          refine hK.out _ _ (below_step hS hb) (fun hS2 => ?_)
          clear hK K
          refine norm_ (a' := ?_) ?_ ?_
          rotate_left
          · (show Act.put _ (some 31) _ = _; simp only [sp_]; rfl)
          refine ra_ 8 23 (Sq.M 9 16) ?_
          refine ra_ 9 32 (Sq.M 10 16) ?_
          refine ra_ 10 33 (Sq.M 11 16) ?_
          refine ra_ 11 34 (Sq.M 12 16) ?_
          refine one_ (i := 12) (N := some 6) (Sq.M 13 16) rfl rfl (by kernel_rfl) (by decide) (fun K hK => ?_)
          refine box_step ?hg (N := 6) ?hd (cs := #[.int .i64 0, .int .i64 0, .int .i64 0]) (t := 35) ?hr ?_; (case hd => rfl); (case hg => rfl); (case hr => first | (go_simp; done) | (go_simp; rfl))
          intro gb hg w6 hbox hb6
          refine hK.out _ _ (below_step hS2 hb6) (fun hS3 => ?_)
          clear hK K
          refine norm_ (a' := ?_) ?_ ?_
          rotate_left
          · (show Act.put _ (some 6) _ = _; simp only [sp_]; rfl)
          exact norm_ (by simp only [putAll, sp_]) (hCont gb _ ⟨hS3, hbox, by rw [hg]; exact hS2.size⟩)
        · skip
          refine box_step ?hg (N := 6) ?hd (cs := #[.int .i64 0, .int .i64 0, .int .i64 0]) (t := 35) ?hr ?_; (case hd => rfl); (case hg => rfl); (case hr => first | (go_simp; done) | (go_simp; rfl))
          intro gb hg w6 hbox hb6
          refine hK.out _ _ (below_step hS hb6) (fun hS2 => ?_)
          clear hK K
          refine norm_ (a' := ?_) ?_ ?_
          rotate_left
          · (show Act.put _ (some 6) _ = _; simp only [sp_]; rfl)
          refine one_ (i := 7) (N := some 31) (mn_ 16 4351) rfl rfl (by kernel_rfl) (by decide) (fun K hK => ?_)
          refine goes_ Tryz.func81 rfl rfl #[.agg #[.string X.f0, .int .i64 X.f1, .int .i64 X.f2, .int .i64 X.f3, .int .i64 X.f4.f0, .int .i64 X.f4.f1, .int .i64 X.f4.f2], .agg #[.int .i64 p, .int .i64 q, .int .i64 r]] (by rfl) rfl rfl (by (try simp only [am_]); first | done | rfl) ?_
          (with_reducible refine (K1.out _).mono ?_)
          rintro e w5 ⟨rfl, hb⟩
          refine ⟨_, rfl, ?_⟩
          refine hK.out _ _ (below_step hS2 hb) (fun hS3 => ?_)
          clear hK K
          refine norm_ (a' := ?_) ?_ ?_
          rotate_left
          · (show Act.put _ (some 31) _ = _; simp only [sp_]; rfl)
          refine ra_ 8 23 (mn_ 16 4607) ?_
          refine ra_ 9 32 (mn_ 16 5119) ?_
          refine ra_ 10 33 (mn_ 16 6143) ?_
          refine ra_ 11 34 (Sq.M 13 16) ?_
          exact norm_ (by simp only [putAll, sp_]) (hCont gb _ ⟨hS3, blk_below hbox hb, by rw [hg]; exact hS.size⟩)
      · rintro gb w7 ⟨hS4, HBX, hgb⟩
        refine norm_ (a' := ?_) ?_ ?_
        rotate_left
        · (simp only [putAll, sp_]; rfl)
        refine ra_ 13 5 (Sq.M 14 16) ?_
        refine join_ (σ := Unit) 1 (Sq.M 15 16) (fun _ => []) (fun _ w' => Up wr w') ?_ ?_
        rotate_left
        · intro hCont
          refine one_ (i := 14) (N := none) (Sq.M 15 16) rfl rfl (by kernel_rfl) (by decide) (fun K hK => ?_)
          have hs0 : w7.cell? ⟨gb, 0, none⟩ = some (.int .i64 0) := ck HBX 0 rfl
          have hs1 : w7.cell? ⟨gb, 1, none⟩ = some (.int .i64 0) := ck HBX 1 rfl
          have hs2 : w7.cell? ⟨gb, 2, none⟩ = some (.int .i64 0) := ck HBX 2 rfl
          have hz0 := blk_frozen HBX 0
          have hz1 := blk_frozen HBX 1
          have hz2 := blk_frozen HBX 2
          refine skip_ (w1 := ?_) (by rfl) rfl ?_ ?_
          rotate_left
          · go_simp
            rfl
          refine hK.out _ _ (below_set (below_set (below_set hS4 hgb) hgb) hgb) (fun hS5 => ?_)
          clear hK K
          exact hCont () _ hS5
        rintro ⟨⟩ w8 hS5
        refine norm_ (a' := ?_) ?_ ?_
        rotate_left
        · (simp only [putAll, sp_]; rfl)
        refine ra_ 15 7 (Sq.M 16 16) ?_
        refine done_ (by kernel_rfl) ?_
        have hx0 : w8.cell? (ad.add (i * 7)) = some (.string X.f0) := (L.out w8 hS5).1
        have hf0 : w8.cell? ⟨w.heap.size, 0, none⟩ = some (.slice (some ad) l0.length c0) := ck (blk_below BK.out hS5) 0 rfl
        have BK8 := Aside0.mk (blk_below BK.out hS5)
        have HB8 := Aside0.mk (below_step HB.out hS5)
        rw [← HXX.out] at HRT
        clear HB BK HBX hS4 hS5 hgb hS L K1
        cases d1 with
        | true =>
          have HE := Aside0.mk (released (cs := l1) (ds := l2) hlt HN.out HRT.out)
          rw [HXX.out] at HE
          clear HN HRT
          go_wp2
          go_quiet (fail)
          go_wp2
          go_ret2
          exact ⟨by rw [HS0.out, HE.out]; rfl, pw_below_drewN HB8.out _⟩
        | false =>
          have HE := Aside0.mk (any_step hlt HN.out HRT.out)
          clear HN HRT
          go_wp2
          go_roundw
          case rel => exact ⟨i + 1, by omega, by go_num, HE, BK8, HB8⟩
          case measure => simp [intOf]; omega
     ·
      obtain rfl : i = l0.length := by omega
      have hn := HN.out
      rw [List.take_length] at hn
      have HS := Aside0.mk (show releaseB l0 l1 l2 p q r = relEnd l1 l2 r 0 by rw [HS0.out, not_released hn]; unfold relEnd; simp)
      clear hn HN HS0
      obtain ⟨hf0, hf1, hf2, hf3, hf4, hf5⟩ := hfs
      have HR := Aside0.mk hf0
      clear HR
      go_wp2
      clear hf0 hf1 hf2 hf3 hf4 hf5
      have BK0 := BK
      have HB0 := HB
      clear BK HB
      obtain ⟨wo, rfl⟩ : ∃ wo : World, wo = wr := ⟨_, rfl⟩
      go_loopw [8] (fun v wr => ∃ (k : Nat) (c : Int), k ≤ 3 ∧ c = (k : Int) + 3 ∧ v = .int .i64 c ∧ Aside0 (releaseB l0 l1 l2 p q r = relEnd l1 l2 r k) ∧ Aside0 (0 < k → l2.any (rel1 l1) = false) ∧ Aside0 (wr.heap[w.heap.size]? = some (.cells #[.slice A0 l0.length c0, .slice A1 l1.length c1, .slice A2 l2.length c2, .int .i64 p, .int .i64 q, .int .i64 r] 37 (0, 0))) ∧ Aside0 (Below w.heap.size w wr)) (fun v _ => 6 - (intOf v).toNat)
      case atStart => exact ⟨0, 3, by omega, rfl, rfl, HS, ⟨fun h => absurd h (by decide)⟩, BK0, HB0⟩
      case round =>
       clear BK0 HB0 HS
       obtain ⟨k, c, hk, hc, rfl, HS, HA, BK, HB⟩ := hrel
       rcases (by omega : k = 3 ∨ k = 0 ∨ k = 1 ∨ k = 2) with rfl | rfl | rfl | rfl
       ·
        obtain rfl : c = 6 := by simpa using hc
        clear hc hk
        go_wp2
        go_ret2
        exact ⟨by rw [HS.out]; rfl, HB.out⟩
       ·
        obtain rfl : c = 3 := by simpa using hc
        clear hc hk
        go_wp2
        have BK0 := BK
        have HB0 := HB
        clear BK HB
        obtain ⟨wo, rfl⟩ : ∃ wo : World, wo = wr := ⟨_, rfl⟩
        go_loopw [9] (fun v wr => ∃ i : Nat, i ≤ l2.length ∧ v = .int .i64 i ∧ Aside0 ((l2.take i).any (relC l1 l2 r 0) = false) ∧ Aside0 (wr.heap[w.heap.size]? = some (.cells #[.slice A0 l0.length c0, .slice A1 l1.length c1, .slice A2 l2.length c2, .int .i64 p, .int .i64 q, .int .i64 r] 37 (0, 0))) ∧ Aside0 (Below w.heap.size w wr)) (fun v _ => l2.length - (intOf v).toNat)
        case atStart => exact ⟨0, Nat.zero_le _, rfl, ⟨by simp⟩, BK0, HB0⟩
        case round =>
         clear BK0 HB0
         obtain ⟨i, hi, rfl, HN, BK, HB⟩ := hrel
         have hfs := ck6 BK.out
         by_cases hlt : i < l2.length
         ·
          obtain ⟨ad2, e0, hx0, hx1, hx2⟩ := at_T90 (Kd.C_below HR2.out HB.out) (i : Int) (by omega) (by omega)
          cases e0
          simp only [Int.toNat_natCast] at hx0 hx1 hx2
          obtain ⟨hf0, hf1, hf2, hf3, hf4, hf5⟩ := hfs
          rw [rd_at90 hlt] at hx0 hx1 hx2
          obtain ⟨ix, hix⟩ : ∃ z, cix l1 (l2[i]) = z := ⟨_, rfl⟩
          have HV : Aside0 (relC l1 l2 r 0 (l2[i]) = decide (ix < 0)) := ⟨by rw [← hix]; rfl⟩
          have HIX := Aside0.mk hix
          clear hix
          generalize hX : l2[i] = X at hx0 hx1 hx2 HV HIX
          have HXX := Aside0.mk hX
          clear hX
          have hnew := below_alloc (Below.refl wr.heap.size wr) (.cells #[.string X.f0, .int .i64 X.f1, .int .i64 X.f2] 90 (0, 0))
          have HF := Aside0.mk (And.intro (blk_new wr (.cells #[.string X.f0, .int .i64 X.f1, .int .i64 X.f2] 90 (0, 0))) (And.intro (blk_below BK.out hnew) (below_step HB.out hnew)))
          clear hnew
          go_upto_region 16 with (fail)
          generalize wr.heap.size = gx at HF ⊢
          refine world_ (fun W => W.heap[gx]? = some (.cells #[.string X.f0, .int .i64 X.f1, .int .i64 X.f2] 90 (0, 0)) ∧ W.heap[w.heap.size]? = some (.cells #[.slice A0 l0.length c0, .slice A1 l1.length c1, .slice (some ad2) l2.length c2, .int .i64 p, .int .i64 q, .int .i64 r] 37 (0, 0)) ∧ Below w.heap.size w W) HF.out ?_
          clear HF BK HB hx0 hx1 hx2 hf0 hf1 hf2 hf3 hf4 hf5
          rintro W ⟨HK, BK, HB⟩
          replace HK := Aside0.mk HK
          replace BK := Aside0.mk BK
          replace HB := Aside0.mk HB
          obtain ⟨hf0, hf1, hf2, hf3, hf4, hf5⟩ := ck6 BK.out
          obtain ⟨hd0, hd1, hd2⟩ := ck3 HK.out
          obtain ⟨b, hb⟩ : ∃ b, relC l1 l2 r 0 X = b := ⟨_, rfl⟩
          have hv := HV.out.symm.trans hb
          have HBB := Aside0.mk hb
          clear hb HV
          have KC := Aside0.mk (ki_ (carry_u X.f0 A0 c0 l0 A1 c1 l1 (some ad2) c2 l2 p q r W (Kd.C_below HR1.out HB.out) hc1 hn1) HIX.out)
          cases b with
          | true =>
            rw [← HXX.out] at HBB
            have HE := Aside0.mk (relEnd_hit (k := 0) (by decide) hlt HN.out HBB.out)
            rw [HXX.out] at HE
            clear HN HBB
            go_wp2_with (first | (go_at_call 82; (with_reducible refine KC.out.mono ?_); rintro e w5 ⟨rfl, hb⟩; have HK5 := Aside0.mk (blk_below HK.out hb); have BK5 := Aside0.mk (blk_below BK.out hb); have HB5 := Aside0.mk (below_step HB.out hb); have hd5 := ck HK5.out 0 rfl; clear hb))
            (try go_wp2)
            go_quiet (fail)
            go_wp2
            go_ret2
            exact ⟨by rw [HS.out, HE.out]; rfl, pw_below_drewN HB5.out _⟩
          | false =>
            rw [← HXX.out] at HBB
            have HE := Aside0.mk (any_step hlt HN.out HBB.out)
            clear HN HBB
            go_wp2_with (first | (go_at_call 82; (with_reducible refine KC.out.mono ?_); rintro e w5 ⟨rfl, hb⟩; have HK5 := Aside0.mk (blk_below HK.out hb); have BK5 := Aside0.mk (blk_below BK.out hb); have HB5 := Aside0.mk (below_step HB.out hb); have hd5 := ck HK5.out 0 rfl; clear hb))
            (try go_wp2)
            go_roundw
            case rel => exact ⟨i + 1, by omega, by go_num, HE, BK5, HB5⟩
            case measure => simp [intOf]; omega
         ·
          obtain rfl : i = l2.length := by omega
          have hn := HN.out
          rw [List.take_length] at hn
          have HE := Aside0.mk (relEnd_step (k := 0) (by decide) hn)
          have HA2 : Aside0 (0 < 1 → l2.any (rel1 l1) = false) := ⟨fun _ => hn⟩
          clear hn HN HA
          obtain ⟨hf0, hf1, hf2, hf3, hf4, hf5⟩ := hfs
          go_wp2
          go_roundw
          case rel => exact ⟨1, 4, by decide, rfl, rfl, ⟨HS.out.trans HE.out⟩, HA2, BK, HB⟩
          case measure => decide
       ·
        obtain rfl : c = 4 := by simpa using hc
        clear hc hk
        go_wp2
        have BK0 := BK
        have HB0 := HB
        clear BK HB
        obtain ⟨wo, rfl⟩ : ∃ wo : World, wo = wr := ⟨_, rfl⟩
        go_loopw [9] (fun v wr => ∃ i : Nat, i ≤ l2.length ∧ v = .int .i64 i ∧ Aside0 ((l2.take i).any (relC l1 l2 r 1) = false) ∧ Aside0 (wr.heap[w.heap.size]? = some (.cells #[.slice A0 l0.length c0, .slice A1 l1.length c1, .slice A2 l2.length c2, .int .i64 p, .int .i64 q, .int .i64 r] 37 (0, 0))) ∧ Aside0 (Below w.heap.size w wr)) (fun v _ => l2.length - (intOf v).toNat)
        case atStart => exact ⟨0, Nat.zero_le _, rfl, ⟨by simp⟩, BK0, HB0⟩
        case round =>
         clear BK0 HB0
         obtain ⟨i, hi, rfl, HN, BK, HB⟩ := hrel
         have hfs := ck6 BK.out
         by_cases hlt : i < l2.length
         ·
          obtain ⟨ad2, e0, hx0, hx1, hx2⟩ := at_T90 (Kd.C_below HR2.out HB.out) (i : Int) (by omega) (by omega)
          cases e0
          simp only [Int.toNat_natCast] at hx0 hx1 hx2
          obtain ⟨hf0, hf1, hf2, hf3, hf4, hf5⟩ := hfs
          rw [rd_at90 hlt] at hx0 hx1 hx2
          obtain ⟨jx, hjx, hix⟩ : ∃ j : Nat, j < l1.length ∧ cix l1 (l2[i]) = (j : Int) := by
            have h1 := List.any_eq_false.1 (HA.out (by decide)) (l2[i]) (List.getElem_mem hlt)
            rcases ixOf_ways (fun c => c.f0.toList == (l2[i]).f0.toList) l1 with ⟨e, _⟩ | ⟨j, h, e, _⟩
            · exact absurd (by unfold rel1 cix; rw [e]; decide) h1
            · exact ⟨j, h, e⟩
          obtain ⟨ad3, e3, z0, z1, z2⟩ := at_T88 HR1.out (jx : Int) (by omega) (by omega)
          cases e3
          simp only [Int.toNat_natCast] at z0 z1 z2
          have HV : Aside0 (relC l1 l2 r 1 (l2[i]) = decide ((rd_T88 l1 (jx : Int)).f1 < (cntOf (l2[i]).f0 l2 : Int))) := ⟨by rw [← hix]; rfl⟩
          have HZ3w := Aside0.mk (And.intro z1 z2)
          have HIX := Aside0.mk hix
          clear hix z0 z1 z2
          generalize hX : l2[i] = X at hx0 hx1 hx2 HV HIX
          have HXX := Aside0.mk hX
          clear hX
          have hnew := below_alloc (Below.refl wr.heap.size wr) (.cells #[.string X.f0, .int .i64 X.f1, .int .i64 X.f2] 90 (0, 0))
          have HF := Aside0.mk (And.intro (blk_new wr (.cells #[.string X.f0, .int .i64 X.f1, .int .i64 X.f2] 90 (0, 0))) (And.intro (blk_below BK.out hnew) (below_step HB.out hnew)))
          clear hnew
          go_upto_region 16 with (fail)
          generalize wr.heap.size = gx at HF ⊢
          refine world_ (fun W => W.heap[gx]? = some (.cells #[.string X.f0, .int .i64 X.f1, .int .i64 X.f2] 90 (0, 0)) ∧ W.heap[w.heap.size]? = some (.cells #[.slice A0 l0.length c0, .slice (some ad3) l1.length c1, .slice (some ad2) l2.length c2, .int .i64 p, .int .i64 q, .int .i64 r] 37 (0, 0)) ∧ Below w.heap.size w W) HF.out ?_
          clear HF BK HB hx0 hx1 hx2 hf0 hf1 hf2 hf3 hf4 hf5
          rintro W ⟨HK, BK, HB⟩
          replace HK := Aside0.mk HK
          replace BK := Aside0.mk BK
          replace HB := Aside0.mk HB
          obtain ⟨hf0, hf1, hf2, hf3, hf4, hf5⟩ := ck6 BK.out
          obtain ⟨hd0, hd1, hd2⟩ := ck3 HK.out
          obtain ⟨b, hb⟩ : ∃ b, relC l1 l2 r 1 X = b := ⟨_, rfl⟩
          have hv := HV.out.symm.trans hb
          have HBB := Aside0.mk hb
          clear hb HV
          have KC := Aside0.mk (ki_ (carry_u X.f0 A0 c0 l0 (some ad3) c1 l1 (some ad2) c2 l2 p q r W (Kd.C_below HR1.out HB.out) hc1 hn1) HIX.out)
          cases b with
          | true =>
            rw [← HXX.out] at HBB
            have HE := Aside0.mk (relEnd_hit (k := 1) (by decide) hlt HN.out HBB.out)
            rw [HXX.out] at HE
            clear HN HBB
            go_upto_region 19 with (first | (go_at_call 82; (with_reducible refine KC.out.mono ?_); rintro e w5 ⟨rfl, hb⟩; have HK5 := Aside0.mk (blk_below HK.out hb); have BK5 := Aside0.mk (blk_below BK.out hb); have HB5 := Aside0.mk (below_step HB.out hb); clear hb))
            have L := Aside0.mk (fun w' (h : Up w5 w') => (⟨ck (blk_below BK5.out h) 1 rfl, ck (blk_below HK5.out h) 0 rfl, ck (blk_below BK5.out h) 0 rfl, ck (blk_below BK5.out h) 2 rfl, ck (blk_below BK5.out h) 3 rfl, ck (blk_below BK5.out h) 4 rfl, ck (blk_below BK5.out h) 5 rfl, bc (below_step HB5.out h) HZ3w.out.1⟩ : w'.cell? ⟨w.heap.size, 1, none⟩ = some (.slice (some ad3) l1.length c1) ∧ w'.cell? ⟨gx, 0, none⟩ = some (.string X.f0) ∧ w'.cell? ⟨w.heap.size, 0, none⟩ = some (.slice A0 l0.length c0) ∧ w'.cell? ⟨w.heap.size, 2, none⟩ = some (.slice (some ad2) l2.length c2) ∧ w'.cell? ⟨w.heap.size, 3, none⟩ = some (.int .i64 p) ∧ w'.cell? ⟨w.heap.size, 4, none⟩ = some (.int .i64 q) ∧ w'.cell? ⟨w.heap.size, 5, none⟩ = some (.int .i64 r) ∧ w'.cell? ⟨(ad3.add (jx * 3)).block, (ad3.add (jx * 3)).off + 1, none⟩ = some (.int .i64 (rd_T88 l1 (jx : Int)).f1)))
            have K1 := Aside0.mk (fun w' (h : Up w5 w') => many_u X.f0 A0 c0 l0 (some ad3) c1 l1 (some ad2) c2 l2 p q r w' (Kd.C_below HR2.out (below_step HB5.out h)) hc2 hn2)
            refine rg_ (by kernel_rfl) (by kernel_rfl) ?_
            (repeat (first | refine qn_ ?_ | refine qc_ eL19Many K1.out ?_ | refine ql_ L.out ?_))
            refine qd_ ?_
            intro w6 hb6
            replace HK5 := Aside0.mk (blk_below HK5.out hb6)
            replace BK5 := Aside0.mk (blk_below BK5.out hb6)
            replace HB5 := Aside0.mk (below_step HB5.out hb6)
            have hd5 := ck HK5.out 0 rfl
            clear hb6
            go_wp2
            (try go_wp2)
            go_quiet (fail)
            go_wp2
            go_ret2
            exact ⟨by rw [HS.out, HE.out]; rfl, pw_below_drewN HB5.out _⟩
          | false =>
            rw [← HXX.out] at HBB
            have HE := Aside0.mk (any_step hlt HN.out HBB.out)
            clear HN HBB
            go_upto_region 19 with (first | (go_at_call 82; (with_reducible refine KC.out.mono ?_); rintro e w5 ⟨rfl, hb⟩; have HK5 := Aside0.mk (blk_below HK.out hb); have BK5 := Aside0.mk (blk_below BK.out hb); have HB5 := Aside0.mk (below_step HB.out hb); clear hb))
            have L := Aside0.mk (fun w' (h : Up w5 w') => (⟨ck (blk_below BK5.out h) 1 rfl, ck (blk_below HK5.out h) 0 rfl, ck (blk_below BK5.out h) 0 rfl, ck (blk_below BK5.out h) 2 rfl, ck (blk_below BK5.out h) 3 rfl, ck (blk_below BK5.out h) 4 rfl, ck (blk_below BK5.out h) 5 rfl, bc (below_step HB5.out h) HZ3w.out.1⟩ : w'.cell? ⟨w.heap.size, 1, none⟩ = some (.slice (some ad3) l1.length c1) ∧ w'.cell? ⟨gx, 0, none⟩ = some (.string X.f0) ∧ w'.cell? ⟨w.heap.size, 0, none⟩ = some (.slice A0 l0.length c0) ∧ w'.cell? ⟨w.heap.size, 2, none⟩ = some (.slice (some ad2) l2.length c2) ∧ w'.cell? ⟨w.heap.size, 3, none⟩ = some (.int .i64 p) ∧ w'.cell? ⟨w.heap.size, 4, none⟩ = some (.int .i64 q) ∧ w'.cell? ⟨w.heap.size, 5, none⟩ = some (.int .i64 r) ∧ w'.cell? ⟨(ad3.add (jx * 3)).block, (ad3.add (jx * 3)).off + 1, none⟩ = some (.int .i64 (rd_T88 l1 (jx : Int)).f1)))
            have K1 := Aside0.mk (fun w' (h : Up w5 w') => many_u X.f0 A0 c0 l0 (some ad3) c1 l1 (some ad2) c2 l2 p q r w' (Kd.C_below HR2.out (below_step HB5.out h)) hc2 hn2)
            refine rg_ (by kernel_rfl) (by kernel_rfl) ?_
            (repeat (first | refine qn_ ?_ | refine qc_ eL19Many K1.out ?_ | refine ql_ L.out ?_))
            refine qd_ ?_
            intro w6 hb6
            replace HK5 := Aside0.mk (blk_below HK5.out hb6)
            replace BK5 := Aside0.mk (blk_below BK5.out hb6)
            replace HB5 := Aside0.mk (below_step HB5.out hb6)
            have hd5 := ck HK5.out 0 rfl
            clear hb6
            go_wp2
            (try go_wp2)
            go_roundw
            case rel => exact ⟨i + 1, by omega, by go_num, HE, BK5, HB5⟩
            case measure => simp [intOf]; omega
         ·
          obtain rfl : i = l2.length := by omega
          have hn := HN.out
          rw [List.take_length] at hn
          have HE := Aside0.mk (relEnd_step (k := 1) (by decide) hn)
          have HA2 : Aside0 (0 < 2 → l2.any (rel1 l1) = false) := ⟨fun _ => HA.out (by decide)⟩
          clear hn HN HA
          obtain ⟨hf0, hf1, hf2, hf3, hf4, hf5⟩ := hfs
          go_wp2
          go_roundw
          case rel => exact ⟨2, 5, by decide, rfl, rfl, ⟨HS.out.trans HE.out⟩, HA2, BK, HB⟩
          case measure => decide
       ·
        obtain rfl : c = 5 := by simpa using hc
        clear hc hk
        go_wp2
        have BK0 := BK
        have HB0 := HB
        clear BK HB
        obtain ⟨wo, rfl⟩ : ∃ wo : World, wo = wr := ⟨_, rfl⟩
        go_loopw [9] (fun v wr => ∃ i : Nat, i ≤ l2.length ∧ v = .int .i64 i ∧ Aside0 ((l2.take i).any (relC l1 l2 r 2) = false) ∧ Aside0 (wr.heap[w.heap.size]? = some (.cells #[.slice A0 l0.length c0, .slice A1 l1.length c1, .slice A2 l2.length c2, .int .i64 p, .int .i64 q, .int .i64 r] 37 (0, 0))) ∧ Aside0 (Below w.heap.size w wr)) (fun v _ => l2.length - (intOf v).toNat)
        case atStart => exact ⟨0, Nat.zero_le _, rfl, ⟨by simp⟩, BK0, HB0⟩
        case round =>
         clear BK0 HB0
         obtain ⟨i, hi, rfl, HN, BK, HB⟩ := hrel
         have hfs := ck6 BK.out
         by_cases hlt : i < l2.length
         ·
          obtain ⟨ad2, e0, hx0, hx1, hx2⟩ := at_T90 (Kd.C_below HR2.out HB.out) (i : Int) (by omega) (by omega)
          cases e0
          simp only [Int.toNat_natCast] at hx0 hx1 hx2
          obtain ⟨hf0, hf1, hf2, hf3, hf4, hf5⟩ := hfs
          rw [rd_at90 hlt] at hx0 hx1 hx2
          obtain ⟨jx, hjx, hix⟩ : ∃ j : Nat, j < l1.length ∧ cix l1 (l2[i]) = (j : Int) := by
            have h1 := List.any_eq_false.1 (HA.out (by decide)) (l2[i]) (List.getElem_mem hlt)
            rcases ixOf_ways (fun c => c.f0.toList == (l2[i]).f0.toList) l1 with ⟨e, _⟩ | ⟨j, h, e, _⟩
            · exact absurd (by unfold rel1 cix; rw [e]; decide) h1
            · exact ⟨j, h, e⟩
          obtain ⟨ad3, e3, z0, z1, z2⟩ := at_T88 HR1.out (jx : Int) (by omega) (by omega)
          cases e3
          simp only [Int.toNat_natCast] at z0 z1 z2
          have HV : Aside0 (relC l1 l2 r 2 (l2[i]) = decide ((rd_T88 l1 (jx : Int)).f2 < r - (l2[i]).f2)) := ⟨by rw [← hix]; rfl⟩
          have hw : wrap64 (r - (l2[i]).f2) = r - (l2[i]).f2 := by
            have h1 := HOK.out.1
            have h2 := HOK.out.2.2 _ (List.getElem_mem hlt)
            exact w64 (by omega) (by omega)
          have HZ3w := Aside0.mk (And.intro z1 z2)
          have HIX := Aside0.mk hix
          clear hix z0 z1 z2
          generalize hX : l2[i] = X at hx0 hx1 hx2 HV HIX hw
          have HXX := Aside0.mk hX
          clear hX
          have hnew := below_alloc (Below.refl wr.heap.size wr) (.cells #[.string X.f0, .int .i64 X.f1, .int .i64 X.f2] 90 (0, 0))
          have HF := Aside0.mk (And.intro (blk_new wr (.cells #[.string X.f0, .int .i64 X.f1, .int .i64 X.f2] 90 (0, 0))) (And.intro (blk_below BK.out hnew) (below_step HB.out hnew)))
          clear hnew
          go_upto_region 16 with (fail)
          generalize wr.heap.size = gx at HF ⊢
          refine world_ (fun W => W.heap[gx]? = some (.cells #[.string X.f0, .int .i64 X.f1, .int .i64 X.f2] 90 (0, 0)) ∧ W.heap[w.heap.size]? = some (.cells #[.slice A0 l0.length c0, .slice (some ad3) l1.length c1, .slice (some ad2) l2.length c2, .int .i64 p, .int .i64 q, .int .i64 r] 37 (0, 0)) ∧ Below w.heap.size w W) HF.out ?_
          clear HF BK HB hx0 hx1 hx2 hf0 hf1 hf2 hf3 hf4 hf5
          rintro W ⟨HK, BK, HB⟩
          replace HK := Aside0.mk HK
          replace BK := Aside0.mk BK
          replace HB := Aside0.mk HB
          obtain ⟨hf0, hf1, hf2, hf3, hf4, hf5⟩ := ck6 BK.out
          obtain ⟨hd0, hd1, hd2⟩ := ck3 HK.out
          obtain ⟨b, hb⟩ : ∃ b, relC l1 l2 r 2 X = b := ⟨_, rfl⟩
          have hv := HV.out.symm.trans hb
          have HBB := Aside0.mk hb
          clear hb HV
          have KC := Aside0.mk (ki_ (carry_u X.f0 A0 c0 l0 (some ad3) c1 l1 (some ad2) c2 l2 p q r W (Kd.C_below HR1.out HB.out) hc1 hn1) HIX.out)
          cases b with
          | true =>
            rw [← HXX.out] at HBB
            have HE := Aside0.mk (relEnd_hit (k := 2) (by decide) hlt HN.out HBB.out)
            rw [HXX.out] at HE
            clear HN HBB
            go_upto_region 21 with (first | (go_at_call 82; (with_reducible refine KC.out.mono ?_); rintro e w5 ⟨rfl, hb⟩; have HK5 := Aside0.mk (blk_below HK.out hb); have BK5 := Aside0.mk (blk_below BK.out hb); have HB5 := Aside0.mk (below_step HB.out hb); clear hb))
            have L := Aside0.mk (fun w' (h : Up w5 w') => (⟨ck (blk_below BK5.out h) 1 rfl, ck (blk_below HK5.out h) 0 rfl, ck (blk_below BK5.out h) 5 rfl, ck (blk_below HK5.out h) 2 rfl, bc (below_step HB5.out h) HZ3w.out.2⟩ : w'.cell? ⟨w.heap.size, 1, none⟩ = some (.slice (some ad3) l1.length c1) ∧ w'.cell? ⟨gx, 0, none⟩ = some (.string X.f0) ∧ w'.cell? ⟨w.heap.size, 5, none⟩ = some (.int .i64 r) ∧ w'.cell? ⟨gx, 2, none⟩ = some (.int .i64 X.f2) ∧ w'.cell? ⟨(ad3.add (jx * 3)).block, (ad3.add (jx * 3)).off + 2, none⟩ = some (.int .i64 (rd_T88 l1 (jx : Int)).f2)))
            refine rg_ (by kernel_rfl) (by kernel_rfl) ?_
            (repeat (first | refine qn_ ?_ | refine ql_ L.out ?_))
            refine qd_ ?_
            intro w6 hb6
            replace HK5 := Aside0.mk (blk_below HK5.out hb6)
            replace BK5 := Aside0.mk (blk_below BK5.out hb6)
            replace HB5 := Aside0.mk (below_step HB5.out hb6)
            have hd5 := ck HK5.out 0 rfl
            clear hb6
            go_wp2
            (try go_wp2)
            go_quiet (fail)
            go_wp2
            go_ret2
            exact ⟨by rw [HS.out, HE.out]; rfl, pw_below_drewN HB5.out _⟩
          | false =>
            rw [← HXX.out] at HBB
            have HE := Aside0.mk (any_step hlt HN.out HBB.out)
            clear HN HBB
            go_upto_region 21 with (first | (go_at_call 82; (with_reducible refine KC.out.mono ?_); rintro e w5 ⟨rfl, hb⟩; have HK5 := Aside0.mk (blk_below HK.out hb); have BK5 := Aside0.mk (blk_below BK.out hb); have HB5 := Aside0.mk (below_step HB.out hb); clear hb))
            have L := Aside0.mk (fun w' (h : Up w5 w') => (⟨ck (blk_below BK5.out h) 1 rfl, ck (blk_below HK5.out h) 0 rfl, ck (blk_below BK5.out h) 5 rfl, ck (blk_below HK5.out h) 2 rfl, bc (below_step HB5.out h) HZ3w.out.2⟩ : w'.cell? ⟨w.heap.size, 1, none⟩ = some (.slice (some ad3) l1.length c1) ∧ w'.cell? ⟨gx, 0, none⟩ = some (.string X.f0) ∧ w'.cell? ⟨w.heap.size, 5, none⟩ = some (.int .i64 r) ∧ w'.cell? ⟨gx, 2, none⟩ = some (.int .i64 X.f2) ∧ w'.cell? ⟨(ad3.add (jx * 3)).block, (ad3.add (jx * 3)).off + 2, none⟩ = some (.int .i64 (rd_T88 l1 (jx : Int)).f2)))
            refine rg_ (by kernel_rfl) (by kernel_rfl) ?_
            (repeat (first | refine qn_ ?_ | refine ql_ L.out ?_))
            refine qd_ ?_
            intro w6 hb6
            replace HK5 := Aside0.mk (blk_below HK5.out hb6)
            replace BK5 := Aside0.mk (blk_below BK5.out hb6)
            replace HB5 := Aside0.mk (below_step HB5.out hb6)
            have hd5 := ck HK5.out 0 rfl
            clear hb6
            go_wp2
            (try go_wp2)
            go_roundw
            case rel => exact ⟨i + 1, by omega, by go_num, HE, BK5, HB5⟩
            case measure => simp [intOf]; omega
         ·
          obtain rfl : i = l2.length := by omega
          have hn := HN.out
          rw [List.take_length] at hn
          have HE := Aside0.mk (relEnd_step (k := 2) (by decide) hn)
          have HA2 : Aside0 (0 < 3 → l2.any (rel1 l1) = false) := ⟨fun _ => HA.out (by decide)⟩
          clear hn HN HA
          obtain ⟨hf0, hf1, hf2, hf3, hf4, hf5⟩ := hfs
          go_wp2
          go_roundw
          case rel => exact ⟨3, 6, by decide, rfl, rfl, ⟨HS.out.trans HE.out⟩, HA2, BK, HB⟩
          case measure => decide

-- HAND TO

end Go.Proofs.YtdimdlifjdbgnaaGreat.PFnExactRunWork
