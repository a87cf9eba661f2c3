import Derived.Test.YtdimdlifjdbgnaaGreatPFnExactRunWorkx18
import Derived.IntWalk
namespace Go.Proofs.YtdimdlifjdbgnaaGreat.PFnExactRunWork
open Go.RowKit Go.Proofs.YtdimdlifjdbgnaaGreatW.PrintWords Go.Proofs.YtdimdlifjdbgnaaGreatW.PrintLast Go.Proofs.YtdimdlifjdbgnaaGreatW.PrintMore Go.Proofs.YtdimdlifjdbgnaaGreat.Sq
attribute [local go_sem] max2_int min2_int max_two min_two max_three min_three max_four min_four
set_option linter.unusedVariables false
set_option linter.unusedSimpArgs false

/-! ### laws_FnExactRunWork: function 3 (by hand) -/
-- HAND FROM
open Go.Proofs.YtdimdlifjdbgnaaGreat.Base
/-! ### laws.FnExactRunWork (by hand) -/
/-- What toFleet does at these arguments, behind w. -/
abbrev Gives (w : World) (args : Array Value) (l0 : List S86) (l1 : List S88) (l2 : List S90) (p q r : Int) : Prop :=
  ∀ W, Below w.heap.size w W → Calls Tryz.prog 7 args W fun e w' => ∃ v0 v1 v2 : Value, e = .returned (.agg #[v0, v1, v2, .int .i64 p, .int .i64 q, .int .i64 r]) ∧ Kd.R k86 86 w' W.heap.size (fun _ => True) v0 l0 ∧ Kd.R k88 88 w' W.heap.size (fun _ => True) v1 l1 ∧ Kd.R k90 90 w' W.heap.size (fun _ => True) v2 l2 ∧ Below W.heap.size W w'
/-- The box of the law's fleet. -/
structure Ar (w W : World) (cells : Array Value) : Prop where
  bf : W.heap[w.heap.size]? = some (.cells cells 28 (0, 0))
  hb : Below w.heap.size w W
structure Rb {α : Type} (d : Kd α) (e : Nat) (w W : World) (P : Nat → Prop) (v : Value) (xs : List α) : Prop where
  r : d.R e W w.heap.size P v xs
section
variable {w W W' : World} {P P' S : Nat → Prop} {b g g' : Nat} {A0 : Option Addr} {n0 c0 : Nat} {l0 : List S86} {A1 : Option Addr} {n1 c1 : Nat} {l1 : List S88} {A2 : Option Addr} {n2 c2 : Nat} {l2 : List S90} {B0 : Option Addr} {m0 b0 : Nat} {B1 : Option Addr} {m1 b1 : Nat} {B2 : Option Addr} {m2 b2 : Nat} {p q r : Int} {kk : Nat}
theorem Rw.eq (h : Rw W b P A0 n0 c0 l0 A1 n1 c1 l1 A2 n2 c2 l2) {b' : Nat} (h' : Rw W b' P' B0 m0 b0 l0 B1 m1 b1 l1 B2 m2 b2 l2) (hk : laws_eqFleet.f kk l0 l1 l2 p q r l0 l1 l2 p q r = some true) :
    Calls Tryz.prog 10 #[.agg #[.slice A0 n0 c0, .slice A1 n1 c1, .slice A2 n2 c2, .int .i64 p, .int .i64 q, .int .i64 r], .agg #[.slice B0 m0 b0, .slice B1 m1 b1, .slice B2 m2 b2, .int .i64 p, .int .i64 q, .int .i64 r]] W fun e w' => e = .returned (.bool true) ∧ Below W.heap.size W w' := by
  obtain ⟨a1, rfl, a3⟩ := R_cap h.r0
  obtain ⟨a4, rfl, a6⟩ := R_cap h.r1
  obtain ⟨a7, rfl, a9⟩ := R_cap h.r2
  obtain ⟨e1, rfl, e3⟩ := R_cap h'.r0
  obtain ⟨e4, rfl, e6⟩ := R_cap h'.r1
  obtain ⟨e7, rfl, e9⟩ := R_cap h'.r2
  exact laws_eqFleet.calls kk A0 c0 l0 A1 c1 l1 A2 c2 l2 p q r B0 b0 l0 B1 b1 l1 B2 b2 l2 p q r true W a3 a1 a6 a4 a9 a7 e3 e1 e6 e4 e9 e7 hk
theorem Rw.held (h : Rw W b P A0 n0 c0 l0 A1 n1 c1 l1 A2 n2 c2 l2) {m : Int} (hk : laws_heldFleet.f kk l0 l1 l2 p q r 1 = some m) :
    Calls Tryz.prog 16 #[.agg #[.slice A0 n0 c0, .slice A1 n1 c1, .slice A2 n2 c2, .int .i64 p, .int .i64 q, .int .i64 r], .int .i64 1] W fun e w' => e = .returned (.int .i64 m) ∧ Below W.heap.size W w' := by
  obtain ⟨a1, rfl, a3⟩ := R_cap h.r0
  obtain ⟨a4, rfl, a6⟩ := R_cap h.r1
  obtain ⟨a7, rfl, a9⟩ := R_cap h.r2
  exact laws_heldFleet.calls kk A0 c0 l0 A1 c1 l1 A2 c2 l2 p q r 1 m W a3 a1 a6 a4 a9 a7 hk
theorem Ar.up {cells : Array Value} (h : Ar w W cells) (hb : Below W.heap.size W W') : Ar w W' cells := ⟨blk_below h.bf hb, below_step h.hb hb⟩
theorem Ar.kept {cells : Array Value} (h : Ar w W cells) (k : Kept W W' S) (hb : Below w.heap.size w W') (hn : ¬ S w.heap.size) : Ar w W' cells := ⟨blk_kept h.bf k hn, hb⟩
theorem Rb.up {α : Type} {d : Kd α} {e : Nat} {v : Value} {xs : List α} (h : Rb d e w W P v xs) (hb : Below W.heap.size W W') : Rb d e w W' P v xs := ⟨Kd.R_below h.r hb⟩
theorem Rb.kept {α : Type} {d : Kd α} {e : Nat} {v : Value} {xs : List α} (h : Rb d e w W P v xs) (k : Kept W W' S) (hn : ∀ i, P i → ¬ S i) : Rb d e w W' P v xs := ⟨Kd.R_step h.r fun i hi hl => k.2 i hl (hn i hi)⟩
theorem Rb.rng {α : Type} {d : Kd α} {e : Nat} {v : Value} {xs : List α} (h : d.R e W b (fun _ => True) v xs) (hb : w.heap.size ≤ b) : Rb d e w W (fun k => b ≤ k ∧ k < W.heap.size) v xs := ⟨Kd.R_lower (Kd.R_mono (Kd.R_bound h) fun _ hk => ⟨hk.2.1, hk.2.2.1⟩) hb⟩
theorem Rb.put {α : Type} {d : Kd α} {e t : Nat} {v : Value} {xs : List α} {cells : Array Value} (h : Rb d e w W P v xs) (hx : W.heap[g]? = some (.cells cells t (0, 0))) (ht : ∀ q, q ∈ e :: d.E → q ≠ t) (hg : W.grownBy W' (some g)) : Rb d e w W' P v xs := ⟨r_put h.r hx ht hg⟩
theorem Flp.mark (h : Flp w W P g A0 n0 c0 l0 A1 n1 c1 l1 A2 n2 c2 l2 p q r) (hB : Below w.heap.size w W) (hg : ¬ P g) {m : Int} {a : List S86} {b : List S88} {c : List S90} (hk : laws_markFleet.f kk l0 l1 l2 p q r 1 = some (m, a, b, c)) :
    Calls Tryz.prog 13 #[.agg #[.slice A0 n0 c0, .slice A1 n1 c1, .slice A2 n2 c2, .int .i64 p, .int .i64 q, .int .i64 r], .int .i64 1] W fun e w' => e = .returned (.int .i64 m) ∧ Flp w w' (fun k => P k ∨ W.heap.size ≤ k) g A0 n0 c0 a A1 n1 c1 b A2 n2 c2 c p q r ∧ Below w.heap.size w w' ∧ Kept W w' P := by
  refine (laws_markFleet.calls kk P _ l0 P _ l1 P _ l2 p q r 1 m a b c w W hB h.r.r0 h.r.r1 h.r.r2 hk).mono ?_
  rintro e w' ⟨rfl, h0, h1, h2, hb, hk⟩
  have hk2 : Kept W w' P := ⟨hk.1, fun i hi hn => hk.2 i hi (fun h => by rcases h with h | h | h <;> exact hn h)⟩
  have hm : ∀ k, ((P k ∨ P k ∨ P k) ∨ W.heap.size ≤ k) → (P k ∨ W.heap.size ≤ k) := fun k h => by rcases h with (h | h | h) | h <;> first | exact .inl h | exact .inr h
  exact ⟨rfl, ⟨blk_kept h.g hk2 hg, Kd.R_mono h0 hm, Kd.R_mono h1 hm, Kd.R_mono h2 hm⟩, hb, hk2⟩
theorem Rb.eqB {V U : Option Addr} {n m v u : Nat} {xs : List Bool} {e e' : Nat} (h : Rb Kd.bool e w W P (.slice V n v) xs) (h' : Rb Kd.bool e' w W P' (.slice U m u) xs) (hk : laws_eqBoolS.f kk xs xs = some true) :
    Calls Tryz.prog 11 #[.slice V n v, .slice U m u] W fun e w' => e = .returned (.bool true) ∧ Below W.heap.size W w' := by
  obtain ⟨a1, rfl, a3⟩ := C_of_R h.r
  obtain ⟨e1, rfl, e3⟩ := C_of_R h'.r
  exact (laws_eqBoolS.calls kk V v xs U u xs true W a3 a1 e3 e1 hk).mono fun e w' h => ⟨h.1, h.2.below⟩
theorem Rb.eqD {V U : Option Addr} {n m v u : Nat} {xs : List S60} {e e' : Nat} (h : Rb k60 e w W P (.slice V n v) xs) {b' : Nat} (h' : k60.R e' W b' P' (.slice U m u) xs) (hk : laws_eqDeed19S.f kk xs xs = some true) :
    Calls Tryz.prog 12 #[.slice V n v, .slice U m u] W fun e w' => e = .returned (.bool true) ∧ Below W.heap.size W w' := by
  obtain ⟨a1, rfl, a3⟩ := C_of_R h.r
  obtain ⟨e1, rfl, e3⟩ := C_of_R h'
  exact laws_eqDeed19S.calls kk V v xs U u xs true W a3 a1 e3 e1 hk
theorem Rb.heldB {V : Option Addr} {n v : Nat} {xs : List Bool} {e : Nat} {m m' : Int} (h : Rb Kd.bool e w W P (.slice V n v) xs) (hk : laws_heldBoolS.f kk xs m = some m') :
    Calls Tryz.prog 17 #[.slice V n v, .int .i64 m] W fun e w' => e = .returned (.int .i64 m') ∧ Below W.heap.size W w' := by
  obtain ⟨a1, rfl, a3⟩ := C_of_R h.r
  exact (laws_heldBoolS.calls kk V v xs m m' W a3 a1 hk).mono fun e w' h => ⟨h.1, h.2.below⟩
/-- What a RunWork does, from rows at hand. -/
theorem Runs.at {f : FuncId} (h : Runs f) {xs : List S60} {t : List S86} {c : List S88} {d : List S90} {p2 q2 r2 : Int} {told : List Bool} {U : Option Addr} {n u b' : Nat} (hW : runW l0 l1 l2 p q r xs = (t, c, d, p2, q2, r2, told)) (hgd : Good l0 l1 l2) (hs : ∀ x ∈ xs, x.f1.size ≤ 140737488355328) (hn : xs.length ≤ 140737488355328)
    (hX : Rw W b P A0 n0 c0 l0 A1 n1 c1 l1 A2 n2 c2 l2) (hY : k60.R 60 W b' P' (.slice U n u) xs) :
    Calls Tryz.prog f #[.agg #[.slice A0 n0 c0, .slice A1 n1 c1, .slice A2 n2 c2, .int .i64 p, .int .i64 q, .int .i64 r], .slice U n u] W fun e w' => ∃ (V0 : Option Addr) (v0 : Nat) (V1 : Option Addr) (v1 : Nat) (V2 : Option Addr) (v2 : Nat) (V3 : Option Addr) (v3 : Nat),
      e = .returned (.tuple #[.agg #[.slice V0 t.length v0, .slice V1 c.length v1, .slice V2 d.length v2, .int .i64 p2, .int .i64 q2, .int .i64 r2], .slice V3 told.length v3]) ∧ Rw w' W.heap.size (fun _ => True) V0 t.length v0 t V1 c.length v1 c V2 d.length v2 d ∧ Kd.R Kd.bool 4 w' W.heap.size (fun _ => True) (.slice V3 told.length v3) told ∧ Below W.heap.size W w' := by
  obtain ⟨a1, rfl, a3⟩ := C_of_R hX.r0
  obtain ⟨a4, rfl, a6⟩ := C_of_R hX.r1
  obtain ⟨a7, rfl, a9⟩ := C_of_R hX.r2
  obtain ⟨e1, rfl, e3⟩ := C_of_R hY
  refine (h A0 c0 l0 A1 c1 l1 A2 c2 l2 p q r U u xs W a3 a1 a6 a4 a9 a7 e3 e1 hgd hs hn).mono ?_
  rintro e w' ⟨v0, v1, v2, v3, ts, cs, ds, p', q', r', tl, hr, rfl, h0, h1, h2, h3, hb⟩
  rw [hW] at hr
  cases hr
  obtain ⟨V0, x0, rfl⟩ := Kd.R_slice h0
  obtain ⟨V1, x1, rfl⟩ := Kd.R_slice h1
  obtain ⟨V2, x2, rfl⟩ := Kd.R_slice h2
  obtain ⟨V3, x3, rfl⟩ := Kd.R_slice h3
  exact ⟨_, _, _, _, _, _, _, _, rfl, ⟨h0, h1, h2⟩, h3, hb⟩
/-- The rows that a RunWork made: those of the fleet are not the one that tells. -/
theorem apart_ {W0 : World} {t : List S86} {c : List S88} {d : List S90} {told : List Bool} {v : Value} (hw : w.heap.size ≤ W0.heap.size) (h : Rw W W0.heap.size (fun _ => True) A0 n0 c0 t A1 n1 c1 c A2 n2 c2 d) (h3 : Kd.R Kd.bool 4 W W0.heap.size (fun _ => True) v told) :
    ∃ PF PT : Nat → Prop, Rw W w.heap.size PF A0 n0 c0 t A1 n1 c1 c A2 n2 c2 d ∧ Rb Kd.bool 4 w W PT v told ∧ (∀ k, PF k → W0.heap.size ≤ k ∧ k < W.heap.size) ∧ (∀ k, PT k → W0.heap.size ≤ k ∧ k < W.heap.size) ∧ ∀ k, PF k → ¬ PT k := by
  refine ⟨fun k => (W0.heap.size ≤ k ∧ k < W.heap.size) ∧ ∃ t cells, t ≠ 4 ∧ W.heap[k]? = some (.cells cells t (0, 0)), fun k => (W0.heap.size ≤ k ∧ k < W.heap.size) ∧ ∃ cells, W.heap[k]? = some (.cells cells 4 (0, 0)), ⟨?_, ?_, ?_⟩, ⟨?_⟩, fun k h => h.1, fun k h => h.1, ?_⟩
  · exact Kd.R_lower (Kd.R_mono (Kd.R_bound h.r0) fun k hk => ⟨⟨hk.2.1, hk.2.2.1⟩, by obtain ⟨q, hq, cs, hc⟩ := hk.2.2.2; exact ⟨q, cs, by rintro rfl; revert hq; decide, hc⟩⟩) hw
  · exact Kd.R_lower (Kd.R_mono (Kd.R_bound h.r1) fun k hk => ⟨⟨hk.2.1, hk.2.2.1⟩, by obtain ⟨q, hq, cs, hc⟩ := hk.2.2.2; exact ⟨q, cs, by rintro rfl; revert hq; decide, hc⟩⟩) hw
  · exact Kd.R_lower (Kd.R_mono (Kd.R_bound h.r2) fun k hk => ⟨⟨hk.2.1, hk.2.2.1⟩, by obtain ⟨q, hq, cs, hc⟩ := hk.2.2.2; exact ⟨q, cs, by rintro rfl; revert hq; decide, hc⟩⟩) hw
  · exact Kd.R_lower (Kd.R_mono (Kd.R_bound h3) fun k hk => ⟨⟨hk.2.1, hk.2.2.1⟩, by obtain ⟨q, hq, cs, hc⟩ := hk.2.2.2; obtain rfl : q = 4 := (List.mem_cons.1 hq).elim id (fun h => absurd (show q ∈ ([] : List Nat) from h) (by simp)); exact ⟨cs, hc⟩⟩) hw
  · rintro k ⟨_, t, cs, ht, hc⟩ ⟨_, cs', hc'⟩
    exact ht (typed_one hc hc')
end
section
variable {ops : Array Oper} {Q : Exit → Act → World → Prop} {md : Region.Mode} {fuel : Nat} {l l' : Array Bool} {a : Act} {w W W1 : World} {oi oj : Oper} {N : Option Tmp} {args : Array Value} {aa : Array Operand} {ty : Array TypeId} {l0 : List S86} {l1 : List S88} {l2 : List S90} {p q r d0 : Int} {d1 : ByteArray} {d2 d3 : Int}
abbrev Stp (ops : Array Oper) (Q : Exit → Act → World → Prop) (md : Region.Mode) (fuel : Nat) (l' : Array Bool) (a : Act) (W W1 : World) (oi : Oper) (N : Option Tmp) : Prop :=
  ∀ K : Act → World → Prop, Shut (∀ a' w', Up W w' → (Up W w' → wpAnyLast Tryz.prog md ops Q (Up W) [] fuel l' a' w') → K a' w') → if Region.wanted oi (yielded ops a.tmps) = true then Oper.wp Tryz.prog oi a W1 K Q else K (a.put N undef) W1
theorem sF_ (KT : Gives w args l0 l1 l2 p q r) (hW : Below w.heap.size w W) (hS : Up W W1)
    (h : ∀ X0 x0 X1 x1 X2 x2 w', Rw w' W1.heap.size (fun _ => True) X0 l0.length x0 l0 X1 l1.length x1 l1 X2 l2.length x2 l2 → Below W1.heap.size W1 w' → Up W w' → wpAnyLast Tryz.prog md ops Q (Up W) [] fuel l' (a.put N (.agg #[.slice X0 l0.length x0, .slice X1 l1.length x1, .slice X2 l2.length x2, .int .i64 p, .int .i64 q, .int .i64 r])) w')
    (hw : Region.wanted oi (yielded ops a.tmps) = true := by rfl) (hN : oi.dst = N := by rfl) (hop : oi.op = .call { callee := .value (.func 7), args := aa, argTypes := ty } := by rfl) (hargs : aa.map a.eval = args := by (try simp only [am_]); first | done | rfl) : Stp ops Q md fuel l' a W W1 oi N := by
  intro K hK
  refine goes_ Tryz.func7 rfl rfl args hw hN hop hargs ((KT _ (below_step hW hS)).mono ?_)
  rintro e w5 ⟨v0, v1, v2, rfl, hX0, hX1, hX2, hb⟩
  obtain ⟨X0, x0, rfl⟩ := Kd.R_slice hX0
  obtain ⟨X1, x1, rfl⟩ := Kd.R_slice hX1
  obtain ⟨X2, x2, rfl⟩ := Kd.R_slice hX2
  exact ⟨_, rfl, hK.out _ _ (below_step hS hb) (h _ _ _ _ _ _ _ ⟨hX0, hX1, hX2⟩ hb)⟩
theorem on_ (i : Nat) {n : Tmp} (l' : Array Bool) (hi : ops[i]? = some oi) (h : Stp ops Q md fuel l' a W W1 oi (some n)) (hN : oi.dst = some n := by rfl) (hc : readyB md ops l l' i = true := by kernel_rfl) : wpAnyLast Tryz.prog md ops Q (Up W) [] (fuel + 1) l a W1 := one_ l' hi hN hc (by simp) h
end
set_option maxHeartbeats 16000000 in
set_option maxRecDepth 100000 in
theorem runlaw_t (A0 : Option Addr) (c0 : Nat) (A1 : Option Addr) (c1 : Nat) (A2 : Option Addr) (c2 : Nat) (A3 : Option Addr) (c3 : Nat) (ts : List S77) (cs : List S80) (ds : List S83) (p q r : Int) (xs0 : List S56) (w : World)
    (hr0 : Kd.C k77 w A0 ts.length ts) (hc0 : ts.length ≤ c0) (hr1 : Kd.C k80 w A1 cs.length cs) (hc1 : cs.length ≤ c1) (hr2 : Kd.C k83 w A2 ds.length ds) (hc2 : ds.length ≤ c2) (hr3 : Kd.C k56 w A3 xs0.length xs0) (hc3 : xs0.length ≤ c3)
    (k1 k2 k3 k4 k5 k6 k7 k8 k9 k10 k11 k12 k13 k14 : Nat) (l0 : List S86) (l1 : List S88) (l2 : List S90) (xs : List S60) (t : List S86) (c : List S88) (d : List S90) (p2 q2 r2 : Int) (told : List Bool) (z1 z2 m1 m2 m3 m4 : Int) (ta tb : List S86) (ca cb : List S88) (da db : List S90) (xa : List S60) (tl : List Bool)
    (hz1 : laws_szFleet.f k1 ts cs ds p q r 1048576 = some z1) (hz2 : laws_szDeed19S.f k2 xs0 z1 = some z2) (hto : laws_toFleet.f k3 ts cs ds p q r = some (l0, l1, l2, p, q, r)) (htd : laws_toDeed19S.f k4 xs0 = some xs) (hgd : Good l0 l1 l2) (hs : ∀ x ∈ xs, x.f1.size ≤ 140737488355328) (hxn : xs.length ≤ 140737488355328) (hW : runW l0 l1 l2 p q r xs = (t, c, d, p2, q2, r2, told)) (he1 : laws_eqFleet.f k5 t c d p2 q2 r2 t c d p2 q2 r2 = some true) (he2 : laws_eqFleet.f k6 l0 l1 l2 p q r l0 l1 l2 p q r = some true) (he3 : laws_eqBoolS.f k7 told told = some true) (he4 : laws_eqDeed19S.f k8 xs xs = some true) (hm1 : laws_markFleet.f k9 l0 l1 l2 p q r 1 = some (m1, ta, ca, da)) (hm3 : laws_markDeed19S.f k10 xs m1 = some (m3, xa)) (hm2 : laws_markFleet.f k11 t c d p2 q2 r2 1 = some (m2, tb, cb, db)) (hm4 : laws_markBoolS.f k12 told m2 = some (m4, tl)) (hh : laws_heldFleet.f k13 tb cb db p2 q2 r2 1 = some m2) (hhb : laws_heldBoolS.f k14 tl m2 = some m4) (hg3 : 0 ≤ m3) (hg2 : 0 ≤ m2) (hg4 : 0 ≤ m4) :
    Calls Tryz.prog 3 #[.agg #[.slice A0 ts.length c0, .slice A1 cs.length c1, .slice A2 ds.length c2, .int .i64 p, .int .i64 q, .int .i64 r], .slice A3 xs0.length c3] w fun e w' => e = .returned (.bool true) ∧ Below w.heap.size w w' := by
 have hu1 := Tryz.underlying28
 have hu3 := Tryz.underlying37
 have KZ := Aside0.mk (fun W' (h : Below w.heap.size w W') => laws_szFleet.calls k1 A0 c0 ts A1 c1 cs A2 c2 ds p q r 1048576 z1 W' (Kd.C_below hr0 h) hc0 (Kd.C_below hr1 h) hc1 (Kd.C_below hr2 h) hc2 hz1)
 have KY := Aside0.mk (fun W' (h : Below w.heap.size w W') => laws_szDeed19S.calls k2 A3 c3 xs0 z1 z2 W' (Kd.C_below hr3 h) hc3 hz2)
 have KT := Aside0.mk (show Gives w #[.agg #[.slice A0 ts.length c0, .slice A1 cs.length c1, .slice A2 ds.length c2, .int .i64 p, .int .i64 q, .int .i64 r]] l0 l1 l2 p q r from fun W' h => laws_toFleet.calls k3 A0 c0 ts A1 c1 cs A2 c2 ds p q r l0 l1 l2 p q r W' (Kd.C_below hr0 h) hc0 (Kd.C_below hr1 h) hc1 (Kd.C_below hr2 h) hc2 hto)
 have KD := Aside0.mk (fun W' (h : Below w.heap.size w W') => laws_toDeed19S.calls k4 A3 c3 xs0 xs W' (Kd.C_below hr3 h) hc3 htd)
 have RW := Aside0.mk (And.intro hW (And.intro hgd (And.intro hs hxn)))
 have E1 := Aside0.mk he1
 have E2 := Aside0.mk he2
 have E3 := Aside0.mk he3
 have E4 := Aside0.mk he4
 have M1 := Aside0.mk hm1
 have M2 := Aside0.mk hm2
 have M3 := Aside0.mk hm3
 have M4 := Aside0.mk hm4
 have HF := Aside0.mk hh
 have HFB := Aside0.mk hhb
 have HA := Aside0.mk (show Ar w (w.alloc (.cells #[.slice A0 ts.length c0, .slice A1 cs.length c1, .slice A2 ds.length c2, .int .i64 p, .int .i64 q, .int .i64 r] 28 (0, 0))) #[.slice A0 ts.length c0, .slice A1 cs.length c1, .slice A2 ds.length c2, .int .i64 p, .int .i64 q, .int .i64 r] from ⟨blk_new w _, below_alloc (Below.refl w.heap.size w) _⟩)
 have g3 : ¬ m3 < 0 := by omega
 have g2 : ¬ m2 < 0 := by omega
 have g4 : ¬ m4 < 0 := by omega
 have hme : (m4 != m4) = false := bne_self_eq_false m4
 clear hr0 hc0 hr1 hc1 hr2 hc2 hr3 hc3 hz1 hz2 hto htd hgd hs hxn hW he1 he2 he3 he4 hm1 hm3 hm2 hm4 hh hhb hg3 hg2 hg4
 go_enter Tryz.func3, Tryz.ntmps3
 go_upto_region 1 with (fail)
 generalize w.alloc _ = W at HA ⊢
 obtain ⟨f0, f1, f2, f3, f4, f5⟩ := ck6 HA.out.bf
 by_cases hz : z1 < 0
 ·
  go_wp2_with (first | (go_at_call 4; (with_reducible refine (KZ.out _ HA.out.hb).mono ?_); rintro e w1 ⟨rfl, hb1⟩))
  go_ret
  exact ⟨rfl, below_step HA.out.hb hb1⟩
 go_upto_region 5 with (first | (go_at_call 4; (with_reducible refine (KZ.out _ HA.out.hb).mono ?_); rintro e W1 ⟨rfl, hb1⟩))
 clear f0 f1 f2 f3 f4 f5 KZ
 replace HA := Aside0.mk (HA.out.up hb1)
 clear hb1
 by_cases hy : z2 < 0
 ·
  go_wp2_with (first | (go_at_call 5; (with_reducible refine (KY.out _ HA.out.hb).mono ?_); rintro e w1 ⟨rfl, hb1⟩))
  go_ret
  exact ⟨rfl, below_step HA.out.hb hb1⟩
 go_upto_region 8 with (first | (go_at_call 5; (with_reducible refine (KY.out _ HA.out.hb).mono ?_); rintro e W2 ⟨rfl, hb1⟩))
 replace HA := Aside0.mk (HA.out.up hb1)
 clear hb1 KY W W1
 obtain ⟨f0, f1, f2, f3, f4, f5⟩ := ck6 HA.out.bf
 go_upto_region 9 with (first | (go_at_call 7; (with_reducible refine (KT.out _ HA.out.hb).mono ?_); rintro e w1 ⟨v0_, v1_, v2_, rfl, hX0, hX1, hX2, hb1⟩; obtain ⟨X0, x0, rfl⟩ := Kd.R_slice hX0; obtain ⟨X1, x1, rfl⟩ := Kd.R_slice hX1; obtain ⟨X2, x2, rfl⟩ := Kd.R_slice hX2) | (go_at_call 8; (with_reducible refine (KD.out _ (below_step HA.out.hb hb1)).mono ?_); rintro e w2 ⟨v9_, rfl, hY, hb2⟩; obtain ⟨U, u, rfl⟩ := Kd.R_slice hY) | (go_at_call 6; (with_reducible refine (srun_t.at RW.out.1 RW.out.2.1 RW.out.2.2.1 RW.out.2.2.2 (Rw.up ⟨hX0, hX1, hX2⟩ hb2) hY).mono ?_); rintro e w3 ⟨V0, v0, V1, v1, V2, v2, V3, v3, rfl, hV, hT, hb3⟩))
 clear f0 f1 f2 f3 f4 f5
 have nw := below_alloc (Below.refl w3.heap.size w3) (.cells #[.slice V0 t.length v0, .slice V1 c.length v1, .slice V2 d.length v2, .int .i64 p2, .int .i64 q2, .int .i64 r2] 37 (0, 0))
 have h13 := below_step (below_step hb1 hb2) hb3
 have hlo := blk_lt (HA.out.up (below_step hb1 hb2)).bf
 have hhi := hb3.size
 have hsz := below_step HA.out.hb (below_step hb1 hb2)
 have HQ := Aside0.mk (And.intro ((HA.out.up h13).up nw) (And.intro (show Flp w _ (fun k => w2.heap.size ≤ k ∧ k < w3.heap.size) w3.heap.size V0 _ v0 t V1 _ v1 c V2 _ v2 d p2 q2 r2 from ⟨blk_new w3 _, (hV.rng hsz.size).up nw⟩) ((Rb.rng (w := w) hT hsz.size).up nw)))
 clear nw h13 hsz hX0 hX1 hX2 hY hb1 hb2 hb3 hV hT HA
 generalize w3.heap.size = g6 at HQ hhi ⊢
 generalize w2.heap.size = a1 at HQ hlo hhi
 generalize w3.alloc _ = W at HQ ⊢
 obtain ⟨HA, HW, HV⟩ := HQ.out
 clear HQ
 replace HA := Aside0.mk HA
 replace HW := Aside0.mk HW
 replace HV := Aside0.mk HV
 have hg6 := blk_lt HW.out.g
 obtain ⟨f0, f1, f2, f3, f4, f5⟩ := ck6 HA.out.bf
 go_upto_region 10 with (first | (go_at_call 7; (with_reducible refine (KT.out _ HA.out.hb).mono ?_); rintro e w1 ⟨v0_, v1_, v2_, rfl, hX0, hX1, hX2, hb1⟩; obtain ⟨X0, x0, rfl⟩ := Kd.R_slice hX0; obtain ⟨X1, x1, rfl⟩ := Kd.R_slice hX1; obtain ⟨X2, x2, rfl⟩ := Kd.R_slice hX2))
 clear f0 f1 f2 f3 f4 f5
 have nw := below_alloc (Below.refl w1.heap.size w1) (.cells #[.slice X0 l0.length x0, .slice X1 l1.length x1, .slice X2 l2.length x2, .int .i64 p, .int .i64 q, .int .i64 r] 37 (0, 0))
 have hhx := hb1.size
 have HQ := Aside0.mk (And.intro ((HA.out.up hb1).up nw) (And.intro ((HW.out.up hb1).up nw) (And.intro ((HV.out.up hb1).up nw) (show Flp w _ (fun k => W.heap.size ≤ k ∧ k < w1.heap.size) w1.heap.size X0 _ x0 l0 X1 _ x1 l1 X2 _ x2 l2 p q r from ⟨blk_new w1 _, (Rw.rng ⟨hX0, hX1, hX2⟩ HA.out.hb.size).up nw⟩))))
 clear nw hX0 hX1 hX2 hb1 HA HW HV
 generalize w1.heap.size = g8 at HQ hhx ⊢
 generalize W.heap.size = a2 at HQ hhx hg6
 generalize w1.alloc _ = W at HQ ⊢
 obtain ⟨HA, HW, HV, HX⟩ := HQ.out
 clear HQ
 replace HA := Aside0.mk HA
 replace HW := Aside0.mk HW
 replace HV := Aside0.mk HV
 replace HX := Aside0.mk HX
 have hg8 := blk_lt HX.out.g
 go_upto_region 11 with (first | (go_at_call 8; (with_reducible refine (KD.out _ HA.out.hb).mono ?_); rintro e w2 ⟨v9_, rfl, hY, hb2⟩; obtain ⟨U, u, rfl⟩ := Kd.R_slice hY))
 have hhy := hb2.size
 have HY := Aside0.mk (Rb.rng (w := w) hY HA.out.hb.size)
 replace HA := Aside0.mk (HA.out.up hb2)
 replace HW := Aside0.mk (HW.out.up hb2)
 replace HV := Aside0.mk (HV.out.up hb2)
 replace HX := Aside0.mk (HX.out.up hb2)
 clear hY hb2
 generalize W.heap.size = a3 at HY hhy hg8
 obtain ⟨b3, hb3⟩ : ∃ b, b = w2.heap.size := ⟨_, rfl⟩
 rw [← hb3] at HY hhy
 obtain ⟨f0, f1, f2, f3, f4, f5⟩ := ck6 HX.out.g
 go_upto_region 12 with (first | (go_at_call 9; (with_reducible refine (irun_t.at RW.out.1 RW.out.2.1 RW.out.2.2.1 RW.out.2.2.2 HX.out.r HY.out.r).mono ?_); rintro e w3 ⟨G0, g0_, G1, g1_, G2, g2_, G3, g3_, rfl, hV, hT, hb1⟩))
 clear f0 f1 f2 f3 f4 f5
 have nw := below_alloc (Below.refl w3.heap.size w3) (.cells #[.slice G0 t.length g0_, .slice G1 c.length g1_, .slice G2 d.length g2_, .int .i64 p2, .int .i64 q2, .int .i64 r2] 37 (0, 0))
 obtain ⟨PF, PT, hF, hT, hp1, hp2, hp3⟩ := apart_ HA.out.hb.size hV hT
 have HQ := Aside0.mk (And.intro ((HA.out.up hb1).up nw) (And.intro ((HW.out.up hb1).up nw) (And.intro ((HV.out.up hb1).up nw) (And.intro ((HX.out.up hb1).up nw) (And.intro ((HY.out.up hb1).up nw) (And.intro (show Flp w _ PF w3.heap.size G0 _ g0_ t G1 _ g1_ c G2 _ g2_ d p2 q2 r2 from ⟨blk_new w3 _, hF.up nw⟩) (hT.up nw)))))))
 have h310 : b3 ≤ w3.heap.size := by rw [hb3]; exact hb1.size
 clear nw hF hV hT hb1 HA HW HV HX HY
 rw [← hb3] at hp1 hp2
 clear hb3
 generalize w3.heap.size = g10 at HQ hp1 hp2 h310 ⊢
 generalize w3.alloc _ = W at HQ ⊢
 obtain ⟨HA, HW, HV, HX, HY, HG, HT⟩ := HQ.out
 clear HQ
 replace HA := Aside0.mk HA
 replace HW := Aside0.mk HW
 replace HV := Aside0.mk HV
 replace HX := Aside0.mk HX
 replace HY := Aside0.mk HY
 replace HG := Aside0.mk HG
 replace HT := Aside0.mk HT
 have hg10 := blk_lt HG.out.g
 have HP := Aside0.mk (And.intro hp1 (And.intro hp2 hp3))
 clear hp1 hp2 hp3
 obtain ⟨f0, f1, f2, f3, f4, f5⟩ := ck6 HG.out.g
 obtain ⟨e0, e1, e2, e3, e4, e5⟩ := ck6 HW.out.g
 go_upto_region 14 with (first | (go_at_call 10; (with_reducible refine (HG.out.r.eq HW.out.r E1.out).mono ?_); rintro e W ⟨rfl, hb1⟩; replace HA := Aside0.mk (HA.out.up hb1); replace HW := Aside0.mk (HW.out.up hb1); replace HV := Aside0.mk (HV.out.up hb1); replace HX := Aside0.mk (HX.out.up hb1); replace HY := Aside0.mk (HY.out.up hb1); replace HG := Aside0.mk (HG.out.up hb1); replace HT := Aside0.mk (HT.out.up hb1); clear hb1) | (go_at_call 11; (with_reducible refine (HT.out.eqB HV.out E3.out).mono ?_); rintro e W ⟨rfl, hb1⟩; replace HA := Aside0.mk (HA.out.up hb1); replace HW := Aside0.mk (HW.out.up hb1); replace HV := Aside0.mk (HV.out.up hb1); replace HX := Aside0.mk (HX.out.up hb1); replace HY := Aside0.mk (HY.out.up hb1); replace HG := Aside0.mk (HG.out.up hb1); replace HT := Aside0.mk (HT.out.up hb1); clear hb1))
 clear f0 f1 f2 f3 f4 f5 e0 e1 e2 e3 e4 e5
 obtain ⟨W9, hW9⟩ : ∃ W9, W9 = W := ⟨_, rfl⟩
 rw [← hW9] at HA HW HV HX HY HG HT ⊢
 clear hW9
 have LL := Aside0.mk (fun w' (h : Up W9 w') => And.intro (ck6 (HX.out.up h).g) (ck6 (HA.out.up h).bf))
 refine start_ (n := 5) (S := Up W9) (ds := []) #[false, false, false, false, false] (by kernel_rfl) rfl rfl (below_drew (Below.refl _ _)) (fun hS => ?_)
 generalize W9.drew = W1 at hS ⊢
 refine rt_ LL.out hS 0 55 #[true, false, false, false, false] ?_
 refine rt_ LL.out hS 1 56 #[true, true, false, false, false] ?_
 refine on_ 2 #[true, true, true, false, false] rfl (sF_ KT.out HA.out.hb hS ?_)
 intro Y0 y0 Y1 y1 Y2 y2 w5 hX hb hS
 refine rn_ ?_
 refine one_ (i := 3) (N := some 58) #[true, true, true, true, false] rfl rfl (by kernel_rfl) (by decide) (fun K hK => ?_)
 refine goes_ Tryz.func10 rfl rfl #[.agg #[.slice X0 l0.length x0, .slice X1 l1.length x1, .slice X2 l2.length x2, .int .i64 p, .int .i64 q, .int .i64 r], .agg #[.slice Y0 l0.length y0, .slice Y1 l1.length y1, .slice Y2 l2.length y2, .int .i64 p, .int .i64 q, .int .i64 r]] (by rfl) rfl rfl (by (try simp only [am_]); first | done | rfl) (((HX.out.up hS).r.eq hX E2.out).mono ?_)
 rintro e w6 ⟨rfl, hb6⟩
 refine ⟨_, rfl, hK.out _ _ (below_step hS hb6) (fun hS => ?_)⟩
 refine rn_ ?_
 refine ra_ 4 59 #[true, true, true, true, true] ?_
 refine done_ (by kernel_rfl) ?_
 replace HA := Aside0.mk (HA.out.up hS)
 replace HW := Aside0.mk (HW.out.up hS)
 replace HV := Aside0.mk (HV.out.up hS)
 replace HX := Aside0.mk (HX.out.up hS)
 replace HY := Aside0.mk (HY.out.up hS)
 replace HG := Aside0.mk (HG.out.up hS)
 replace HT := Aside0.mk (HT.out.up hS)
 clear hb hb6 hX hK K LL hS
 go_upto_region 18 with (first | (go_at_call 8; (with_reducible refine (KD.out _ HA.out.hb).mono ?_); rintro e W ⟨v9_, rfl, hY, hb1⟩; obtain ⟨U2, u2, rfl⟩ := Kd.R_slice hY; replace HA := Aside0.mk (HA.out.up hb1); replace HW := Aside0.mk (HW.out.up hb1); replace HV := Aside0.mk (HV.out.up hb1); replace HX := Aside0.mk (HX.out.up hb1); replace HY := Aside0.mk (HY.out.up hb1); replace HG := Aside0.mk (HG.out.up hb1); replace HT := Aside0.mk (HT.out.up hb1); clear hb1) | (go_at_call 12; (with_reducible refine (HY.out.eqD hY E4.out).mono ?_); rintro e W ⟨rfl, hb1⟩; replace HA := Aside0.mk (HA.out.up hb1); replace HW := Aside0.mk (HW.out.up hb1); replace HV := Aside0.mk (HV.out.up hb1); replace HX := Aside0.mk (HX.out.up hb1); replace HY := Aside0.mk (HY.out.up hb1); replace HG := Aside0.mk (HG.out.up hb1); replace HT := Aside0.mk (HT.out.up hb1); clear hb1))
 clear hY
 obtain ⟨f0, f1, f2, f3, f4, f5⟩ := ck6 HX.out.g
 go_upto_region 20 with (first | (go_at_call 13; (with_reducible refine (HX.out.mark HA.out.hb (fun h => by omega) M1.out).mono ?_); rintro e W ⟨rfl, hX1, hB1, hK1⟩))
 clear f0 f1 f2 f3 f4 f5
 replace HA := Aside0.mk (HA.out.kept hK1 hB1 (fun h => by omega))
 replace HW := Aside0.mk (HW.out.kept hK1 (fun i hi h => by omega) (fun h => by omega))
 replace HV := Aside0.mk (HV.out.kept hK1 (fun i hi h => by omega))
 replace HY := Aside0.mk (HY.out.kept hK1 (fun i hi h => by omega))
 replace HG := Aside0.mk (HG.out.kept hK1 (fun i hi h => by have := HP.out.1 i hi; omega) (fun h => by omega))
 replace HT := Aside0.mk (HT.out.kept hK1 (fun i hi h => by have := HP.out.2.1 i hi; omega))
 clear HX hX1 hB1 hK1
 go_upto_region 21 with (first | (go_at_call 14; (with_reducible refine (laws_markDeed19S.calls _ _ _ xs m1 m3 xa w _ HA.out.hb HY.out.r M3.out).mono ?_); rintro e W ⟨rfl, hX1, hB1, hK1⟩))
 replace HA := Aside0.mk (HA.out.kept hK1 hB1 (fun h => by omega))
 replace HW := Aside0.mk (HW.out.kept hK1 (fun i hi h => by omega) (fun h => by omega))
 replace HV := Aside0.mk (HV.out.kept hK1 (fun i hi h => by omega))
 replace HG := Aside0.mk (HG.out.kept hK1 (fun i hi h => by have := HP.out.1 i hi; omega) (fun h => by omega))
 replace HT := Aside0.mk (HT.out.kept hK1 (fun i hi h => by have := HP.out.2.1 i hi; omega))
 clear HY hX1 hB1 hK1
 obtain ⟨f0, f1, f2, f3, f4, f5⟩ := ck6 HG.out.g
 obtain ⟨e0, e1, e2, e3, e4, e5⟩ := ck6 HW.out.g
 go_upto_region 23 with (first | (go_at_call 10; (with_reducible refine (HG.out.r.eq HW.out.r E1.out).mono ?_); rintro e W ⟨rfl, hb1⟩; replace HA := Aside0.mk (HA.out.up hb1); replace HW := Aside0.mk (HW.out.up hb1); replace HV := Aside0.mk (HV.out.up hb1); replace HG := Aside0.mk (HG.out.up hb1); replace HT := Aside0.mk (HT.out.up hb1); clear hb1) | (go_at_call 11; (with_reducible refine (HT.out.eqB HV.out E3.out).mono ?_); rintro e W ⟨rfl, hb1⟩; replace HA := Aside0.mk (HA.out.up hb1); replace HW := Aside0.mk (HW.out.up hb1); replace HV := Aside0.mk (HV.out.up hb1); replace HG := Aside0.mk (HG.out.up hb1); replace HT := Aside0.mk (HT.out.up hb1); clear hb1))
 clear f0 f1 f2 f3 f4 f5 e0 e1 e2 e3 e4 e5
 obtain ⟨f0, f1, f2, f3, f4, f5⟩ := ck6 HG.out.g
 have hgs := blk_lt HG.out.g
 go_upto_region 25 with (first | (go_at_call 13; (with_reducible refine (HG.out.mark HA.out.hb (fun h => by have := HP.out.1 _ h; omega) M2.out).mono ?_); rintro e W ⟨rfl, hX1, hB1, hK1⟩))
 clear f0 f1 f2 f3 f4 f5
 replace HA := Aside0.mk (HA.out.kept hK1 hB1 (fun h => by have := HP.out.1 _ h; omega))
 replace HW := Aside0.mk (HW.out.kept hK1 (fun i hi h => by have := HP.out.1 i h; omega) (fun h => by have := HP.out.1 _ h; omega))
 replace HV := Aside0.mk (HV.out.kept hK1 (fun i hi h => by have := HP.out.1 i h; omega))
 replace HT := Aside0.mk (HT.out.kept hK1 (fun i hi h => HP.out.2.2 i h hi))
 replace HG := Aside0.mk hX1
 clear hX1 hB1 hK1
 go_upto_region 26 with (first | (go_at_call 15; (with_reducible refine (laws_markBoolS.calls _ _ _ told m2 m4 tl w _ HA.out.hb HT.out.r M4.out).mono ?_); rintro e W ⟨rfl, hX1, hB1, hK1⟩))
 replace HA := Aside0.mk (HA.out.kept hK1 hB1 (fun h => by have := HP.out.2.1 _ h; omega))
 replace HW := Aside0.mk (HW.out.kept hK1 (fun i hi h => by have := HP.out.2.1 i h; omega) (fun h => by have := HP.out.2.1 _ h; omega))
 replace HV := Aside0.mk (HV.out.kept hK1 (fun i hi h => by have := HP.out.2.1 i h; omega))
 replace HG := Aside0.mk (HG.out.kept hK1 (fun i hi h => by have h2 := HP.out.2.1 i h; rcases hi with hi | hi; · exact HP.out.2.2 i hi h
                                                            · omega) (fun h => by have := HP.out.2.1 _ h; omega))
 have HT := Aside0.mk (Rb.mk hX1)
 clear hX1 hB1 hK1
 obtain ⟨f0, f1, f2, f3, f4, f5⟩ := ck6 HG.out.g
 go_upto_region 35 with (first | (go_at_call 16; (with_reducible refine (HG.out.r.held HF.out).mono ?_); rintro e W ⟨rfl, hb1⟩; replace HA := Aside0.mk (HA.out.up hb1); replace HW := Aside0.mk (HW.out.up hb1); replace HV := Aside0.mk (HV.out.up hb1); replace HG := Aside0.mk (HG.out.up hb1); replace HT := Aside0.mk (HT.out.up hb1); clear hb1) | (go_at_call 17; (with_reducible refine (HT.out.heldB HFB.out).mono ?_); rintro e W ⟨rfl, hb1⟩; replace HA := Aside0.mk (HA.out.up hb1); replace HW := Aside0.mk (HW.out.up hb1); replace HV := Aside0.mk (HV.out.up hb1); replace HG := Aside0.mk (HG.out.up hb1); replace HT := Aside0.mk (HT.out.up hb1); clear hb1))
 clear f0 f1 f2 f3 f4 f5
 obtain ⟨f0, f1, f2, f3, f4, f5⟩ := ck6 HA.out.bf
 obtain ⟨W9, hW9⟩ : ∃ W9, W9 = W := ⟨_, rfl⟩
 rw [← hW9] at HA HW HV HG HT f0 f1 f2 f3 f4 f5 ⊢
 clear hW9
 go_upto_region 36 with (first | (go_at_call 7; (with_reducible refine (KT.out _ HA.out.hb).mono ?_); rintro e w1 ⟨v0_, v1_, v2_, rfl, hX0, hX1, hX2, hb1⟩; obtain ⟨X0, x0, rfl⟩ := Kd.R_slice hX0; obtain ⟨X1, x1, rfl⟩ := Kd.R_slice hX1; obtain ⟨X2, x2, rfl⟩ := Kd.R_slice hX2) | (go_at_call 8; (with_reducible refine (KD.out _ (below_step HA.out.hb hb1)).mono ?_); rintro e w2 ⟨v9_, rfl, hY, hb2⟩; obtain ⟨U, u, rfl⟩ := Kd.R_slice hY) | (go_at_call 9; (with_reducible refine (irun_t.at RW.out.1 RW.out.2.1 RW.out.2.2.1 RW.out.2.2.2 (Rw.up ⟨hX0, hX1, hX2⟩ hb2) hY).mono ?_); rintro e w3 ⟨V0, v0, V1, v1, V2, v2, V3, v3, rfl, hV, hT, hb3⟩))
 clear f0 f1 f2 f3 f4 f5
 have nw := below_alloc (Below.refl w3.heap.size w3) (.cells #[.slice V0 t.length v0, .slice V1 c.length v1, .slice V2 d.length v2, .int .i64 p2, .int .i64 q2, .int .i64 r2] 37 (0, 0))
 have h13 := below_step (below_step (below_step hb1 hb2) hb3) nw
 have hsz := (below_step HA.out.hb (below_step hb1 hb2)).size
 have HQ := Aside0.mk (And.intro (HA.out.up h13) (And.intro (HW.out.up h13) (And.intro (HV.out.up h13) (And.intro (HG.out.up h13) (And.intro (HT.out.up h13) (And.intro (show Flp w _ _ w3.heap.size V0 _ v0 t V1 _ v1 c V2 _ v2 d p2 q2 r2 from ⟨blk_new w3 _, (hV.rng hsz).up nw⟩) ((Rb.rng (w := w) hT hsz).up nw)))))))
 clear nw h13 hsz hX0 hX1 hX2 hY hb1 hb2 hb3 hV hT HA HW HV HG HT
 generalize w3.alloc _ = W at HQ ⊢
 generalize w3.heap.size = g15 at HQ ⊢
 obtain ⟨HA, HW, HV, HG, HT, HH, HU⟩ := HQ.out
 clear HQ
 replace HA := Aside0.mk HA
 replace HW := Aside0.mk HW
 replace HV := Aside0.mk HV
 replace HG := Aside0.mk HG
 replace HT := Aside0.mk HT
 replace HH := Aside0.mk HH
 replace HU := Aside0.mk HU
 obtain ⟨f0, f1, f2, f3, f4, f5⟩ := ck6 HH.out.g
 obtain ⟨e0, e1, e2, e3, e4, e5⟩ := ck6 HW.out.g
 go_upto_region 38 with (first | (go_at_call 10; (with_reducible refine (HH.out.r.eq HW.out.r E1.out).mono ?_); rintro e W ⟨rfl, hb1⟩; replace HA := Aside0.mk (HA.out.up hb1); replace HW := Aside0.mk (HW.out.up hb1); replace HV := Aside0.mk (HV.out.up hb1); replace HG := Aside0.mk (HG.out.up hb1); replace HT := Aside0.mk (HT.out.up hb1); replace HH := Aside0.mk (HH.out.up hb1); replace HU := Aside0.mk (HU.out.up hb1); clear hb1) | (go_at_call 11; (with_reducible refine (HU.out.eqB HV.out E3.out).mono ?_); rintro e W ⟨rfl, hb1⟩; replace HA := Aside0.mk (HA.out.up hb1); replace HW := Aside0.mk (HW.out.up hb1); replace HV := Aside0.mk (HV.out.up hb1); replace HG := Aside0.mk (HG.out.up hb1); replace HT := Aside0.mk (HT.out.up hb1); replace HH := Aside0.mk (HH.out.up hb1); replace HU := Aside0.mk (HU.out.up hb1); clear hb1))
 clear f0 f1 f2 f3 f4 f5 e0 e1 e2 e3 e4 e5
 obtain ⟨f0, f1, f2, f3, f4, f5⟩ := ck6 HG.out.g
 go_wp2_with (first | (go_at_call 16; (with_reducible refine (HG.out.r.held HF.out).mono ?_); rintro e W ⟨rfl, hb1⟩; replace HA := Aside0.mk (HA.out.up hb1); replace HG := Aside0.mk (HG.out.up hb1); replace HT := Aside0.mk (HT.out.up hb1); clear hb1) | (go_at_call 17; (with_reducible refine (HT.out.heldB HFB.out).mono ?_); rintro e W ⟨rfl, hb1⟩; replace HA := Aside0.mk (HA.out.up hb1); replace HG := Aside0.mk (HG.out.up hb1); replace HT := Aside0.mk (HT.out.up hb1); clear hb1))
 go_ret
 exact ⟨rfl, HA.out.hb⟩
/-- What the plain side shows of the law's arguments. -/
def RunLaw (ts : List S77) (cs : List S80) (ds : List S83) (p q r : Int) (xs0 : List S56) : Prop :=
  ∃ (k1 k2 k3 k4 k5 k6 k7 k8 k9 k10 k11 k12 k13 k14 : Nat) (l0 : List S86) (l1 : List S88) (l2 : List S90) (xs : List S60) (t : List S86) (c : List S88) (d : List S90) (p2 q2 r2 : Int) (told : List Bool) (z1 z2 m1 m2 m3 m4 : Int) (ta tb : List S86) (ca cb : List S88) (da db : List S90) (xa : List S60) (tl : List Bool),
    laws_szFleet.f k1 ts cs ds p q r 1048576 = some z1 ∧ laws_szDeed19S.f k2 xs0 z1 = some z2 ∧ laws_toFleet.f k3 ts cs ds p q r = some (l0, l1, l2, p, q, r) ∧ laws_toDeed19S.f k4 xs0 = some xs ∧ Good l0 l1 l2 ∧ (∀ x ∈ xs, x.f1.size ≤ 140737488355328) ∧ xs.length ≤ 140737488355328 ∧ runW l0 l1 l2 p q r xs = (t, c, d, p2, q2, r2, told) ∧ laws_eqFleet.f k5 t c d p2 q2 r2 t c d p2 q2 r2 = some true ∧ laws_eqFleet.f k6 l0 l1 l2 p q r l0 l1 l2 p q r = some true ∧ laws_eqBoolS.f k7 told told = some true ∧ laws_eqDeed19S.f k8 xs xs = some true ∧ laws_markFleet.f k9 l0 l1 l2 p q r 1 = some (m1, ta, ca, da) ∧ laws_markDeed19S.f k10 xs m1 = some (m3, xa) ∧ laws_markFleet.f k11 t c d p2 q2 r2 1 = some (m2, tb, cb, db) ∧ laws_markBoolS.f k12 told m2 = some (m4, tl) ∧ laws_heldFleet.f k13 tb cb db p2 q2 r2 1 = some m2 ∧ laws_heldBoolS.f k14 tl m2 = some m4 ∧ 0 ≤ m3 ∧ 0 ≤ m2 ∧ 0 ≤ m4
open Classical in
noncomputable def laws_FnExactRunWork.f (k : Nat) (l0_0 : List (S77)) (l0_1 : List (S80)) (l0_2 : List (S83)) (a0_3 : Int) (a0_4 : Int) (a0_5 : Int) (l1 : List (S56)) : Option Bool := if RunLaw l0_0 l0_1 l0_2 a0_3 a0_4 a0_5 l1 then some true else none
theorem laws_FnExactRunWork.calls (k : Nat) (A0_0 : Option Addr) (c0_0 : Nat) (l0_0 : List (S77)) (A0_1 : Option Addr) (c0_1 : Nat) (l0_1 : List (S80)) (A0_2 : Option Addr) (c0_2 : Nat) (l0_2 : List (S83)) (a0_3 : Int) (a0_4 : Int) (a0_5 : Int) (A1 : Option Addr) (c1 : Nat) (l1 : List (S56)) (r : Bool) (hr_ : r = true) (w : World) (hr0_0 : Kd.C k77 w A0_0 l0_0.length l0_0) (hc0_0 : l0_0.length ≤ c0_0) (hr0_1 : Kd.C k80 w A0_1 l0_1.length l0_1) (hc0_1 : l0_1.length ≤ c0_1) (hr0_2 : Kd.C k83 w A0_2 l0_2.length l0_2) (hc0_2 : l0_2.length ≤ c0_2) (hr1 : Kd.C k56 w A1 l1.length l1) (hc1 : l1.length ≤ c1) (h : laws_FnExactRunWork.f k l0_0 l0_1 l0_2 a0_3 a0_4 a0_5 l1 = some r) :
  Calls Tryz.prog 3 #[.agg #[.slice A0_0 l0_0.length c0_0, .slice A0_1 l0_1.length c0_1, .slice A0_2 l0_2.length c0_2, .int .i64 a0_3, .int .i64 a0_4, .int .i64 a0_5], .slice A1 l1.length c1] w fun e w' => e = .returned (.bool r) ∧ Below w.heap.size w w' := by
  subst hr_
  unfold laws_FnExactRunWork.f at h
  split at h
  · rename_i hl
    obtain ⟨k1_, k2_, k3_, k4_, k5_, k6_, k7_, k8_, k9_, k10_, k11_, k12_, k13_, k14_, l0_, l1_, l2_, xs_, t_, c_, d_, p2_, q2_, r2_, told_, z1_, z2_, m1_, m2_, m3_, m4_, ta_, tb_, ca_, cb_, da_, db_, xa_, tl_, hz1, hz2, hto, htd, hgd, hs, hxn, hW, he1, he2, he3, he4, hm1, hm3, hm2, hm4, hh, hhb, hg3, hg2, hg4⟩ := hl
    exact runlaw_t A0_0 c0_0 A0_1 c0_1 A0_2 c0_2 A1 c1 l0_0 l0_1 l0_2 a0_3 a0_4 a0_5 l1 w hr0_0 hc0_0 hr0_1 hc0_1 hr0_2 hc0_2 hr1 hc1 k1_ k2_ k3_ k4_ k5_ k6_ k7_ k8_ k9_ k10_ k11_ k12_ k13_ k14_ l0_ l1_ l2_ xs_ t_ c_ d_ p2_ q2_ r2_ told_ z1_ z2_ m1_ m2_ m3_ m4_ ta_ tb_ ca_ cb_ da_ db_ xa_ tl_ hz1 hz2 hto htd hgd hs hxn hW he1 he2 he3 he4 hm1 hm3 hm2 hm4 hh hhb hg3 hg2 hg4
  · cases h
-- HAND TO
end Go.Proofs.YtdimdlifjdbgnaaGreat.PFnExactRunWork
