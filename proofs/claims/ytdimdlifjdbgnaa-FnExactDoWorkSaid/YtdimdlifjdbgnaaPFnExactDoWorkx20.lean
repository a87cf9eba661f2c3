import Derived.Test.YtdimdlifjdbgnaaPFnExactDoWorkx19
import Derived.IntWalk
namespace Go.Proofs.Ytdimdlifjdbgnaa.PFnExactDoWork
open Go.RowKit Go.Proofs.YtdimdlifjdbgnaaW.PrintWords Go.Proofs.YtdimdlifjdbgnaaW.PrintLast Go.Proofs.YtdimdlifjdbgnaaW.PrintMore Go.Proofs.Ytdimdlifjdbgnaa.Sq
attribute [local go_sem] max2_int min2_int max_two min_two max_three min_three max_four min_four
set_option linter.unusedVariables false
set_option linter.unusedSimpArgs false

/-! ### laws_FnExactDoWork: function 5 (by hand) -/
-- HAND FROM
open Go.Proofs.Ytdimdlifjdbgnaa.Base
/-! ### laws.FnExactDoWork (by hand) -/
/-- The three rows of a fleet, among the blocks P. -/
structure Rw (W : World) (b : Nat) (P : Nat → Prop) (A0 : Option Addr) (n0 c0 : Nat) (l0 : List S44) (A1 : Option Addr) (n1 c1 : Nat) (l1 : List S84) (A2 : Option Addr) (n2 c2 : Nat) (l2 : List S57) : Prop where
  r0 : Kd.R k44 44 W b P (.slice A0 n0 c0) l0
  r1 : Kd.R k84 84 W b P (.slice A1 n1 c1) l1
  r2 : Kd.R k57 57 W b P (.slice A2 n2 c2) l2
/-- A fleet in a box (at g). -/
structure Flp (w W : World) (P : Nat → Prop) (g : Nat) (A0 : Option Addr) (n0 c0 : Nat) (l0 : List S44) (A1 : Option Addr) (n1 c1 : Nat) (l1 : List S84) (A2 : Option Addr) (n2 c2 : Nat) (l2 : List S57) (p q r : Int) : Prop where
  g : W.heap[g]? = some (.cells #[.slice A0 n0 c0, .slice A1 n1 c1, .slice A2 n2 c2, .int .i64 p, .int .i64 q, .int .i64 r] 30 (0, 0))
  r : Rw W w.heap.size P A0 n0 c0 l0 A1 n1 c1 l1 A2 n2 c2 l2
theorem blk_kept {w w' : World} {S : Nat → Prop} {g : Nat} {o : Obj} (h : w.heap[g]? = some o) (k : Kept w w' S) (hn : ¬ S g) : w'.heap[g]? = some o := (k.2 g (blk_lt h) hn).trans h
/-- The boxes of the law's arguments. -/
structure Args (w W : World) (A0 : Option Addr) (c0 : Nat) (ts : List S134) (A1 : Option Addr) (c1 : Nat) (cs : List S136) (A2 : Option Addr) (c2 : Nat) (ds : List S138) (p q r d0 : Int) (d1 : ByteArray) (d2 d3 : Int) : Prop where
  bf : W.heap[w.heap.size]? = some (.cells #[.slice A0 ts.length c0, .slice A1 cs.length c1, .slice A2 ds.length c2, .int .i64 p, .int .i64 q, .int .i64 r] 63 (0, 0))
  bd : W.heap[w.heap.size + 1]? = some (.cells #[.int .i64 d0, .string d1, .int .i64 d2, .int .i64 d3] 64 (0, 0))
  hb : Below w.heap.size w W
/-- What a DoWork (f) does at these arguments. -/
abbrev Does (f : FuncId) (l0 : List S44) (l1 : List S84) (l2 : List S57) (p q r d0 : Int) (d1 : ByteArray) (d2 d3 : Int) (t : List S44) (c : List S84) (d : List S57) (p2 q2 r2 : Int) (ok : Bool) : Prop :=
  ∀ (W : World) (A0 : Option Addr) (c0 : Nat) (A1 : Option Addr) (c1 : Nat) (A2 : Option Addr) (c2 b : Nat) (P : Nat → Prop), Rw W b P A0 l0.length c0 l0 A1 l1.length c1 l1 A2 l2.length c2 l2 →
    Calls Try.prog f #[.agg #[.slice A0 l0.length c0, .slice A1 l1.length c1, .slice A2 l2.length c2, .int .i64 p, .int .i64 q, .int .i64 r], .agg #[.int .i64 d0, .string d1, .int .i64 d2, .int .i64 d3]] W fun e w' =>
      ∃ v0 v1 v2 : Value, e = .returned (.tuple #[.agg #[v0, v1, v2, .int .i64 p2, .int .i64 q2, .int .i64 r2], .bool ok]) ∧ Kd.R k44 44 w' W.heap.size (fun _ => True) v0 t ∧ Kd.R k84 84 w' W.heap.size (fun _ => True) v1 c ∧ Kd.R k57 57 w' W.heap.size (fun _ => True) v2 d ∧ Below W.heap.size W w'
/-- What toFleet does at these arguments, behind w. -/
abbrev Gives (w : World) (args : Array Value) (l0 : List S44) (l1 : List S84) (l2 : List S57) (p q r : Int) : Prop :=
  ∀ W, Below w.heap.size w W → Calls Try.prog 21 args W fun e w' => ∃ v0 v1 v2 : Value, e = .returned (.agg #[v0, v1, v2, .int .i64 p, .int .i64 q, .int .i64 r]) ∧ Kd.R k44 44 w' W.heap.size (fun _ => True) v0 l0 ∧ Kd.R k84 84 w' W.heap.size (fun _ => True) v1 l1 ∧ Kd.R k57 57 w' W.heap.size (fun _ => True) v2 l2 ∧ Below W.heap.size W w'
/-- What a region leaves that calls a DoWork and makes a box for its answer. -/
structure Res (w W W' : World) (g lo hi : Nat) (V0 : Option Addr) (v0 : Nat) (t : List S44) (V1 : Option Addr) (v1 : Nat) (c : List S84) (V2 : Option Addr) (v2 : Nat) (d : List S57) : Prop where
  up : Up W W'
  bx : W'.heap[g]? = some (.cells #[.slice none 0 0, .slice none 0 0, .slice none 0 0, .int .i64 0, .int .i64 0, .int .i64 0] 30 (0, 0))
  hg : W.heap.size ≤ g
  r : Rw W' w.heap.size (fun k => lo ≤ k ∧ k < hi) V0 t.length v0 t V1 c.length v1 c V2 d.length v2 d
  hlo : W.heap.size ≤ lo
  ap : g < lo ∨ hi ≤ g
  hi_ : hi ≤ W'.heap.size
section
variable {w W W' : World} {P P' S : Nat → Prop} {b g g' : Nat} {A0 : Option Addr} {n0 c0 : Nat} {l0 : List S44} {A1 : Option Addr} {n1 c1 : Nat} {l1 : List S84} {A2 : Option Addr} {n2 c2 : Nat} {l2 : List S57} {B0 : Option Addr} {m0 b0 : Nat} {B1 : Option Addr} {m1 b1 : Nat} {B2 : Option Addr} {m2 b2 : Nat} {p q r : Int} {kk : Nat}
theorem Rw.up (h : Rw W b P A0 n0 c0 l0 A1 n1 c1 l1 A2 n2 c2 l2) (hb : Below W.heap.size W W') : Rw W' b P A0 n0 c0 l0 A1 n1 c1 l1 A2 n2 c2 l2 := ⟨Kd.R_below h.r0 hb, Kd.R_below h.r1 hb, Kd.R_below h.r2 hb⟩
theorem Rw.kept (h : Rw W b P A0 n0 c0 l0 A1 n1 c1 l1 A2 n2 c2 l2) (k : Kept W W' S) (hn : ∀ i, P i → ¬ S i) : Rw W' b P A0 n0 c0 l0 A1 n1 c1 l1 A2 n2 c2 l2 :=
  ⟨Kd.R_step h.r0 fun i hi hl => k.2 i hl (hn i hi), Kd.R_step h.r1 fun i hi hl => k.2 i hl (hn i hi), Kd.R_step h.r2 fun i hi hl => k.2 i hl (hn i hi)⟩
theorem Rw.rng {b' : Nat} (h : Rw W b (fun _ => True) A0 n0 c0 l0 A1 n1 c1 l1 A2 n2 c2 l2) (hb : b' ≤ b) : Rw W b' (fun k => b ≤ k ∧ k < W.heap.size) A0 n0 c0 l0 A1 n1 c1 l1 A2 n2 c2 l2 :=
  ⟨Kd.R_lower (Kd.R_mono (Kd.R_bound h.r0) fun _ hk => ⟨hk.2.1, hk.2.2.1⟩) hb, Kd.R_lower (Kd.R_mono (Kd.R_bound h.r1) fun _ hk => ⟨hk.2.1, hk.2.2.1⟩) hb, Kd.R_lower (Kd.R_mono (Kd.R_bound h.r2) fun _ hk => ⟨hk.2.1, hk.2.2.1⟩) hb⟩
theorem Rw.to (h : Rw W b P A0 n0 c0 l0 A1 n1 c1 l1 A2 n2 c2 l2) (hp : ∀ k, P k → P' k) : Rw W b P' A0 n0 c0 l0 A1 n1 c1 l1 A2 n2 c2 l2 := ⟨Kd.R_mono h.r0 hp, Kd.R_mono h.r1 hp, Kd.R_mono h.r2 hp⟩
theorem Rw.put (h : Rw W b P A0 n0 c0 l0 A1 n1 c1 l1 A2 n2 c2 l2) {cells : Array Value} (hx : W.heap[g]? = some (.cells cells 30 (0, 0))) (hg : W.grownBy W' (some g)) : Rw W' b P A0 n0 c0 l0 A1 n1 c1 l1 A2 n2 c2 l2 :=
  ⟨r_put h.r0 hx (by decide) hg, r_put h.r1 hx (by decide) hg, r_put h.r2 hx (by decide) hg⟩
theorem Flp.up (h : Flp w W P g A0 n0 c0 l0 A1 n1 c1 l1 A2 n2 c2 l2 p q r) (hb : Below W.heap.size W W') : Flp w W' P g A0 n0 c0 l0 A1 n1 c1 l1 A2 n2 c2 l2 p q r := ⟨blk_below h.g hb, h.r.up hb⟩
theorem Flp.kept (h : Flp w W P g A0 n0 c0 l0 A1 n1 c1 l1 A2 n2 c2 l2 p q r) (k : Kept W W' S) (hn : ∀ i, P i → ¬ S i) (hg : ¬ S g) : Flp w W' P g A0 n0 c0 l0 A1 n1 c1 l1 A2 n2 c2 l2 p q r := ⟨blk_kept h.g k hg, h.r.kept k hn⟩
theorem Rw.eq (h : Rw W b P A0 n0 c0 l0 A1 n1 c1 l1 A2 n2 c2 l2) {b' : Nat} (h' : Rw W b' P' B0 m0 b0 l0 B1 m1 b1 l1 B2 m2 b2 l2) (hk : laws_eqFleet.f kk l0 l1 l2 p q r l0 l1 l2 p q r = some true) :
    Calls Try.prog 23 #[.agg #[.slice A0 n0 c0, .slice A1 n1 c1, .slice A2 n2 c2, .int .i64 p, .int .i64 q, .int .i64 r], .agg #[.slice B0 m0 b0, .slice B1 m1 b1, .slice B2 m2 b2, .int .i64 p, .int .i64 q, .int .i64 r]] W fun e w' => e = .returned (.bool true) ∧ Below W.heap.size W w' := by
  obtain ⟨a1, rfl, a3⟩ := R_cap h.r0
  obtain ⟨a4, rfl, a6⟩ := R_cap h.r1
  obtain ⟨a7, rfl, a9⟩ := R_cap h.r2
  obtain ⟨e1, rfl, e3⟩ := R_cap h'.r0
  obtain ⟨e4, rfl, e6⟩ := R_cap h'.r1
  obtain ⟨e7, rfl, e9⟩ := R_cap h'.r2
  exact laws_eqFleet.calls kk A0 c0 l0 A1 c1 l1 A2 c2 l2 p q r B0 b0 l0 B1 b1 l1 B2 b2 l2 p q r true W a3 a1 a6 a4 a9 a7 e3 e1 e6 e4 e9 e7 hk
theorem Rw.held (h : Rw W b P A0 n0 c0 l0 A1 n1 c1 l1 A2 n2 c2 l2) {m : Int} (hk : laws_heldFleet.f kk l0 l1 l2 p q r 1 = some m) :
    Calls Try.prog 25 #[.agg #[.slice A0 n0 c0, .slice A1 n1 c1, .slice A2 n2 c2, .int .i64 p, .int .i64 q, .int .i64 r], .int .i64 1] W fun e w' => e = .returned (.int .i64 m) ∧ Below W.heap.size W w' := by
  obtain ⟨a1, rfl, a3⟩ := R_cap h.r0
  obtain ⟨a4, rfl, a6⟩ := R_cap h.r1
  obtain ⟨a7, rfl, a9⟩ := R_cap h.r2
  exact laws_heldFleet.calls kk A0 c0 l0 A1 c1 l1 A2 c2 l2 p q r 1 m W a3 a1 a6 a4 a9 a7 hk
theorem Flp.mark (h : Flp w W P g A0 n0 c0 l0 A1 n1 c1 l1 A2 n2 c2 l2 p q r) (hB : Below w.heap.size w W) (hg : ¬ P g) {m : Int} {a : List S44} {b : List S84} {c : List S57} (hk : laws_markFleet.f kk l0 l1 l2 p q r 1 = some (m, a, b, c)) :
    Calls Try.prog 24 #[.agg #[.slice A0 n0 c0, .slice A1 n1 c1, .slice A2 n2 c2, .int .i64 p, .int .i64 q, .int .i64 r], .int .i64 1] W fun e w' => e = .returned (.int .i64 m) ∧ Flp w w' (fun _ => True) g A0 n0 c0 a A1 n1 c1 b A2 n2 c2 c p q r ∧ Below w.heap.size w w' ∧ Kept W w' P := by
  refine (laws_markFleet.calls kk P _ l0 P _ l1 P _ l2 p q r 1 m a b c w W hB h.r.r0 h.r.r1 h.r.r2 hk).mono ?_
  rintro e w' ⟨rfl, h0, h1, h2, hb, hk⟩
  have hk2 : Kept W w' P := ⟨hk.1, fun i hi hn => hk.2 i hi (fun h => by rcases h with h | h | h <;> exact hn h)⟩
  exact ⟨rfl, ⟨blk_kept h.g hk2 hg, Kd.R_mono h0 (fun _ _ => trivial), Kd.R_mono h1 (fun _ _ => trivial), Kd.R_mono h2 (fun _ _ => trivial)⟩, hb, hk2⟩
end
section
variable {w W W' : World} {S : Nat → Prop} {A0 : Option Addr} {c0 : Nat} {ts : List S134} {A1 : Option Addr} {c1 : Nat} {cs : List S136} {A2 : Option Addr} {c2 : Nat} {ds : List S138} {p q r d0 : Int} {d1 : ByteArray} {d2 d3 : Int}
theorem Args.up (h : Args w W A0 c0 ts A1 c1 cs A2 c2 ds p q r d0 d1 d2 d3) (hb : Below W.heap.size W W') : Args w W' A0 c0 ts A1 c1 cs A2 c2 ds p q r d0 d1 d2 d3 := ⟨blk_below h.bf hb, blk_below h.bd hb, below_step h.hb hb⟩
theorem Args.kept (h : Args w W A0 c0 ts A1 c1 cs A2 c2 ds p q r d0 d1 d2 d3) (k : Kept W W' S) (hb : Below w.heap.size w W') (hn : ∀ i, S i → w.heap.size + 2 ≤ i) : Args w W' A0 c0 ts A1 c1 cs A2 c2 ds p q r d0 d1 d2 d3 :=
  ⟨blk_kept h.bf k (fun e => by have := hn _ e; omega), blk_kept h.bd k (fun e => by have := hn _ e; omega), hb⟩
end
/-! The steps of a region that draws: toFleet (sF_), toDeed19 (sD_), a DoWork (sW_), a new box (sB_); one alone (on_), or one of them beside the box (tw_). -/
section
variable {ops : Array Oper} {Q : Exit → Act → World → Prop} {md : Region.Mode} {fuel : Nat} {l l' : Array Bool} {a : Act} {w W W1 : World} {oi oj : Oper} {N : Option Tmp} {args : Array Value} {aa : Array Operand} {ty : Array TypeId} {l0 : List S44} {l1 : List S84} {l2 : List S57} {p q r d0 : Int} {d1 : ByteArray} {d2 d3 : Int}
abbrev Stp (ops : Array Oper) (Q : Exit → Act → World → Prop) (md : Region.Mode) (fuel : Nat) (l' : Array Bool) (a : Act) (W W1 : World) (oi : Oper) (N : Option Tmp) : Prop :=
  ∀ K : Act → World → Prop, Shut (∀ a' w', Up W w' → (Up W w' → wpAnyLast Try.prog md ops Q (Up W) [] fuel l' a' w') → K a' w') → if Region.wanted oi (yielded ops a.tmps) = true then Oper.wp Try.prog oi a W1 K Q else K (a.put N undef) W1
theorem sF_ (KT : Gives w args l0 l1 l2 p q r) (hW : Below w.heap.size w W) (hS : Up W W1)
    (h : ∀ X0 x0 X1 x1 X2 x2 w', Rw w' W1.heap.size (fun _ => True) X0 l0.length x0 l0 X1 l1.length x1 l1 X2 l2.length x2 l2 → Below W1.heap.size W1 w' → Up W w' → wpAnyLast Try.prog md ops Q (Up W) [] fuel l' (a.put N (.agg #[.slice X0 l0.length x0, .slice X1 l1.length x1, .slice X2 l2.length x2, .int .i64 p, .int .i64 q, .int .i64 r])) w')
    (hw : Region.wanted oi (yielded ops a.tmps) = true := by rfl) (hN : oi.dst = N := by rfl) (hop : oi.op = .call { callee := .value (.func 21), args := aa, argTypes := ty } := by rfl) (hargs : aa.map a.eval = args := by (try simp only [am_]); first | done | rfl) : Stp ops Q md fuel l' a W W1 oi N := by
  intro K hK
  refine goes_ Try.func21 rfl rfl args hw hN hop hargs ((KT _ (below_step hW hS)).mono ?_)
  rintro e w5 ⟨v0, v1, v2, rfl, hX0, hX1, hX2, hb⟩
  obtain ⟨X0, x0, rfl⟩ := Kd.R_slice hX0
  obtain ⟨X1, x1, rfl⟩ := Kd.R_slice hX1
  obtain ⟨X2, x2, rfl⟩ := Kd.R_slice hX2
  exact ⟨_, rfl, hK.out _ _ (below_step hS hb) (h _ _ _ _ _ _ _ ⟨hX0, hX1, hX2⟩ hb)⟩
theorem sD_ (hS : Up W W1) (h : ∀ w', Below W1.heap.size W1 w' → Up W w' → wpAnyLast Try.prog md ops Q (Up W) [] fuel l' (a.put N (.agg #[.int .i64 d0, .string d1, .int .i64 d2, .int .i64 d3])) w')
    (hw : Region.wanted oi (yielded ops a.tmps) = true := by rfl) (hN : oi.dst = N := by rfl) (hop : oi.op = .call { callee := .value (.func 22), args := aa, argTypes := ty } := by rfl) (hargs : aa.map a.eval = #[.agg #[.int .i64 d0, .string d1, .int .i64 d2, .int .i64 d3]] := by (try simp only [am_]); first | done | rfl) : Stp ops Q md fuel l' a W W1 oi N := by
  intro K hK
  refine goes_ Try.func22 rfl rfl _ hw hN hop hargs ((laws_toDeed19.calls d0 d1 d2 d3 d0 d1 d2 d3 _ rfl).mono ?_)
  rintro e w5 ⟨rfl, hb⟩
  exact ⟨_, rfl, hK.out _ _ (below_step hS hb) (h _ hb)⟩
theorem sW_ {f : FuncId} {fn : Func} {t : List S44} {c : List S84} {d : List S57} {p2 q2 r2 : Int} {ok : Bool} (KW : Does f l0 l1 l2 p q r d0 d1 d2 d3 t c d p2 q2 r2 ok) (hf : Try.prog.funcs[f]? = some fn) {b : Nat} {P : Nat → Prop} {X0 X1 X2 : Option Addr} {x0 x1 x2 : Nat} (hW : Below w.heap.size w W) (hS : Up W W1) (hX : Rw W1 b P X0 l0.length x0 l0 X1 l1.length x1 l1 X2 l2.length x2 l2)
    (h : ∀ V0 v0 V1 v1 V2 v2 w', Rw w' w.heap.size (fun k => W1.heap.size ≤ k ∧ k < w'.heap.size) V0 t.length v0 t V1 c.length v1 c V2 d.length v2 d → Below W1.heap.size W1 w' → Up W w' → wpAnyLast Try.prog md ops Q (Up W) [] fuel l' (a.put N (.tuple #[.agg #[.slice V0 t.length v0, .slice V1 c.length v1, .slice V2 d.length v2, .int .i64 p2, .int .i64 q2, .int .i64 r2], .bool ok])) w')
    (hname : (fn.name == "runtime.NumGoroutine") = false := by rfl) (hb : fn.body.isSome = true := by rfl) (hw : Region.wanted oi (yielded ops a.tmps) = true := by rfl) (hN : oi.dst = N := by rfl) (hop : oi.op = .call { callee := .value (.func f), args := aa, argTypes := ty } := by rfl)
    (hargs : aa.map a.eval = #[.agg #[.slice X0 l0.length x0, .slice X1 l1.length x1, .slice X2 l2.length x2, .int .i64 p, .int .i64 q, .int .i64 r], .agg #[.int .i64 d0, .string d1, .int .i64 d2, .int .i64 d3]] := by (try simp only [am_]); first | done | rfl) : Stp ops Q md fuel l' a W W1 oi N := by
  intro K hK
  refine goes_ hf hname hb _ hw hN hop hargs ((KW _ _ _ _ _ _ _ _ _ hX).mono ?_)
  rintro e w5 ⟨v0, v1, v2, rfl, hX0, hX1, hX2, hb⟩
  obtain ⟨X0, x0, rfl⟩ := Kd.R_slice hX0
  obtain ⟨X1, x1, rfl⟩ := Kd.R_slice hX1
  obtain ⟨X2, x2, rfl⟩ := Kd.R_slice hX2
  exact ⟨_, rfl, hK.out _ _ (below_step hS hb) (h _ _ _ _ _ _ _ (Rw.rng ⟨hX0, hX1, hX2⟩ (below_step hW hS).size) hb)⟩
theorem sB_ {n : Tmp} (hS : Up W W1) (h : ∀ g w', g = W1.heap.size → w'.heap[g]? = some (.cells #[.slice none 0 0, .slice none 0 0, .slice none 0 0, .int .i64 0, .int .i64 0, .int .i64 0] 30 (0, 0)) → W.heap.size ≤ g → Below W1.heap.size W1 w' → Up W w' → wpAnyLast Try.prog md ops Q (Up W) [] fuel l' (a.put (some n) (.pointer (some ⟨g, 0, none⟩))) w')
    (hw : Region.wanted oi (yielded ops a.tmps) = true := by rfl) (hN : oi.dst = some n := by rfl)
    (hr : (execOp a.eval oi).run Try.prog W1 = .ok (.value (.pointer (some ⟨W1.heap.size, 0, none⟩))) (W1.alloc (.cells #[.slice none 0 0, .slice none 0 0, .slice none 0 0, .int .i64 0, .int .i64 0, .int .i64 0] 30 (0, 0))) := by first | (go_simp; done) | (go_simp; rfl)) : Stp ops Q md fuel l' a W W1 oi (some n) := by
  intro K hK
  rw [← hN]
  refine box_step hw hN hr (fun g hg w' hbox hb => ?_)
  rw [hN]
  exact hK.out _ _ (below_step hS hb) (h g w' hg hbox (by rw [hg]; exact hS.size) hb)
theorem on_ (i : Nat) {n : Tmp} (l' : Array Bool) (hi : ops[i]? = some oi) (h : Stp ops Q md fuel l' a W W1 oi (some n)) (hN : oi.dst = some n := by rfl) (hc : readyB md ops l l' i = true := by kernel_rfl) : wpAnyLast Try.prog md ops Q (Up W) [] (fuel + 1) l a W1 := one_ l' hi hN hc (by simp) h
theorem tw_ (i j : Nat) {n m : Tmp} (li lj : Array Bool) (hi : ops[i]? = some oi) (hj : ops[j]? = some oj) (h1 : Stp ops Q md fuel li a W W1 oi (some n)) (h2 : Stp ops Q md fuel lj a W W1 oj (some m)) (hNi : oi.dst = some n := by rfl) (hNj : oj.dst = some m := by rfl)
    (hc : (Region.ready md ops l == [i, j] && l.setIfInBounds i true == li && l.setIfInBounds j true == lj) = true := by kernel_rfl) : wpAnyLast Try.prog md ops Q (Up W) [] (fuel + 1) l a W1 := two_ li lj hi hj hNi hNj hc (by simp) (by simp) h1 h2
end
set_option maxHeartbeats 16000000 in
set_option maxRecDepth 100000 in
theorem dolaw_t (k1 k2 k3 k4 k5 k6 k7 : Nat) (A0 : Option Addr) (c0 : Nat) (ts : List S134) (A1 : Option Addr) (c1 : Nat) (cs : List S136) (A2 : Option Addr) (c2 : Nat) (ds : List S138) (p q r d0 : Int) (d1 : ByteArray) (d2 d3 : Int) (w : World)
    (hr0 : Kd.C k134 w A0 ts.length ts) (hc0 : ts.length ≤ c0) (hr1 : Kd.C k136 w A1 cs.length cs) (hc1 : cs.length ≤ c1) (hr2 : Kd.C k138 w A2 ds.length ds) (hc2 : ds.length ≤ c2)
    (l0 : List S44) (l1 : List S84) (l2 : List S57) (t : List S44) (c : List S84) (d : List S57) (p2 q2 r2 : Int) (ok : Bool) (z1 z2 m1 m2 : Int) (ta tb : List S44) (ca cb : List S84) (da db : List S57)
    (hz1 : laws_szFleet.f k1 ts cs ds p q r 1048576 = some z1) (hz2 : laws_szDeed19.f d0 d1 d2 d3 z1 = some z2)
    (hto : laws_toFleet.f k2 ts cs ds p q r = some (l0, l1, l2, p, q, r)) (hsz : FleetSz l0 l1 l2) (hcp : fleetCopyB l0 l1 l2 = true) (hd1 : d1.size ≤ 140737488355328) (hW : workF l0 l1 l2 p q r d0 d1 d2 d3 = (t, c, d, p2, q2, r2, ok))
    (he1 : laws_eqFleet.f k3 t c d p2 q2 r2 t c d p2 q2 r2 = some true) (he2 : laws_eqFleet.f k4 l0 l1 l2 p q r l0 l1 l2 p q r = some true)
    (hm1 : laws_markFleet.f k5 l0 l1 l2 p q r 1 = some (m1, ta, ca, da)) (hm2 : laws_markFleet.f k6 t c d p2 q2 r2 1 = some (m2, tb, cb, db)) (hh : laws_heldFleet.f k7 tb cb db p2 q2 r2 1 = some m2) (h1 : 0 ≤ m1) (h2 : 0 ≤ m2) :
    Calls Try.prog 5 #[.agg #[.slice A0 ts.length c0, .slice A1 cs.length c1, .slice A2 ds.length c2, .int .i64 p, .int .i64 q, .int .i64 r], .agg #[.int .i64 d0, .string d1, .int .i64 d2, .int .i64 d3]] w fun e w' => e = .returned (.bool true) ∧ Below w.heap.size w w' := by
 have hu1 := Try.underlying63
 have hu2 := Try.underlying64
 have hu3 := Try.underlying30
 have KZ1 := Aside0.mk (fun W' (h : Below w.heap.size w W') => laws_szFleet.calls k1 A0 c0 ts A1 c1 cs A2 c2 ds p q r 1048576 z1 W' (Kd.C_below hr0 h) hc0 (Kd.C_below hr1 h) hc1 (Kd.C_below hr2 h) hc2 hz1)
 have KT := Aside0.mk (show Gives w #[.agg #[.slice A0 ts.length c0, .slice A1 cs.length c1, .slice A2 ds.length c2, .int .i64 p, .int .i64 q, .int .i64 r]] l0 l1 l2 p q r from fun W' h => laws_toFleet.calls k2 A0 c0 ts A1 c1 cs A2 c2 ds p q r l0 l1 l2 p q r W' (Kd.C_below hr0 h) hc0 (Kd.C_below hr1 h) hc1 (Kd.C_below hr2 h) hc2 hto)
 have KS := Aside0.mk (show Does 20 l0 l1 l2 p q r d0 d1 d2 d3 t c d p2 q2 r2 ok from fun W' A0 c0 A1 c1 A2 c2 b P h => by
  have h := sdowork_t A0 c0 l0 A1 c1 l1 A2 c2 l2 p q r d0 d1 d2 d3 W' (R_cap h.r0).2.2 (R_cap h.r0).1 (R_cap h.r1).2.2 (R_cap h.r1).1 (R_cap h.r2).2.2 (R_cap h.r2).1 hsz hcp hd1
  rw [hW] at h
  exact h)
 have KI := Aside0.mk (show Does 12 l0 l1 l2 p q r d0 d1 d2 d3 t c d p2 q2 r2 ok from fun W' A0 c0 A1 c1 A2 c2 b P h => by
  have h := dowork_t A0 c0 l0 A1 c1 l1 A2 c2 l2 p q r d0 d1 d2 d3 W' (R_cap h.r0).2.2 (R_cap h.r0).1 (R_cap h.r1).2.2 (R_cap h.r1).1 (R_cap h.r2).2.2 (R_cap h.r2).1 hsz hcp hd1
  rw [hW] at h
  exact h)
 have KZ := Aside0.mk (fun W' => laws_szDeed19.calls d0 d1 d2 d3 z1 z2 W' hz2)
 have E1 := Aside0.mk he1
 have E2 := Aside0.mk he2
 have M1 := Aside0.mk hm1
 have M2 := Aside0.mk hm2
 have HH := Aside0.mk hh
 have n1 := below_alloc (Below.refl w.heap.size w) (.cells #[.slice A0 ts.length c0, .slice A1 cs.length c1, .slice A2 ds.length c2, .int .i64 p, .int .i64 q, .int .i64 r] 63 (0, 0))
 have n2 := below_alloc n1 (.cells #[.int .i64 d0, .string d1, .int .i64 d2, .int .i64 d3] 64 (0, 0))
 have i1 := blk_alloc (blk_new w (.cells #[.slice A0 ts.length c0, .slice A1 cs.length c1, .slice A2 ds.length c2, .int .i64 p, .int .i64 q, .int .i64 r] 63 (0, 0))) (.cells #[.int .i64 d0, .string d1, .int .i64 d2, .int .i64 d3] 64 (0, 0))
 have i2 := blk_new (w.alloc (.cells #[.slice A0 ts.length c0, .slice A1 cs.length c1, .slice A2 ds.length c2, .int .i64 p, .int .i64 q, .int .i64 r] 63 (0, 0))) (.cells #[.int .i64 d0, .string d1, .int .i64 d2, .int .i64 d3] 64 (0, 0))
 rw [World.size_alloc] at i2
 have HA := Aside0.mk (show Args w _ A0 c0 ts A1 c1 cs A2 c2 ds p q r d0 d1 d2 d3 from ⟨i1, i2, n2⟩)
 clear hr0 hc0 hr1 hc1 hr2 hc2 hz1 hz2 hto hsz hcp hd1 hW he1 he2 hm1 hm2 hh n1 n2 i1 i2
 have hne : (ok != ok) = false := bne_self_eq_false ok
 have hme : (m2 != m2) = false := bne_self_eq_false m2
 have g1 : ¬ m1 < 0 := by omega
 have g2 : ¬ m2 < 0 := by omega
 clear h1 h2
 go_enter Try.func5, Try.ntmps5
 go_upto_region 1 with (fail)
 refine world_ (fun W => Args w W A0 c0 ts A1 c1 cs A2 c2 ds p q r d0 d1 d2 d3) HA.out ?_
 clear HA
 rintro W HA
 replace HA := Aside0.mk HA
 obtain ⟨f0, f1, f2, f3, f4, f5⟩ := ck6 HA.out.bf
 by_cases hz : z1 < 0
 ·
  go_wp2_with (first | (go_at_call 18; (with_reducible refine (KZ1.out _ HA.out.hb).mono ?_); rintro e w1 ⟨rfl, hb1⟩))
  go_ret
  exact ⟨rfl, below_step HA.out.hb hb1⟩
 go_upto_region 5 with (first | (go_at_call 18; (with_reducible refine (KZ1.out _ HA.out.hb).mono ?_); rintro e w1 ⟨rfl, hb1⟩))
 clear f0 f1 f2 f3 f4 f5 KZ1
 refine world_ (fun W => Args w W A0 c0 ts A1 c1 cs A2 c2 ds p q r d0 d1 d2 d3) (HA.out.up hb1) ?_
 clear HA hb1 W
 rintro W HA
 replace HA := Aside0.mk HA
 obtain ⟨f0, f1, f2, f3⟩ := ck4 HA.out.bd
 by_cases hy : z2 < 0
 ·
  go_wp2_with (first | (go_at_call 19; (with_reducible refine (KZ.out _).mono ?_); rintro e w1 ⟨rfl, hb1⟩))
  go_ret
  exact ⟨rfl, below_step HA.out.hb hb1⟩
 go_upto_region 8 with (first | (go_at_call 19; (with_reducible refine (KZ.out _).mono ?_); rintro e w1 ⟨rfl, hb1⟩))
 clear f0 f1 f2 f3 KZ
 refine world_ (fun W => Args w W A0 c0 ts A1 c1 cs A2 c2 ds p q r d0 d1 d2 d3) (HA.out.up hb1) ?_
 clear HA hb1 W
 rintro W HA
 replace HA := Aside0.mk HA
 have LL := Aside0.mk (fun w' (h : Up W w') => And.intro (ck6 (HA.out.up h).bf) (ck4 (HA.out.up h).bd))
 refine start_ (n := 11) (S := Up W) (ds := []) (Sq.M 0 11) (by kernel_rfl) rfl rfl (below_drew (Below.refl _ _)) (fun hS => ?_)
 generalize W.drew = W1 at hS ⊢
 refine rt_ LL.out hS 0 27 (Sq.M 1 11) ?_
 refine rt_ LL.out hS 2 29 (mn_ 11 5) ?_
 refine join_ (σ := Nat × Nat × Nat × (Option Addr × Nat) × (Option Addr × Nat) × (Option Addr × Nat) × (Option Addr × Nat) × (Option Addr × Nat) × (Option Addr × Nat)) 2 (Sq.M 9 11) (fun s => [(28, .agg #[.slice s.2.2.2.1.1 l0.length s.2.2.2.1.2, .slice s.2.2.2.2.1.1 l1.length s.2.2.2.2.1.2, .slice s.2.2.2.2.2.1.1 l2.length s.2.2.2.2.2.1.2, .int .i64 p, .int .i64 q, .int .i64 r]), (30, .agg #[.int .i64 d0, .string d1, .int .i64 d2, .int .i64 d3]), (31, .tuple #[.agg #[.slice s.2.2.2.2.2.2.1.1 t.length s.2.2.2.2.2.2.1.2, .slice s.2.2.2.2.2.2.2.1.1 c.length s.2.2.2.2.2.2.2.1.2, .slice s.2.2.2.2.2.2.2.2.1 d.length s.2.2.2.2.2.2.2.2.2, .int .i64 p2, .int .i64 q2, .int .i64 r2], .bool ok]), (26, .tuple #[.agg #[.slice s.2.2.2.2.2.2.1.1 t.length s.2.2.2.2.2.2.1.2, .slice s.2.2.2.2.2.2.2.1.1 c.length s.2.2.2.2.2.2.2.1.2, .slice s.2.2.2.2.2.2.2.2.1 d.length s.2.2.2.2.2.2.2.2.2, .int .i64 p2, .int .i64 q2, .int .i64 r2], .bool ok]), (32, .agg #[.slice s.2.2.2.2.2.2.1.1 t.length s.2.2.2.2.2.2.1.2, .slice s.2.2.2.2.2.2.2.1.1 c.length s.2.2.2.2.2.2.2.1.2, .slice s.2.2.2.2.2.2.2.2.1 d.length s.2.2.2.2.2.2.2.2.2, .int .i64 p2, .int .i64 q2, .int .i64 r2]), (33, .bool ok), (6, .pointer (some ⟨s.1, 0, none⟩))]) (fun s W' => Res w W W' s.1 s.2.1 s.2.2.1 s.2.2.2.2.2.2.1.1 s.2.2.2.2.2.2.1.2 t s.2.2.2.2.2.2.2.1.1 s.2.2.2.2.2.2.2.1.2 c s.2.2.2.2.2.2.2.2.1 s.2.2.2.2.2.2.2.2.2 d) ?_ ?_
 rotate_left
 ·
  intro hCont
  refine tw_ 1 8 (Sq.M 3 11) (mn_ 11 261) rfl rfl (sF_ KT.out HA.out.hb hS ?_) (sB_ hS ?_)
  ·
   intro X0 x0 X1 x1 X2 x2 w5 hX hb hS
   refine rn_ ?_
   refine tw_ 3 8 (Sq.M 4 11) (mn_ 11 263) rfl rfl (sD_ hS ?_) (sB_ hS ?_)
   ·
    intro w5 hb hS
    have hX := hX.up hb
    refine rn_ ?_
    refine tw_ 4 8 (Sq.M 5 11) (mn_ 11 271) rfl rfl (sW_ KS.out Try.func20 HA.out.hb hS hX ?_) (sB_ hS ?_)
    ·
     have hlo := hS.size
     intro V0 v0 V1 v1 V2 v2 w5 hV hb hS
     have hhi := Nat.le_refl w5.heap.size
     refine rn_ ?_
     refine ra_ 5 26 (Sq.M 6 11) ?_
     refine ra_ 6 32 (Sq.M 7 11) ?_
     refine ra_ 7 33 (Sq.M 8 11) ?_
     refine on_ 8 (Sq.M 9 11) rfl (sB_ hS ?_)
     intro gb w6 hg hx hgg hb hS
     have hV := hV.up hb
     have hhi := Nat.le_trans hhi hb.size
     refine rn_ ?_
     exact norm_ (by simp only [putAll, sp_]) (hCont (gb, _, _, (X0, x0), (X1, x1), (X2, x2), (V0, v0), (V1, v1), (V2, v2)) _ ⟨hS, hx, hgg, hV, hlo, .inr (Nat.le_of_eq hg.symm), hhi⟩)
    ·
     intro gb w6 hg hx hgg hb hS
     have hX := hX.up hb
     refine rn_ ?_
     refine on_ 4 (mn_ 11 287) rfl (sW_ KS.out Try.func20 HA.out.hb hS hX ?_)
     have hlo := hS.size
     intro V0 v0 V1 v1 V2 v2 w5 hV hb hS
     have hhi := Nat.le_refl w5.heap.size
     have hlt := blk_lt hx
     have hx := blk_below hx hb
     refine rn_ ?_
     refine ra_ 5 26 (mn_ 11 319) ?_
     refine ra_ 6 32 (mn_ 11 383) ?_
     refine ra_ 7 33 (Sq.M 9 11) ?_
     exact norm_ (by simp only [putAll, sp_]) (hCont (gb, _, _, (X0, x0), (X1, x1), (X2, x2), (V0, v0), (V1, v1), (V2, v2)) _ ⟨hS, hx, hgg, hV, hlo, .inl hlt, hhi⟩)
   ·
    intro gb w6 hg hx hgg hb hS
    have hX := hX.up hb
    refine rn_ ?_
    refine on_ 3 (mn_ 11 271) rfl (sD_ hS ?_)
    intro w5 hb hS
    have hX := hX.up hb
    have hx := blk_below hx hb
    refine rn_ ?_
    refine on_ 4 (mn_ 11 287) rfl (sW_ KS.out Try.func20 HA.out.hb hS hX ?_)
    have hlo := hS.size
    intro V0 v0 V1 v1 V2 v2 w5 hV hb hS
    have hhi := Nat.le_refl w5.heap.size
    have hlt := blk_lt hx
    have hx := blk_below hx hb
    refine rn_ ?_
    refine ra_ 5 26 (mn_ 11 319) ?_
    refine ra_ 6 32 (mn_ 11 383) ?_
    refine ra_ 7 33 (Sq.M 9 11) ?_
    exact norm_ (by simp only [putAll, sp_]) (hCont (gb, _, _, (X0, x0), (X1, x1), (X2, x2), (V0, v0), (V1, v1), (V2, v2)) _ ⟨hS, hx, hgg, hV, hlo, .inl hlt, hhi⟩)
  ·
   intro gb w6 hg hx hgg hb hS
   refine rn_ ?_
   refine on_ 1 (mn_ 11 263) rfl (sF_ KT.out HA.out.hb hS ?_)
   intro X0 x0 X1 x1 X2 x2 w5 hX hb hS
   have hx := blk_below hx hb
   refine rn_ ?_
   refine on_ 3 (mn_ 11 271) rfl (sD_ hS ?_)
   intro w5 hb hS
   have hX := hX.up hb
   have hx := blk_below hx hb
   refine rn_ ?_
   refine on_ 4 (mn_ 11 287) rfl (sW_ KS.out Try.func20 HA.out.hb hS hX ?_)
   have hlo := hS.size
   intro V0 v0 V1 v1 V2 v2 w5 hV hb hS
   have hhi := Nat.le_refl w5.heap.size
   have hlt := blk_lt hx
   have hx := blk_below hx hb
   refine rn_ ?_
   refine ra_ 5 26 (mn_ 11 319) ?_
   refine ra_ 6 32 (mn_ 11 383) ?_
   refine ra_ 7 33 (Sq.M 9 11) ?_
   exact norm_ (by simp only [putAll, sp_]) (hCont (gb, _, _, (X0, x0), (X1, x1), (X2, x2), (V0, v0), (V1, v1), (V2, v2)) _ ⟨hS, hx, hgg, hV, hlo, .inl hlt, hhi⟩)
 rintro ⟨gw, lo, hi, ⟨_, _⟩, ⟨_, _⟩, ⟨_, _⟩, ⟨Q0, Q0c⟩, ⟨Q1, Q1c⟩, ⟨Q2, Q2c⟩⟩ w7 hR
 dsimp only at hR
 replace hR := Aside0.mk hR
 refine norm_ (a' := ?_) ?_ ?_
 rotate_left
 · (simp only [putAll, sp_]; rfl)
 refine one_ (i := 9) (N := none) (Sq.M 10 11) rfl rfl (by kernel_rfl) (by decide) (fun K hK => ?_)
 refine sts_ 30 6 (.tmp 32) gw 0 #[.slice Q0 t.length Q0c, .slice Q1 c.length Q1c, .slice Q2 d.length Q2c, .int .i64 p2, .int .i64 q2, .int .i64 r2] #[.slice none 0 0, .slice none 0 0, .slice none 0 0, .int .i64 0, .int .i64 0, .int .i64 0] #[.slice Q0 t.length Q0c, .slice Q1 c.length Q1c, .slice Q2 d.length Q2c, .int .i64 p2, .int .i64 q2, .int .i64 r2] 30 (by rfl) rfl rfl rfl rfl hR.out.bx (by kernel_rfl) (Nat.le_of_ble_eq_true rfl) (by kernel_rfl) (by kernel_rfl) ?_
 intro w8 hbx8 hg8
 have hS8 := b_put hR.out.up hg8 hR.out.hg
 refine hK.out _ _ hS8 (fun hS9 => ?_)
 clear hK K hS9
 refine ra_ 10 7 (Sq.M 11 11) ?_
 refine done_ (by kernel_rfl) ?_
 have HQ := Aside0.mk (show Flp w w8 _ gw Q0 _ Q0c t Q1 _ Q1c c Q2 _ Q2c d p2 q2 r2 from ⟨hbx8, hR.out.r.put hR.out.bx hg8⟩)
 have hap := hR.out.ap
 have hlo := hR.out.hlo
 have hgw := hR.out.hg
 have hhi : hi ≤ w8.heap.size := Nat.le_trans hR.out.hi_ hg8.size
 have HA := Aside0.mk (HA.out.up hS8)
 clear hR hbx8 hg8 hS LL
 have hn2 : w.heap.size + 2 ≤ w8.heap.size := by have := blk_lt HA.out.bd; omega
 have hgn := blk_lt HQ.out.g
 have HW := Aside0.mk (show Flp w w8 (fun k => k < w8.heap.size) gw Q0 _ Q0c t Q1 _ Q1c c Q2 _ Q2c d p2 q2 r2 from ⟨HQ.out.g, HQ.out.r.to fun k hk => by omega⟩)
 clear HQ hap hlo hgw hhi hS8
 obtain ⟨n8, hn8⟩ : ∃ n, n = w8.heap.size := ⟨_, rfl⟩
 rw [← hn8] at hn2 hgn HW
 obtain ⟨f0, f1, f2, f3, f4, f5⟩ := ck6 HA.out.bf
 go_upto_region 10 with (first | (go_at_call 21; (with_reducible refine (KT.out _ HA.out.hb).mono ?_); rintro e w1 ⟨v0, v1, v2, rfl, hX0, hX1, hX2, hb1⟩; obtain ⟨X0, x0, rfl⟩ := Kd.R_slice hX0; obtain ⟨X1, x1, rfl⟩ := Kd.R_slice hX1; obtain ⟨X2, x2, rfl⟩ := Kd.R_slice hX2))
 clear f0 f1 f2 f3 f4 f5
 have nw := below_alloc (Below.refl w1.heap.size w1) (.cells #[.slice X0 l0.length x0, .slice X1 l1.length x1, .slice X2 l2.length x2, .int .i64 p, .int .i64 q, .int .i64 r] 30 (0, 0))
 have HX := Aside0.mk (And.intro ((HA.out.up hb1).up nw) (And.intro ((HW.out.up hb1).up nw) (show Flp w (w1.alloc (.cells #[.slice X0 l0.length x0, .slice X1 l1.length x1, .slice X2 l2.length x2, .int .i64 p, .int .i64 q, .int .i64 r] 30 (0, 0))) (fun k => n8 ≤ k ∧ k < w1.heap.size) w1.heap.size X0 _ x0 l0 X1 _ x1 l1 X2 _ x2 l2 p q r from ⟨blk_new w1 _, by rw [hn8]; exact (Rw.rng ⟨hX0, hX1, hX2⟩ HA.out.hb.size).up nw⟩)))
 have hn9 : n8 ≤ w1.heap.size := by rw [hn8]; exact hb1.size
 clear nw hX0 hX1 hX2 hb1 HA HW
 generalize w1.heap.size = gx at HX hn9 ⊢
 generalize w1.alloc _ = W at HX ⊢
 obtain ⟨HA, HW, HX⟩ := HX.out
 replace HA := Aside0.mk HA
 replace HW := Aside0.mk HW
 replace HX := Aside0.mk HX
 have LL := Aside0.mk (fun w' (h : Up W w') => And.intro (ck6 (HX.out.up h).g) (ck4 (HA.out.up h).bd))
 have hgx := blk_lt HX.out.g
 refine start_ (n := 10) (S := Up W) (ds := []) (Sq.M 0 10) (by kernel_rfl) rfl rfl (below_drew (Below.refl _ _)) (fun hS => ?_)
 generalize W.drew = W1 at hS ⊢
 refine rt_ LL.out hS 0 37 (Sq.M 1 10) ?_
 refine rt_ LL.out hS 1 38 (Sq.M 2 10) ?_
 refine join_ (σ := Nat × Nat × Nat × (Option Addr × Nat) × (Option Addr × Nat) × (Option Addr × Nat)) 2 (Sq.M 8 10) (fun s => [(39, .agg #[.int .i64 d0, .string d1, .int .i64 d2, .int .i64 d3]), (40, .tuple #[.agg #[.slice s.2.2.2.1.1 t.length s.2.2.2.1.2, .slice s.2.2.2.2.1.1 c.length s.2.2.2.2.1.2, .slice s.2.2.2.2.2.1 d.length s.2.2.2.2.2.2, .int .i64 p2, .int .i64 q2, .int .i64 r2], .bool ok]), (36, .tuple #[.agg #[.slice s.2.2.2.1.1 t.length s.2.2.2.1.2, .slice s.2.2.2.2.1.1 c.length s.2.2.2.2.1.2, .slice s.2.2.2.2.2.1 d.length s.2.2.2.2.2.2, .int .i64 p2, .int .i64 q2, .int .i64 r2], .bool ok]), (41, .agg #[.slice s.2.2.2.1.1 t.length s.2.2.2.1.2, .slice s.2.2.2.2.1.1 c.length s.2.2.2.2.1.2, .slice s.2.2.2.2.2.1 d.length s.2.2.2.2.2.2, .int .i64 p2, .int .i64 q2, .int .i64 r2]), (42, .bool ok), (9, .pointer (some ⟨s.1, 0, none⟩))]) (fun s W' => Res w W W' s.1 s.2.1 s.2.2.1 s.2.2.2.1.1 s.2.2.2.1.2 t s.2.2.2.2.1.1 s.2.2.2.2.1.2 c s.2.2.2.2.2.1 s.2.2.2.2.2.2 d) ?_ ?_
 rotate_left
 ·
  intro hCont
  refine tw_ 2 7 (Sq.M 3 10) (mn_ 10 131) rfl rfl (sD_ hS ?_) (sB_ hS ?_)
  ·
   intro w5 hb hS
   refine rn_ ?_
   refine tw_ 3 7 (Sq.M 4 10) (mn_ 10 135) rfl rfl (sW_ KI.out Try.func12 HA.out.hb hS (HX.out.up hS).r ?_) (sB_ hS ?_)
   ·
    have hlo := hS.size
    intro V0 v0 V1 v1 V2 v2 w5 hV hb hS
    have hhi := Nat.le_refl w5.heap.size
    refine rn_ ?_
    refine ra_ 4 36 (Sq.M 5 10) ?_
    refine ra_ 5 41 (Sq.M 6 10) ?_
    refine ra_ 6 42 (Sq.M 7 10) ?_
    refine on_ 7 (Sq.M 8 10) rfl (sB_ hS ?_)
    intro gb w6 hg hx hgg hb hS
    have hV := hV.up hb
    have hhi := Nat.le_trans hhi hb.size
    refine rn_ ?_
    exact norm_ (by simp only [putAll, sp_]) (hCont (gb, _, _, (V0, v0), (V1, v1), (V2, v2)) _ ⟨hS, hx, hgg, hV, hlo, .inr (Nat.le_of_eq hg.symm), hhi⟩)
   ·
    intro gb w6 hg hx hgg hb hS
    refine rn_ ?_
    refine on_ 3 (mn_ 10 143) rfl (sW_ KI.out Try.func12 HA.out.hb hS (HX.out.up hS).r ?_)
    have hlo := hS.size
    intro V0 v0 V1 v1 V2 v2 w5 hV hb hS
    have hhi := Nat.le_refl w5.heap.size
    have hlt := blk_lt hx
    have hx := blk_below hx hb
    refine rn_ ?_
    refine ra_ 4 36 (mn_ 10 159) ?_
    refine ra_ 5 41 (mn_ 10 191) ?_
    refine ra_ 6 42 (Sq.M 8 10) ?_
    exact norm_ (by simp only [putAll, sp_]) (hCont (gb, _, _, (V0, v0), (V1, v1), (V2, v2)) _ ⟨hS, hx, hgg, hV, hlo, .inl hlt, hhi⟩)
  ·
   intro gb w6 hg hx hgg hb hS
   refine rn_ ?_
   refine on_ 2 (mn_ 10 135) rfl (sD_ hS ?_)
   intro w5 hb hS
   have hx := blk_below hx hb
   refine rn_ ?_
   refine on_ 3 (mn_ 10 143) rfl (sW_ KI.out Try.func12 HA.out.hb hS (HX.out.up hS).r ?_)
   have hlo := hS.size
   intro V0 v0 V1 v1 V2 v2 w5 hV hb hS
   have hhi := Nat.le_refl w5.heap.size
   have hlt := blk_lt hx
   have hx := blk_below hx hb
   refine rn_ ?_
   refine ra_ 4 36 (mn_ 10 159) ?_
   refine ra_ 5 41 (mn_ 10 191) ?_
   refine ra_ 6 42 (Sq.M 8 10) ?_
   exact norm_ (by simp only [putAll, sp_]) (hCont (gb, _, _, (V0, v0), (V1, v1), (V2, v2)) _ ⟨hS, hx, hgg, hV, hlo, .inl hlt, hhi⟩)
 rintro ⟨gg, lo, hi, ⟨G0, G0c⟩, ⟨G1, G1c⟩, ⟨G2, G2c⟩⟩ w7 hR
 dsimp only at hR
 replace hR := Aside0.mk hR
 refine norm_ (a' := ?_) ?_ ?_
 rotate_left
 · (simp only [putAll, sp_]; rfl)
 refine one_ (i := 8) (N := none) (Sq.M 9 10) rfl rfl (by kernel_rfl) (by decide) (fun K hK => ?_)
 refine sts_ 30 9 (.tmp 41) gg 0 #[.slice G0 t.length G0c, .slice G1 c.length G1c, .slice G2 d.length G2c, .int .i64 p2, .int .i64 q2, .int .i64 r2] #[.slice none 0 0, .slice none 0 0, .slice none 0 0, .int .i64 0, .int .i64 0, .int .i64 0] #[.slice G0 t.length G0c, .slice G1 c.length G1c, .slice G2 d.length G2c, .int .i64 p2, .int .i64 q2, .int .i64 r2] 30 (by rfl) rfl rfl rfl rfl hR.out.bx (by kernel_rfl) (Nat.le_of_ble_eq_true rfl) (by kernel_rfl) (by kernel_rfl) ?_
 intro w8 hbx8 hg8
 have hS8 := b_put hR.out.up hg8 hR.out.hg
 refine hK.out _ _ hS8 (fun hS9 => ?_)
 clear hK K hS9
 refine ra_ 9 10 (Sq.M 10 10) ?_
 refine done_ (by kernel_rfl) ?_
 have HG := Aside0.mk (show Flp w w8 _ gg G0 _ G0c t G1 _ G1c c G2 _ G2c d p2 q2 r2 from ⟨hbx8, hR.out.r.put hR.out.bx hg8⟩)
 have hap := hR.out.ap
 have hlo := hR.out.hlo
 have hgw := hR.out.hg
 have hhi : hi ≤ w8.heap.size := Nat.le_trans hR.out.hi_ hg8.size
 have HA := Aside0.mk (HA.out.up hS8)
 clear hR hbx8 hg8 hS LL
 have HW := Aside0.mk (HW.out.up hS8)
 have HX := Aside0.mk (HX.out.up hS8)
 have hlo2 : gx < lo := by omega
 have hgg2 : gx < gg := by omega
 clear hlo hgw hhi hS8 hgx
 obtain ⟨f0, f1, f2, f3, f4, f5⟩ := ck6 HG.out.g
 obtain ⟨e0, e1, e2, e3, e4, e5⟩ := ck6 HW.out.g
 go_upto_region 13 with (first | (go_at_call 23; (with_reducible refine (HG.out.r.eq HW.out.r E1.out).mono ?_); rintro e W ⟨rfl, hb1⟩))
 clear f0 f1 f2 f3 f4 f5 e0 e1 e2 e3 e4 e5
 replace HA := Aside0.mk (HA.out.up hb1)
 replace HW := Aside0.mk (HW.out.up hb1)
 replace HX := Aside0.mk (HX.out.up hb1)
 replace HG := Aside0.mk (HG.out.up hb1)
 clear hb1
 have LL := Aside0.mk (fun w' (h : Up W w') => And.intro (ck6 (HX.out.up h).g) (ck6 (HA.out.up h).bf))
 refine start_ (n := 5) (S := Up W) (ds := []) #[false, false, false, false, false] (by kernel_rfl) rfl rfl (below_drew (Below.refl _ _)) (fun hS => ?_)
 generalize W.drew = W1 at hS ⊢
 refine rt_ LL.out hS 0 52 #[true, false, false, false, false] ?_
 refine rt_ LL.out hS 1 53 #[true, true, false, false, false] ?_
 refine on_ 2 #[true, true, true, false, false] rfl (sF_ KT.out HA.out.hb hS ?_)
 intro Y0 y0 Y1 y1 Y2 y2 w5 hX hb hS
 refine rn_ ?_
 refine one_ (i := 3) (N := some 55) #[true, true, true, true, false] rfl rfl (by kernel_rfl) (by decide) (fun K hK => ?_)
 refine goes_ Try.func23 rfl rfl #[.agg #[.slice X0 l0.length x0, .slice X1 l1.length x1, .slice X2 l2.length x2, .int .i64 p, .int .i64 q, .int .i64 r], .agg #[.slice Y0 l0.length y0, .slice Y1 l1.length y1, .slice Y2 l2.length y2, .int .i64 p, .int .i64 q, .int .i64 r]] (by rfl) rfl rfl (by (try simp only [am_]); first | done | rfl) (((HX.out.up hS).r.eq hX E2.out).mono ?_)
 rintro e w6 ⟨rfl, hb6⟩
 refine ⟨_, rfl, hK.out _ _ (below_step hS hb6) (fun hS => ?_)⟩
 refine rn_ ?_
 refine ra_ 4 56 #[true, true, true, true, true] ?_
 refine done_ (by kernel_rfl) ?_
 replace HA := Aside0.mk (HA.out.up hS)
 replace HW := Aside0.mk (HW.out.up hS)
 replace HX := Aside0.mk (HX.out.up hS)
 replace HG := Aside0.mk (HG.out.up hS)
 clear hb hb6 hX hK K LL
 obtain ⟨f0, f1, f2, f3, f4, f5⟩ := ck6 HX.out.g
 go_upto_region 17 with (first | (go_at_call 24; (with_reducible refine (HX.out.mark HA.out.hb (fun h => by omega) M1.out).mono ?_); rintro e W ⟨rfl, hX1, hB1, hK1⟩))
 clear f0 f1 f2 f3 f4 f5
 replace HA := Aside0.mk (HA.out.kept hK1 hB1 (fun i hi => by omega))
 replace HW := Aside0.mk (HW.out.kept hK1 (fun i hi => by omega) (by omega))
 replace HG := Aside0.mk (HG.out.kept hK1 (fun i hi => by omega) (by omega))
 clear HX hX1 hB1 hK1
 obtain ⟨f0, f1, f2, f3, f4, f5⟩ := ck6 HG.out.g
 obtain ⟨e0, e1, e2, e3, e4, e5⟩ := ck6 HW.out.g
 go_upto_region 19 with (first | (go_at_call 23; (with_reducible refine (HG.out.r.eq HW.out.r E1.out).mono ?_); rintro e W ⟨rfl, hb1⟩))
 clear f0 f1 f2 f3 f4 f5 e0 e1 e2 e3 e4 e5
 replace HA := Aside0.mk (HA.out.up hb1)
 replace HW := Aside0.mk (HW.out.up hb1)
 replace HG := Aside0.mk (HG.out.up hb1)
 clear hb1
 obtain ⟨f0, f1, f2, f3, f4, f5⟩ := ck6 HG.out.g
 go_upto_region 21 with (first | (go_at_call 24; (with_reducible refine (HG.out.mark HA.out.hb (fun h => by omega) M2.out).mono ?_); rintro e W ⟨rfl, hG1, hB1, hK1⟩))
 clear f0 f1 f2 f3 f4 f5
 replace HA := Aside0.mk (HA.out.kept hK1 hB1 (fun i hi => by omega))
 replace HW := Aside0.mk (HW.out.kept hK1 (fun i hi => by omega) (by omega))
 replace HG := Aside0.mk hG1
 clear hG1 hB1 hK1
 obtain ⟨f0, f1, f2, f3, f4, f5⟩ := ck6 HG.out.g
 go_upto_region 27 with (first | (go_at_call 25; (with_reducible refine (HG.out.r.held HH.out).mono ?_); rintro e W ⟨rfl, hb1⟩))
 clear f0 f1 f2 f3 f4 f5
 replace HA := Aside0.mk (HA.out.up hb1)
 replace HW := Aside0.mk (HW.out.up hb1)
 replace HG := Aside0.mk (HG.out.up hb1)
 clear hb1 hap hlo2
 have LL := Aside0.mk (fun w' (h : Up W w') => And.intro (ck6 (HA.out.up h).bf) (ck4 (HA.out.up h).bd))
 refine start_ (n := 11) (S := Up W) (ds := []) (Sq.M 0 11) (by kernel_rfl) rfl rfl (below_drew (Below.refl _ _)) (fun hS => ?_)
 generalize W.drew = W1 at hS ⊢
 refine rt_ LL.out hS 0 85 (Sq.M 1 11) ?_
 refine rt_ LL.out hS 2 87 (mn_ 11 5) ?_
 refine join_ (σ := Nat × Nat × Nat × (Option Addr × Nat) × (Option Addr × Nat) × (Option Addr × Nat) × (Option Addr × Nat) × (Option Addr × Nat) × (Option Addr × Nat)) 2 (Sq.M 9 11) (fun s => [(86, .agg #[.slice s.2.2.2.1.1 l0.length s.2.2.2.1.2, .slice s.2.2.2.2.1.1 l1.length s.2.2.2.2.1.2, .slice s.2.2.2.2.2.1.1 l2.length s.2.2.2.2.2.1.2, .int .i64 p, .int .i64 q, .int .i64 r]), (88, .agg #[.int .i64 d0, .string d1, .int .i64 d2, .int .i64 d3]), (89, .tuple #[.agg #[.slice s.2.2.2.2.2.2.1.1 t.length s.2.2.2.2.2.2.1.2, .slice s.2.2.2.2.2.2.2.1.1 c.length s.2.2.2.2.2.2.2.1.2, .slice s.2.2.2.2.2.2.2.2.1 d.length s.2.2.2.2.2.2.2.2.2, .int .i64 p2, .int .i64 q2, .int .i64 r2], .bool ok]), (84, .tuple #[.agg #[.slice s.2.2.2.2.2.2.1.1 t.length s.2.2.2.2.2.2.1.2, .slice s.2.2.2.2.2.2.2.1.1 c.length s.2.2.2.2.2.2.2.1.2, .slice s.2.2.2.2.2.2.2.2.1 d.length s.2.2.2.2.2.2.2.2.2, .int .i64 p2, .int .i64 q2, .int .i64 r2], .bool ok]), (90, .agg #[.slice s.2.2.2.2.2.2.1.1 t.length s.2.2.2.2.2.2.1.2, .slice s.2.2.2.2.2.2.2.1.1 c.length s.2.2.2.2.2.2.2.1.2, .slice s.2.2.2.2.2.2.2.2.1 d.length s.2.2.2.2.2.2.2.2.2, .int .i64 p2, .int .i64 q2, .int .i64 r2]), (91, .bool ok), (14, .pointer (some ⟨s.1, 0, none⟩))]) (fun s W' => Res w W W' s.1 s.2.1 s.2.2.1 s.2.2.2.2.2.2.1.1 s.2.2.2.2.2.2.1.2 t s.2.2.2.2.2.2.2.1.1 s.2.2.2.2.2.2.2.1.2 c s.2.2.2.2.2.2.2.2.1 s.2.2.2.2.2.2.2.2.2 d) ?_ ?_
 rotate_left
 ·
  intro hCont
  refine tw_ 1 8 (Sq.M 3 11) (mn_ 11 261) rfl rfl (sF_ KT.out HA.out.hb hS ?_) (sB_ hS ?_)
  ·
   intro X0 x0 X1 x1 X2 x2 w5 hX hb hS
   refine rn_ ?_
   refine tw_ 3 8 (Sq.M 4 11) (mn_ 11 263) rfl rfl (sD_ hS ?_) (sB_ hS ?_)
   ·
    intro w5 hb hS
    have hX := hX.up hb
    refine rn_ ?_
    refine tw_ 4 8 (Sq.M 5 11) (mn_ 11 271) rfl rfl (sW_ KI.out Try.func12 HA.out.hb hS hX ?_) (sB_ hS ?_)
    ·
     have hlo := hS.size
     intro V0 v0 V1 v1 V2 v2 w5 hV hb hS
     have hhi := Nat.le_refl w5.heap.size
     refine rn_ ?_
     refine ra_ 5 84 (Sq.M 6 11) ?_
     refine ra_ 6 90 (Sq.M 7 11) ?_
     refine ra_ 7 91 (Sq.M 8 11) ?_
     refine on_ 8 (Sq.M 9 11) rfl (sB_ hS ?_)
     intro gb w6 hg hx hgg hb hS
     have hV := hV.up hb
     have hhi := Nat.le_trans hhi hb.size
     refine rn_ ?_
     exact norm_ (by simp only [putAll, sp_]) (hCont (gb, _, _, (X0, x0), (X1, x1), (X2, x2), (V0, v0), (V1, v1), (V2, v2)) _ ⟨hS, hx, hgg, hV, hlo, .inr (Nat.le_of_eq hg.symm), hhi⟩)
    ·
     intro gb w6 hg hx hgg hb hS
     have hX := hX.up hb
     refine rn_ ?_
     refine on_ 4 (mn_ 11 287) rfl (sW_ KI.out Try.func12 HA.out.hb hS hX ?_)
     have hlo := hS.size
     intro V0 v0 V1 v1 V2 v2 w5 hV hb hS
     have hhi := Nat.le_refl w5.heap.size
     have hlt := blk_lt hx
     have hx := blk_below hx hb
     refine rn_ ?_
     refine ra_ 5 84 (mn_ 11 319) ?_
     refine ra_ 6 90 (mn_ 11 383) ?_
     refine ra_ 7 91 (Sq.M 9 11) ?_
     exact norm_ (by simp only [putAll, sp_]) (hCont (gb, _, _, (X0, x0), (X1, x1), (X2, x2), (V0, v0), (V1, v1), (V2, v2)) _ ⟨hS, hx, hgg, hV, hlo, .inl hlt, hhi⟩)
   ·
    intro gb w6 hg hx hgg hb hS
    have hX := hX.up hb
    refine rn_ ?_
    refine on_ 3 (mn_ 11 271) rfl (sD_ hS ?_)
    intro w5 hb hS
    have hX := hX.up hb
    have hx := blk_below hx hb
    refine rn_ ?_
    refine on_ 4 (mn_ 11 287) rfl (sW_ KI.out Try.func12 HA.out.hb hS hX ?_)
    have hlo := hS.size
    intro V0 v0 V1 v1 V2 v2 w5 hV hb hS
    have hhi := Nat.le_refl w5.heap.size
    have hlt := blk_lt hx
    have hx := blk_below hx hb
    refine rn_ ?_
    refine ra_ 5 84 (mn_ 11 319) ?_
    refine ra_ 6 90 (mn_ 11 383) ?_
    refine ra_ 7 91 (Sq.M 9 11) ?_
    exact norm_ (by simp only [putAll, sp_]) (hCont (gb, _, _, (X0, x0), (X1, x1), (X2, x2), (V0, v0), (V1, v1), (V2, v2)) _ ⟨hS, hx, hgg, hV, hlo, .inl hlt, hhi⟩)
  ·
   intro gb w6 hg hx hgg hb hS
   refine rn_ ?_
   refine on_ 1 (mn_ 11 263) rfl (sF_ KT.out HA.out.hb hS ?_)
   intro X0 x0 X1 x1 X2 x2 w5 hX hb hS
   have hx := blk_below hx hb
   refine rn_ ?_
   refine on_ 3 (mn_ 11 271) rfl (sD_ hS ?_)
   intro w5 hb hS
   have hX := hX.up hb
   have hx := blk_below hx hb
   refine rn_ ?_
   refine on_ 4 (mn_ 11 287) rfl (sW_ KI.out Try.func12 HA.out.hb hS hX ?_)
   have hlo := hS.size
   intro V0 v0 V1 v1 V2 v2 w5 hV hb hS
   have hhi := Nat.le_refl w5.heap.size
   have hlt := blk_lt hx
   have hx := blk_below hx hb
   refine rn_ ?_
   refine ra_ 5 84 (mn_ 11 319) ?_
   refine ra_ 6 90 (mn_ 11 383) ?_
   refine ra_ 7 91 (Sq.M 9 11) ?_
   exact norm_ (by simp only [putAll, sp_]) (hCont (gb, _, _, (X0, x0), (X1, x1), (X2, x2), (V0, v0), (V1, v1), (V2, v2)) _ ⟨hS, hx, hgg, hV, hlo, .inl hlt, hhi⟩)
 rintro ⟨gh, lo, hi, ⟨_, _⟩, ⟨_, _⟩, ⟨_, _⟩, ⟨H0, H0c⟩, ⟨H1, H1c⟩, ⟨H2, H2c⟩⟩ w7 hR
 dsimp only at hR
 replace hR := Aside0.mk hR
 refine norm_ (a' := ?_) ?_ ?_
 rotate_left
 · (simp only [putAll, sp_]; rfl)
 refine one_ (i := 9) (N := none) (Sq.M 10 11) rfl rfl (by kernel_rfl) (by decide) (fun K hK => ?_)
 refine sts_ 30 14 (.tmp 90) gh 0 #[.slice H0 t.length H0c, .slice H1 c.length H1c, .slice H2 d.length H2c, .int .i64 p2, .int .i64 q2, .int .i64 r2] #[.slice none 0 0, .slice none 0 0, .slice none 0 0, .int .i64 0, .int .i64 0, .int .i64 0] #[.slice H0 t.length H0c, .slice H1 c.length H1c, .slice H2 d.length H2c, .int .i64 p2, .int .i64 q2, .int .i64 r2] 30 (by rfl) rfl rfl rfl rfl hR.out.bx (by kernel_rfl) (Nat.le_of_ble_eq_true rfl) (by kernel_rfl) (by kernel_rfl) ?_
 intro w8 hbx8 hg8
 have hS8 := b_put hR.out.up hg8 hR.out.hg
 refine hK.out _ _ hS8 (fun hS9 => ?_)
 clear hK K hS9
 refine ra_ 10 15 (Sq.M 11 11) ?_
 refine done_ (by kernel_rfl) ?_
 have HY := Aside0.mk (show Flp w w8 _ gh H0 _ H0c t H1 _ H1c c H2 _ H2c d p2 q2 r2 from ⟨hbx8, hR.out.r.put hR.out.bx hg8⟩)
 have hap := hR.out.ap
 have hlo := hR.out.hlo
 have hgw := hR.out.hg
 have hhi : hi ≤ w8.heap.size := Nat.le_trans hR.out.hi_ hg8.size
 have HA := Aside0.mk (HA.out.up hS8)
 clear hR hbx8 hg8 hS LL
 have HW := Aside0.mk (HW.out.up hS8)
 have HG := Aside0.mk (HG.out.up hS8)
 clear hS8 hap hlo hgw hhi
 obtain ⟨f0, f1, f2, f3, f4, f5⟩ := ck6 HY.out.g
 obtain ⟨e0, e1, e2, e3, e4, e5⟩ := ck6 HW.out.g
 go_upto_region 31 with (first | (go_at_call 23; (with_reducible refine (HY.out.r.eq HW.out.r E1.out).mono ?_); rintro e w1 ⟨rfl, hb1⟩))
 clear f0 f1 f2 f3 f4 f5 e0 e1 e2 e3 e4 e5
 obtain ⟨f0, f1, f2, f3, f4, f5⟩ := ck6 (HG.out.up hb1).g
 go_wp2_with (first | (go_at_call 25; (with_reducible refine ((HG.out.up hb1).r.held HH.out).mono ?_); rintro e w2 ⟨rfl, hb2⟩))
 go_ret
 exact ⟨rfl, below_step (below_step HA.out.hb hb1) hb2⟩
/-- What the plain side shows of the law's arguments. -/
def DoLaw (ts : List S134) (cs : List S136) (ds : List S138) (p q r d0 : Int) (d1 : ByteArray) (d2 d3 : Int) : Prop :=
  ∃ (k1 k2 k3 k4 k5 k6 k7 : Nat) (l0 : List S44) (l1 : List S84) (l2 : List S57) (t : List S44) (c : List S84) (d : List S57) (p2 q2 r2 : Int) (ok : Bool) (z1 z2 m1 m2 : Int) (ta tb : List S44) (ca cb : List S84) (da db : List S57),
    laws_szFleet.f k1 ts cs ds p q r 1048576 = some z1 ∧ laws_szDeed19.f d0 d1 d2 d3 z1 = some z2 ∧ laws_toFleet.f k2 ts cs ds p q r = some (l0, l1, l2, p, q, r) ∧ FleetSz l0 l1 l2 ∧ fleetCopyB l0 l1 l2 = true ∧ d1.size ≤ 140737488355328 ∧ workF l0 l1 l2 p q r d0 d1 d2 d3 = (t, c, d, p2, q2, r2, ok) ∧
    laws_eqFleet.f k3 t c d p2 q2 r2 t c d p2 q2 r2 = some true ∧ laws_eqFleet.f k4 l0 l1 l2 p q r l0 l1 l2 p q r = some true ∧ laws_markFleet.f k5 l0 l1 l2 p q r 1 = some (m1, ta, ca, da) ∧ laws_markFleet.f k6 t c d p2 q2 r2 1 = some (m2, tb, cb, db) ∧ laws_heldFleet.f k7 tb cb db p2 q2 r2 1 = some m2 ∧ 0 ≤ m1 ∧ 0 ≤ m2
open Classical in
noncomputable def laws_FnExactDoWork.f (k : Nat) (l0_0 : List (S134)) (l0_1 : List (S136)) (l0_2 : List (S138)) (a0_3 : Int) (a0_4 : Int) (a0_5 : Int) (a1_0 : Int) (a1_1 : ByteArray) (a1_2 : Int) (a1_3 : Int) : Option Bool := if DoLaw l0_0 l0_1 l0_2 a0_3 a0_4 a0_5 a1_0 a1_1 a1_2 a1_3 then some true else none
theorem laws_FnExactDoWork.calls (k : Nat) (A0_0 : Option Addr) (c0_0 : Nat) (l0_0 : List (S134)) (A0_1 : Option Addr) (c0_1 : Nat) (l0_1 : List (S136)) (A0_2 : Option Addr) (c0_2 : Nat) (l0_2 : List (S138)) (a0_3 : Int) (a0_4 : Int) (a0_5 : Int) (a1_0 : Int) (a1_1 : ByteArray) (a1_2 : Int) (a1_3 : Int) (r : Bool) (hr_ : r = true) (w : World) (hr0_0 : Kd.C k134 w A0_0 l0_0.length l0_0) (hc0_0 : l0_0.length ≤ c0_0) (hr0_1 : Kd.C k136 w A0_1 l0_1.length l0_1) (hc0_1 : l0_1.length ≤ c0_1) (hr0_2 : Kd.C k138 w A0_2 l0_2.length l0_2) (hc0_2 : l0_2.length ≤ c0_2) (h : laws_FnExactDoWork.f k l0_0 l0_1 l0_2 a0_3 a0_4 a0_5 a1_0 a1_1 a1_2 a1_3 = some r) :
  Calls Try.prog 5 #[.agg #[.slice A0_0 l0_0.length c0_0, .slice A0_1 l0_1.length c0_1, .slice A0_2 l0_2.length c0_2, .int .i64 a0_3, .int .i64 a0_4, .int .i64 a0_5], .agg #[.int .i64 a1_0, .string a1_1, .int .i64 a1_2, .int .i64 a1_3]] w fun e w' => e = .returned (.bool r) ∧ Below w.heap.size w w' := by
  subst hr_
  unfold laws_FnExactDoWork.f at h
  split at h
  · rename_i hl
    obtain ⟨k1, k2, k3, k4, k5, k6, k7, l0, l1, l2, t, c, d, p2, q2, r2, ok, z1, z2, m1, m2, ta, tb, ca, cb, da, db, e1, e2, e3, e4, e5, e6, e7, e8, e9, e10, e11, e12, e13, e14⟩ := hl
    exact dolaw_t k1 k2 k3 k4 k5 k6 k7 A0_0 c0_0 l0_0 A0_1 c0_1 l0_1 A0_2 c0_2 l0_2 a0_3 a0_4 a0_5 a1_0 a1_1 a1_2 a1_3 w hr0_0 hc0_0 hr0_1 hc0_1 hr0_2 hc0_2 l0 l1 l2 t c d p2 q2 r2 ok z1 z2 m1 m2 ta tb ca cb da db e1 e2 e3 e4 e5 e6 e7 e8 e9 e10 e11 e12 e13 e14
  · cases h
-- HAND TO
end Go.Proofs.Ytdimdlifjdbgnaa.PFnExactDoWork
