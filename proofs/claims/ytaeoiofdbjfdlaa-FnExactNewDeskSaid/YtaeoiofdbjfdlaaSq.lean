/- Short words for the steps of a walk that a program of this session prints. Nothing of the program in sight. -/
import Derived.Test.YtaeoiofdbjfdlaaWMore
import Derived.Test.YtaeoiofdbjfdlaaWTab
set_option linter.unusedVariables false
set_option linter.unusedSimpArgs false
namespace Go.Proofs.Ytaeoiofdbjfdlaa.Sq
open Go Go.RowKit Go.Proofs.YtaeoiofdbjfdlaaW.PrintWords Go.Proofs.YtaeoiofdbjfdlaaW.PrintLast Go.Proofs.YtaeoiofdbjfdlaaW.PrintMore
/-- One world comes of another one by new blocks and draws alone. -/
inductive Nx : World → World → Prop
  | refl (w : World) : Nx w w
  | alloc {a b : World} (h : Nx a b) (o : Obj) : Nx a (b.alloc o)
  | drewN {a b : World} (h : Nx a b) (n : Nat) : Nx a (b.drewN n)
  | drew {a b : World} (h : Nx a b) : Nx a b.drew
class Wn (a b : World) : Prop where
  h : Nx a b
instance (priority := 2000) wnRefl (w : World) : Wn w w := ⟨.refl w⟩
instance wnAlloc (a b : World) [i : Wn a b] (o : Obj) : Wn a (b.alloc o) := ⟨.alloc i.h o⟩
instance wnDrewN (a b : World) [i : Wn a b] (n : Nat) : Wn a (b.drewN n) := ⟨.drewN i.h n⟩
instance wnDrew (a b : World) [i : Wn a b] : Wn a b.drew := ⟨.drew i.h⟩
theorem bl {w a b : World} (h : Below w.heap.size w a) [i : Wn a b] : Below w.heap.size w b := by
  induction i.h with
  | refl => exact h
  | alloc _ o ih => exact below_alloc ih o
  | drewN _ n ih => exact pw_below_drewN ih n
  | drew _ ih => exact below_drew1 ih
theorem bk {a b : World} {g : Nat} {o : Obj} (h : a.heap[g]? = some o) [i : Wn a b] : b.heap[g]? = some o := by
  induction i.h with
  | refl => exact h
  | alloc _ o ih => exact blk_alloc ih o
  | drewN _ n ih => exact blk_drewN ih n
  | drew _ ih => exact blk_drew ih
theorem rl {α : Type} {d : Kd α} {e : Nat} {a b : World} {base : Nat} {ok : Nat → Prop} {v : Value} {xs : List α} (h : d.R e a base ok v xs) [i : Wn a b] : d.R e b base ok v xs := by
  induction i.h with
  | refl => exact h
  | alloc _ o ih => exact Kd.R_alloc ih o
  | drewN _ n ih => exact Kd.R_drewN ih n
  | drew _ ih => exact Kd.R_drew ih
theorem sl {α : Type} {d : Kd α} {e : Nat} {a b : World} {base : Nat} {ok : Nat → Prop} {v : Value} {xs : List α} (h : d.S e a base ok v xs) [i : Wn a b] : d.S e b base ok v xs := by
  induction i.h with
  | refl => exact h
  | alloc _ o ih => exact Kd.S_alloc ih o
  | drewN _ n ih => exact Kd.S_drewN ih n
  | drew _ ih => exact Kd.S_drew ih
theorem rc {α : Type} {d : Kd α} {a b : World} {xs : List α} {A : Option Addr} {n : Nat} (h : d.C a A n xs) [i : Wn a b] : d.C b A n xs := by
  induction i.h with
  | refl => exact h
  | alloc _ o ih => exact Kd.C_alloc ih o
  | drewN _ n ih => exact Kd.C_drewN ih n
  | drew _ ih => exact Kd.C_drew ih
/-- One block or draw taken off. -/
class P1 (b : World) (a : outParam World) : Prop where
  h : Nx a b
instance p1Alloc (b : World) (o : Obj) : P1 (b.alloc o) b := ⟨.alloc (.refl b) o⟩
instance p1DrewN (b : World) (n : Nat) : P1 (b.drewN n) b := ⟨.drewN (.refl b) n⟩
instance p1Drew (b : World) : P1 b.drew b := ⟨.drew (.refl b)⟩
theorem bq {w a b : World} [i : P1 b a] (h : Below w.heap.size w a) : Below w.heap.size w b := bl (i := ⟨i.h⟩) h
theorem bk1 {a b : World} {g : Nat} {o : Obj} [i : P1 b a] (h : a.heap[g]? = some o) : b.heap[g]? = some o := bk (i := ⟨i.h⟩) h
theorem rl1 {α : Type} {d : Kd α} {e : Nat} {a b : World} {base : Nat} {ok : Nat → Prop} {v : Value} {xs : List α} [i : P1 b a] (h : d.R e a base ok v xs) : d.R e b base ok v xs := rl (i := ⟨i.h⟩) h
theorem sl1 {α : Type} {d : Kd α} {e : Nat} {a b : World} {base : Nat} {ok : Nat → Prop} {v : Value} {xs : List α} [i : P1 b a] (h : d.S e a base ok v xs) : d.S e b base ok v xs := sl (i := ⟨i.h⟩) h
theorem ck {w : World} {g : Nat} {t : TypeId} {cs : Array Value} (h : w.heap[g]? = some (.cells cs t (0, 0))) (i : Nat) {v : Value} (e : cs[i]? = some v) : w.cell? ⟨g, i, none⟩ = some v := (blk_cell h i).trans e
/-- How a slot is written, and the words for wraps: one name for the walk's simp. -/
theorem sp_ : (∀ (a : Act) (d : Tmp) (v : Value), a.put (some d) v = { tmps := a.tmps.setIfInBounds d v, defers := a.defers }) ∧ (∀ (a : Act) (v : Value), a.put none v = a) ∧ (∀ (l : List Value) (i : Nat) (x : Value), l.toArray.setIfInBounds i x = (l.set i x).toArray) ∧ (∀ (l : List Value) (x y : Value), (x :: l).set 0 y = y :: l) ∧ (∀ (l : List Value) (x y : Value) (n : Nat), (x :: l).set (n + 1) y = x :: l.set n y) ∧ (∀ n : Int, IntKind.i64.wrap n = wrap64 n) ∧ (∀ n : Int, IntKind.i32.wrap n = wrap32 n) :=
  ⟨fun _ _ _ => rfl, fun _ _ => rfl, fun _ _ _ => List.setIfInBounds_toArray .., fun _ _ _ => rfl, fun _ _ _ _ => rfl, i64_w, i32_w⟩
theorem am_ : (∀ (f : Operand → Value) (l : List Operand), l.toArray.map f = (l.map f).toArray) ∧ (∀ (f : Operand → Value) (x : Operand) (l : List Operand), (x :: l).map f = f x :: l.map f) ∧ (∀ f : Operand → Value, ([] : List Operand).map f = []) := ⟨fun _ _ => List.map_toArray .., fun _ _ _ => rfl, fun _ => rfl⟩
section
variable {P : Program} {md : Region.Mode} {ops : Array Oper} {Q : Exit → Act → World → Prop} {S : World → Prop} {ds : List Nat} {T : Bool × List (List Nat × List Nat)}
theorem pp_ {oi : Oper} {v : Value} {fuel : Nat} {l : Array Bool} {a a' : Act} {w : World} (hT : rtab md ops = T) (i n : Nat) (l' : Array Bool) (hi : ops[i]? = some oi) (hN : oi.dst = some n) (hc : anyT T l.toList l'.toList i = true)
    (hw : Region.wanted oi (yielded ops a.tmps) = true) (hy : ∀ w, (execOp a.eval oi).run P w = .ok (.value v) w) (ha : a.put (some n) v = a') (hQ : ∀ c a w, Q (.panic c) (a.put oi.dst v) w → Q (.panic c) a w)
    (h : wpAnyLast P md ops Q S ds fuel l' a' w) : wpAnyLast P md ops Q S ds (fuel + 1) l a w := pure_ l' hi hN (any_of hT hc) hQ (Or.inl ⟨hw, hy⟩) ha h
theorem pu_ {oi : Oper} {fuel : Nat} {l : Array Bool} {a a' : Act} {w : World} (hT : rtab md ops = T) (i n : Nat) (l' : Array Bool) (hi : ops[i]? = some oi) (hN : oi.dst = some n) (hc : anyT T l.toList l'.toList i = true)
    (hw : Region.wanted oi (yielded ops a.tmps) = false) (ha : a.put (some n) undef = a') (hQ : ∀ c a w, Q (.panic c) (a.put oi.dst undef) w → Q (.panic c) a w)
    (h : wpAnyLast P md ops Q S ds fuel l' a' w) : wpAnyLast P md ops Q S ds (fuel + 1) l a w := pure_ l' hi hN (any_of hT hc) hQ (Or.inr ⟨hw, rfl⟩) ha h
theorem tk_ {oi : Oper} {v : Value} {fuel : Nat} {l : Array Bool} {a a' : Act} {w : World} {B : List Nat} (hT : rtab md ops = T) (hB : waitsOk T.2 B = true) (i n : Nat) (l' : Array Bool) (hi : ops[i]? = some oi) (hN : oi.dst = some n) (hc : takeW T B ds l.toList l'.toList i = true)
    (hw : Region.wanted oi (yielded ops a.tmps) = true) (hy : ∀ w, S w → (execOp a.eval oi).run P w = .ok (.value v) w) (hS : S w) (ha : a.put (some n) v = a') (hQ : ∀ c a w, Q (.panic c) (a.put oi.dst v) w → Q (.panic c) a w)
    (h : wpAnyLast P md ops Q S ds fuel l' a' w) : wpAnyLast P md ops Q S ds (fuel + 1) l a w := take_ l' hi hN (take_ofW hT hB hc) hQ (Or.inl ⟨hw, hy⟩) hS ha h
end
end Go.Proofs.Ytaeoiofdbjfdlaa.Sq
