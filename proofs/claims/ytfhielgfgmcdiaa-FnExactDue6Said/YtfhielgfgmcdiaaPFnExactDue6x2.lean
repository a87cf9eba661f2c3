-- Written by a program of this session (wip/xprint.py) out of the translation; Lean checks it.
import Derived.Test.YtfhielgfgmcdiaaPFnExactDue6x0
import Derived.Test.YtfhielgfgmcdiaaPFnExactDue6x1
namespace Go.Proofs.Ytfhielgfgmcdiaa.PFnExactDue6
open Go.RowKit Go.Proofs.YtfhielgfgmcdiaaW.PrintWords Go.Proofs.YtfhielgfgmcdiaaW.PrintLast Go.Proofs.YtfhielgfgmcdiaaW.PrintMore Go.Proofs.Ytfhielgfgmcdiaa.Sq
attribute [local go_sem] max2_int min2_int max_two min_two max_three min_three max_four min_four   -- for this text's walks alone
set_option linter.unusedVariables false
set_option linter.unusedSimpArgs false

-- HAND FROM
open Go.Proofs.Ytfhielgfgmcdiaa.Base Go.Proofs.Ytfhielgfgmcdiaa.Sq
open Go.Shelf
/-! ### A region that draws and whose callees make memory at most: one walk in the order of the text (by hand) -/
theorem ck3 {w : World} {g : Nat} {t : TypeId} {v0 v1 v2 : Value} (h : w.heap[g]? = some (.cells #[v0, v1, v2] t (0, 0))) : w.cell? ⟨g, 0, none⟩ = some v0 ∧ w.cell? ⟨g, 1, none⟩ = some v1 ∧ w.cell? ⟨g, 2, none⟩ = some v2 := ⟨ck h 0 rfl, ck h 1 rfl, ck h 2 rfl⟩
theorem ck6 {w : World} {g : Nat} {t : TypeId} {v0 v1 v2 v3 v4 v5 : Value} (h : w.heap[g]? = some (.cells #[v0, v1, v2, v3, v4, v5] t (0, 0))) : w.cell? ⟨g, 0, none⟩ = some v0 ∧ w.cell? ⟨g, 1, none⟩ = some v1 ∧ w.cell? ⟨g, 2, none⟩ = some v2 ∧ w.cell? ⟨g, 3, none⟩ = some v3 ∧ w.cell? ⟨g, 4, none⟩ = some v4 ∧ w.cell? ⟨g, 5, none⟩ = some v5 := ⟨ck h 0 rfl, ck h 1 rfl, ck h 2 rfl, ck h 3 rfl, ck h 4 rfl, ck h 5 rfl⟩
theorem ck7 {w : World} {g : Nat} {t : TypeId} {v0 v1 v2 v3 v4 v5 v6 : Value} (h : w.heap[g]? = some (.cells #[v0, v1, v2, v3, v4, v5, v6] t (0, 0))) : w.cell? ⟨g, 0, none⟩ = some v0 ∧ w.cell? ⟨g, 1, none⟩ = some v1 ∧ w.cell? ⟨g, 2, none⟩ = some v2 ∧ w.cell? ⟨g, 3, none⟩ = some v3 ∧ w.cell? ⟨g, 4, none⟩ = some v4 ∧ w.cell? ⟨g, 5, none⟩ = some v5 ∧ w.cell? ⟨g, 6, none⟩ = some v6 := ⟨ck h 0 rfl, ck h 1 rfl, ck h 2 rfl, ck h 3 rfl, ck h 4 rfl, ck h 5 rfl, ck h 6 rfl⟩
section
variable {P : Program} {ops : Array Oper} {Q : Act → Prop} {a a' : Act} {o : Oper} {rest : List Oper} {W : World}
abbrev Up (W : World) : World → Prop := fun w' => Below W.heap.size W w'
def Ent (P : Program) (f : FuncId) : Prop := ∀ (args : Array Value) (w : World), (callFunc f args).run P w = .ok (.enter f args) w
structure Wq (P : Program) (ops : Array Oper) (W : World) (Q : Act → Prop) (l : List Oper) (a : Act) : Prop where mk :: (out : wpQuiet P ops (Up W) Q l a)
theorem rg_ {id : Nat} {Q : Exit → Act → World → Prop} {a : Act} {W : World} {l : List Oper} (hm : P.follows .mixedOrders = true) (hB : Region.lexB .any l.toArray = true)
    (h : Wq P l.toArray W (fun a' => ∀ w', Up W w' → Q .normal a' w') l a) : (Code.region id l.toArray true).wp P Q a W :=
  wp_region_quiet (C := Up W) hm hB (below_drew (Below.refl _ _)) (by simpa using h.out)
theorem qn_ (h : Wq P ops W Q rest a') (hw : Region.wanted o (yielded ops a.tmps) = false := by rfl) (ha : a.put o.dst undef = a' := by simp only [sp_]; rfl) : Wq P ops W Q (o :: rest) a := by
  subst ha; exact ⟨BigFrame.wpQuiet_skip hw h.out⟩
theorem ql_ {F : World → Prop} {v : Value} (hL : ∀ w, Up W w → F w) (h : Wq P ops W Q rest a') (hw : Region.wanted o (yielded ops a.tmps) = true := by rfl)
    (hy : ∀ w, F w → (execOp a.eval o).run P w = .ok (.value v) w := by intro w' hf; (try go_split_ands); go_simp; with_reducible rfl) (ha : a.put o.dst v = a' := by simp only [sp_]; rfl) : Wq P ops W Q (o :: rest) a := by
  subst ha
  exact ⟨BigFrame.wpQuiet_want hw fun K hK => ⟨v, fun w hw => by unfold Oper.quietAt; rw [hy w (hL w hw)]; exact ⟨rfl, rfl⟩, hK _ h.out⟩⟩
theorem qc_ {f : FuncId} {args : Array Value} {v : Value} {as_ : Array Operand} {ts : Array TypeId} (he : Ent P f) (hc : ∀ w', Up W w' → Calls P f args w' fun e w'' => e = .returned v ∧ Below w'.heap.size w' w'') (h : Wq P ops W Q rest a')
    (hop : o.op = .call { callee := .value (.func f), args := as_, argTypes := ts } := by rfl) (hw : Region.wanted o (yielded ops a.tmps) = true := by rfl) (hargs : as_.map a.eval = args := by (try simp only [am_]); first | done | rfl) (ha : a.put o.dst v = a' := by simp only [sp_]; rfl) :
    Wq P ops W Q (o :: rest) a := by
  subst ha
  refine ⟨BigFrame.wpQuiet_want hw fun K hK => ⟨v, fun w hw => ?_, hK _ h.out⟩⟩
  have hrun : (execOp a.eval o).run P w = .ok (.enter f args) w := by
    unfold execOp
    simp [hop, resolve, Deferred.ofValue, invoke, Act.eval, hargs, he args w]
  unfold Oper.quietAt
  rw [hrun]
  exact ⟨rfl, (hc w hw).mono fun e w'' ⟨he, hb⟩ => ⟨he, below_step hw hb⟩⟩
theorem qd_ (h : Q a) : Wq P ops W Q [] a := ⟨h⟩
/-- What is known of a world, told anew under one letter. -/
theorem world_ {c : Code} {Q : Exit → Act → World → Prop} {a : Act} {W : World} (F : World → Prop) (h : F W) (k : ∀ w, F w → c.wp P Q a w) : c.wp P Q a W := k W h
theorem drawn_ {f : FuncId} {args : Array Value} {w : World} {v : Value} (h : Calls P f args w fun e w' => e = .returned v ∧ Drawn0 w w') : Calls P f args w fun e w' => e = .returned v ∧ Below w.heap.size w w' :=
  h.mono fun e w' ⟨he, hn⟩ => ⟨he, hn.below⟩
end
theorem kb_ {P : Program} {f : FuncId} {args : Array Value} {w : World} {b b' : Bool} (h : Calls P f args w fun e w' => e = .returned (.bool b) ∧ Below w.heap.size w w') (e : b = b') : Calls P f args w fun e w' => e = .returned (.bool b') ∧ Below w.heap.size w w' := e ▸ h
/-! Steps of a region that draws, with no table. -/
section
variable {P : Program} {md : Region.Mode} {ops : Array Oper} {Q : Exit → Act → World → Prop} {S : World → Prop} {ds : List Nat}
theorem ra_ {oi : Oper} {v : Value} {fuel : Nat} {l : Array Bool} {a a' : Act} {w : World} (i n : Nat) (l' : Array Bool) (h : wpAnyLast P md ops Q S ds fuel l' a' w) (hi : ops[i]? = some oi := by rfl) (hN : oi.dst = some n := by rfl) (hc : anyB md ops l l' i = true := by kernel_rfl)
    (hw : Region.wanted oi (yielded ops a.tmps) = true := by rfl) (hy : ∀ w, (execOp a.eval oi).run P w = .ok (.value v) w := by intro w'; go_simp; with_reducible rfl) (ha : a.put (some n) v = a' := by simp only [sp_]; rfl) (hQ : ∀ c a w, Q (.panic c) (a.put oi.dst v) w → Q (.panic c) a w := by exact fun _ _ _ h => h) :
    wpAnyLast P md ops Q S ds (fuel + 1) l a w := pure_ l' hi hN hc hQ (Or.inl ⟨hw, hy⟩) ha h
theorem rt_ {F : World → Prop} {oi : Oper} {v : Value} {fuel : Nat} {l : Array Bool} {a a' : Act} {w : World} (hL : ∀ w, S w → F w) (hS : S w) (i n : Nat) (l' : Array Bool) (h : wpAnyLast P md ops Q S ds fuel l' a' w) (hi : ops[i]? = some oi := by rfl) (hN : oi.dst = some n := by rfl) (hc : takeB md ops ds l l' i = true := by kernel_rfl)
    (hw : Region.wanted oi (yielded ops a.tmps) = true := by rfl) (hy : ∀ w, F w → (execOp a.eval oi).run P w = .ok (.value v) w := by intro w' hf; (try go_split_ands); go_simp; with_reducible rfl) (ha : a.put (some n) v = a' := by simp only [sp_]; rfl) (hQ : ∀ c a w, Q (.panic c) (a.put oi.dst v) w → Q (.panic c) a w := by exact fun _ _ _ h => h) :
    wpAnyLast P md ops Q S ds (fuel + 1) l a w := take_ l' hi hN hc hQ (Or.inl ⟨hw, fun w' hs => hy w' (hL w' hs)⟩) hS ha h
theorem rn_ {fuel : Nat} {l : Array Bool} {a a' : Act} {w : World} (h : wpAnyLast P md ops Q S ds fuel l a' w) (ha : a = a' := by simp only [putAll, sp_]; rfl) : wpAnyLast P md ops Q S ds fuel l a w := norm_ ha h
end
theorem impl_in_eq (a b c : Int) : impl_in.f a b c = some (inB a b c) := in_form a b c
theorem impl_allIn_l (b c : Int) (xs : List Int) (hn : xs.length < 4611686018427387904) (d : Nat) : ∀ i : Nat, i + d = xs.length →
    Ev (fun k => impl_allIn.l0 k b c xs (xs.length : Int) (i : Int)) (allB (xs.drop i) b c) := by
  induction d with
  | zero =>
    intro i h
    refine ev_succ ?_
    simp only [impl_allIn.l0, if_neg (show ¬ ((i : Int) < (xs.length : Int)) by omega)]
    rw [List.drop_of_length_le (by omega)]
    exact ev_now _
  | succ d ih =>
    intro i h
    refine ev_succ ?_
    simp only [impl_allIn.l0, if_pos (show ((i : Int) < (xs.length : Int)) by omega), if_pos (show (0 : Int) ≤ (i : Int) by omega), impl_in_eq, Option.bind_some, w64s i (by omega)]
    rw [drop_rd (show i < xs.length by omega)]
    cases hb : inB (rd xs (i : Int)) b c with
    | true => simpa [allB, hb] using ih (i + 1) (by omega)
    | false => simpa [allB, hb] using ev_now false
theorem impl_allIn_ev (b c : Int) (xs : List Int) (hn : xs.length < 4611686018427387904) : Ev (fun k => impl_allIn.f k xs b c) (allB xs b c) := by
  simpa [impl_allIn.f] using impl_allIn_l b c xs hn xs.length 0 (by omega)
def Alnum (c : Int) : Prop := (97 ≤ c ∧ c ≤ 122) ∨ (65 ≤ c ∧ c ≤ 90) ∨ (48 ≤ c ∧ c ≤ 57)
instance (c : Int) : Decidable (Alnum c) := by unfold Alnum; exact inferInstance
def charB (c : Int) : Bool := decide (Alnum c) || (c == 45)
def charsB (s : ByteArray) : Nat → Nat → Bool
  | 0, _ => true
  | d + 1, i => charB (bt s (i : Int)) && charsB s d (i + 1)
def nameB (s : ByteArray) : Bool := charsB s s.size 0 && inB (s.size : Int) 1 20
theorem impl_isName_l (s : ByteArray) (hn : s.size ≤ 140737488355328) (d : Nat) : ∀ i : Nat, i + d = s.size → Ev (fun k => impl_isName.l0 k s (s.size : Int) (i : Int)) (charsB s d i && inB (s.size : Int) 1 20) := by
  induction d with
  | zero =>
    intro i h
    refine ev_succ ?_
    simp only [impl_isName.l0, if_neg (show ¬ ((i : Int) < (s.size : Int)) by omega), impl_in_eq, Option.bind_some, charsB, Bool.true_and]
    exact ev_now _
  | succ d ih =>
    intro i h
    have hi := ih (i + 1) (by omega)
    refine ev_succ ?_
    simp only [impl_isName.l0, if_pos (show ((i : Int) < (s.size : Int)) by omega), if_pos (show (0 : Int) ≤ (i : Int) by omega)]
    unfold charsB
    generalize bt s (i : Int) = c
    refine Ev.congr (f := fun k => impl_isName.j1 k s (s.size : Int) (i : Int) (!charB c)) (fun k => ?_) ?_
    · by_cases hc : Alnum c
      · rw [show charB c = true by simp [charB, hc]]
        unfold Alnum at hc
        repeat' split
        all_goals first | rfl | (exfalso; omega)
      · rw [show charB c = (c == 45) by simp [charB, hc]]
        unfold Alnum at hc
        repeat' split
        all_goals first | rfl | (exfalso; omega)
    · refine ev_succ ?_
      cases charB c with
      | true => simpa only [impl_isName.j1, Bool.not_true, Bool.false_eq_true, if_false, w64s i (show i < 9223372036854775807 by omega), Bool.true_and] using hi
      | false => simpa only [impl_isName.j1, Bool.not_false, if_true, Bool.false_and] using ev_now false
theorem impl_isName_ev (s : ByteArray) (hn : s.size ≤ 140737488355328) : Ev (fun k => impl_isName.f k s) (nameB s) := by
  simpa [impl_isName.f, nameB] using impl_isName_l s hn s.size 0 (by omega)
def life6 (n : ByteArray) (a b c : Int) : Bool := nameB n && (inB a 0 1000000 && (inB b 0 1000000 && inB c 0 1000000))
def stay6 (n : ByteArray) (a b c : Int) : Bool := nameB n && (inB a 0 10000000 && (inB b 0 10000000 && inB c 0 10000000))
theorem impl_lifeOk_ev (n : ByteArray) (hn : n.size ≤ 140737488355328) (a b c : Int) : Ev (fun k => impl_lifeOk.f k n a b c) (life6 n a b c) := by
  simp only [impl_lifeOk.f, impl_Life_numbers.f, Option.bind_some]
  refine (impl_isName_ev n hn).bind ?_
  unfold life6
  cases nameB n with
  | false => simpa using ev_now _
  | true =>
    simp only [if_true, Bool.true_and]
    refine (impl_allIn_ev 0 1000000 [a, b, c] (by simp)).bind (f := fun _ t => some t) (ev_some ?_)
    simp [allB]
theorem impl_stayOk_ev (n : ByteArray) (hn : n.size ≤ 140737488355328) (a b c : Int) : Ev (fun k => impl_stayOk.f k n a b c) (stay6 n a b c) := by
  simp only [impl_stayOk.f, impl_Stay_numbers.f, Option.bind_some]
  refine (impl_isName_ev n hn).bind ?_
  unfold stay6
  cases nameB n with
  | false => simpa using ev_now _
  | true =>
    simp only [if_true, Bool.true_and]
    refine (impl_allIn_ev 0 10000000 [a, b, c] (by simp)).bind (f := fun _ t => some t) (ev_some ?_)
    simp [allB]
/-! ### slices.Sort of strings, laid (by the kit's lay-plain over this seat) -/
def lays190_ren : Go.Shelf.Ren := ⟨fun | 190 => 34 | 125 => 43 | 258 => 42 | 128 => 54 | 129 => 55 | 302 => 45 | 303 => 46 | 304 => 47 | 305 => 48 | 306 => 49 | 307 => 50 | 308 => 51 | 309 => 52 | 310 => 53 | 333 => 56 | 329 => 57 | 330 => 58 | 334 => 59 | 335 => 60 | 336 => 61 | 344 => 62 | n => n, fun | 31 => 37 | 9 => 9 | 3 => 3 | 46 => 72 | 0 => 0 | 51 => 83 | 53 => 85 | 4 => 4 | 183 => 75 | 182 => 74 | 131 => 80 | 5 => 5 | 218 => 86 | 222 => 90 | 228 => 92 | 229 => 93 | n => n, fun | n => n⟩
theorem lays190 : Go.Proofs.Lays.n190 Try.prog lays190_ren := {
  mixed := by kernel_rfl
  f125 := Try.func43.trans (congrArg some (by kernel_rfl))
  f128 := Try.func54.trans (congrArg some (by kernel_rfl))
  f129 := Try.func55.trans (congrArg some (by kernel_rfl))
  f190 := Try.func34.trans (congrArg some (by kernel_rfl))
  f258 := Try.func42.trans (congrArg some (by kernel_rfl))
  f302 := Try.func45.trans (congrArg some (by kernel_rfl))
  f303 := Try.func46.trans (congrArg some (by kernel_rfl))
  f304 := Try.func47.trans (congrArg some (by kernel_rfl))
  f305 := Try.func48.trans (congrArg some (by kernel_rfl))
  f306 := Try.func49.trans (congrArg some (by kernel_rfl))
  f307 := Try.func50.trans (congrArg some (by kernel_rfl))
  f308 := Try.func51.trans (congrArg some (by kernel_rfl))
  f309 := Try.func52.trans (congrArg some (by kernel_rfl))
  f310 := Try.func53.trans (congrArg some (by kernel_rfl))
  f329 := Try.func57.trans (congrArg some (by kernel_rfl))
  f330 := Try.func58.trans (congrArg some (by kernel_rfl))
  f333 := Try.func56.trans (congrArg some (by kernel_rfl))
  f334 := Try.func59.trans (congrArg some (by kernel_rfl))
  f335 := Try.func60.trans (congrArg some (by kernel_rfl))
  f336 := Try.func61.trans (congrArg some (by kernel_rfl))
  f344 := Try.func62.trans (congrArg some (by kernel_rfl))
  t0 := Try.underlying0
  a0 := Try.isAgg0
  z0 := Try.sizeOf0
  v0 := Try.zeroValue0
  t3 := Try.underlying3
  a3 := Try.isAgg3
  z3 := Try.sizeOf3
  v3 := Try.zeroValue3
  t4 := Try.underlying4
  a4 := Try.isAgg4
  z4 := Try.sizeOf4
  v4 := Try.zeroValue4
  t5 := Try.underlying5
  a5 := Try.isAgg5
  z5 := Try.sizeOf5
  v5 := Try.zeroValue5
  t9 := Try.underlying9
  a9 := Try.isAgg9
  z9 := Try.sizeOf9
  v9 := Try.zeroValue9
  t31 := Try.underlying37
  a31 := Try.isAgg37
  z31 := Try.sizeOf37
  v31 := Try.zeroValue37
  t46 := Try.underlying72
  a46 := Try.isAgg72
  z46 := Try.sizeOf72
  v46 := Try.zeroValue72
  t51 := Try.underlying83
  a51 := Try.isAgg83
  z51 := Try.sizeOf83
  v51 := Try.zeroValue83
  t53 := Try.underlying85
  a53 := Try.isAgg85
  z53 := Try.sizeOf85
  v53 := Try.zeroValue85
  t131 := Try.underlying80
  a131 := Try.isAgg80
  z131 := Try.sizeOf80
  v131 := Try.zeroValue80
  t182 := Try.underlying74
  a182 := Try.isAgg74
  z182 := Try.sizeOf74
  v182 := Try.zeroValue74
  t183 := Try.underlying75
  a183 := Try.isAgg75
  z183 := Try.sizeOf75
  v183 := Try.zeroValue75
  t218 := Try.underlying86
  a218 := Try.isAgg86
  z218 := Try.sizeOf86
  v218 := Try.zeroValue86
  t222 := Try.underlying90
  a222 := Try.isAgg90
  z222 := Try.sizeOf90
  v222 := Try.zeroValue90
  t228 := Try.underlying92
  a228 := Try.isAgg92
  z228 := Try.sizeOf92
  v228 := Try.zeroValue92
  t229 := Try.underlying93
  a229 := Try.isAgg93
  z229 := Try.sizeOf93
  v229 := Try.zeroValue93 }
/-! ### slices.Sort of strings (over the shelf) -/
def strs (xs : List ByteArray) : List (List UInt8) := xs.map fun x => x.data.toList
def sortS (xs : List ByteArray) : List ByteArray := ((strs xs).mergeSort fun x y => decide (x ≤ y)).map fun l => ⟨l.toArray⟩
theorem strs_length (xs : List ByteArray) : (strs xs).length = xs.length := by simp [strs]
theorem sortS_length (xs : List ByteArray) : (sortS xs).length = xs.length := by simp [sortS, strs]
theorem strs_enc (xs : List ByteArray) : (strs xs).map encStr = xs.map Value.string := by simp [strs, encStr]
theorem sort_t {b : Nat} {ok : Nat → Prop} {v : Value} {xs : List ByteArray} {w : World} (HO : Kd.R Kd.string 9 w b ok v xs) (hv : v.ownBlock ≠ none) (hl : xs.length ≤ 1000000) :
    Calls Try.prog 34 #[v] w fun e w' => e = .returned (.tuple #[]) ∧ Kd.R Kd.string 9 w' b ok v (sortS xs) ∧ w.grownBy w' v.ownBlock := by
  have ho := Kd.own_of_R (enc := Value.string) (h1 := fun _ => rfl) HO
  have hok := HO.1
  obtain ⟨hlen, h⟩ := ho
  rcases h with ⟨rfl, _⟩ | ⟨g, cap, cur, rfl, hg, hh, h1, h2, h3, h4⟩
  · exact absurd rfl hv
  have hs : cur.toList.take (strs xs).length = (strs xs).map encStr := by rw [strs_enc, strs_length]; simpa [encs] using h4
  have c := Any.slices_Sort_string lays190 g 0 cap (strs xs) w (holds_of_block hh hs) (blk_lt hh) (by rw [strs_length]; omega)
  change Calls Try.prog 34 _ w _ at c
  rw [strs_length] at c
  refine c.mono ?_
  rintro e w' ⟨rfl, n, os, rfl⟩
  refine ⟨rfl, ?_, grownBy_sorted _⟩
  have ho := ownsRow_sorted (w := w) (base := b) (n := n) (os := os) (ss := strs xs) (ts := (strs xs).mergeSort fun x y => decide (x ≤ y)) (List.length_mergeSort _) hg hh (by rw [strs_length]; exact h1) h2 h3
  rw [strs_length] at ho
  refine Kd.R_of_own (enc := Value.string) (h1 := fun _ => rfl) ?_ hok
  rw [sortS_length]
  have e : encs Value.string (sortS xs) = ((strs xs).mergeSort fun x y => decide (x ≤ y)).map encStr := by simp [encs, sortS, encStr]
  rw [e]
  exact ho
theorem infoS9 : (Try.prog.info? 9).map (fun i => (i.zero, i.size, i.bytes)) = some (some (.string ⟨#[]⟩), 1, 16) := by kernel_rfl
theorem b_put {w W w1 : World} {g : Nat} (h : Below w.heap.size w W) (hg : W.grownBy w1 (some g)) (hn : w.heap.size ≤ g) : Below w.heap.size w w1 := h.grown hg h.size (fun k hk => by injection hk with hk; rw [← hk]; exact hn)
theorem R_base_ {α : Type} {d : Kd α} {e base : Nat} {ok : Nat → Prop} {w : World} {v : Value} {xs : List α} (h : d.R e w base ok v xs) : ∀ k, v.ownBlock = some k → base ≤ k := by
  obtain ⟨inner, ho⟩ := Kd.R_own h
  exact fun k hk => own_base ho k hk
theorem C_of_R' {α : Type} {d : Kd α} {e base n c : Nat} {ok : Nat → Prop} {w : World} {A : Option Addr} {xs : List α} (h : d.R e w base ok (.slice A n c) xs) : xs.length ≤ c ∧ n = xs.length ∧ d.C w A xs.length xs := by
  obtain ⟨A', c', he, hl, hr⟩ := Kd.R_reads h
  injection he with h1 h2 h3
  subst h1; subst h2; subst h3
  exact ⟨hl, rfl, hr⟩
/-! ### Maps of any values, by string (by hand) -/
def heldV (v : Value) : Option (DataW Value × List MemPlace) := some (.held v, [])
def MapV (W : World) (b n : Nat) (z : Value) (F : ByteArray → Option Value) : Prop := ∃ D : DataW Value, W.ownsMap Try.prog 9 heldV b n D ∧ ∀ s : ByteArray, s.size ≤ maxLen → Maps.has D (.string s.data.toList) = (F s).isSome ∧ D.atKey (.string s.data.toList) (.held z) = .held ((F s).getD z)
section
variable {W W' : World} {b n : Nat} {z : Value} {F : ByteArray → Option Value} {t e : TypeId}
theorem MapV.kept (h : MapV W b n z F) {row : Option Nat} (hg : W.grownBy W' row) (hne : some b ≠ row) : MapV W' b n z F := by
  obtain ⟨D, h1, h2⟩ := h
  exact ⟨D, h1.kept hg hne, h2⟩
theorem MapV.up (h : MapV W b n z F) (hb : Below W.heap.size W W') : MapV W' b n z F := h.kept (grown_of_below hb none) (by simp)
theorem MapV.lt (h : MapV W b n z F) : b < W.heap.size := by obtain ⟨D, h1, _⟩ := h; exact h1.lt
theorem MapV.made (w : World) (z : Value) : MapV (w.alloc (.map #[] 0)) w.heap.size 0 z (fun _ => none) := ⟨.map [], World.ownsMap_made _ _ _ _, fun _ _ => ⟨rfl, rfl⟩⟩
theorem MapV.look (ht : Try.prog.underlying t = some (.map 9 e)) (hz : ∀ w, (zeroValue e).run Try.prog w = .ok z w) (h : MapV W b n z F) (s : ByteArray) (hs : s.size ≤ maxLen) : (Instr.lookup t (.map (some b)) (.string s) false).run Try.prog W = .ok ((F s).getD z) W := by
  obtain ⟨D, h1, h2⟩ := h
  obtain ⟨v, ps, hr, hv⟩ := h1.lookup (Maps.string_keyed Try.underlying9) ht (hz W) (zd := .held z) (zp := []) rfl (key := .string s) (kl := .string s.data.toList) (WideMaps.keyOf_string_mk Try.underlying9 hs)
  rw [(h2 s hs).2] at hv
  simp only [heldV, Option.some.injEq, Prod.mk.injEq, DataW.held.injEq] at hv
  rw [hr, hv.1]
theorem MapV.lookOk (ht : Try.prog.underlying t = some (.map 9 e)) (hz : ∀ w, (zeroValue e).run Try.prog w = .ok z w) (h : MapV W b n z F) (s : ByteArray) (hs : s.size ≤ maxLen) : (Instr.lookup t (.map (some b)) (.string s) true).run Try.prog W = .ok (.tuple #[(F s).getD z, .bool (F s).isSome]) W := by
  obtain ⟨D, h1, h2⟩ := h
  obtain ⟨v, ps, hr, hv⟩ := h1.look_ok (Maps.string_keyed Try.underlying9) ht (hz W) (zd := .held z) (zp := []) rfl (key := .string s) (kl := .string s.data.toList) (WideMaps.keyOf_string_mk Try.underlying9 hs)
  rw [(h2 s hs).2] at hv
  rw [(h2 s hs).1] at hr
  simp only [heldV, Option.some.injEq, Prod.mk.injEq, DataW.held.injEq] at hv
  rw [hr, hv.1]
theorem MapV.store (ht : Try.prog.underlying t = some (.map 9 e)) (h : MapV W b n z F) (hn : n < maxLen) (s : ByteArray) (hs : s.size ≤ maxLen) (x : Value) :
    ∃ W', (Instr.mapUpdate t (.map (some b)) (.string s) x).run Try.prog W = .ok () W' ∧ MapV W' b (n + 1) z (fun t => if t.toList == s.toList then some x else F t) ∧ W.grownBy W' (some b) := by
  obtain ⟨D, h1, h2⟩ := h
  obtain ⟨W', e1, e2, e3⟩ := h1.update (Maps.string_keyed Try.underlying9) ht hn (key := .string s) (val := x) (kl := .string s.data.toList) (d := .held x) (ps := []) (WideMaps.keyOf_string_mk Try.underlying9 hs) rfl
  refine ⟨W', e1, ⟨_, e2, fun t ht => ?_⟩, e3⟩
  by_cases hts : t.toList = s.toList
  · dsimp only
    rw [if_pos (by simpa using hts), show t.data.toList = s.data.toList by rw [← ByteArray.toList_eq, ← ByteArray.toList_eq, hts], Maps.atKey_put_same h1.isMap (show WideAt.IsKeyLit (.string _) from trivial), Maps.has_put_same h1.isMap (show WideAt.IsKeyLit (.string _) from trivial)]
    exact ⟨rfl, rfl⟩
  · have hne : (Lit.string t.data.toList) ≠ .string s.data.toList := by intro e; injection e with e; exact hts (by rw [ByteArray.toList_eq, ByteArray.toList_eq, e])
    dsimp only
    rw [if_neg (by simpa using hts), Maps.atKey_put_other hne, Maps.has_put_other hne]
    exact h2 t ht
theorem MapV.same {F' : ByteArray → Option Value} (h : MapV W b n z F) (e : ∀ s, F s = F' s) : MapV W b n z F' := by
  rwa [show F' = F from funext fun s => (e s).symm]
end
/-! ### Lives that are due (plain) -/
def knownF (l : List S29) (s : ByteArray) : Option S29 := l.find? fun x => x.f0.toList == s.toList
def isd (a b c p q r : Int) : Bool := (decide (a > 0) && decide (p ≥ a)) || ((decide (b > 0) && decide (q ≥ b)) || (decide (c > 0) && decide (r ≥ c)))
def okL (l : List S29) (i : Nat) : Bool := !(knownF (l.take i) (rd_T29 l (i : Int)).f0).isSome && life6 (rd_T29 l (i : Int)).f0 (rd_T29 l (i : Int)).f1 (rd_T29 l (i : Int)).f2 (rd_T29 l (i : Int)).f3
def seenF (l : List S31) (s : ByteArray) : Bool := l.any fun x => x.f0.toList == s.toList
def okS (l : List S31) (i : Nat) : Bool := !seenF (l.take i) (rd_T31 l (i : Int)).f0 && stay6 (rd_T31 l (i : Int)).f0 (rd_T31 l (i : Int)).f1 (rd_T31 l (i : Int)).f2 (rd_T31 l (i : Int)).f3
def dueB (ls : List S29) (s : S31) : Bool := match knownF ls s.f0 with | none => true | some x => isd x.f1 x.f2 x.f3 s.f1 s.f2 s.f3
def outL (ls : List S29) (ss : List S31) (j : Nat) : List ByteArray := ((ss.take j).filter (dueB ls)).map fun x => x.f0
def dueF (ls : List S29) (ss : List S31) : List ByteArray × Bool :=
  if decide (ls.length ≤ 30) && (decide (ss.length ≤ 30) && ((List.range ls.length).all (okL ls) && (List.range ss.length).all (okS ss))) then (sortS (outL ls ss ss.length), true) else ([], false)
theorem due_big {ls : List S29} {ss : List S31} (h : ¬ (ls.length ≤ 30 ∧ ss.length ≤ 30)) : dueF ls ss = ([], false) := by
  unfold dueF
  rw [if_neg]
  simp only [Bool.and_eq_true, decide_eq_true_eq]
  exact fun e => h ⟨e.1, e.2.1⟩
theorem due_bad1 {ls : List S29} {ss : List S31} {i : Nat} (hi : i < ls.length) (h : okL ls i = false) : dueF ls ss = ([], false) := by
  unfold dueF
  rw [if_neg]
  simp only [Bool.and_eq_true, List.all_eq_true, List.mem_range]
  exact fun e => by have := e.2.2.1 i hi; rw [h] at this; cases this
theorem due_bad2 {ls : List S29} {ss : List S31} {i : Nat} (hi : i < ss.length) (h : okS ss i = false) : dueF ls ss = ([], false) := by
  unfold dueF
  rw [if_neg]
  simp only [Bool.and_eq_true, List.all_eq_true, List.mem_range]
  exact fun e => by have := e.2.2.2 i hi; rw [h] at this; cases this
theorem due_good {ls : List S29} {ss : List S31} (h1 : ls.length ≤ 30) (h2 : ss.length ≤ 30) (hl : ∀ i, i < ls.length → okL ls i = true) (hs : ∀ i, i < ss.length → okS ss i = true) : dueF ls ss = (sortS (outL ls ss ss.length), true) := by
  unfold dueF
  rw [if_pos]
  simp only [Bool.and_eq_true, List.all_eq_true, List.mem_range, decide_eq_true_eq]
  exact ⟨h1, h2, hl, hs⟩
theorem rd_atL {l : List S29} {i : Nat} (h : i < l.length) : rd_T29 l (i : Int) = l[i] := by simp [rd_T29, List.getD_eq_getElem?_getD, h]
theorem rd_atS {l : List S31} {i : Nat} (h : i < l.length) : rd_T31 l (i : Int) = l[i] := by simp [rd_T31, List.getD_eq_getElem?_getD, h]
theorem known_step {l : List S29} {i : Nat} (h : i < l.length) {x : S29} (hx : rd_T29 l (i : Int) = x) (hn : knownF (l.take i) x.f0 = none) (t : ByteArray) : knownF (l.take (i + 1)) t = if t.toList == x.f0.toList then some x else knownF (l.take i) t := by
  unfold knownF at hn ⊢
  rw [rd_atL h] at hx
  rw [List.take_succ_eq_append_getElem h, List.find?_append, hx]
  by_cases e : t.toList = x.f0.toList
  · rw [if_pos (by simpa using e), e, hn]; simp
  · rw [if_neg (by simpa using e)]
    have : List.find? (fun y : S29 => y.f0.toList == t.toList) [x] = none := by simp [Ne.symm e]
    rw [this]; simp
theorem seen_step {l : List S31} {i : Nat} (h : i < l.length) {x : S31} (hx : rd_T31 l (i : Int) = x) (t : ByteArray) : seenF (l.take (i + 1)) t = (seenF (l.take i) t || (t.toList == x.f0.toList)) := by
  unfold seenF
  rw [rd_atS h] at hx
  rw [List.take_succ_eq_append_getElem h, List.any_append, hx]
  simp [Bool.beq_comm]
theorem out_step {ls : List S29} {ss : List S31} {i : Nat} (h : i < ss.length) {x : S31} (hx : rd_T31 ss (i : Int) = x) : outL ls ss (i + 1) = if dueB ls x then outL ls ss i ++ [x.f0] else outL ls ss i := by
  unfold outL
  rw [rd_atS h] at hx
  rw [List.take_succ_eq_append_getElem h, List.filter_append, List.map_append, hx]
  by_cases e : dueB ls x = true
  · rw [if_pos e]; simp [e]
  · rw [if_neg e]; simp [e]
theorem out_len (ls : List S29) (ss : List S31) (i : Nat) : (outL ls ss i).length ≤ ss.length := by
  unfold outL
  rw [List.length_map]
  exact Nat.le_trans (List.length_filter_le _ _) (by rw [List.length_take]; omega)
theorem isDue_ev (a b c p q r : Int) : Ev (fun k => impl_isDue.f k [a, b, c] [p, q, r]) (isd a b c p q r) := by
  unfold impl_isDue.f isd
  refine ev_succ ?_
  simp only [impl_isDue.l0]
  refine ev_succ ?_
  simp only [impl_isDue.l0]
  refine ev_succ ?_
  simp only [impl_isDue.l0]
  refine ev_succ ?_
  simp only [impl_isDue.l0]
  by_cases h1 : a > 0 <;> by_cases h2 : p ≥ a <;> by_cases h3 : b > 0 <;> by_cases h4 : q ≥ b <;> by_cases h5 : c > 0 <;> by_cases h6 : r ≥ c <;> simp [h1, h2, h3, h4, h5, h6, rd, wrap64] <;> exact ev_now _
/-! ### impl.Due6 (by hand) -/
theorem life_t (n : ByteArray) (a b c : Int) (hn : n.size ≤ 140737488355328) (w : World) : Calls Try.prog 29 #[.agg #[.string n, .int .i64 a, .int .i64 b, .int .i64 c]] w fun e w' => e = .returned (.bool (life6 n a b c)) ∧ Below w.heap.size w w' := by
  obtain ⟨k, hk⟩ := (impl_lifeOk_ev n hn a b c).rounds
  exact impl_lifeOk.calls k n a b c _ w hk
theorem stay_t (n : ByteArray) (a b c : Int) (hn : n.size ≤ 140737488355328) (w : World) : Calls Try.prog 30 #[.agg #[.string n, .int .i64 a, .int .i64 b, .int .i64 c]] w fun e w' => e = .returned (.bool (stay6 n a b c)) ∧ Below w.heap.size w w' := by
  obtain ⟨k, hk⟩ := (impl_stayOk_ev n hn a b c).rounds
  exact impl_stayOk.calls k n a b c _ w hk
def encL (x : S29) : Value := .agg #[.string x.f0, .int .i64 x.f1, .int .i64 x.f2, .int .i64 x.f3]
abbrev zL : Value := .agg #[.string ⟨#[]⟩, .int .i64 0, .int .i64 0, .int .i64 0]
theorem zeroL (w : World) : (zeroValue 29).run Try.prog w = .ok zL w := by kernel_rfl
theorem zeroB (w : World) : (zeroValue 4).run Try.prog w = .ok (.bool false) w := by kernel_rfl
abbrev FL (l : List S29) (i : Nat) : ByteArray → Option Value := fun s => (knownF (l.take i) s).map encL
abbrev FS (l : List S31) (i : Nat) : ByteArray → Option Value := fun s => if seenF (l.take i) s = true then some (.bool true) else none
/-- The two maps, and the row of the answer. -/
structure D6 (w W : World) (b1 b2 n1 n2 : Nat) (F1 F2 : ByteArray → Option Value) (v : Value) (out : List ByteArray) : Prop where
  m1 : MapV W b1 n1 zL F1
  m2 : MapV W b2 n2 (.bool false) F2
  r : Kd.R Kd.string 9 W w.heap.size (fun k => k ≠ b1 ∧ k ≠ b2) v out
  nn : v.ownBlock ≠ none
  b : Below w.heap.size w W
  h1 : w.heap.size ≤ b1
  h2 : b1 < b2
section
variable {w W W' : World} {b1 b2 n1 n2 m : Nat} {F1 F2 F : ByteArray → Option Value} {v v' : Value} {out : List ByteArray} {x : ByteArray}
theorem D6.up (h : D6 w W b1 b2 n1 n2 F1 F2 v out) (hb : Below W.heap.size W W') : D6 w W' b1 b2 n1 n2 F1 F2 v out := ⟨h.m1.up hb, h.m2.up hb, Kd.R_below h.r hb, h.nn, below_step h.b hb, h.h1, h.h2⟩
theorem D6.put1 (h : D6 w W b1 b2 n1 n2 F1 F2 v out) (hm : MapV W' b1 m zL F) (hg : W.grownBy W' (some b1)) : D6 w W' b1 b2 m n2 F F2 v out :=
  ⟨hm, h.m2.kept hg (by have := h.h2; intro e; injection e; omega), Kd.R_grown h.r hg (fun k hk e => hk.1 (by injection e)), h.nn, b_put h.b hg h.h1, h.h1, h.h2⟩
theorem D6.put2 (h : D6 w W b1 b2 n1 n2 F1 F2 v out) (hm : MapV W' b2 m (.bool false) F) (hg : W.grownBy W' (some b2)) : D6 w W' b1 b2 n1 m F1 F v out :=
  ⟨h.m1.kept hg (by have := h.h2; intro e; injection e; omega), hm, Kd.R_grown h.r hg (fun k hk e => hk.2 (by injection e)), h.nn, b_put h.b hg (by have := h.h1; have := h.h2; omega), h.h1, h.h2⟩
theorem D6.app (h : D6 w W b1 b2 n1 n2 F1 F2 v out) (hr : Kd.R Kd.string 9 W' w.heap.size (fun k => k ≠ b1 ∧ k ≠ b2) v' (out ++ [x])) (hb : Below w.heap.size w W') (hg : W.grownBy W' v.ownBlock) (hat : v'.ownBlock = v.ownBlock ∨ ∃ b, v'.ownBlock = some b ∧ W.heap.size ≤ b) : D6 w W' b1 b2 n1 n2 F1 F2 v' (out ++ [x]) :=
  ⟨h.m1.kept hg (fun e => (h.r.1 _ e.symm).1 rfl), h.m2.kept hg (fun e => (h.r.1 _ e.symm).2 rfl), hr, by rcases hat with e | ⟨b, e, _⟩; rw [e]; exact h.nn; rw [e]; simp, hb, h.h1, h.h2⟩
end
theorem ck4' {w : World} {g : Nat} {t : TypeId} {v0 v1 v2 v3 : Value} (h : w.heap[g]? = some (.cells #[v0, v1, v2, v3] t (0, 0))) : w.cell? ⟨g, 0, none⟩ = some v0 ∧ w.cell? ⟨g, 1, none⟩ = some v1 ∧ w.cell? ⟨g, 2, none⟩ = some v2 ∧ w.cell? ⟨g, 3, none⟩ = some v3 := ⟨ck h 0 rfl, ck h 1 rfl, ck h 2 rfl, ck h 3 rfl⟩
set_option maxHeartbeats 16000000 in
set_option maxRecDepth 100000 in
theorem idue_t (A0 : Option Addr) (c0 : Nat) (ls : List S29) (A1 : Option Addr) (c1 : Nat) (ss : List S31) (w : World) (hr0 : Kd.C k29 w A0 ls.length ls) (hc0 : ls.length ≤ c0) (hr1 : Kd.C k31 w A1 ss.length ss) (hc1 : ss.length ≤ c1)
    (hz0 : ∀ x ∈ ls, x.f0.size ≤ 140737488355328) (hz1 : ∀ x ∈ ss, x.f0.size ≤ 140737488355328) :
    Calls Try.prog 14 #[.slice A0 ls.length c0, .slice A1 ss.length c1] w fun e w' => ∃ v : Value, e = .returned (.tuple #[v, .bool (dueF ls ss).2]) ∧ Kd.R Kd.string 9 w' w.heap.size (fun _ => True) v (dueF ls ss).1 ∧ Below w.heap.size w w' := by
  have hu1 := Try.underlying29
  have hu2 := Try.underlying31
  have HCL := Aside0.mk hr0
  have HCS := Aside0.mk hr1
  have HZL := Aside0.mk hz0
  have HZS := Aside0.mk hz1
  clear hr0 hr1 hz0 hz1
  by_cases hbig : ¬ (ls.length ≤ 30 ∧ ss.length ≤ 30)
  · have HE := Aside0.mk (due_big hbig)
    by_cases h1 : (ls.length : Int) > 30
    · clear hbig
      go_enter Try.func14, Try.ntmps14
      go_wp2
      go_ret2
      exact ⟨_, by rw [HE.out]; rfl, by rw [HE.out]; exact Kd.R_nil _ _ _ _ _, Below.refl _ _⟩
    · have h2 : (ss.length : Int) > 30 := by omega
      clear hbig
      go_enter Try.func14, Try.ntmps14
      go_wp2
      go_ret2
      exact ⟨_, by rw [HE.out]; rfl, by rw [HE.out]; exact Kd.R_nil _ _ _ _ _, Below.refl _ _⟩
  have hbig : ls.length ≤ 30 ∧ ss.length ≤ 30 := Classical.not_not.1 hbig
  have h1 : ¬ (ls.length : Int) > 30 := by omega
  have h2 : ¬ (ss.length : Int) > 30 := by omega
  have HBG := Aside0.mk hbig
  clear hbig
  have hmm := @run_makeMap Try.prog
  go_enter Try.func14, Try.ntmps14
  go_upto_region 4 with (first | ((with_reducible refine gate_dst (N := 27) rfl ?_); refine Kd.R_lit Kd.string _ 9 ?hg (N := 27) ?hd (xs := ([] : List ByteArray)) (inner := []) (ok := fun _ => True) (okp := fun _ => True) ?hr ?hp (fun _ hk => hk) trivial (Below.refl _ _) (Nat.le_refl _) (by simp) ?_; (case hd => rfl); (case hg => rfl); (case hr => first | (go_simp; done) | (go_simp; rfl)); (case hp => exact (Reps.none _ _)); intro v3 w6 ho hb6 hg_ hnew_))
  have q1 := MapV.made w zL
  have q2 := MapV.made (w.alloc (.map #[] 0)) (.bool false)
  have q3 := below_alloc (Below.refl w.heap.size w) (.map #[] 0)
  have q4 := below_alloc (Below.refl (w.alloc (.map #[] 0)).heap.size (w.alloc (.map #[] 0))) (.map #[] 0)
  have q5 := below_alloc q3 (.map #[] 0)
  rw [World.size_alloc] at q2
  have HD := Aside0.mk (show D6 w w6 w.heap.size (w.heap.size + 1) 0 0 (fun _ => none) (fun _ => none) v3 [] from ⟨(q1.up q4).up hb6, q2.up hb6, Kd.R_lower (Kd.R_mono (Kd.R_bound ho) (fun k hk => ⟨by have := hk.2.1; rw [World.size_alloc, World.size_alloc] at this; omega, by have := hk.2.1; rw [World.size_alloc, World.size_alloc] at this; omega⟩)) q5.size, (by obtain ⟨g, e, _⟩ := hnew_; rw [e]; simp), below_step q5 hb6, Nat.le_refl _, by omega⟩)
  clear q1 q2 q3 q4 q5 ho hb6 hg_ hnew_ hmm
  generalize hb1 : w.heap.size + 1 = b2 at HD ⊢
  clear hb1
  obtain ⟨b1, hb1⟩ : ∃ b, b = w.heap.size := ⟨_, rfl⟩
  replace HD := Aside0.mk (show D6 w w6 b1 b2 0 0 (FL ls 0) (FS ss 0) v3 [] by rw [hb1]; exact HD.out)
  rw [← hb1]
  clear hb1
  go_wp2
  go_loopw [30] (fun v30 wr => ∃ i : Nat, i ≤ ls.length ∧ v30 = .int .i64 i ∧ Aside0 (∀ j, j < i → okL ls j = true) ∧ Aside0 (D6 w wr b1 b2 i 0 (FL ls i) (FS ss 0) v3 [])) (fun v30 _ => ls.length - (intOf v30).toNat)
  case atStart => exact ⟨0, Nat.zero_le _, rfl, ⟨fun j hj => absurd hj (Nat.not_lt_zero j)⟩, HD⟩
  case round =>
    clear HD
    obtain ⟨i, hi, rfl, HO, HD⟩ := hrel
    by_cases hlt : i < ls.length
    · obtain ⟨ad, e0, hx0, hx1, hx2, hx3⟩ := at_T29 (Kd.C_below HCL.out HD.out.b) (i : Int) (by omega) (by omega)
      cases e0
      simp only [Int.toNat_natCast] at hx0 hx1 hx2 hx3
      have hsz := HZL.out _ (List.getElem_mem hlt)
      rw [← rd_atL hlt] at hsz
      obtain ⟨⟨p, a, b, c⟩, hX⟩ : ∃ X, rd_T29 ls (i : Int) = X := ⟨_, rfl⟩
      rw [hX] at hx0 hx1 hx2 hx3 hsz
      dsimp only at hx0 hx1 hx2 hx3 hsz
      have HX := Aside0.mk hX
      have HSZ := Aside0.mk (show p.size ≤ maxLen from Nat.le_trans hsz (by decide))
      have hok : okL ls i = (!(knownF (ls.take i) p).isSome && life6 p a b c) := by unfold okL; rw [hX]
      go_upto_region 7 with (fail)
      refine world_ (fun W => W.heap[wr.heap.size]? = some (.cells #[.string p, .int .i64 a, .int .i64 b, .int .i64 c] 29 (0, 0)) ∧ Below wr.heap.size wr W) ⟨blk_new wr _, below_alloc (Below.refl wr.heap.size wr) _⟩ ?_
      clear hx0 hx1 hx2 hx3 hX
      rintro W ⟨hBX, hW⟩
      have BX := Aside0.mk hBX
      have HW := Aside0.mk hW
      clear hBX hW
      have hlk := ((HD.out.up HW.out).m1).lookOk Try.underlying59 zeroL p HSZ.out
      obtain ⟨y0, y1, y2, y3⟩ := ck4' BX.out
      cases hk : knownF (ls.take i) p with
      | some y =>
        have HE := Aside0.mk (due_bad1 (ss := ss) hlt (by rw [hok, hk]; rfl))
        simp only [FL, hk, Option.map_some, Option.getD_some, Option.isSome_some, encL] at hlk
        clear hk hok
        go_wp2
        go_ret2
        exact ⟨_, by rw [HE.out]; rfl, by rw [HE.out]; exact Kd.R_nil _ _ _ _ _, below_alloc (below_step HD.out.b HW.out) _⟩
      | none =>
        simp only [FL, hk, Option.map_none, Option.getD_none, Option.isSome_none] at hlk
        go_upto_region 8 with (fail)
        clear y0 y1 y2 y3 hlk
        refine world_ (fun W8 => Below W.heap.size W W8) (below_alloc (Below.refl _ _) _) ?_
        rintro W8 h8
        have H8 := Aside0.mk h8
        clear h8
        obtain ⟨y0, y1, y2, y3⟩ := ck4' (blk_below BX.out H8.out)
        cases hf : life6 p a b c with
        | false =>
          have HE := Aside0.mk (due_bad1 (ss := ss) hlt (by rw [hok, hk, hf]; rfl))
          have KF := Aside0.mk (fun w' => kb_ (life_t p a b c hsz w') hf)
          clear hk hok hf
          go_wp2_with (first | (go_at_call 29; (with_reducible refine (KF.out _).mono ?_); rintro e w5 ⟨rfl, hb5⟩))
          go_ret2
          exact ⟨_, by rw [HE.out]; rfl, by rw [HE.out]; exact Kd.R_nil _ _ _ _ _, below_step (below_step (below_step HD.out.b HW.out) H8.out) hb5⟩
        | true =>
          have HK := Aside0.mk (show okL ls i = true by rw [hok, hk, hf]; rfl)
          have HKN := Aside0.mk hk
          have KF := Aside0.mk (fun w' => kb_ (life_t p a b c hsz w') hf)
          clear hk hok hf
          go_upto_region 10 with (first | (go_at_call 29; (with_reducible refine (KF.out _).mono ?_); rintro e w5 ⟨rfl, hb5⟩))
          have h5 := below_step (below_step HW.out H8.out) hb5
          have HD2 := Aside0.mk (HD.out.up h5)
          have BX2 := Aside0.mk (blk_below BX.out (below_step H8.out hb5))
          clear h5 hb5 y0 y1 y2 y3 KF H8
          obtain ⟨y0, y1, y2, y3⟩ := ck4' BX2.out
          obtain ⟨W', hst, hm, hg⟩ := HD2.out.m1.store Try.underlying59 (Nat.lt_of_lt_of_le (show i < 31 by omega) (by decide)) p HSZ.out (.agg #[.string p, .int .i64 a, .int .i64 b, .int .i64 c])
          have HD3 := Aside0.mk (HD2.out.put1 (hm.same (F' := FL ls (i + 1)) (fun t => by simp only [FL]; rw [known_step hlt HX.out HKN.out t]; split <;> rfl)) hg)
          clear hm hg HD2 HD BX2 BX
          go_wp2
          go_roundw
          case measure => simp [intOf]; omega
          case rel => exact ⟨i + 1, by omega, by go_num, ⟨fun j hj => by rcases Nat.lt_or_eq_of_le (Nat.lt_succ_iff.1 hj) with h | rfl; exact HO.out j h; exact HK.out⟩, HD3⟩
    · obtain rfl : i = ls.length := by omega
      go_wp2
      go_loopw [8, 54] (fun v8 v54 wr => ∃ i : Nat, i ≤ ss.length ∧ v54 = .int .i64 i ∧ Aside0 (∀ j, j < i → okS ss j = true) ∧ Aside0 (D6 w wr b1 b2 ls.length i (FL ls ls.length) (FS ss i) v8 (outL ls ss i))) (fun _ v54 _ => ss.length - (intOf v54).toNat)
      case atStart => exact ⟨0, Nat.zero_le _, rfl, ⟨fun j hj => absurd hj (Nat.not_lt_zero j)⟩, HD⟩
      case round =>
        clear HD hi hlt
        obtain ⟨i, hi, rfl, HOS, HD⟩ := hrel
        by_cases hlt : i < ss.length
        · obtain ⟨ad, e0, hx0, hx1, hx2, hx3⟩ := at_T31 (Kd.C_below HCS.out HD.out.b) (i : Int) (by omega) (by omega)
          cases e0
          simp only [Int.toNat_natCast] at hx0 hx1 hx2 hx3
          have hsz := HZS.out _ (List.getElem_mem hlt)
          rw [← rd_atS hlt] at hsz
          obtain ⟨⟨p, a, b, c⟩, hX⟩ : ∃ X, rd_T31 ss (i : Int) = X := ⟨_, rfl⟩
          rw [hX] at hx0 hx1 hx2 hx3 hsz
          dsimp only at hx0 hx1 hx2 hx3 hsz
          have HX := Aside0.mk hX
          have HSZ := Aside0.mk (show p.size ≤ maxLen from Nat.le_trans hsz (by decide))
          have hok : okS ss i = (!seenF (ss.take i) p && stay6 p a b c) := by unfold okS; rw [hX]
          go_upto_region 15 with (fail)
          refine world_ (fun W => W.heap[wr.heap.size]? = some (.cells #[.string p, .int .i64 a, .int .i64 b, .int .i64 c] 31 (0, 0)) ∧ Below wr.heap.size wr W) ⟨blk_new wr _, below_alloc (Below.refl wr.heap.size wr) _⟩ ?_
          clear hx0 hx1 hx2 hx3 hX
          rintro W ⟨hBX, hW⟩
          have BX := Aside0.mk hBX
          have HW := Aside0.mk hW
          clear hBX hW
          have hlk := ((HD.out.up HW.out).m2).look Try.underlying60 zeroB p HSZ.out
          obtain ⟨y0, y1, y2, y3⟩ := ck4' BX.out
          cases hk : seenF (ss.take i) p with
          | true =>
            have HE := Aside0.mk (due_bad2 (ls := ls) hlt (by rw [hok, hk]; rfl))
            simp only [FS, hk, if_true, Option.getD_some] at hlk
            clear hk hok
            go_wp2
            go_ret2
            exact ⟨_, by rw [HE.out]; rfl, by rw [HE.out]; exact Kd.R_nil _ _ _ _ _, below_step HD.out.b HW.out⟩
          | false =>
            simp only [FS, hk, Bool.false_eq_true, if_false, Option.getD_none] at hlk
            cases hf : stay6 p a b c with
            | false =>
              have HE := Aside0.mk (due_bad2 (ls := ls) hlt (by rw [hok, hk, hf]; rfl))
              have KF := Aside0.mk (fun w' => kb_ (stay_t p a b c hsz w') hf)
              clear hk hok hf
              go_wp2_with (first | (go_at_call 30; (with_reducible refine (KF.out _).mono ?_); rintro e w5 ⟨rfl, hb5⟩))
              go_ret2
              exact ⟨_, by rw [HE.out]; rfl, by rw [HE.out]; exact Kd.R_nil _ _ _ _ _, below_step (below_step HD.out.b HW.out) hb5⟩
            | true =>
              have HK := Aside0.mk (show okS ss i = true by rw [hok, hk, hf]; rfl)
              have KF := Aside0.mk (fun w' => kb_ (stay_t p a b c hsz w') hf)
              clear hk hok hf
              go_upto_region 17 with (first | (go_at_call 30; (with_reducible refine (KF.out _).mono ?_); rintro e w5 ⟨rfl, hb5⟩))
              have HD2 := Aside0.mk (HD.out.up (below_step HW.out hb5))
              have BX2 := Aside0.mk (blk_below BX.out hb5)
              clear hb5 hlk y0 y1 y2 y3 KF
              obtain ⟨y0, y1, y2, y3⟩ := ck4' BX2.out
              obtain ⟨W', hst, hm, hg⟩ := HD2.out.m2.store Try.underlying60 (Nat.lt_of_lt_of_le (show i < 31 by omega) (by decide)) p HSZ.out (.bool true)
              have HD3 := Aside0.mk (HD2.out.put2 (hm.same (F' := FS ss (i + 1)) (fun t => by simp only [FS, seen_step hlt HX.out t]; cases seenF (ss.take i) t <;> cases (t.toList == p.toList) <;> rfl)) hg)
              have BX3 := Aside0.mk (blk_grown BX2.out hg (by have := HD2.out.m2.lt; have := HD.out.m2.lt; intro e; injection e; omega))
              clear hm hg HD2 BX2 BX
              go_upto_region 18 with (fail)
              clear y0 y1 y2 y3 hst
              obtain ⟨y0, y1, y2, y3⟩ := ck4' BX3.out
              have hlk := HD3.out.m1.lookOk Try.underlying59 zeroL p HSZ.out
              have hout := out_step (ls := ls) hlt HX.out
              cases hk : knownF ls p with
              | none =>
                have hd : dueB ls ⟨p, a, b, c⟩ = true := by unfold dueB; dsimp only; rw [hk]
                rw [if_pos hd] at hout
                have HOUT := Aside0.mk hout
                simp only [FL, List.take_length, hk, Option.map_none, Option.getD_none, Option.isSome_none] at hlk
                clear hk hd hout
                go_upto_region 19 with (fail)
                clear y0 y1 y2 y3 hlk
                refine world_ (fun W => Below W'.heap.size W' W) (below_alloc (Below.refl _ _) _) ?_
                rintro W5 h5
                have H5 := Aside0.mk h5
                clear h5
                have L := Aside0.mk (fun w' (h : Up W5 w') => trivial)
                refine rg_ (by kernel_rfl) (by kernel_rfl) ?_
                (repeat (first | refine qn_ ?_ | refine ql_ L.out ?_))
                refine qd_ ?_
                intro w6 hb6
                have HD4 := Aside0.mk (HD3.out.up (below_step H5.out hb6))
                have BX4 := Aside0.mk (blk_below BX3.out (below_step H5.out hb6))
                clear HD3 BX3 hb6 H5 L
                obtain ⟨y0, y1, y2, y3⟩ := ck4' BX4.out
                have hol := out_len ls ss i
                go_wp2_with (first | ((with_reducible refine gate_dst (N := 90) rfl ?_); refine Kd.R_append Kd.string (w0 := w) w.heap.size rfl (.tmp 86) (.tmp 89) 37 9 (.string ⟨#[]⟩) 16 rfl Try.underlying37 infoS9 rfl (by decide) (by omega) u8 (outL ls ss i) p [.string p] (fun k => k ≠ b1 ∧ k ≠ b2) (fun _ => False) rfl rfl ?aP (fun _ hk => hk.elim) ?aF ?aO ?aB ?aS ?aL ?_; (case aP => exact rfl); (case aF => exact fun k hk => ⟨by have := HD4.out.m1.lt; omega, by have := HD4.out.m2.lt; omega⟩); (case aO => exact HD4.out.r); (case aB => exact HD4.out.b); (case aS => exact HD4.out.b.size); (case aL => omega); intro v8 w3 ho hb hg hat))
                go_roundw
                case measure => simp [intOf]; omega
                case rel => exact ⟨i + 1, by omega, by go_num, ⟨fun j hj => by rcases Nat.lt_or_eq_of_le (Nat.lt_succ_iff.1 hj) with h | rfl; exact HOS.out j h; exact HK.out⟩, ⟨by rw [HOUT.out]; exact HD4.out.app ho hb hg hat⟩⟩
              | some y =>
                have hd : dueB ls ⟨p, a, b, c⟩ = isd y.f1 y.f2 y.f3 a b c := by unfold dueB; dsimp only; rw [hk]
                rw [hd] at hout
                have HOUT := Aside0.mk hout
                simp only [FL, List.take_length, hk, Option.map_some, Option.getD_some, Option.isSome_some, encL] at hlk
                obtain ⟨y0_, ya, yb, yc⟩ := y
                dsimp only at hlk HOUT
                obtain ⟨kd, hkd⟩ := (isDue_ev ya yb yc a b c).rounds
                have KI := Aside0.mk hkd
                clear hk hd hout hkd
                go_upto_region 19 with (fail)
                clear y0 y1 y2 y3 hlk
                refine world_ (fun W => W.heap[W'.heap.size]? = some (.cells #[.string y0_, .int .i64 ya, .int .i64 yb, .int .i64 yc] 29 (0, 0)) ∧ Below W'.heap.size W' W) ⟨blk_new W' _, below_alloc (Below.refl _ _) _⟩ ?_
                rintro W5 ⟨hBY, h5⟩
                have H5 := Aside0.mk h5
                have LL := Aside0.mk (fun w' (h : Up W5 w') => And.intro (ck4' (blk_below hBY h)) (ck4' (blk_below BX3.out (below_step h5 h))))
                clear h5 hBY
                refine start_ (n := 9) (S := Up W5) (ds := []) #[false, false, false, false, false, false, false, false, false] (by kernel_rfl) rfl rfl (below_drew (Below.refl _ _)) (fun hS => ?_)
                generalize W5.drew = W1 at hS ⊢
                refine ra_ 0 77 #[true, false, false, false, false, false, false, false, false] ?_
                refine ra_ 1 78 #[true, true, false, false, false, false, false, false, false] ?_
                refine ra_ 2 79 #[true, true, true, false, false, false, false, false, false] ?_
                refine rt_ LL.out hS 3 80 #[true, true, true, true, false, false, false, false, false] ?_
                refine rt_ LL.out hS 5 82 #[true, true, true, true, false, true, false, false, false] ?_
                refine one_ (i := 4) (N := some 81) #[true, true, true, true, true, true, false, false, false] rfl rfl (by kernel_rfl) (by decide) (fun K hK => ?_)
                refine goes_ Try.func31 rfl rfl #[.agg #[.string y0_, .int .i64 ya, .int .i64 yb, .int .i64 yc]] (by rfl) rfl rfl (by (try simp only [am_]); first | done | rfl) ((impl_Life_numbers.calls y0_ ya yb yc _ _ rfl).mono ?_)
                rintro e w9 ⟨v, rfl, hX, hbX⟩
                obtain ⟨X, x, rfl⟩ := Kd.R_slice hX
                have hS0 := hS
                refine ⟨_, rfl, hK.out _ _ (below_step hS hbX) (fun hS => ?_)⟩
                clear hK K
                refine rn_ ?_
                refine one_ (i := 6) (N := some 83) #[true, true, true, true, true, true, true, false, false] rfl rfl (by kernel_rfl) (by decide) (fun K hK => ?_)
                refine goes_ Try.func32 rfl rfl #[.agg #[.string p, .int .i64 a, .int .i64 b, .int .i64 c]] (by rfl) rfl rfl (by (try simp only [am_]); first | done | rfl) ((impl_Stay_numbers.calls p a b c _ _ rfl).mono ?_)
                rintro e w9 ⟨v, rfl, hY, hbY⟩
                obtain ⟨Y, y, rfl⟩ := Kd.R_slice hY
                have hS1 := hS
                refine ⟨_, rfl, hK.out _ _ (below_step hS hbY) (fun hS => ?_)⟩
                clear hK K
                refine rn_ ?_
                replace hX := Kd.R_below hX hbY
                obtain ⟨x1, -, x3⟩ := C_of_R' hX
                obtain ⟨y1, -, y3⟩ := C_of_R' hY
                refine one_ (i := 7) (N := some 84) #[true, true, true, true, true, true, true, true, false] rfl rfl (by kernel_rfl) (by decide) (fun K hK => ?_)
                refine goes_ Try.func33 rfl rfl #[.slice X 3 x, .slice Y 3 y] (by rfl) rfl rfl (by (try simp only [am_]); first | done | rfl) ((impl_isDue.calls kd X x [ya, yb, yc] Y y [a, b, c] _ _ x3 x1 y3 y1 KI.out).mono ?_)
                rintro e w8 ⟨rfl, hdr⟩
                refine ⟨_, rfl, hK.out _ _ (below_step hS hdr.below) (fun hS5 => ?_)⟩
                clear hK K
                refine rn_ ?_
                refine ra_ 8 85 #[true, true, true, true, true, true, true, true, true] ?_
                refine done_ (by kernel_rfl) ?_
                have HD4 := Aside0.mk (HD3.out.up (below_step H5.out hS5))
                have BX4 := Aside0.mk (blk_below BX3.out (below_step H5.out hS5))
                clear HD3 BX3 H5 LL hX hY x1 x3 y1 y3 hdr hS hS5
                cases hd : isd ya yb yc a b c with
                | true =>
                  rw [hd, if_pos rfl] at HOUT
                  clear hd
                  obtain ⟨y0, y1, y2, y3⟩ := ck4' BX4.out
                  have hol := out_len ls ss i
                  go_wp2_with (first | ((with_reducible refine gate_dst (N := 90) rfl ?_); refine Kd.R_append Kd.string (w0 := w) w.heap.size rfl (.tmp 86) (.tmp 89) 37 9 (.string ⟨#[]⟩) 16 rfl Try.underlying37 infoS9 rfl (by decide) (by omega) u8 (outL ls ss i) p [.string p] (fun k => k ≠ b1 ∧ k ≠ b2) (fun _ => False) rfl rfl ?aP (fun _ hk => hk.elim) ?aF ?aO ?aB ?aS ?aL ?_; (case aP => exact rfl); (case aF => exact fun k hk => ⟨by have := HD4.out.m1.lt; omega, by have := HD4.out.m2.lt; omega⟩); (case aO => exact HD4.out.r); (case aB => exact HD4.out.b); (case aS => exact HD4.out.b.size); (case aL => omega); intro v8 w3 ho hb hg hat))
                  go_roundw
                  case measure => simp [intOf]; omega
                  case rel => exact ⟨i + 1, by omega, by go_num, ⟨fun j hj => by rcases Nat.lt_or_eq_of_le (Nat.lt_succ_iff.1 hj) with h | rfl; exact HOS.out j h; exact HK.out⟩, ⟨by rw [HOUT.out]; exact HD4.out.app ho hb hg hat⟩⟩
                | false =>
                  rw [hd, if_neg (by simp)] at HOUT
                  clear hd
                  go_wp2
                  go_roundw
                  case measure => simp [intOf]; omega
                  case rel => exact ⟨i + 1, by omega, by go_num, ⟨fun j hj => by rcases Nat.lt_or_eq_of_le (Nat.lt_succ_iff.1 hj) with h | rfl; exact HOS.out j h; exact HK.out⟩, ⟨by rw [HOUT.out]; exact HD4.out⟩⟩
        · obtain rfl : i = ss.length := by omega
          have HE := Aside0.mk (due_good HBG.out.1 HBG.out.2 HO.out HOS.out)
          have KS := Aside0.mk (sort_t HD.out.r HD.out.nn (by have := out_len ls ss ss.length; omega))
          go_wp2_with (first | (go_at_call 34; (with_reducible refine KS.out.mono ?_); rintro e w5 ⟨rfl, hS, hg⟩))
          go_ret2
          exact ⟨_, by rw [HE.out]; rfl, by rw [HE.out]; exact Kd.R_mono hS (fun _ _ => trivial), HD.out.b.grown hg HD.out.b.size (fun k hk => R_base_ HD.out.r k hk)⟩

def impl_Due6.f (l0 : List S29) (l1 : List S31) : Option (List ByteArray × Bool) := if (l0.all (fun x => decide (x.f0.size ≤ 140737488355328)) && l1.all (fun x => decide (x.f0.size ≤ 140737488355328))) = true then some (dueF l0 l1) else none
theorem impl_Due6.calls (A0 : Option Addr) (c0 : Nat) (l0 : List (S29)) (A1 : Option Addr) (c1 : Nat) (l1 : List (S31)) (r1 : List ByteArray) (r2 : Bool) (w : World) (hr0 : Kd.C k29 w A0 l0.length l0) (hc0 : l0.length ≤ c0) (hr1 : Kd.C k31 w A1 l1.length l1) (hc1 : l1.length ≤ c1) (h : impl_Due6.f l0 l1 = some (r1, r2)) :
    Calls Try.prog 14 #[.slice A0 l0.length c0, .slice A1 l1.length c1] w fun e w' => ∃ v0_ : Value, e = .returned (.tuple #[v0_, .bool r2]) ∧ Kd.R Kd.string 9 w' w.heap.size (fun _ => True) v0_ r1 ∧ Below w.heap.size w w' := by
  unfold impl_Due6.f at h
  split at h
  · rename_i hz
    simp only [Bool.and_eq_true, List.all_eq_true, decide_eq_true_eq] at hz
    have e := Option.some.inj h
    have c := idue_t A0 c0 l0 A1 c1 l1 w hr0 hc0 hr1 hc1 hz.1 hz.2
    rw [e] at c
    exact c
  · cases h
-- HAND TO

/-! ### laws_szLife: function 6 -/
def laws_szLife.f (a0_0 : ByteArray) (a0_1 : Int) (a0_2 : Int) (a0_3 : Int) (a1 : Int) : Option (Int) := if (wrap64 (a1 - (a0_0.size : Int))) < 0 then (some (-1)) else (some (wrap64 (a1 - (a0_0.size : Int))))
set_option maxHeartbeats 8000000 in
set_option maxRecDepth 100000 in
theorem laws_szLife.calls (a0_0 : ByteArray) (a0_1 : Int) (a0_2 : Int) (a0_3 : Int) (a1 : Int) (r : Int) (w : World) (h : laws_szLife.f a0_0 a0_1 a0_2 a0_3 a1 = some r) :
  Calls Try.prog 6 #[.agg #[.string a0_0, .int .i64 a0_1, .int .i64 a0_2, .int .i64 a0_3], .int .i64 a1] w fun e w' => e = .returned (.int .i64 r) ∧ Below w.heap.size w w' := by
 have hu23 := Try.underlying23
 have HB := Aside0.mk (Below.refl w.heap.size w)
 have H : (if (wrap64 (a1 - (a0_0.size : Int))) < 0 then (some (-1)) else (some (wrap64 (a1 - (a0_0.size : Int))))) = some r := h
 clear h
 have HC3 := Aside0.mk H
 clear H
 go_enter Try.func6, Try.ntmps6
 go_upto_if 11 with (first | ((with_reducible refine gate_dst (N := 2) rfl ?_); refine box_event ?hg (N := 2) ?hd (cs := #[.string a0_0, .int .i64 a0_1, .int .i64 a0_2, .int .i64 a0_3]) (t := 23) ?hr ?_; (case hd => rfl); (case hg => rfl); (case hr => first | (go_simp; done) | (go_simp; rfl)); intro gb126 hg w4 hbox hb; have BK126 := Aside0.mk (hbox); have GW126 := Aside0.mk ((by rw [hg]; exact (below_size (bl HB.out)) : w.heap.size ≤ gb126)); have GE126 := GW126; replace HB := Aside0.mk (below_step (bl HB.out) hb); clear hb hbox hg; obtain ⟨hcz5_0, hcz5_1, hcz5_2, hcz5_3⟩ := ck4 BK126.out; obtain ⟨hfz5_0, hfz5_1, hfz5_2, hfz5_3⟩ := fz4 BK126.out))
 have H := HC3.out
 clear HC3
 by_cases c6 : (wrap64 (a1 - (a0_0.size : Int))) < 0
 ·
  rw [if_pos c6] at H
  have c6b0 : decide ((wrap64 (a1 - (a0_0.size : Int))) < 0) = true := decide_eq_true c6
  clear c6
  (first | rw [c6b0] | (simp only [i64_w, i32_w]; rw [c6b0]) | skip)
  obtain rfl := Option.some.inj H
  go_wp2
  go_ret
  exact ⟨by first | rfl | (simp [errW_none, errW_some] <;> rfl) | (simp [*, errW_none, errW_some] <;> rfl), by repeat with_reducible first | exact bl HB.out | refine below_set ?_ GE126.out | refine bq ?_⟩
 ·
  rw [if_neg c6] at H
  have c6b0 : decide ((wrap64 (a1 - (a0_0.size : Int))) < 0) = false := decide_eq_false c6
  clear c6
  (first | rw [c6b0] | (simp only [i64_w, i32_w]; rw [c6b0]) | skip)
  obtain rfl := Option.some.inj H
  go_wp2
  go_ret
  exact ⟨by first | rfl | (simp [errW_none, errW_some] <;> rfl) | (simp [*, errW_none, errW_some] <;> rfl), by repeat with_reducible first | exact bl HB.out | refine below_set ?_ GE126.out | refine bq ?_⟩

/-! ### laws_szLifeS: function 15 -/
def laws_szLifeS.l0 : Nat → List (S23) → Int → Int → Option (Int)
 | 0, _, _, _ => none
 | k + 1, x0, x1, x5 => if x5 < (x0.length : Int) then (if 0 ≤ x5 then ((laws_szLife.f ((rd_T23 x0 x5).f0) ((rd_T23 x0 x5).f1) ((rd_T23 x0 x5).f2) ((rd_T23 x0 x5).f3) x1).bind fun t128 => (if t128 < 0 then (some (-1)) else (laws_szLifeS.l0 k x0 t128 (wrap64 (x5 + 1))))) else (none)) else (some x1)
def laws_szLifeS.f (k : Nat) (l0 : List (S23)) (a1 : Int) : Option (Int) := if (wrap64 (a1 - (l0.length : Int))) < 0 then (some (-1)) else (laws_szLifeS.l0 k l0 (wrap64 (a1 - (l0.length : Int))) 0)
theorem laws_szLifeS.mono_l : ∀ k, (∀ y0 y1 y2, LeO (laws_szLifeS.l0 k y0 y1 y2) (laws_szLifeS.l0 (k + 1) y0 y1 y2))
 | 0 => fun _ _ _ r h => by simp [laws_szLifeS.l0] at h
 | k + 1 => by
  have ih0 := laws_szLifeS.mono_l k
  ·
   intro y0 y1 y2
   unfold laws_szLifeS.l0
   repeat' first
   | (with_reducible exact ih0 _ _ _)
   | (with_reducible exact LeO.refl _)
   | (with_reducible exact LeO.none _)
   | (with_reducible refine LeO.ite ?_ ?_)
   | (with_reducible refine LeO.bind ?_ (fun _ => ?_))
   | exact ih0 _ _ _
   | exact LeO.none _
   | refine LeO.ite ?_ ?_
   | refine LeO.bind ?_ (fun _ => ?_)
theorem laws_szLifeS.mono : ∀ a0 a1 k, LeO (laws_szLifeS.f k a0 a1) (laws_szLifeS.f (k + 1) a0 a1) := by
 intro a0 a1 k
 have ih0 := laws_szLifeS.mono_l k
 unfold laws_szLifeS.f
 repeat' first
   | (with_reducible exact ih0 _ _ _)
   | (with_reducible exact LeO.refl _)
   | (with_reducible exact LeO.none _)
   | (with_reducible refine LeO.ite ?_ ?_)
   | (with_reducible refine LeO.bind ?_ (fun _ => ?_))
   | exact ih0 _ _ _
   | exact LeO.none _
   | refine LeO.ite ?_ ?_
   | refine LeO.bind ?_ (fun _ => ?_)
set_option maxHeartbeats 8000000 in
set_option maxRecDepth 100000 in
theorem laws_szLifeS.calls (k : Nat) (A0 : Option Addr) (c0 : Nat) (l0 : List (S23)) (a1 : Int) (r : Int) (w : World) (hr0 : Kd.C k23 w A0 l0.length l0) (hc0 : l0.length ≤ c0) (h : laws_szLifeS.f k l0 a1 = some r) :
  Calls Try.prog 15 #[.slice A0 l0.length c0, .int .i64 a1] w fun e w' => e = .returned (.int .i64 r) ∧ Below w.heap.size w w' := by
 have hu23 := Try.underlying23
 have HR0 := Aside0.mk hr0
 have HC0 := Aside0.mk hc0
 clear hr0 hc0
 have HB := Aside0.mk (Below.refl w.heap.size w)
 have H : (if (wrap64 (a1 - (l0.length : Int))) < 0 then (some (-1)) else (laws_szLifeS.l0 k l0 (wrap64 (a1 - (l0.length : Int))) 0)) = some r := h
 clear h
 by_cases c3 : (wrap64 (a1 - (l0.length : Int))) < 0
 ·
  rw [if_pos c3] at H
  have c3b0 : decide ((wrap64 (a1 - (l0.length : Int))) < 0) = true := decide_eq_true c3
  clear c3
  obtain rfl := Option.some.inj H
  go_enter Try.func15, Try.ntmps15
  go_wp2
  go_ret
  exact ⟨by first | rfl | (simp [errW_none, errW_some] <;> rfl) | (simp [*, errW_none, errW_some] <;> rfl), bl HB.out⟩
 ·
  rw [if_neg c3] at H
  have c3b0 : decide ((wrap64 (a1 - (l0.length : Int))) < 0) = false := decide_eq_false c3
  clear c3
  have H' := Aside0.mk H
  clear H
  go_enter Try.func15, Try.ntmps15
  go_wp2
  go_loopg [1, 5] k (fun kq v1 v5 w' => ∃ (x1_1 : Int) (x5_1 : Int), v1 = .int .i64 x1_1 ∧ v5 = .int .i64 x5_1 ∧ Aside0 (laws_szLifeS.l0 kq l0 x1_1 x5_1 = some r) ∧ Aside0 (kq ≤ k) ∧ Aside0 (Below w.heap.size w w'))
  case atStart => exact ⟨(wrap64 (a1 - (l0.length : Int))), (0), (by first | rfl | (simp; done) | (simp [*]; done)), (by first | rfl | (simp; done) | (simp [*]; done)), H', ⟨Nat.le_refl _⟩, ⟨bl HB.out⟩⟩
  case round =>
   clear H'
   try clear c1
   try clear p2
   try clear c3
   try clear c3b0
   obtain ⟨x1_1, x5_1, rfl, rfl, HA, HK1, HB⟩ := hrel
   cases gk with
   | zero => exact absurd HA.out (by simp [laws_szLifeS.l0])
   | succ k1 =>
    have H := HA.out
    clear HA
    simp only [laws_szLifeS.l0] at H
    by_cases c4 : x5_1 < (l0.length : Int)
    ·
     rw [if_pos c4] at H
     have c4b0 : decide (x5_1 < (l0.length : Int)) = true := decide_eq_true c4
     clear c4
     by_cases c5 : 0 ≤ x5_1
     ·
      rw [if_pos c5] at H
      have c5b0 : decide (0 ≤ x5_1) = true := decide_eq_true c5
      clear c5
      replace H := Option.bind_eq_some_iff.mp H
      obtain ⟨t128, A60, H⟩ := H
      replace H : (if t128 < 0 then (some (-1)) else (laws_szLifeS.l0 k1 l0 t128 (wrap64 (x5_1 + 1)))) = some r := H
      have A6 := Aside0.mk A60
      clear A60
      have HC7 := Aside0.mk H
      clear H
      have p127 : 0 ≤ (x5_1 : Int) := of_decide_eq_true (by first | (with_reducible assumption) | assumption)
      have q127 : x5_1 < (l0.length : Int) := of_decide_eq_true (by first | (with_reducible assumption) | assumption)
      obtain ⟨ad127, e127, hx127_0, hx127_1, hx127_2, hx127_3⟩ := at_T23 HR0.out x5_1 p127 q127
      cases e127
      replace hx127_0 := bc HB.out hx127_0
      replace hx127_1 := bc HB.out hx127_1
      replace hx127_2 := bc HB.out hx127_2
      replace hx127_3 := bc HB.out hx127_3
      replace p127 := eq_true p127
      replace q127 := eq_true q127
      go_upto_if 25 with (first | ((with_reducible refine gate_callee (f := 6) rfl ?_); refine goesL_ (some 23) rfl rfl Try.func6 (by kernel_rfl) rfl #[.agg #[.string ((rd_T23 l0 x5_1).f0), .int .i64 ((rd_T23 l0 x5_1).f1), .int .i64 ((rd_T23 l0 x5_1).f2), .int .i64 ((rd_T23 l0 x5_1).f3)], .int .i64 x1_1] rfl (by (try simp only [am_]); first | done | rfl) ?_; (with_reducible refine (laws_szLife.calls ((rd_T23 l0 x5_1).f0) ((rd_T23 l0 x5_1).f1) ((rd_T23 l0 x5_1).f2) ((rd_T23 l0 x5_1).f3) x1_1 t128 _ A6.out).mono ?_); rintro e w8 ⟨rfl, hb⟩; refine ⟨_, rfl, ?_⟩; replace HB := Aside0.mk (below_step (bl HB.out) hb); (try clear hb); (try clear hb2); (try clear hk); (try clear hi)))
      have H := HC7.out
      clear HC7
      by_cases c9 : t128 < 0
      ·
       rw [if_pos c9] at H
       have c9b0 : decide (t128 < 0) = true := decide_eq_true c9
       clear c9
       (first | rw [c9b0] | (simp only [i64_w, i32_w]; rw [c9b0]) | skip)
       obtain rfl := Option.some.inj H
       go_wp2
       go_ret
       exact ⟨by first | rfl | (simp [errW_none, errW_some] <;> rfl) | (simp [*, errW_none, errW_some] <;> rfl), bl HB.out⟩
      ·
       rw [if_neg c9] at H
       have c9b0 : decide (t128 < 0) = false := decide_eq_false c9
       clear c9
       (first | rw [c9b0] | (simp only [i64_w, i32_w]; rw [c9b0]) | skip)
       have H' := Aside0.mk H
       clear H
       go_wp2
       go_roundg k1
       case measure => have := HK1.out; omega
       case rel => exact ⟨(t128), (wrap64 (x5_1 + 1)), (by first | rfl | (simp; done) | (simp [*]; done)), (by first | rfl | (simp; done) | (simp [*]; done)), H', ⟨by have := HK1.out; omega⟩, ⟨bl HB.out⟩⟩
     ·
      rw [if_neg c5] at H
      exact absurd H (by simp)
    ·
     rw [if_neg c4] at H
     have c4b0 : decide (x5_1 < (l0.length : Int)) = false := decide_eq_false c4
     clear c4
     obtain rfl := Option.some.inj H
     go_wp2
     go_ret
     exact ⟨by first | rfl | (simp [errW_none, errW_some] <;> rfl) | (simp [*, errW_none, errW_some] <;> rfl), bl HB.out⟩

/-! ### laws_szStay: function 7 -/
def laws_szStay.f (a0_0 : ByteArray) (a0_1 : Int) (a0_2 : Int) (a0_3 : Int) (a1 : Int) : Option (Int) := if (wrap64 (a1 - (a0_0.size : Int))) < 0 then (some (-1)) else (some (wrap64 (a1 - (a0_0.size : Int))))
set_option maxHeartbeats 8000000 in
set_option maxRecDepth 100000 in
theorem laws_szStay.calls (a0_0 : ByteArray) (a0_1 : Int) (a0_2 : Int) (a0_3 : Int) (a1 : Int) (r : Int) (w : World) (h : laws_szStay.f a0_0 a0_1 a0_2 a0_3 a1 = some r) :
  Calls Try.prog 7 #[.agg #[.string a0_0, .int .i64 a0_1, .int .i64 a0_2, .int .i64 a0_3], .int .i64 a1] w fun e w' => e = .returned (.int .i64 r) ∧ Below w.heap.size w w' := by
 have hu24 := Try.underlying24
 have HB := Aside0.mk (Below.refl w.heap.size w)
 have H : (if (wrap64 (a1 - (a0_0.size : Int))) < 0 then (some (-1)) else (some (wrap64 (a1 - (a0_0.size : Int))))) = some r := h
 clear h
 have HC3 := Aside0.mk H
 clear H
 go_enter Try.func7, Try.ntmps7
 go_upto_if 11 with (first | ((with_reducible refine gate_dst (N := 2) rfl ?_); refine box_event ?hg (N := 2) ?hd (cs := #[.string a0_0, .int .i64 a0_1, .int .i64 a0_2, .int .i64 a0_3]) (t := 24) ?hr ?_; (case hd => rfl); (case hg => rfl); (case hr => first | (go_simp; done) | (go_simp; rfl)); intro gb129 hg w4 hbox hb; have BK129 := Aside0.mk (hbox); have GW129 := Aside0.mk ((by rw [hg]; exact (below_size (bl HB.out)) : w.heap.size ≤ gb129)); have GE129 := GW129; replace HB := Aside0.mk (below_step (bl HB.out) hb); clear hb hbox hg; obtain ⟨hcz5_0, hcz5_1, hcz5_2, hcz5_3⟩ := ck4 BK129.out; obtain ⟨hfz5_0, hfz5_1, hfz5_2, hfz5_3⟩ := fz4 BK129.out))
 have H := HC3.out
 clear HC3
 by_cases c6 : (wrap64 (a1 - (a0_0.size : Int))) < 0
 ·
  rw [if_pos c6] at H
  have c6b0 : decide ((wrap64 (a1 - (a0_0.size : Int))) < 0) = true := decide_eq_true c6
  clear c6
  (first | rw [c6b0] | (simp only [i64_w, i32_w]; rw [c6b0]) | skip)
  obtain rfl := Option.some.inj H
  go_wp2
  go_ret
  exact ⟨by first | rfl | (simp [errW_none, errW_some] <;> rfl) | (simp [*, errW_none, errW_some] <;> rfl), by repeat with_reducible first | exact bl HB.out | refine below_set ?_ GE129.out | refine bq ?_⟩
 ·
  rw [if_neg c6] at H
  have c6b0 : decide ((wrap64 (a1 - (a0_0.size : Int))) < 0) = false := decide_eq_false c6
  clear c6
  (first | rw [c6b0] | (simp only [i64_w, i32_w]; rw [c6b0]) | skip)
  obtain rfl := Option.some.inj H
  go_wp2
  go_ret
  exact ⟨by first | rfl | (simp [errW_none, errW_some] <;> rfl) | (simp [*, errW_none, errW_some] <;> rfl), by repeat with_reducible first | exact bl HB.out | refine below_set ?_ GE129.out | refine bq ?_⟩

end Go.Proofs.Ytfhielgfgmcdiaa.PFnExactDue6
