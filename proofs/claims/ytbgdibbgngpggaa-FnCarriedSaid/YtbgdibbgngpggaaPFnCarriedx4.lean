-- Written by a program of this session (wip/xprint.py) out of the translation; Lean checks it.
import Derived.Test.YtbgdibbgngpggaaPFnCarriedx0
import Derived.Test.YtbgdibbgngpggaaPFnCarriedx1
import Derived.Test.YtbgdibbgngpggaaPFnCarriedx2
import Derived.Test.YtbgdibbgngpggaaPFnCarriedx3
namespace Go.Proofs.Ytbgdibbgngpggaa.PFnCarried
open Go.RowKit Go.Proofs.YtbgdibbgngpggaaW.PrintWords Go.Proofs.YtbgdibbgngpggaaW.PrintLast Go.Proofs.YtbgdibbgngpggaaW.PrintMore Go.Proofs.Ytbgdibbgngpggaa.Sq
attribute [local go_sem] max2_int min2_int max_two min_two max_three min_three max_four min_four   -- for this text's walks alone
set_option linter.unusedVariables false
set_option linter.unusedSimpArgs false

-- HAND FROM
open Go.Proofs.Ytbgdibbgngpggaa.Base Go.Proofs.Ytbgdibbgngpggaa.Sq
/-! ### A region that draws and whose callees make memory at most: one walk in the order of the text (by hand) -/
theorem ck3 {w : World} {g : Nat} {t : TypeId} {v0 v1 v2 : Value} (h : w.heap[g]? = some (.cells #[v0, v1, v2] t (0, 0))) : w.cell? ⟨g, 0, none⟩ = some v0 ∧ w.cell? ⟨g, 1, none⟩ = some v1 ∧ w.cell? ⟨g, 2, none⟩ = some v2 := ⟨ck h 0 rfl, ck h 1 rfl, ck h 2 rfl⟩
theorem ck6 {w : World} {g : Nat} {t : TypeId} {v0 v1 v2 v3 v4 v5 : Value} (h : w.heap[g]? = some (.cells #[v0, v1, v2, v3, v4, v5] t (0, 0))) : w.cell? ⟨g, 0, none⟩ = some v0 ∧ w.cell? ⟨g, 1, none⟩ = some v1 ∧ w.cell? ⟨g, 2, none⟩ = some v2 ∧ w.cell? ⟨g, 3, none⟩ = some v3 ∧ w.cell? ⟨g, 4, none⟩ = some v4 ∧ w.cell? ⟨g, 5, none⟩ = some v5 := ⟨ck h 0 rfl, ck h 1 rfl, ck h 2 rfl, ck h 3 rfl, ck h 4 rfl, ck h 5 rfl⟩
theorem ck7 {w : World} {g : Nat} {t : TypeId} {v0 v1 v2 v3 v4 v5 v6 : Value} (h : w.heap[g]? = some (.cells #[v0, v1, v2, v3, v4, v5, v6] t (0, 0))) : w.cell? ⟨g, 0, none⟩ = some v0 ∧ w.cell? ⟨g, 1, none⟩ = some v1 ∧ w.cell? ⟨g, 2, none⟩ = some v2 ∧ w.cell? ⟨g, 3, none⟩ = some v3 ∧ w.cell? ⟨g, 4, none⟩ = some v4 ∧ w.cell? ⟨g, 5, none⟩ = some v5 ∧ w.cell? ⟨g, 6, none⟩ = some v6 := ⟨ck h 0 rfl, ck h 1 rfl, ck h 2 rfl, ck h 3 rfl, ck h 4 rfl, ck h 5 rfl, ck h 6 rfl⟩
section
variable {P : Program} {ops : Array Oper} {Q : Act → Prop} {a a' : Act} {o : Oper} {rest : List Oper} {W : World}
abbrev Up (W : World) : World → Prop := fun w' => Below W.heap.size W w'
def Ent (P : Program) (f : FuncId) : Prop := ∀ (args : Array Value) (w : World), (callFunc f args).run P w = .ok (.enter f args) w
structure Wq (P : Program) (ops : Array Oper) (W : World) (Q : Act → Prop) (l : List Oper) (a : Act) : Prop where mk :: (out : wpQuiet P ops (Up W) Q l a)
theorem rg_ {id : Nat} {Q : Exit → Act → World → Prop} {a : Act} {W : World} {l : List Oper} (hm : P.follows .mixedOrders = true) (hB : Region.lexB .any l.toArray = true)
    (h : Wq P l.toArray W (fun a' => ∀ w', Up W w' → Q .normal a' w') l a) : (Code.region id l.toArray true).wp P Q a W :=
  wp_region_quiet (C := Up W) hm hB (below_drew (Below.refl _ _)) (by simpa using h.out)
theorem qn_ (h : Wq P ops W Q rest a') (hw : Region.wanted o (yielded ops a.tmps) = false := by rfl) (ha : a.put o.dst undef = a' := by simp only [sp_]; rfl) : Wq P ops W Q (o :: rest) a := by
  subst ha; exact ⟨BigFrame.wpQuiet_skip hw h.out⟩
theorem ql_ {F : World → Prop} {v : Value} (hL : ∀ w, Up W w → F w) (h : Wq P ops W Q rest a') (hw : Region.wanted o (yielded ops a.tmps) = true := by rfl)
    (hy : ∀ w, F w → (execOp a.eval o).run P w = .ok (.value v) w := by intro w' hf; (try go_split_ands); go_simp; with_reducible rfl) (ha : a.put o.dst v = a' := by simp only [sp_]; rfl) : Wq P ops W Q (o :: rest) a := by
  subst ha
  exact ⟨BigFrame.wpQuiet_want hw fun K hK => ⟨v, fun w hw => by unfold Oper.quietAt; rw [hy w (hL w hw)]; exact ⟨rfl, rfl⟩, hK _ h.out⟩⟩
theorem qc_ {f : FuncId} {args : Array Value} {v : Value} {as_ : Array Operand} {ts : Array TypeId} (he : Ent P f) (hc : ∀ w', Up W w' → Calls P f args w' fun e w'' => e = .returned v ∧ Below w'.heap.size w' w'') (h : Wq P ops W Q rest a')
    (hop : o.op = .call { callee := .value (.func f), args := as_, argTypes := ts } := by rfl) (hw : Region.wanted o (yielded ops a.tmps) = true := by rfl) (hargs : as_.map a.eval = args := by (try simp only [am_]); first | done | rfl) (ha : a.put o.dst v = a' := by simp only [sp_]; rfl) :
    Wq P ops W Q (o :: rest) a := by
  subst ha
  refine ⟨BigFrame.wpQuiet_want hw fun K hK => ⟨v, fun w hw => ?_, hK _ h.out⟩⟩
  have hrun : (execOp a.eval o).run P w = .ok (.enter f args) w := by
    unfold execOp
    simp [hop, resolve, Deferred.ofValue, invoke, Act.eval, hargs, he args w]
  unfold Oper.quietAt
  rw [hrun]
  exact ⟨rfl, (hc w hw).mono fun e w'' ⟨he, hb⟩ => ⟨he, below_step hw hb⟩⟩
theorem qd_ (h : Q a) : Wq P ops W Q [] a := ⟨h⟩
/-- What is known of a world, told anew under one letter. -/
theorem world_ {c : Code} {Q : Exit → Act → World → Prop} {a : Act} {W : World} (F : World → Prop) (h : F W) (k : ∀ w, F w → c.wp P Q a w) : c.wp P Q a W := k W h
theorem drawn_ {f : FuncId} {args : Array Value} {w : World} {v : Value} (h : Calls P f args w fun e w' => e = .returned v ∧ Drawn0 w w') : Calls P f args w fun e w' => e = .returned v ∧ Below w.heap.size w w' :=
  h.mono fun e w' ⟨he, hn⟩ => ⟨he, hn.below⟩
end
theorem or2_ : ∀ b0 b1 : Bool, b0 = false ∨ b0 = true ∧ b1 = false ∨ b0 = true ∧ b1 = true := by decide
theorem or3_ : ∀ b0 b1 b2 : Bool, b0 = false ∨ b0 = true ∧ b1 = false ∨ b0 = true ∧ b1 = true ∧ b2 = false ∨ b0 = true ∧ b1 = true ∧ b2 = true := by decide
theorem or4_ : ∀ b0 b1 b2 b3 : Bool, b0 = false ∨ b0 = true ∧ b1 = false ∨ b0 = true ∧ b1 = true ∧ b2 = false ∨ b0 = true ∧ b1 = true ∧ b2 = true ∧ b3 = false ∨ b0 = true ∧ b1 = true ∧ b2 = true ∧ b3 = true := by decide
theorem or5_ : ∀ b0 b1 b2 b3 b4 : Bool, b0 = false ∨ b0 = true ∧ b1 = false ∨ b0 = true ∧ b1 = true ∧ b2 = false ∨ b0 = true ∧ b1 = true ∧ b2 = true ∧ b3 = false ∨ b0 = true ∧ b1 = true ∧ b2 = true ∧ b3 = true ∧ b4 = false ∨ b0 = true ∧ b1 = true ∧ b2 = true ∧ b3 = true ∧ b4 = true := by decide
theorem kb_ {P : Program} {f : FuncId} {args : Array Value} {w : World} {b b' : Bool} (h : Calls P f args w fun e w' => e = .returned (.bool b) ∧ Below w.heap.size w w') (e : b = b') : Calls P f args w fun e w' => e = .returned (.bool b') ∧ Below w.heap.size w w' := e ▸ h
theorem ki_ {P : Program} {f : FuncId} {args : Array Value} {w : World} {b b' : Int} (h : Calls P f args w fun e w' => e = .returned (.int .i64 b) ∧ Below w.heap.size w w') (e : b = b') : Calls P f args w fun e w' => e = .returned (.int .i64 b') ∧ Below w.heap.size w w' := e ▸ h
theorem lt_le_ (a b : Int) : decide (b < a) = !decide (a ≤ b) := by by_cases h : a ≤ b <;> simp [h] <;> omega
theorem le_lt_ (a b : Int) : decide (b ≤ a) = !decide (a < b) := by by_cases h : a < b <;> simp [h] <;> omega
def Alnum (c : Int) : Prop := (97 ≤ c ∧ c ≤ 122) ∨ (65 ≤ c ∧ c ≤ 90) ∨ (48 ≤ c ∧ c ≤ 57)
instance (c : Int) : Decidable (Alnum c) := by unfold Alnum; exact inferInstance
def charB (c : Int) : Bool := decide (Alnum c) || (c == 45)
def charsB (s : ByteArray) : Nat → Nat → Bool
  | 0, _ => true
  | d + 1, i => charB (bt s (i : Int)) && charsB s d (i + 1)
def nameB (s : ByteArray) : Bool := charsB s s.size 0 && inB (s.size : Int) 1 20
abbrev Cr := S70
def carryAt (xs : List Cr) (i : Int) : Bool := nameB (rd_T70 xs i).f0 && (inB (rd_T70 xs i).f1 0 10 && (inB (rd_T70 xs i).f2 0 120 && (decide (¬ i > 0) || Op.bytesLess (rd_T70 xs (i - 1)).f0.toList (rd_T70 xs i).f0.toList)))
def carryFrom (xs : List Cr) : Nat → Nat → Bool
  | 0, _ => decide ((xs.length : Int) ≤ 20)
  | d + 1, i => carryAt xs (i : Int) && carryFrom xs d (i + 1)
def carryB (xs : List Cr) : Bool := carryFrom xs xs.length 0
def carryAtPv (xs : List S70) (i : Int) : Bool := decide (¬ i > 0) || Op.bytesLess (rd_T70 xs (i - 1)).f0.toList (rd_T70 xs i).f0.toList
theorem rd_at70 {l : List S70} {i : Nat} (h : i < l.length) : rd_T70 l (i : Int) = l[i] := by simp [rd_T70, List.getD_eq_getElem?_getD, h]
theorem rd_at33 {l : List S33} {i : Nat} (h : i < l.length) : rd_T33 l (i : Int) = l[i] := by simp [rd_T33, List.getD_eq_getElem?_getD, h]
theorem rd_at72 {l : List S72} {i : Nat} (h : i < l.length) : rd_T72 l (i : Int) = l[i] := by simp [rd_T72, List.getD_eq_getElem?_getD, h]
theorem carry_step {l : List S70} {i : Nat} (h : i < l.length) {b : Bool} (e : b = carryFrom l (l.length - i) i) : b = (carryAt l (i : Int) && carryFrom l (l.length - (i + 1)) (i + 1)) := by
  rw [e, show l.length - i = (l.length - (i + 1)) + 1 by omega]; rfl
theorem carry_end {l : List S70} {b : Bool} (e : b = carryFrom l (l.length - l.length) l.length) : b = decide ((l.length : Int) ≤ 20) := by
  rw [e, Nat.sub_self]; rfl
theorem impl_in_eq (a b c : Int) : impl_in.f a b c = some (inB a b c) := in_form a b c
theorem impl_isName_l (s : ByteArray) (hn : s.size ≤ 140737488355328) (d : Nat) : ∀ i : Nat, i + d = s.size → Ev (fun k => impl_isName.l0 k s (s.size : Int) (i : Int)) (charsB s d i && inB (s.size : Int) 1 20) := by
  induction d with
  | zero =>
    intro i h
    refine ev_succ ?_
    simp only [impl_isName.l0, if_neg (show ¬ ((i : Int) < (s.size : Int)) by omega), impl_in_eq, Option.bind_some, charsB, Bool.true_and]
    exact ev_now _
  | succ d ih =>
    intro i h
    have hi := ih (i + 1) (by omega)
    refine ev_succ ?_
    simp only [impl_isName.l0, if_pos (show ((i : Int) < (s.size : Int)) by omega), if_pos (show (0 : Int) ≤ (i : Int) by omega)]
    unfold charsB
    generalize bt s (i : Int) = c
    refine Ev.congr (f := fun k => impl_isName.j1 k s (s.size : Int) (i : Int) (!charB c)) (fun k => ?_) ?_
    · by_cases hc : Alnum c
      · rw [show charB c = true by simp [charB, hc]]
        unfold Alnum at hc
        repeat' split
        all_goals first | rfl | (exfalso; omega)
      · rw [show charB c = (c == 45) by simp [charB, hc]]
        unfold Alnum at hc
        repeat' split
        all_goals first | rfl | (exfalso; omega)
    · refine ev_succ ?_
      cases charB c with
      | true => simpa only [impl_isName.j1, Bool.not_true, Bool.false_eq_true, if_false, w64s i (show i < 9223372036854775807 by omega), Bool.true_and] using hi
      | false => simpa only [impl_isName.j1, Bool.not_false, if_true, Bool.false_and] using ev_now false
theorem impl_isName_ev (s : ByteArray) (hn : s.size ≤ 140737488355328) : Ev (fun k => impl_isName.f k s) (nameB s) := by
  simpa [impl_isName.f, nameB] using impl_isName_l s hn s.size 0 (by omega)
theorem eName : Ent Try.prog 51 := fun a w => enters_ Try.func51 rfl rfl a w
theorem eIn : Ent Try.prog 55 := fun a w => enters_ Try.func55 rfl rfl a w
theorem name_t (s : ByteArray) (hs : s.size ≤ 140737488355328) (w : World) : Calls Try.prog 51 #[.string s] w fun e w' => e = .returned (.bool (nameB s)) ∧ Below w.heap.size w w' := by
  obtain ⟨k, hk⟩ := (impl_isName_ev s hs).rounds
  exact drawn_ (impl_isName.calls k s _ w hk)
theorem in_t (a b c : Int) (w : World) : Calls Try.prog 55 #[.int .i64 a, .int .i64 b, .int .i64 c] w fun e w' => e = .returned (.bool (inB a b c)) ∧ Below w.heap.size w w' := drawn_ (impl_in.calls a b c _ w (impl_in_eq a b c))
set_option maxHeartbeats 4000000 in
set_option maxRecDepth 100000 in
theorem impl_CarryOk.go (A0 : Option Addr) (c0 : Nat) (l0 : List S70) (w : World) (hr0 : Kd.C k70 w A0 l0.length l0) (hc0 : l0.length ≤ c0) (hn : l0.length ≤ 140737488355328) (hx : ∀ x ∈ l0, x.f0.size ≤ 140737488355328) :
    Calls Try.prog 23 #[.slice A0 l0.length c0] w fun e w' => e = .returned (.bool (carryB l0)) ∧ Below w.heap.size w w' := by
  have hu70 := Try.underlying70
  have HR := Aside0.mk hr0
  have HX := Aside0.mk hx
  clear hr0 hx
  go_enter Try.func23, Try.ntmps23
  go_wp2
  go_loopw [7] (fun v wr => ∃ i : Nat, i ≤ l0.length ∧ v = .int .i64 i ∧ Aside0 (carryB l0 = carryFrom l0 (l0.length - i) i) ∧ Aside0 (Below w.heap.size w wr)) (fun v _ => l0.length - (intOf v).toNat)
  case atStart => exact ⟨0, Nat.zero_le _, rfl, ⟨rfl⟩, ⟨Below.refl _ _⟩⟩
  case round =>
    obtain ⟨i, hi, rfl, HE, HB⟩ := hrel
    by_cases hlt : i < l0.length
    · obtain ⟨ad, e0, hx0, hx1, hx2⟩ := at_T70 (Kd.C_below HR.out HB.out) (i : Int) (by omega) (by omega)
      cases e0
      simp only [Int.toNat_natCast] at hx0 hx1 hx2
      have HS := Aside0.mk (carry_step hlt HE.out)
      have HZ := Aside0.mk (HX.out _ (List.getElem_mem hlt))
      rw [← rd_at70 hlt] at HZ
      have HK := Aside0.mk (blk_new wr (.cells #[.string (rd_T70 l0 (i : Int)).f0, .int .i64 (rd_T70 l0 (i : Int)).f1, .int .i64 (rd_T70 l0 (i : Int)).f2] 70 (0, 0)))
      have HB2 := Aside0.mk (below_alloc HB.out (.cells #[.string (rd_T70 l0 (i : Int)).f0, .int .i64 (rd_T70 l0 (i : Int)).f1, .int .i64 (rd_T70 l0 (i : Int)).f2] 70 (0, 0)))
      go_upto_region 4 with (fail)
      generalize wr.heap.size = gx at HK ⊢
      refine world_ (fun W => W.heap[gx]? = some (.cells #[.string (rd_T70 l0 (i : Int)).f0, .int .i64 (rd_T70 l0 (i : Int)).f1, .int .i64 (rd_T70 l0 (i : Int)).f2] 70 (0, 0)) ∧ Below w.heap.size w W) ⟨HK.out, HB2.out⟩ ?_
      clear HK HB2 HE HB hx0 hx1 hx2
      rintro W ⟨HK, HB⟩
      replace HK := Aside0.mk HK
      replace HB := Aside0.mk HB
      obtain ⟨b1, Eb1⟩ : ∃ b, nameB (rd_T70 l0 (i : Int)).f0 = b := ⟨_, rfl⟩
      have Kb1 := Aside0.mk (fun w' => kb_ (name_t (rd_T70 l0 (i : Int)).f0 HZ.out w') Eb1)
      obtain ⟨b2, Eb2⟩ : ∃ b, inB (rd_T70 l0 (i : Int)).f1 0 10 = b := ⟨_, rfl⟩
      have Kb2 := Aside0.mk (fun w' => kb_ (in_t (rd_T70 l0 (i : Int)).f1 0 10 w') Eb2)
      obtain ⟨b3, Eb3⟩ : ∃ b, inB (rd_T70 l0 (i : Int)).f2 0 120 = b := ⟨_, rfl⟩
      have Kb3 := Aside0.mk (fun w' => kb_ (in_t (rd_T70 l0 (i : Int)).f2 0 120 w') Eb3)
      have HE := Aside0.mk (And.intro Eb1 (And.intro Eb2 Eb3))
      clear Eb1 Eb2 Eb3
      go_cut [42] (fun v wc => v = .bool (!carryAt l0 (i : Int)) ∧ Aside0 (Below w.heap.size w wc))
      case first =>
        clear HS
        rcases Nat.eq_zero_or_pos i with h0 | h0
        · subst h0
          have L := Aside0.mk (fun w' (h : Up W w') => (⟨ck (blk_below HK.out h) 0 rfl, ck (blk_below HK.out h) 1 rfl, ck (blk_below HK.out h) 2 rfl⟩ : w'.cell? ⟨gx, 0, none⟩ = some (.string (rd_T70 l0 ((0 : Nat) : Int)).f0) ∧ w'.cell? ⟨gx, 1, none⟩ = some (.int .i64 (rd_T70 l0 ((0 : Nat) : Int)).f1) ∧ w'.cell? ⟨gx, 2, none⟩ = some (.int .i64 (rd_T70 l0 ((0 : Nat) : Int)).f2)))
          have HP : Aside0 (carryAtPv l0 ((0 : Nat) : Int) = true) := ⟨rfl⟩
          rcases or3_ b1 b2 b3 with rfl | ⟨rfl, rfl⟩ | ⟨rfl, rfl, rfl⟩ | ⟨rfl, rfl, rfl⟩
          all_goals
            (refine rg_ (by kernel_rfl) (by kernel_rfl) ?_; (repeat (first | refine qn_ ?_ | refine qc_ eName (fun w' _ => Kb1.out w') ?_ | refine qc_ eIn (fun w' _ => Kb2.out w') ?_ | refine qc_ eIn (fun w' _ => Kb3.out w') ?_ | refine ql_ L.out ?_)); refine qd_ ?_; intro w5 hb; (try go_wp2); go_meet; case rel => exact ⟨by have hp := HP.out; unfold carryAtPv at hp; unfold carryAt; (try dsimp only); rw [HE.out.1, HE.out.2.1, HE.out.2.2, hp]; first | rfl | simp, ⟨below_step HB.out hb⟩⟩)
        · obtain ⟨j, rfl⟩ : ∃ j, i = j + 1 := ⟨i - 1, by omega⟩
          obtain ⟨ad', e0, y0, y1, y2⟩ := at_T70 HR.out (j : Int) (by omega) (by omega)
          obtain rfl : ad = ad' := by injection e0
          simp only [Int.toNat_natCast] at y0 y1 y2
          have hj : wrap64 (j : Int) = (j : Int) := w64 (by omega) (by omega)
          have hjl : j < l0.length := by omega
          have L := Aside0.mk (fun w' (h : Up W w') => (⟨ck (blk_below HK.out h) 0 rfl, ck (blk_below HK.out h) 1 rfl, ck (blk_below HK.out h) 2 rfl, bc (below_step HB.out h) y0⟩ : w'.cell? ⟨gx, 0, none⟩ = some (.string (rd_T70 l0 ((j + 1 : Nat) : Int)).f0) ∧ w'.cell? ⟨gx, 1, none⟩ = some (.int .i64 (rd_T70 l0 ((j + 1 : Nat) : Int)).f1) ∧ w'.cell? ⟨gx, 2, none⟩ = some (.int .i64 (rd_T70 l0 ((j + 1 : Nat) : Int)).f2) ∧ w'.cell? (ad.add (j * 3)) = some (.string (rd_T70 l0 (j : Int)).f0)))
          obtain ⟨bP, EP⟩ : ∃ b, Op.bytesLess (rd_T70 l0 (j : Int)).f0.toList (rd_T70 l0 ((j : Int) + 1)).f0.toList = b := ⟨_, rfl⟩
          have HP : Aside0 (carryAtPv l0 ((j + 1 : Nat) : Int) = bP) := ⟨by unfold carryAtPv; rw [decide_eq_false (show ¬ ¬ ((j + 1 : Nat) : Int) > 0 by omega), show ((j + 1 : Nat) : Int) - 1 = (j : Int) by omega, show ((j + 1 : Nat) : Int) = (j : Int) + 1 by omega, EP]; rfl⟩
          clear y0 y1 y2 e0 h0
          rcases or4_ b1 b2 b3 bP with rfl | ⟨rfl, rfl⟩ | ⟨rfl, rfl, rfl⟩ | ⟨rfl, rfl, rfl, rfl⟩ | ⟨rfl, rfl, rfl, rfl⟩
          all_goals
            (refine rg_ (by kernel_rfl) (by kernel_rfl) ?_; (repeat (first | refine qn_ ?_ | refine qc_ eName (fun w' _ => Kb1.out w') ?_ | refine qc_ eIn (fun w' _ => Kb2.out w') ?_ | refine qc_ eIn (fun w' _ => Kb3.out w') ?_ | refine ql_ L.out ?_)); refine qd_ ?_; intro w5 hb; (try go_wp2); go_meet; case rel => exact ⟨by have hp := HP.out; unfold carryAtPv at hp; unfold carryAt; (try dsimp only); rw [HE.out.1, HE.out.2.1, HE.out.2.2, hp]; first | rfl | simp, ⟨below_step HB.out hb⟩⟩)
      case rest =>
        clear HB HZ HE HK
        obtain ⟨rfl, HB⟩ := hcut
        cases hc : carryAt l0 (i : Int) with
        | false =>
          rw [hc] at HS
          go_wp2
          go_ret
          exact ⟨by rw [HS.out]; rfl, HB.out⟩
        | true =>
          rw [hc] at HS
          go_wp2
          go_roundw
          case rel => exact ⟨i + 1, by omega, by go_num, ⟨HS.out⟩, HB⟩
          case measure => simp [intOf]; omega
    · obtain rfl : i = l0.length := by omega
      have HS := Aside0.mk (carry_end HE.out)
      go_wp2
      go_ret
      exact ⟨by rw [HS.out]; rfl, HB.out⟩
-- HAND TO

-- HAND FROM
open Go.Proofs.Ytbgdibbgngpggaa.Base Go.Proofs.Ytbgdibbgngpggaa.Sq
def clockB (a b c : Int) : Bool := inB a 0 1000000 && (inB b 0 1000000 && inB c 0 1000000)
theorem clockB_in {a b c : Int} (h : clockB a b c = true) : (0 ≤ a ∧ a ≤ 1000000) ∧ (0 ≤ b ∧ b ≤ 1000000) ∧ 0 ≤ c ∧ c ≤ 1000000 := by
  simp [clockB, inB] at h
  omega
def taskB (n : ByteArray) (h c d p q r : Int) : Bool := nameB n && (inB h 0 100000 && (inB c 0 100000 && (inB d 0 100000 && (decide (h + c + d > 0) && clockB p q r))))
theorem taskB_in {n : ByteArray} {h c d p q r : Int} (k : taskB n h c d p q r = true) : nameB n = true ∧ ((0 ≤ h ∧ h ≤ 100000) ∧ (0 ≤ c ∧ c ≤ 100000) ∧ 0 ≤ d ∧ d ≤ 100000) ∧ (h + c + d > 0) ∧ clockB p q r = true := by
  simp only [taskB, Bool.and_eq_true, inB_iff, decide_eq_true_eq] at k
  exact ⟨k.1, ⟨k.2.1, k.2.2.1, k.2.2.2.1⟩, k.2.2.2.2.1, k.2.2.2.2.2⟩
def behindB (p q r p' q' r' : Int) : Bool := decide (p ≤ p') && (decide (q ≤ q') && decide (r ≤ r'))
abbrev Tk := S33
abbrev Df := S72
def passB (p q r p' q' r' : Int) : Bool := decide (mn (mn (wrap64 (p' - p)) (wrap64 (q' - q))) (wrap64 (r' - r)) ≥ 0)
theorem passB_is {p q r p' q' r' : Int} (h : clockB p q r = true) (h' : clockB p' q' r' = true) : passB p q r p' q' r' = behindB p q r p' q' r' := by
  have a := clockB_in h
  have b := clockB_in h'
  unfold passB behindB
  rw [w64 (n := p' - p) (by omega) (by omega), w64 (n := q' - q) (by omega) (by omega), w64 (n := r' - r) (by omega) (by omega), Bool.eq_iff_iff]
  simp only [Bool.and_eq_true, decide_eq_true_eq]
  unfold mn
  repeat' split
  all_goals omega
def taskAt (β : Int → Int → Int → Bool) (xs : List Tk) (i : Int) : Bool := taskB (rd_T33 xs i).f0 (rd_T33 xs i).f1 (rd_T33 xs i).f2 (rd_T33 xs i).f3 (rd_T33 xs i).f4.f0 (rd_T33 xs i).f4.f1 (rd_T33 xs i).f4.f2 && (β (rd_T33 xs i).f4.f0 (rd_T33 xs i).f4.f1 (rd_T33 xs i).f4.f2 && (decide (¬ i > 0) || Op.bytesLess (rd_T33 xs (i - 1)).f0.toList (rd_T33 xs i).f0.toList))
def tasksFrom (β : Int → Int → Int → Bool) (xs : List Tk) : Nat → Nat → Bool
  | 0, _ => true
  | d + 1, i => taskAt β xs (i : Int) && tasksFrom β xs d (i + 1)
def defectAt (r : Int) (xs : List Df) (i : Int) : Bool := nameB (rd_T72 xs i).f0 && (inB (rd_T72 xs i).f1 1 1000000 && ((decide (¬ i > 0) || decide ((rd_T72 xs (i - 1)).f1 < (rd_T72 xs i).f1)) && inB (rd_T72 xs i).f2 0 r))
def defectsFrom (r : Int) (xs : List Df) : Nat → Nat → Bool
  | 0, _ => true
  | d + 1, i => defectAt r xs (i : Int) && defectsFrom r xs d (i + 1)
def fleetB (ts : List Tk) (cs : List Cr) (ds : List Df) (p q r : Int) : Bool := clockB p q r && (carryB cs && (decide ((ts.length : Int) ≤ 40) && (decide ((ds.length : Int) ≤ 20) && (tasksFrom (fun a b c => behindB a b c p q r) ts ts.length 0 && defectsFrom r ds ds.length 0))))
theorem tasks_same {p q r : Int} (h : clockB p q r = true) (xs : List Tk) (d : Nat) : ∀ i, tasksFrom (fun a b c => passB a b c p q r) xs d i = tasksFrom (fun a b c => behindB a b c p q r) xs d i := by
  induction d with
  | zero => intro i; rfl
  | succ d ih =>
    intro i
    simp only [tasksFrom, ih]
    congr 1
    unfold taskAt
    dsimp only
    cases ht : taskB (rd_T33 xs (i : Int)).f0 (rd_T33 xs (i : Int)).f1 (rd_T33 xs (i : Int)).f2 (rd_T33 xs (i : Int)).f3 (rd_T33 xs (i : Int)).f4.f0 (rd_T33 xs (i : Int)).f4.f1 (rd_T33 xs (i : Int)).f4.f2 with
    | false => rfl
    | true => rw [passB_is (taskB_in ht).2.2.2 h]
structure FleetSz (ts : List S33) (cs : List S70) (ds : List S72) : Prop where
  t : ∀ x ∈ ts, x.f0.size ≤ 140737488355328
  c : ∀ x ∈ cs, x.f0.size ≤ 140737488355328
  d : ∀ x ∈ ds, x.f0.size ≤ 140737488355328
  tn : ts.length ≤ 140737488355328
  cn : cs.length ≤ 140737488355328
  dn : ds.length ≤ 140737488355328
def fleetSzB (ts : List S33) (cs : List S70) (ds : List S72) : Bool := (ts.all (fun x => decide (x.f0.size ≤ 140737488355328)) && (cs.all (fun x => decide (x.f0.size ≤ 140737488355328)) && ds.all (fun x => decide (x.f0.size ≤ 140737488355328)))) && (decide (ts.length ≤ 140737488355328) && (decide (cs.length ≤ 140737488355328) && decide (ds.length ≤ 140737488355328)))
theorem fleetSz_of {ts : List S33} {cs : List S70} {ds : List S72} : fleetSzB ts cs ds = true ↔ FleetSz ts cs ds := by
  unfold fleetSzB
  simp only [Bool.and_eq_true, List.all_eq_true, decide_eq_true_eq]
  exact ⟨fun h => ⟨h.1.1, h.1.2.1, h.1.2.2, h.2.1, h.2.2.1, h.2.2.2⟩, fun h => ⟨⟨h.t, h.c, h.d⟩, h.tn, h.cn, h.dn⟩⟩
theorem tasks_step {β : Int → Int → Int → Bool} {l : List S33} {i : Nat} (h : i < l.length) {b R : Bool} (e : b = (tasksFrom β l (l.length - i) i && R)) : b = (taskAt β l (i : Int) && (tasksFrom β l (l.length - (i + 1)) (i + 1) && R)) := by
  rw [e, show l.length - i = (l.length - (i + 1)) + 1 by omega, ← Bool.and_assoc]; rfl
theorem tasks_end {β : Int → Int → Int → Bool} {l : List S33} {b R : Bool} (e : b = (tasksFrom β l (l.length - l.length) l.length && R)) : b = R := by
  rw [e, Nat.sub_self]; rfl
theorem defects_step {z : Int} {l : List S72} {i : Nat} (h : i < l.length) {b R : Bool} (e : b = (defectsFrom z l (l.length - i) i && R)) : b = (defectAt z l (i : Int) && (defectsFrom z l (l.length - (i + 1)) (i + 1) && R)) := by
  rw [e, show l.length - i = (l.length - (i + 1)) + 1 by omega, ← Bool.and_assoc]; rfl
theorem defects_end {z : Int} {l : List S72} {b R : Bool} (e : b = (defectsFrom z l (l.length - l.length) l.length && R)) : b = R := by
  rw [e, Nat.sub_self]; rfl
def taskAtPv (xs : List S33) (i : Int) : Bool := decide (¬ i > 0) || Op.bytesLess (rd_T33 xs (i - 1)).f0.toList (rd_T33 xs i).f0.toList
def defectAtPv (xs : List S72) (i : Int) : Bool := decide (¬ i > 0) || decide ((rd_T72 xs (i - 1)).f1 < (rd_T72 xs i).f1)
theorem impl_allIn_l (b c : Int) (xs : List Int) (hn : xs.length < 4611686018427387904) (d : Nat) : ∀ i : Nat, i + d = xs.length →
    Ev (fun k => impl_allIn.l0 k b c xs (xs.length : Int) (i : Int)) (allB (xs.drop i) b c) := by
  induction d with
  | zero =>
    intro i h
    refine ev_succ ?_
    simp only [impl_allIn.l0, if_neg (show ¬ ((i : Int) < (xs.length : Int)) by omega)]
    rw [List.drop_of_length_le (by omega)]
    exact ev_now _
  | succ d ih =>
    intro i h
    refine ev_succ ?_
    simp only [impl_allIn.l0, if_pos (show ((i : Int) < (xs.length : Int)) by omega), if_pos (show (0 : Int) ≤ (i : Int) by omega), impl_in_eq, Option.bind_some, w64s i (by omega)]
    rw [drop_rd (show i < xs.length by omega)]
    cases hb : inB (rd xs (i : Int)) b c with
    | true => simpa [allB, hb] using ih (i + 1) (by omega)
    | false => simpa [allB, hb] using ev_now false
theorem impl_allIn_ev (b c : Int) (xs : List Int) (hn : xs.length < 4611686018427387904) : Ev (fun k => impl_allIn.f k xs b c) (allB xs b c) := by
  simpa [impl_allIn.f] using impl_allIn_l b c xs hn xs.length 0 (by omega)
theorem impl_ClockOk_ev (a b c : Int) : Ev (fun k => impl_ClockOk.f k a b c) (clockB a b c) := by
  simp only [impl_ClockOk.f, impl_Clock_numbers.f, Option.bind_some]
  refine (impl_allIn_ev 0 1000000 [a, b, c] (by simp)).bind (f := fun _ t => some t) (ev_some ?_)
  simp [allB, clockB]
theorem slices_Max_ev (a b c : Int) : Ev (fun k => slices_Max_int_int.f k [a, b, c]) (mx (mx a b) c) := by
  have e : (([a, b, c] : List Int).length : Int) = 3 := rfl
  simp only [slices_Max_int_int.f, e, if_neg (show ¬ ((3 : Int) < 1) by omega), if_pos (show (0 : Int) < 3 by omega)]
  refine ev_succ ?_
  simp only [slices_Max_int_int.l0, e, if_pos (show (1 : Int) < 3 by omega), if_pos (show (0 : Int) ≤ 1 by omega), w64 (n := (1 : Int) + 1) (by omega) (by omega)]
  refine ev_succ ?_
  simp only [slices_Max_int_int.l0, e, if_pos (show (1 : Int) + 1 < 3 by omega), if_pos (show (0 : Int) ≤ 1 + 1 by omega), w64 (n := (1 : Int) + 1 + 1) (by omega) (by omega)]
  refine ev_succ ?_
  simp only [slices_Max_int_int.l0, e, if_neg (show ¬ ((1 : Int) + 1 + 1 < 3) by omega)]
  exact ev_now _
theorem impl_TaskOk_ev (n : ByteArray) (hn : n.size ≤ 140737488355328) (h c d p q r : Int) : Ev (fun k => impl_TaskOk.f k n h c d p q r) (taskB n h c d p q r) := by
  simp only [impl_TaskOk.f, impl_Task_numbers.f, Option.bind_some]
  refine (impl_isName_ev n hn).bind ?_
  unfold taskB
  cases nameB n with
  | false => simpa using ev_now false
  | true =>
    simp only [if_true, Bool.true_and]
    refine (impl_allIn_ev 0 100000 [h, c, d] (by simp)).bind ?_
    have e : allB [h, c, d] 0 100000 = (inB h 0 100000 && (inB c 0 100000 && inB d 0 100000)) := by simp [allB]
    rw [e]
    cases h1 : inB h 0 100000 with
    | false => simpa using ev_now false
    | true =>
      cases h2 : inB c 0 100000 with
      | false => simpa using ev_now false
      | true =>
        cases h3 : inB d 0 100000 with
        | false => simpa using ev_now false
        | true =>
          rw [inB_iff] at h1 h2 h3
          simp only [if_true, Bool.and_self, Bool.true_and]
          refine (slices_Max_ev h c d).bind ?_
          by_cases h4 : h + c + d > 0
          · simp only [if_pos (show mx (mx h c) d > 0 by unfold mx; repeat' split <;> omega), h4, decide_true, Bool.true_and]
            exact (impl_ClockOk_ev p q r).bind (f := fun _ t => some t) (ev_now _)
          · simp only [if_neg (show ¬ mx (mx h c) d > 0 by unfold mx; repeat' split <;> omega), h4, decide_false, Bool.false_and]
            exact ev_now _
theorem impl_passed_ev (p q r p' q' r' : Int) : Ev (fun k => impl_passed.f k p q r p' q' r') ([wrap64 (p' - p), wrap64 (q' - q), wrap64 (r' - r)], decide (mn (mn (wrap64 (p' - p)) (wrap64 (q' - q))) (wrap64 (r' - r)) ≥ 0)) := by
  simp only [impl_passed.f, Option.bind_some]
  generalize wrap64 (p' - p) = a
  generalize wrap64 (q' - q) = b
  generalize wrap64 (r' - r) = c
  have hm : Ev (fun k => slices_Min_int_int.f k [a, b, c]) (mn (mn a b) c) := by
    have e : (([a, b, c] : List Int).length : Int) = 3 := rfl
    simp only [slices_Min_int_int.f, e, if_neg (show ¬ ((3 : Int) < 1) by omega), if_pos (show (0 : Int) < 3 by omega)]
    refine ev_succ ?_
    simp only [slices_Min_int_int.l0, e, if_pos (show (1 : Int) < 3 by omega), if_pos (show (0 : Int) ≤ 1 by omega), w64 (n := (1 : Int) + 1) (by omega) (by omega)]
    refine ev_succ ?_
    simp only [slices_Min_int_int.l0, e, if_pos (show (1 : Int) + 1 < 3 by omega), if_pos (show (0 : Int) ≤ 1 + 1 by omega), w64 (n := (1 : Int) + 1 + 1) (by omega) (by omega)]
    refine ev_succ ?_
    simp only [slices_Min_int_int.l0, e, if_neg (show ¬ ((1 : Int) + 1 + 1 < 3) by omega)]
    exact ev_now _
  exact hm.bind (f := fun _ t => some (([a, b, c] : List Int), decide (t ≥ 0))) (ev_now _)
theorem eTaskOk : Ent Try.prog 19 := fun a w => enters_ Try.func19 rfl rfl a w
def fleetI (ts : List S33) (cs : List S70) (ds : List S72) (p q r : Int) : Bool := tasksFrom (fun a b c => passB a b c p q r) ts ts.length 0 && (defectsFrom r ds ds.length 0 && (decide ((ts.length : Int) ≤ 40) && (decide ((ds.length : Int) ≤ 20) && (carryB cs && clockB p q r))))
theorem fleet_same (ts : List S33) (cs : List S70) (ds : List S72) (p q r : Int) : fleetI ts cs ds p q r = fleetB ts cs ds p q r := by
  unfold fleetI fleetB
  cases h : clockB p q r with
  | false => simp
  | true =>
    rw [tasks_same h]
    cases tasksFrom (fun a b c => behindB a b c p q r) ts ts.length 0 <;> cases defectsFrom r ds ds.length 0 <;> cases carryB cs <;> simp
theorem task_t (n : ByteArray) (h c d p q r : Int) (hn : n.size ≤ 140737488355328) (w : World) : Calls Try.prog 19 #[.agg #[.string n, .int .i64 h, .int .i64 c, .int .i64 d, .int .i64 p, .int .i64 q, .int .i64 r]] w fun e w' => e = .returned (.bool (taskB n h c d p q r)) ∧ Below w.heap.size w w' := by
  obtain ⟨k, hk⟩ := (impl_TaskOk_ev n hn h c d p q r).rounds
  exact impl_TaskOk.calls k n h c d p q r _ w hk
theorem clock_t (a b c : Int) (w : World) : Calls Try.prog 15 #[.agg #[.int .i64 a, .int .i64 b, .int .i64 c]] w fun e w' => e = .returned (.bool (clockB a b c)) ∧ Below w.heap.size w w' := by
  obtain ⟨k, hk⟩ := (impl_ClockOk_ev a b c).rounds
  exact impl_ClockOk.calls k a b c _ w hk
theorem passed_t (p q r p' q' r' : Int) (w : World) : Calls Try.prog 59 #[.agg #[.int .i64 p, .int .i64 q, .int .i64 r], .agg #[.int .i64 p', .int .i64 q', .int .i64 r']] w fun e w' => ∃ v : Value, e = .returned (.tuple #[v, .bool (passB p q r p' q' r')]) ∧ Below w.heap.size w w' := by
  obtain ⟨k, hk⟩ := (impl_passed_ev p q r p' q' r').rounds
  exact (impl_passed.calls k p q r p' q' r' _ _ w hk).mono fun e w' ⟨v, h1, _, h2⟩ => ⟨v, h1, h2⟩
theorem kp_ {P : Program} {f : FuncId} {args : Array Value} {w : World} {b b' : Bool} (h : Calls P f args w fun e w' => ∃ v : Value, e = .returned (.tuple #[v, .bool b]) ∧ Below w.heap.size w w') (e : b = b') : Calls P f args w fun e w' => ∃ v : Value, e = .returned (.tuple #[v, .bool b']) ∧ Below w.heap.size w w' := e ▸ h
set_option maxHeartbeats 8000000 in
set_option maxRecDepth 100000 in
theorem impl_FleetOk.go (A0 : Option Addr) (c0 : Nat) (l0 : List S33) (A1 : Option Addr) (c1 : Nat) (l1 : List S70) (A2 : Option Addr) (c2 : Nat) (l2 : List S72) (p q r : Int) (w : World) (hr0 : Kd.C k33 w A0 l0.length l0) (hc0 : l0.length ≤ c0) (hr1 : Kd.C k70 w A1 l1.length l1) (hc1 : l1.length ≤ c1) (hr2 : Kd.C k72 w A2 l2.length l2) (hc2 : l2.length ≤ c2) (hz : FleetSz l0 l1 l2) :
    Calls Try.prog 31 #[.agg #[.slice A0 l0.length c0, .slice A1 l1.length c1, .slice A2 l2.length c2, .int .i64 p, .int .i64 q, .int .i64 r]] w fun e w' => e = .returned (.bool (fleetB l0 l1 l2 p q r)) ∧ Below w.heap.size w w' := by
  have hu33 := Try.underlying33
  have hu70 := Try.underlying70
  have hu72 := Try.underlying72
  have hu56 := Try.underlying56
  have hu25 := Try.underlying25
  have HR0 := Aside0.mk hr0
  have HR1 := Aside0.mk hr1
  have HR2 := Aside0.mk hr2
  have HX0 := Aside0.mk hz.t
  have HX1 := Aside0.mk hz.c
  have HX2 := Aside0.mk hz.d
  have hn0 := hz.tn
  have hn1 := hz.cn
  have hn2 := hz.dn
  clear hr0 hr1 hr2 hz
  rw [← fleet_same]
  have BK0 := Aside0.mk (blk_new w (.cells #[.slice A0 l0.length c0, .slice A1 l1.length c1, .slice A2 l2.length c2, .int .i64 p, .int .i64 q, .int .i64 r] 56 (0, 0)))
  have HB0 := Aside0.mk (below_alloc (Below.refl w.heap.size w) (.cells #[.slice A0 l0.length c0, .slice A1 l1.length c1, .slice A2 l2.length c2, .int .i64 p, .int .i64 q, .int .i64 r] 56 (0, 0)))
  go_enter Try.func31, Try.ntmps31
  go_wp2
  go_loopw [12] (fun v wr => ∃ i : Nat, i ≤ l0.length ∧ v = .int .i64 i ∧ Aside0 (fleetI l0 l1 l2 p q r = (tasksFrom (fun a b c => passB a b c p q r) l0 (l0.length - i) i && (defectsFrom r l2 l2.length 0 && (decide ((l0.length : Int) ≤ 40) && (decide ((l2.length : Int) ≤ 20) && (carryB l1 && clockB p q r)))))) ∧ Aside0 (wr.heap[w.heap.size]? = some (.cells #[.slice A0 l0.length c0, .slice A1 l1.length c1, .slice A2 l2.length c2, .int .i64 p, .int .i64 q, .int .i64 r] 56 (0, 0))) ∧ Aside0 (Below w.heap.size w wr)) (fun v _ => l0.length - (intOf v).toNat)
  case atStart => exact ⟨0, Nat.zero_le _, rfl, ⟨rfl⟩, BK0, HB0⟩
  case round =>
    clear BK0 HB0
    obtain ⟨i, hi, rfl, HE, BK, HB⟩ := hrel
    by_cases hlt : i < l0.length
    · have hfs := ck6 BK.out
      obtain ⟨ad, e0, hx0, hx1, hx2, hx3, hx4, hx5, hx6⟩ := at_T33 (Kd.C_below HR0.out HB.out) (i : Int) (by omega) (by omega)
      cases e0
      simp only [Int.toNat_natCast] at hx0 hx1 hx2 hx3 hx4 hx5 hx6
      obtain ⟨hf0, hf1, hf2, hf3, hf4, hf5⟩ := hfs
      have HS := Aside0.mk (tasks_step hlt HE.out)
      have HZ := Aside0.mk (HX0.out _ (List.getElem_mem hlt))
      rw [← rd_at33 hlt] at HZ
      have HK := Aside0.mk (blk_new wr (.cells #[.string (rd_T33 l0 (i : Int)).f0, .int .i64 (rd_T33 l0 (i : Int)).f1, .int .i64 (rd_T33 l0 (i : Int)).f2, .int .i64 (rd_T33 l0 (i : Int)).f3, .int .i64 (rd_T33 l0 (i : Int)).f4.f0, .int .i64 (rd_T33 l0 (i : Int)).f4.f1, .int .i64 (rd_T33 l0 (i : Int)).f4.f2] 33 (0, 0)))
      have HB2 := Aside0.mk (below_alloc HB.out (.cells #[.string (rd_T33 l0 (i : Int)).f0, .int .i64 (rd_T33 l0 (i : Int)).f1, .int .i64 (rd_T33 l0 (i : Int)).f2, .int .i64 (rd_T33 l0 (i : Int)).f3, .int .i64 (rd_T33 l0 (i : Int)).f4.f0, .int .i64 (rd_T33 l0 (i : Int)).f4.f1, .int .i64 (rd_T33 l0 (i : Int)).f4.f2] 33 (0, 0)))
      have BK2 := Aside0.mk (blk_alloc BK.out (.cells #[.string (rd_T33 l0 (i : Int)).f0, .int .i64 (rd_T33 l0 (i : Int)).f1, .int .i64 (rd_T33 l0 (i : Int)).f2, .int .i64 (rd_T33 l0 (i : Int)).f3, .int .i64 (rd_T33 l0 (i : Int)).f4.f0, .int .i64 (rd_T33 l0 (i : Int)).f4.f1, .int .i64 (rd_T33 l0 (i : Int)).f4.f2] 33 (0, 0)))
      go_upto_region 4 with (fail)
      generalize wr.heap.size = gx at HK ⊢
      refine world_ (fun W => W.heap[gx]? = some (.cells #[.string (rd_T33 l0 (i : Int)).f0, .int .i64 (rd_T33 l0 (i : Int)).f1, .int .i64 (rd_T33 l0 (i : Int)).f2, .int .i64 (rd_T33 l0 (i : Int)).f3, .int .i64 (rd_T33 l0 (i : Int)).f4.f0, .int .i64 (rd_T33 l0 (i : Int)).f4.f1, .int .i64 (rd_T33 l0 (i : Int)).f4.f2] 33 (0, 0)) ∧ W.heap[w.heap.size]? = some (.cells #[.slice (some ad) l0.length c0, .slice A1 l1.length c1, .slice A2 l2.length c2, .int .i64 p, .int .i64 q, .int .i64 r] 56 (0, 0)) ∧ Below w.heap.size w W) ⟨HK.out, BK2.out, HB2.out⟩ ?_
      clear HK HB2 HE HB hx0 hx1 hx2 hx3 hx4 hx5 hx6 BK2 BK hf0 hf1 hf2 hf3 hf4 hf5
      rintro W ⟨HK, BK, HB⟩
      replace HK := Aside0.mk HK
      replace HB := Aside0.mk HB
      replace BK := Aside0.mk BK
      obtain ⟨b1, Eb1⟩ : ∃ b, taskB (rd_T33 l0 (i : Int)).f0 (rd_T33 l0 (i : Int)).f1 (rd_T33 l0 (i : Int)).f2 (rd_T33 l0 (i : Int)).f3 (rd_T33 l0 (i : Int)).f4.f0 (rd_T33 l0 (i : Int)).f4.f1 (rd_T33 l0 (i : Int)).f4.f2 = b := ⟨_, rfl⟩
      have Kb1 := Aside0.mk (fun w' => kb_ (task_t (rd_T33 l0 (i : Int)).f0 (rd_T33 l0 (i : Int)).f1 (rd_T33 l0 (i : Int)).f2 (rd_T33 l0 (i : Int)).f3 (rd_T33 l0 (i : Int)).f4.f0 (rd_T33 l0 (i : Int)).f4.f1 (rd_T33 l0 (i : Int)).f4.f2 HZ.out w') Eb1)
      obtain ⟨b2, Eb2⟩ : ∃ b, passB (rd_T33 l0 (i : Int)).f4.f0 (rd_T33 l0 (i : Int)).f4.f1 (rd_T33 l0 (i : Int)).f4.f2 p q r = b := ⟨_, rfl⟩
      have Kb2 := Aside0.mk (fun w' => kp_ (passed_t (rd_T33 l0 (i : Int)).f4.f0 (rd_T33 l0 (i : Int)).f4.f1 (rd_T33 l0 (i : Int)).f4.f2 p q r w') Eb2)
      have HE := Aside0.mk (And.intro Eb1 Eb2)
      clear Eb1 Eb2
      have hfs := ck6 BK.out
      have hks := ck7 HK.out
      obtain ⟨hf0, hf1, hf2, hf3, hf4, hf5⟩ := hfs
      obtain ⟨hk0, hk1, hk2, hk3, hk4, hk5, hk6⟩ := hks
      go_upto_region 5 with ((go_at_call 59; (with_reducible refine (Kb2.out W).mono ?_); rintro e w5 ⟨v5, rfl, hb⟩))
      replace HK := Aside0.mk (blk_below HK.out hb)
      replace BK := Aside0.mk (blk_below BK.out hb)
      replace HB := Aside0.mk (below_step HB.out hb)
      clear hf0 hf1 hf2 hf3 hf4 hf5 hk0 hk1 hk2 hk3 hk4 hk5 hk6 hb
      go_cut [47] (fun v wc => v = .bool (!taskAt (fun a b c => passB a b c p q r) l0 (i : Int)) ∧ Aside0 (wc.heap[w.heap.size]? = some (.cells #[.slice (some ad) l0.length c0, .slice A1 l1.length c1, .slice A2 l2.length c2, .int .i64 p, .int .i64 q, .int .i64 r] 56 (0, 0))) ∧ Aside0 (Below w.heap.size w wc))
      case first =>
        clear HS
        rcases Nat.eq_zero_or_pos i with h0 | h0
        · subst h0
          have L := Aside0.mk (fun w' (h : Up w5 w') => (⟨ck (blk_below HK.out h) 0 rfl, ck (blk_below HK.out h) 1 rfl, ck (blk_below HK.out h) 2 rfl, ck (blk_below HK.out h) 3 rfl, ck (blk_below HK.out h) 4 rfl, ck (blk_below HK.out h) 5 rfl, ck (blk_below HK.out h) 6 rfl, ck (blk_below BK.out h) 0 rfl⟩ : w'.cell? ⟨gx, 0, none⟩ = some (.string (rd_T33 l0 ((0 : Nat) : Int)).f0) ∧ w'.cell? ⟨gx, 1, none⟩ = some (.int .i64 (rd_T33 l0 ((0 : Nat) : Int)).f1) ∧ w'.cell? ⟨gx, 2, none⟩ = some (.int .i64 (rd_T33 l0 ((0 : Nat) : Int)).f2) ∧ w'.cell? ⟨gx, 3, none⟩ = some (.int .i64 (rd_T33 l0 ((0 : Nat) : Int)).f3) ∧ w'.cell? ⟨gx, 4, none⟩ = some (.int .i64 (rd_T33 l0 ((0 : Nat) : Int)).f4.f0) ∧ w'.cell? ⟨gx, 5, none⟩ = some (.int .i64 (rd_T33 l0 ((0 : Nat) : Int)).f4.f1) ∧ w'.cell? ⟨gx, 6, none⟩ = some (.int .i64 (rd_T33 l0 ((0 : Nat) : Int)).f4.f2) ∧ w'.cell? ⟨w.heap.size, 0, none⟩ = some (.slice (some ad) l0.length c0)))
          have HP : Aside0 (taskAtPv l0 ((0 : Nat) : Int) = true) := ⟨rfl⟩
          rcases or2_ b1 b2 with rfl | ⟨rfl, rfl⟩ | ⟨rfl, rfl⟩
          all_goals
            (refine rg_ (by kernel_rfl) (by kernel_rfl) ?_; (repeat (first | refine qn_ ?_ | refine qc_ eTaskOk (fun w' _ => Kb1.out w') ?_ | refine ql_ L.out ?_)); refine qd_ ?_; intro w5 hb; (try go_wp2); go_meet; case rel => exact ⟨by have hp := HP.out; unfold taskAtPv at hp; unfold taskAt; (try dsimp only); rw [HE.out.1, HE.out.2, hp]; first | rfl | simp, ⟨blk_below BK.out hb⟩, ⟨below_step HB.out hb⟩⟩)
        · obtain ⟨j, rfl⟩ : ∃ j, i = j + 1 := ⟨i - 1, by omega⟩
          obtain ⟨ad', e0, y0, y1, y2, y3, y4, y5, y6⟩ := at_T33 HR0.out (j : Int) (by omega) (by omega)
          obtain rfl : ad = ad' := by injection e0
          simp only [Int.toNat_natCast] at y0 y1 y2 y3 y4 y5 y6
          have hj : wrap64 (j : Int) = (j : Int) := w64 (by omega) (by omega)
          have hjl : j < l0.length := by omega
          have L := Aside0.mk (fun w' (h : Up w5 w') => (⟨ck (blk_below HK.out h) 0 rfl, ck (blk_below HK.out h) 1 rfl, ck (blk_below HK.out h) 2 rfl, ck (blk_below HK.out h) 3 rfl, ck (blk_below HK.out h) 4 rfl, ck (blk_below HK.out h) 5 rfl, ck (blk_below HK.out h) 6 rfl, ck (blk_below BK.out h) 0 rfl, bc (below_step HB.out h) y0⟩ : w'.cell? ⟨gx, 0, none⟩ = some (.string (rd_T33 l0 ((j + 1 : Nat) : Int)).f0) ∧ w'.cell? ⟨gx, 1, none⟩ = some (.int .i64 (rd_T33 l0 ((j + 1 : Nat) : Int)).f1) ∧ w'.cell? ⟨gx, 2, none⟩ = some (.int .i64 (rd_T33 l0 ((j + 1 : Nat) : Int)).f2) ∧ w'.cell? ⟨gx, 3, none⟩ = some (.int .i64 (rd_T33 l0 ((j + 1 : Nat) : Int)).f3) ∧ w'.cell? ⟨gx, 4, none⟩ = some (.int .i64 (rd_T33 l0 ((j + 1 : Nat) : Int)).f4.f0) ∧ w'.cell? ⟨gx, 5, none⟩ = some (.int .i64 (rd_T33 l0 ((j + 1 : Nat) : Int)).f4.f1) ∧ w'.cell? ⟨gx, 6, none⟩ = some (.int .i64 (rd_T33 l0 ((j + 1 : Nat) : Int)).f4.f2) ∧ w'.cell? ⟨w.heap.size, 0, none⟩ = some (.slice (some ad) l0.length c0) ∧ w'.cell? (ad.add (j * 7)) = some (.string (rd_T33 l0 (j : Int)).f0)))
          obtain ⟨bP, EP⟩ : ∃ b, Op.bytesLess (rd_T33 l0 (j : Int)).f0.toList (rd_T33 l0 ((j : Int) + 1)).f0.toList = b := ⟨_, rfl⟩
          have HP : Aside0 (taskAtPv l0 ((j + 1 : Nat) : Int) = bP) := ⟨by unfold taskAtPv; rw [decide_eq_false (show ¬ ¬ ((j + 1 : Nat) : Int) > 0 by omega), show ((j + 1 : Nat) : Int) - 1 = (j : Int) by omega, show ((j + 1 : Nat) : Int) = (j : Int) + 1 by omega, EP]; rfl⟩
          clear y0 y1 y2 y3 y4 y5 y6 e0 h0
          rcases or3_ b1 b2 bP with rfl | ⟨rfl, rfl⟩ | ⟨rfl, rfl, rfl⟩ | ⟨rfl, rfl, rfl⟩
          all_goals
            (refine rg_ (by kernel_rfl) (by kernel_rfl) ?_; (repeat (first | refine qn_ ?_ | refine qc_ eTaskOk (fun w' _ => Kb1.out w') ?_ | refine ql_ L.out ?_)); refine qd_ ?_; intro w5 hb; (try go_wp2); go_meet; case rel => exact ⟨by have hp := HP.out; unfold taskAtPv at hp; unfold taskAt; (try dsimp only); rw [HE.out.1, HE.out.2, hp]; first | rfl | simp, ⟨blk_below BK.out hb⟩, ⟨below_step HB.out hb⟩⟩)
      case rest =>
        clear HB HZ HE HK BK
        obtain ⟨rfl, BK, HB⟩ := hcut
        cases hc : taskAt (fun a b c => passB a b c p q r) l0 (i : Int) with
        | false =>
          rw [hc] at HS
          go_wp2
          go_ret
          exact ⟨by rw [HS.out]; rfl, HB.out⟩
        | true =>
          rw [hc] at HS
          go_wp2
          go_roundw
          case rel => exact ⟨i + 1, by omega, by go_num, ⟨HS.out⟩, BK, HB⟩
          case measure => simp [intOf]; omega
    · obtain rfl : i = l0.length := by omega
      have HS := Aside0.mk (tasks_end HE.out)
      have HS0 := HS
      obtain ⟨hf0, hf1, hf2, hf3, hf4, hf5⟩ := ck6 BK.out
      clear HS HE
      go_wp2
      clear hf0 hf1 hf2 hf3 hf4 hf5
      have BK0 := BK
      have HB0 := HB
      clear BK HB
      obtain ⟨wo, rfl⟩ : ∃ wo : World, wo = wr := ⟨_, rfl⟩
      go_loopw [52] (fun v wr => ∃ i : Nat, i ≤ l2.length ∧ v = .int .i64 i ∧ Aside0 (fleetI l0 l1 l2 p q r = (defectsFrom r l2 (l2.length - i) i && (decide ((l0.length : Int) ≤ 40) && (decide ((l2.length : Int) ≤ 20) && (carryB l1 && clockB p q r))))) ∧ Aside0 (wr.heap[w.heap.size]? = some (.cells #[.slice A0 l0.length c0, .slice A1 l1.length c1, .slice A2 l2.length c2, .int .i64 p, .int .i64 q, .int .i64 r] 56 (0, 0))) ∧ Aside0 (Below w.heap.size w wr)) (fun v _ => l2.length - (intOf v).toNat)
      case atStart => exact ⟨0, Nat.zero_le _, rfl, ⟨HS0.out⟩, BK0, HB0⟩
      case round =>
        clear BK0 HB0 HS0
        obtain ⟨i, hi, rfl, HE, BK, HB⟩ := hrel
        by_cases hlt : i < l2.length
        · have hfs := ck6 BK.out
          obtain ⟨ad, e0, hx0, hx1, hx2⟩ := at_T72 (Kd.C_below HR2.out HB.out) (i : Int) (by omega) (by omega)
          cases e0
          simp only [Int.toNat_natCast] at hx0 hx1 hx2
          obtain ⟨hf0, hf1, hf2, hf3, hf4, hf5⟩ := hfs
          have HS := Aside0.mk (defects_step hlt HE.out)
          have HZ := Aside0.mk (HX2.out _ (List.getElem_mem hlt))
          rw [← rd_at72 hlt] at HZ
          have HK := Aside0.mk (blk_new wr (.cells #[.string (rd_T72 l2 (i : Int)).f0, .int .i64 (rd_T72 l2 (i : Int)).f1, .int .i64 (rd_T72 l2 (i : Int)).f2] 72 (0, 0)))
          have HB2 := Aside0.mk (below_alloc HB.out (.cells #[.string (rd_T72 l2 (i : Int)).f0, .int .i64 (rd_T72 l2 (i : Int)).f1, .int .i64 (rd_T72 l2 (i : Int)).f2] 72 (0, 0)))
          have BK2 := Aside0.mk (blk_alloc BK.out (.cells #[.string (rd_T72 l2 (i : Int)).f0, .int .i64 (rd_T72 l2 (i : Int)).f1, .int .i64 (rd_T72 l2 (i : Int)).f2] 72 (0, 0)))
          go_upto_region 11 with (fail)
          generalize wr.heap.size = gx at HK ⊢
          refine world_ (fun W => W.heap[gx]? = some (.cells #[.string (rd_T72 l2 (i : Int)).f0, .int .i64 (rd_T72 l2 (i : Int)).f1, .int .i64 (rd_T72 l2 (i : Int)).f2] 72 (0, 0)) ∧ W.heap[w.heap.size]? = some (.cells #[.slice A0 l0.length c0, .slice A1 l1.length c1, .slice (some ad) l2.length c2, .int .i64 p, .int .i64 q, .int .i64 r] 56 (0, 0)) ∧ Below w.heap.size w W) ⟨HK.out, BK2.out, HB2.out⟩ ?_
          clear HK HB2 HE HB hx0 hx1 hx2 BK2 BK hf0 hf1 hf2 hf3 hf4 hf5
          rintro W ⟨HK, BK, HB⟩
          replace HK := Aside0.mk HK
          replace HB := Aside0.mk HB
          replace BK := Aside0.mk BK
          obtain ⟨b1, Eb1⟩ : ∃ b, nameB (rd_T72 l2 (i : Int)).f0 = b := ⟨_, rfl⟩
          have Kb1 := Aside0.mk (fun w' => kb_ (name_t (rd_T72 l2 (i : Int)).f0 HZ.out w') Eb1)
          obtain ⟨b2, Eb2⟩ : ∃ b, inB (rd_T72 l2 (i : Int)).f1 1 1000000 = b := ⟨_, rfl⟩
          have Kb2 := Aside0.mk (fun w' => kb_ (in_t (rd_T72 l2 (i : Int)).f1 1 1000000 w') Eb2)
          obtain ⟨b3, Eb3⟩ : ∃ b, inB (rd_T72 l2 (i : Int)).f2 0 r = b := ⟨_, rfl⟩
          have Kb3 := Aside0.mk (fun w' => kb_ (in_t (rd_T72 l2 (i : Int)).f2 0 r w') Eb3)
          have HE := Aside0.mk (And.intro Eb1 (And.intro Eb2 Eb3))
          clear Eb1 Eb2 Eb3
          go_cut [91] (fun v wc => v = .bool (!defectAt r l2 (i : Int)) ∧ Aside0 (wc.heap[w.heap.size]? = some (.cells #[.slice A0 l0.length c0, .slice A1 l1.length c1, .slice (some ad) l2.length c2, .int .i64 p, .int .i64 q, .int .i64 r] 56 (0, 0))) ∧ Aside0 (Below w.heap.size w wc))
          case first =>
            clear HS
            rcases Nat.eq_zero_or_pos i with h0 | h0
            · subst h0
              have L := Aside0.mk (fun w' (h : Up W w') => (⟨ck (blk_below HK.out h) 0 rfl, ck (blk_below HK.out h) 1 rfl, ck (blk_below HK.out h) 2 rfl, ck (blk_below BK.out h) 2 rfl, ck (blk_below BK.out h) 5 rfl⟩ : w'.cell? ⟨gx, 0, none⟩ = some (.string (rd_T72 l2 ((0 : Nat) : Int)).f0) ∧ w'.cell? ⟨gx, 1, none⟩ = some (.int .i64 (rd_T72 l2 ((0 : Nat) : Int)).f1) ∧ w'.cell? ⟨gx, 2, none⟩ = some (.int .i64 (rd_T72 l2 ((0 : Nat) : Int)).f2) ∧ w'.cell? ⟨w.heap.size, 2, none⟩ = some (.slice (some ad) l2.length c2) ∧ w'.cell? ⟨w.heap.size, 5, none⟩ = some (.int .i64 r)))
              have HP : Aside0 (defectAtPv l2 ((0 : Nat) : Int) = true) := ⟨rfl⟩
              rcases or3_ b1 b2 b3 with rfl | ⟨rfl, rfl⟩ | ⟨rfl, rfl, rfl⟩ | ⟨rfl, rfl, rfl⟩
              all_goals
                (refine rg_ (by kernel_rfl) (by kernel_rfl) ?_; (repeat (first | refine qn_ ?_ | refine qc_ eName (fun w' _ => Kb1.out w') ?_ | refine qc_ eIn (fun w' _ => Kb2.out w') ?_ | refine qc_ eIn (fun w' _ => Kb3.out w') ?_ | refine ql_ L.out ?_)); refine qd_ ?_; intro w5 hb; (try go_wp2); go_meet; case rel => exact ⟨by have hp := HP.out; unfold defectAtPv at hp; unfold defectAt; (try dsimp only); rw [HE.out.1, HE.out.2.1, HE.out.2.2, hp]; first | rfl | simp, ⟨blk_below BK.out hb⟩, ⟨below_step HB.out hb⟩⟩)
            · obtain ⟨j, rfl⟩ : ∃ j, i = j + 1 := ⟨i - 1, by omega⟩
              obtain ⟨ad', e0, y0, y1, y2⟩ := at_T72 HR2.out (j : Int) (by omega) (by omega)
              obtain rfl : ad = ad' := by injection e0
              simp only [Int.toNat_natCast] at y0 y1 y2
              have hj : wrap64 (j : Int) = (j : Int) := w64 (by omega) (by omega)
              have hjl : j < l2.length := by omega
              have L := Aside0.mk (fun w' (h : Up W w') => (⟨ck (blk_below HK.out h) 0 rfl, ck (blk_below HK.out h) 1 rfl, ck (blk_below HK.out h) 2 rfl, ck (blk_below BK.out h) 2 rfl, ck (blk_below BK.out h) 5 rfl, bc (below_step HB.out h) y1⟩ : w'.cell? ⟨gx, 0, none⟩ = some (.string (rd_T72 l2 ((j + 1 : Nat) : Int)).f0) ∧ w'.cell? ⟨gx, 1, none⟩ = some (.int .i64 (rd_T72 l2 ((j + 1 : Nat) : Int)).f1) ∧ w'.cell? ⟨gx, 2, none⟩ = some (.int .i64 (rd_T72 l2 ((j + 1 : Nat) : Int)).f2) ∧ w'.cell? ⟨w.heap.size, 2, none⟩ = some (.slice (some ad) l2.length c2) ∧ w'.cell? ⟨w.heap.size, 5, none⟩ = some (.int .i64 r) ∧ w'.cell? ⟨(ad.add (j * 3)).block, (ad.add (j * 3)).off + 1, none⟩ = some (.int .i64 (rd_T72 l2 (j : Int)).f1)))
              obtain ⟨bP, EP⟩ : ∃ b, decide ((rd_T72 l2 (j : Int)).f1 < (rd_T72 l2 ((j : Int) + 1)).f1) = b := ⟨_, rfl⟩
              have HP : Aside0 (defectAtPv l2 ((j + 1 : Nat) : Int) = bP) := ⟨by unfold defectAtPv; rw [decide_eq_false (show ¬ ¬ ((j + 1 : Nat) : Int) > 0 by omega), show ((j + 1 : Nat) : Int) - 1 = (j : Int) by omega, show ((j + 1 : Nat) : Int) = (j : Int) + 1 by omega, EP]; rfl⟩
              have EQ : decide ((rd_T72 l2 ((j : Int) + 1)).f1 ≤ (rd_T72 l2 (j : Int)).f1) = !bP := by rw [← EP]; exact le_lt_ _ _
              clear EP
              clear y0 y1 y2 e0 h0
              rcases or4_ b1 b2 b3 bP with rfl | ⟨rfl, rfl⟩ | ⟨rfl, rfl, rfl⟩ | ⟨rfl, rfl, rfl, rfl⟩ | ⟨rfl, rfl, rfl, rfl⟩
              all_goals
                (refine rg_ (by kernel_rfl) (by kernel_rfl) ?_; (repeat (first | refine qn_ ?_ | refine qc_ eName (fun w' _ => Kb1.out w') ?_ | refine qc_ eIn (fun w' _ => Kb2.out w') ?_ | refine qc_ eIn (fun w' _ => Kb3.out w') ?_ | refine ql_ L.out ?_)); refine qd_ ?_; intro w5 hb; (try go_wp2); go_meet; case rel => exact ⟨by have hp := HP.out; unfold defectAtPv at hp; unfold defectAt; (try dsimp only); rw [HE.out.1, HE.out.2.1, HE.out.2.2, hp]; first | rfl | simp, ⟨blk_below BK.out hb⟩, ⟨below_step HB.out hb⟩⟩)
          case rest =>
            clear HB HZ HE HK BK
            obtain ⟨rfl, BK, HB⟩ := hcut
            cases hc : defectAt r l2 (i : Int) with
            | false =>
              rw [hc] at HS
              go_wp2
              go_ret
              exact ⟨by rw [HS.out]; rfl, HB.out⟩
            | true =>
              rw [hc] at HS
              go_wp2
              go_roundw
              case rel => exact ⟨i + 1, by omega, by go_num, ⟨HS.out⟩, BK, HB⟩
              case measure => simp [intOf]; omega
        · obtain rfl : i = l2.length := by omega
          have HS := Aside0.mk (defects_end HE.out)
          clear HE
          obtain ⟨hf0, hf1, hf2, hf3, hf4, hf5⟩ := ck6 BK.out
          obtain ⟨b1, E1⟩ : ∃ b, decide ((l0.length : Int) ≤ 40) = b := ⟨_, rfl⟩
          obtain ⟨b2, E2⟩ : ∃ b, decide ((l2.length : Int) ≤ 20) = b := ⟨_, rfl⟩
          obtain ⟨b3, E3⟩ : ∃ b, carryB l1 = b := ⟨_, rfl⟩
          obtain ⟨b4, E4⟩ : ∃ b, clockB p q r = b := ⟨_, rfl⟩
          have K3 := Aside0.mk (kb_ (impl_CarryOk.go A1 c1 l1 wr (Kd.C_below HR1.out HB.out) hc1 hn1 HX1.out) E3)
          have K4 := Aside0.mk (fun w' => kb_ (clock_t p q r w') E4)
          have HE := Aside0.mk (And.intro E1 (And.intro E2 (And.intro E3 E4)))
          clear E3 E4
          rcases or4_ b1 b2 b3 b4 with rfl | ⟨rfl, rfl⟩ | ⟨rfl, rfl, rfl⟩ | ⟨rfl, rfl, rfl, rfl⟩ | ⟨rfl, rfl, rfl, rfl⟩
          all_goals
            (go_wp2_with (first | (go_at_call 23; (with_reducible refine K3.out.mono ?_); rintro e w5 ⟨rfl, hb⟩; obtain ⟨hg0, hg1, hg2, hg3, hg4, hg5⟩ := ck6 (blk_below BK.out hb); have HB5 := Aside0.mk (below_step HB.out hb); clear hb) | (go_at_call 15; (with_reducible refine (K4.out _).mono ?_); rintro e w6 ⟨rfl, hb6⟩)); go_ret; exact ⟨by rw [HS.out, HE.out.1, HE.out.2.1, HE.out.2.2.1, HE.out.2.2.2]; rfl, by first | exact HB.out | exact HB5.out | exact below_step HB5.out hb6⟩)
def impl_FleetOk.f (l0_0 : List S33) (l0_1 : List S70) (l0_2 : List S72) (a0_3 : Int) (a0_4 : Int) (a0_5 : Int) : Option (Bool) := if fleetSzB l0_0 l0_1 l0_2 = true then some (fleetB l0_0 l0_1 l0_2 a0_3 a0_4 a0_5) else none
theorem impl_FleetOk.calls (A0_0 : Option Addr) (c0_0 : Nat) (l0_0 : List (S33)) (A0_1 : Option Addr) (c0_1 : Nat) (l0_1 : List (S70)) (A0_2 : Option Addr) (c0_2 : Nat) (l0_2 : List (S72)) (a0_3 : Int) (a0_4 : Int) (a0_5 : Int) (r : Bool) (w : World) (hr0_0 : Kd.C k33 w A0_0 l0_0.length l0_0) (hc0_0 : l0_0.length ≤ c0_0) (hr0_1 : Kd.C k70 w A0_1 l0_1.length l0_1) (hc0_1 : l0_1.length ≤ c0_1) (hr0_2 : Kd.C k72 w A0_2 l0_2.length l0_2) (hc0_2 : l0_2.length ≤ c0_2) (h : impl_FleetOk.f l0_0 l0_1 l0_2 a0_3 a0_4 a0_5 = some r) :
    Calls Try.prog 31 #[.agg #[.slice A0_0 l0_0.length c0_0, .slice A0_1 l0_1.length c0_1, .slice A0_2 l0_2.length c0_2, .int .i64 a0_3, .int .i64 a0_4, .int .i64 a0_5]] w fun e w' => e = .returned (.bool r) ∧ Below w.heap.size w w' := by
  unfold impl_FleetOk.f at h
  by_cases hz : fleetSzB l0_0 l0_1 l0_2 = true
  · rw [if_pos hz] at h
    have e := Option.some.inj h
    have c := impl_FleetOk.go A0_0 c0_0 l0_0 A0_1 c0_1 l0_1 A0_2 c0_2 l0_2 a0_3 a0_4 a0_5 w hr0_0 hc0_0 hr0_1 hc0_1 hr0_2 hc0_2 (fleetSz_of.1 hz)
    rw [e] at c
    exact c
  · rw [if_neg hz] at h
    exact absurd h (by simp)
-- HAND TO

end Go.Proofs.Ytbgdibbgngpggaa.PFnCarried
