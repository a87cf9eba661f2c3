-- Written by a program of this session (wip/xprint.py) out of the translation; Lean checks it.
import Derived.Test.YtljceaggilpgbaaPFnExactDeskOkx0
import Derived.Test.YtljceaggilpgbaaPFnExactDeskOkx1
import Derived.Test.YtljceaggilpgbaaPFnExactDeskOkx2
namespace Go.Proofs.Ytljceaggilpgbaa.PFnExactDeskOk
open Go.RowKit Go.Proofs.YtljceaggilpgbaaW.PrintWords Go.Proofs.YtljceaggilpgbaaW.PrintLast Go.Proofs.YtljceaggilpgbaaW.PrintMore Go.Proofs.Ytljceaggilpgbaa.Sq
attribute [local go_sem] max2_int min2_int max_two min_two max_three min_three max_four min_four   -- for this text's walks alone
set_option linter.unusedVariables false
set_option linter.unusedSimpArgs false

-- HAND FROM
open Go.Proofs.Ytljceaggilpgbaa.Base Go.Proofs.Ytljceaggilpgbaa.Sq
/-! ### A region that draws and whose callees make memory at most: one walk in the order of the text (by hand) -/
theorem ck3 {w : World} {g : Nat} {t : TypeId} {v0 v1 v2 : Value} (h : w.heap[g]? = some (.cells #[v0, v1, v2] t (0, 0))) : w.cell? ⟨g, 0, none⟩ = some v0 ∧ w.cell? ⟨g, 1, none⟩ = some v1 ∧ w.cell? ⟨g, 2, none⟩ = some v2 := ⟨ck h 0 rfl, ck h 1 rfl, ck h 2 rfl⟩
theorem ck6 {w : World} {g : Nat} {t : TypeId} {v0 v1 v2 v3 v4 v5 : Value} (h : w.heap[g]? = some (.cells #[v0, v1, v2, v3, v4, v5] t (0, 0))) : w.cell? ⟨g, 0, none⟩ = some v0 ∧ w.cell? ⟨g, 1, none⟩ = some v1 ∧ w.cell? ⟨g, 2, none⟩ = some v2 ∧ w.cell? ⟨g, 3, none⟩ = some v3 ∧ w.cell? ⟨g, 4, none⟩ = some v4 ∧ w.cell? ⟨g, 5, none⟩ = some v5 := ⟨ck h 0 rfl, ck h 1 rfl, ck h 2 rfl, ck h 3 rfl, ck h 4 rfl, ck h 5 rfl⟩
theorem ck7 {w : World} {g : Nat} {t : TypeId} {v0 v1 v2 v3 v4 v5 v6 : Value} (h : w.heap[g]? = some (.cells #[v0, v1, v2, v3, v4, v5, v6] t (0, 0))) : w.cell? ⟨g, 0, none⟩ = some v0 ∧ w.cell? ⟨g, 1, none⟩ = some v1 ∧ w.cell? ⟨g, 2, none⟩ = some v2 ∧ w.cell? ⟨g, 3, none⟩ = some v3 ∧ w.cell? ⟨g, 4, none⟩ = some v4 ∧ w.cell? ⟨g, 5, none⟩ = some v5 ∧ w.cell? ⟨g, 6, none⟩ = some v6 := ⟨ck h 0 rfl, ck h 1 rfl, ck h 2 rfl, ck h 3 rfl, ck h 4 rfl, ck h 5 rfl, ck h 6 rfl⟩
section
variable {P : Program} {ops : Array Oper} {Q : Act → Prop} {a a' : Act} {o : Oper} {rest : List Oper} {W : World}
abbrev Up (W : World) : World → Prop := fun w' => Below W.heap.size W w'
def Ent (P : Program) (f : FuncId) : Prop := ∀ (args : Array Value) (w : World), (callFunc f args).run P w = .ok (.enter f args) w
structure Wq (P : Program) (ops : Array Oper) (W : World) (Q : Act → Prop) (l : List Oper) (a : Act) : Prop where mk :: (out : wpQuiet P ops (Up W) Q l a)
theorem rg_ {id : Nat} {Q : Exit → Act → World → Prop} {a : Act} {W : World} {l : List Oper} (hm : P.follows .mixedOrders = true) (hB : Region.lexB .any l.toArray = true)
    (h : Wq P l.toArray W (fun a' => ∀ w', Up W w' → Q .normal a' w') l a) : (Code.region id l.toArray true).wp P Q a W :=
  wp_region_quiet (C := Up W) hm hB (below_drew (Below.refl _ _)) (by simpa using h.out)
theorem qn_ (h : Wq P ops W Q rest a') (hw : Region.wanted o (yielded ops a.tmps) = false := by rfl) (ha : a.put o.dst undef = a' := by simp only [sp_]; rfl) : Wq P ops W Q (o :: rest) a := by
  subst ha; exact ⟨BigFrame.wpQuiet_skip hw h.out⟩
theorem ql_ {F : World → Prop} {v : Value} (hL : ∀ w, Up W w → F w) (h : Wq P ops W Q rest a') (hw : Region.wanted o (yielded ops a.tmps) = true := by rfl)
    (hy : ∀ w, F w → (execOp a.eval o).run P w = .ok (.value v) w := by intro w' hf; (try go_split_ands); go_simp; with_reducible rfl) (ha : a.put o.dst v = a' := by simp only [sp_]; rfl) : Wq P ops W Q (o :: rest) a := by
  subst ha
  exact ⟨BigFrame.wpQuiet_want hw fun K hK => ⟨v, fun w hw => by unfold Oper.quietAt; rw [hy w (hL w hw)]; exact ⟨rfl, rfl⟩, hK _ h.out⟩⟩
theorem qc_ {f : FuncId} {args : Array Value} {v : Value} {as_ : Array Operand} {ts : Array TypeId} (he : Ent P f) (hc : ∀ w', Up W w' → Calls P f args w' fun e w'' => e = .returned v ∧ Below w'.heap.size w' w'') (h : Wq P ops W Q rest a')
    (hop : o.op = .call { callee := .value (.func f), args := as_, argTypes := ts } := by rfl) (hw : Region.wanted o (yielded ops a.tmps) = true := by rfl) (hargs : as_.map a.eval = args := by (try simp only [am_]); first | done | rfl) (ha : a.put o.dst v = a' := by simp only [sp_]; rfl) :
    Wq P ops W Q (o :: rest) a := by
  subst ha
  refine ⟨BigFrame.wpQuiet_want hw fun K hK => ⟨v, fun w hw => ?_, hK _ h.out⟩⟩
  have hrun : (execOp a.eval o).run P w = .ok (.enter f args) w := by
    unfold execOp
    simp [hop, resolve, Deferred.ofValue, invoke, Act.eval, hargs, he args w]
  unfold Oper.quietAt
  rw [hrun]
  exact ⟨rfl, (hc w hw).mono fun e w'' ⟨he, hb⟩ => ⟨he, below_step hw hb⟩⟩
theorem qd_ (h : Q a) : Wq P ops W Q [] a := ⟨h⟩
/-- What is known of a world, told anew under one letter. -/
theorem world_ {c : Code} {Q : Exit → Act → World → Prop} {a : Act} {W : World} (F : World → Prop) (h : F W) (k : ∀ w, F w → c.wp P Q a w) : c.wp P Q a W := k W h
theorem drawn_ {f : FuncId} {args : Array Value} {w : World} {v : Value} (h : Calls P f args w fun e w' => e = .returned v ∧ Drawn0 w w') : Calls P f args w fun e w' => e = .returned v ∧ Below w.heap.size w w' :=
  h.mono fun e w' ⟨he, hn⟩ => ⟨he, hn.below⟩
end
theorem or2_ : ∀ b0 b1 : Bool, b0 = false ∨ b0 = true ∧ b1 = false ∨ b0 = true ∧ b1 = true := by decide
theorem or3_ : ∀ b0 b1 b2 : Bool, b0 = false ∨ b0 = true ∧ b1 = false ∨ b0 = true ∧ b1 = true ∧ b2 = false ∨ b0 = true ∧ b1 = true ∧ b2 = true := by decide
theorem or4_ : ∀ b0 b1 b2 b3 : Bool, b0 = false ∨ b0 = true ∧ b1 = false ∨ b0 = true ∧ b1 = true ∧ b2 = false ∨ b0 = true ∧ b1 = true ∧ b2 = true ∧ b3 = false ∨ b0 = true ∧ b1 = true ∧ b2 = true ∧ b3 = true := by decide
theorem or5_ : ∀ b0 b1 b2 b3 b4 : Bool, b0 = false ∨ b0 = true ∧ b1 = false ∨ b0 = true ∧ b1 = true ∧ b2 = false ∨ b0 = true ∧ b1 = true ∧ b2 = true ∧ b3 = false ∨ b0 = true ∧ b1 = true ∧ b2 = true ∧ b3 = true ∧ b4 = false ∨ b0 = true ∧ b1 = true ∧ b2 = true ∧ b3 = true ∧ b4 = true := by decide
theorem kb_ {P : Program} {f : FuncId} {args : Array Value} {w : World} {b b' : Bool} (h : Calls P f args w fun e w' => e = .returned (.bool b) ∧ Below w.heap.size w w') (e : b = b') : Calls P f args w fun e w' => e = .returned (.bool b') ∧ Below w.heap.size w w' := e ▸ h
theorem ki_ {P : Program} {f : FuncId} {args : Array Value} {w : World} {b b' : Int} (h : Calls P f args w fun e w' => e = .returned (.int .i64 b) ∧ Below w.heap.size w w') (e : b = b') : Calls P f args w fun e w' => e = .returned (.int .i64 b') ∧ Below w.heap.size w w' := e ▸ h
theorem lt_le_ (a b : Int) : decide (b < a) = !decide (a ≤ b) := by by_cases h : a ≤ b <;> simp [h] <;> omega
theorem le_lt_ (a b : Int) : decide (b ≤ a) = !decide (a < b) := by by_cases h : a < b <;> simp [h] <;> omega
def Alnum (c : Int) : Prop := (97 ≤ c ∧ c ≤ 122) ∨ (65 ≤ c ∧ c ≤ 90) ∨ (48 ≤ c ∧ c ≤ 57)
instance (c : Int) : Decidable (Alnum c) := by unfold Alnum; exact inferInstance
def charB (c : Int) : Bool := decide (Alnum c) || (c == 45)
def charsB (s : ByteArray) : Nat → Nat → Bool
  | 0, _ => true
  | d + 1, i => charB (bt s (i : Int)) && charsB s d (i + 1)
def nameB (s : ByteArray) : Bool := charsB s s.size 0 && inB (s.size : Int) 1 20
abbrev Cr := S137
def carryAt (xs : List Cr) (i : Int) : Bool := nameB (rd_T137 xs i).f0 && (inB (rd_T137 xs i).f1 0 10 && (inB (rd_T137 xs i).f2 0 120 && (decide (¬ i > 0) || Op.bytesLess (rd_T137 xs (i - 1)).f0.toList (rd_T137 xs i).f0.toList)))
def carryFrom (xs : List Cr) : Nat → Nat → Bool
  | 0, _ => decide ((xs.length : Int) ≤ 20)
  | d + 1, i => carryAt xs (i : Int) && carryFrom xs d (i + 1)
def carryB (xs : List Cr) : Bool := carryFrom xs xs.length 0
def carryAtPv (xs : List S137) (i : Int) : Bool := decide (¬ i > 0) || Op.bytesLess (rd_T137 xs (i - 1)).f0.toList (rd_T137 xs i).f0.toList
theorem rd_at137 {l : List S137} {i : Nat} (h : i < l.length) : rd_T137 l (i : Int) = l[i] := by simp [rd_T137, List.getD_eq_getElem?_getD, h]
theorem rd_at104 {l : List S104} {i : Nat} (h : i < l.length) : rd_T104 l (i : Int) = l[i] := by simp [rd_T104, List.getD_eq_getElem?_getD, h]
theorem rd_at63 {l : List S63} {i : Nat} (h : i < l.length) : rd_T63 l (i : Int) = l[i] := by simp [rd_T63, List.getD_eq_getElem?_getD, h]
theorem carry_step {l : List S137} {i : Nat} (h : i < l.length) {b : Bool} (e : b = carryFrom l (l.length - i) i) : b = (carryAt l (i : Int) && carryFrom l (l.length - (i + 1)) (i + 1)) := by
  rw [e, show l.length - i = (l.length - (i + 1)) + 1 by omega]; rfl
theorem carry_end {l : List S137} {b : Bool} (e : b = carryFrom l (l.length - l.length) l.length) : b = decide ((l.length : Int) ≤ 20) := by
  rw [e, Nat.sub_self]; rfl
theorem spec_in_eq (a b c : Int) : spec_l1In.f a b c = some (inB a b c) := in_form a b c
theorem spec_l1Name_l (s : ByteArray) (hn : s.size ≤ 140737488355328) (d : Nat) : ∀ i : Nat, i + d = s.size → Ev (fun k => spec_l1Name.l0 k s (i : Int)) (charsB s d i && inB (s.size : Int) 1 20) := by
  induction d with
  | zero =>
    intro i h
    refine ev_succ ?_
    simp only [spec_l1Name.l0, if_neg (show ¬ ((i : Int) < (s.size : Int)) by omega), spec_in_eq, Option.bind_some, charsB, Bool.true_and]
    exact ev_now _
  | succ d ih =>
    intro i h
    have hi := ih (i + 1) (by omega)
    refine ev_succ ?_
    have hb := bt_range s (i : Int)
    simp only [spec_l1Name.l0, if_pos (show ((i : Int) < (s.size : Int)) by omega), if_pos (show (0 : Int) ≤ (i : Int) by omega), spec_in_eq, Option.bind_some, w64 (show -9223372036854775808 ≤ bt s (i : Int) by omega) (show bt s (i : Int) ≤ 9223372036854775807 by omega)]
    unfold charsB
    generalize bt s (i : Int) = c
    refine Ev.congr (f := fun k => spec_l1Name.j1 k s (i : Int) (!charB c)) (fun k => ?_) ?_
    · by_cases hc : Alnum c
      · rw [show charB c = true by simp [charB, hc]]
        unfold Alnum at hc
        repeat' split
        all_goals first | rfl | (rename_i a1 a2 a3; rw [inB_iff] at a1 a2 a3; exfalso; omega)
      · rw [show charB c = (c == 45) by simp [charB, hc]]
        unfold Alnum at hc
        have n1 : inB c 97 122 = false := by rw [Bool.eq_false_iff, ne_eq, inB_iff]; omega
        have n2 : inB c 65 90 = false := by rw [Bool.eq_false_iff, ne_eq, inB_iff]; omega
        have n3 : inB c 48 57 = false := by rw [Bool.eq_false_iff, ne_eq, inB_iff]; omega
        simp only [n1, n2, n3, Bool.false_eq_true, if_false]
        rfl
    · refine ev_succ ?_
      cases charB c with
      | true => simpa only [spec_l1Name.j1, Bool.not_true, Bool.false_eq_true, if_false, w64s i (show i < 9223372036854775807 by omega), Bool.true_and] using hi
      | false => simpa only [spec_l1Name.j1, Bool.not_false, if_true, Bool.false_and] using ev_now false
theorem spec_l1Name_ev (s : ByteArray) (hn : s.size ≤ 140737488355328) : Ev (fun k => spec_l1Name.f k s) (nameB s) := by
  simpa [spec_l1Name.f, nameB] using spec_l1Name_l s hn s.size 0 (by omega)
theorem uName : Ent Try.prog 52 := fun a w => enters_ Try.func52 rfl rfl a w
theorem uIn : Ent Try.prog 47 := fun a w => enters_ Try.func47 rfl rfl a w
theorem name_u (s : ByteArray) (hs : s.size ≤ 140737488355328) (w : World) : Calls Try.prog 52 #[.string s] w fun e w' => e = .returned (.bool (nameB s)) ∧ Below w.heap.size w w' := by
  obtain ⟨k, hk⟩ := (spec_l1Name_ev s hs).rounds
  exact drawn_ (spec_l1Name.calls k s _ w hk)
theorem in_u (a b c : Int) (w : World) : Calls Try.prog 47 #[.int .i64 a, .int .i64 b, .int .i64 c] w fun e w' => e = .returned (.bool (inB a b c)) ∧ Below w.heap.size w w' := drawn_ (spec_l1In.calls a b c _ w (spec_in_eq a b c))
set_option maxHeartbeats 4000000 in
set_option maxRecDepth 100000 in
theorem spec_CarryOk.go (A0 : Option Addr) (c0 : Nat) (l0 : List S137) (w : World) (hr0 : Kd.C k137 w A0 l0.length l0) (hc0 : l0.length ≤ c0) (hn : l0.length ≤ 140737488355328) (hx : ∀ x ∈ l0, x.f0.size ≤ 140737488355328) :
    Calls Try.prog 49 #[.slice A0 l0.length c0] w fun e w' => e = .returned (.bool (carryB l0)) ∧ Below w.heap.size w w' := by
  have hu137 := Try.underlying137
  have HR := Aside0.mk hr0
  have HX := Aside0.mk hx
  clear hr0 hx
  go_enter Try.func49, Try.ntmps49
  go_wp2
  go_loopw [3] (fun v wr => ∃ i : Nat, i ≤ l0.length ∧ v = .int .i64 i ∧ Aside0 (carryB l0 = carryFrom l0 (l0.length - i) i) ∧ Aside0 (Below w.heap.size w wr)) (fun v _ => l0.length - (intOf v).toNat)
  case atStart => exact ⟨0, Nat.zero_le _, rfl, ⟨rfl⟩, ⟨Below.refl _ _⟩⟩
  case round =>
    obtain ⟨i, hi, rfl, HE, HB⟩ := hrel
    by_cases hlt : i < l0.length
    · obtain ⟨ad, e0, hx0, hx1, hx2⟩ := at_T137 (Kd.C_below HR.out HB.out) (i : Int) (by omega) (by omega)
      cases e0
      simp only [Int.toNat_natCast] at hx0 hx1 hx2
      have HS := Aside0.mk (carry_step hlt HE.out)
      have HZ := Aside0.mk (HX.out _ (List.getElem_mem hlt))
      rw [← rd_at137 hlt] at HZ
      have HK := Aside0.mk (blk_new wr (.cells #[.string (rd_T137 l0 (i : Int)).f0, .int .i64 (rd_T137 l0 (i : Int)).f1, .int .i64 (rd_T137 l0 (i : Int)).f2] 137 (0, 0)))
      have HB2 := Aside0.mk (below_alloc HB.out (.cells #[.string (rd_T137 l0 (i : Int)).f0, .int .i64 (rd_T137 l0 (i : Int)).f1, .int .i64 (rd_T137 l0 (i : Int)).f2] 137 (0, 0)))
      go_upto_region 5 with (fail)
      generalize wr.heap.size = gx at HK ⊢
      refine world_ (fun W => W.heap[gx]? = some (.cells #[.string (rd_T137 l0 (i : Int)).f0, .int .i64 (rd_T137 l0 (i : Int)).f1, .int .i64 (rd_T137 l0 (i : Int)).f2] 137 (0, 0)) ∧ Below w.heap.size w W) ⟨HK.out, HB2.out⟩ ?_
      clear HK HB2 HE HB hx0 hx1 hx2
      rintro W ⟨HK, HB⟩
      replace HK := Aside0.mk HK
      replace HB := Aside0.mk HB
      obtain ⟨b1, Eb1⟩ : ∃ b, nameB (rd_T137 l0 (i : Int)).f0 = b := ⟨_, rfl⟩
      have Kb1 := Aside0.mk (fun w' => kb_ (name_u (rd_T137 l0 (i : Int)).f0 HZ.out w') Eb1)
      obtain ⟨b2, Eb2⟩ : ∃ b, inB (rd_T137 l0 (i : Int)).f1 0 10 = b := ⟨_, rfl⟩
      have Kb2 := Aside0.mk (fun w' => kb_ (in_u (rd_T137 l0 (i : Int)).f1 0 10 w') Eb2)
      obtain ⟨b3, Eb3⟩ : ∃ b, inB (rd_T137 l0 (i : Int)).f2 0 120 = b := ⟨_, rfl⟩
      have Kb3 := Aside0.mk (fun w' => kb_ (in_u (rd_T137 l0 (i : Int)).f2 0 120 w') Eb3)
      have HE := Aside0.mk (And.intro Eb1 (And.intro Eb2 Eb3))
      clear Eb1 Eb2 Eb3
      go_cut [45] (fun v wc => v = .bool (!carryAt l0 (i : Int)) ∧ Aside0 (Below w.heap.size w wc))
      case first =>
        clear HS
        rcases Nat.eq_zero_or_pos i with h0 | h0
        · subst h0
          have L := Aside0.mk (fun w' (h : Up W w') => (⟨ck (blk_below HK.out h) 0 rfl, ck (blk_below HK.out h) 1 rfl, ck (blk_below HK.out h) 2 rfl⟩ : w'.cell? ⟨gx, 0, none⟩ = some (.string (rd_T137 l0 ((0 : Nat) : Int)).f0) ∧ w'.cell? ⟨gx, 1, none⟩ = some (.int .i64 (rd_T137 l0 ((0 : Nat) : Int)).f1) ∧ w'.cell? ⟨gx, 2, none⟩ = some (.int .i64 (rd_T137 l0 ((0 : Nat) : Int)).f2)))
          have HP : Aside0 (carryAtPv l0 ((0 : Nat) : Int) = true) := ⟨rfl⟩
          rcases or3_ b1 b2 b3 with rfl | ⟨rfl, rfl⟩ | ⟨rfl, rfl, rfl⟩ | ⟨rfl, rfl, rfl⟩
          all_goals
            (refine rg_ (by kernel_rfl) (by kernel_rfl) ?_; (repeat (first | refine qn_ ?_ | refine qc_ uName (fun w' _ => Kb1.out w') ?_ | refine qc_ uIn (fun w' _ => Kb2.out w') ?_ | refine qc_ uIn (fun w' _ => Kb3.out w') ?_ | refine ql_ L.out ?_)); refine qd_ ?_; intro w5 hb; (try go_wp2); go_meet; case rel => exact ⟨by have hp := HP.out; unfold carryAtPv at hp; unfold carryAt; (try dsimp only); rw [HE.out.1, HE.out.2.1, HE.out.2.2, hp]; first | rfl | simp, ⟨below_step HB.out hb⟩⟩)
        · obtain ⟨j, rfl⟩ : ∃ j, i = j + 1 := ⟨i - 1, by omega⟩
          obtain ⟨ad', e0, y0, y1, y2⟩ := at_T137 HR.out (j : Int) (by omega) (by omega)
          obtain rfl : ad = ad' := by injection e0
          simp only [Int.toNat_natCast] at y0 y1 y2
          have hj : wrap64 (j : Int) = (j : Int) := w64 (by omega) (by omega)
          have hjl : j < l0.length := by omega
          have L := Aside0.mk (fun w' (h : Up W w') => (⟨ck (blk_below HK.out h) 0 rfl, ck (blk_below HK.out h) 1 rfl, ck (blk_below HK.out h) 2 rfl, bc (below_step HB.out h) y0⟩ : w'.cell? ⟨gx, 0, none⟩ = some (.string (rd_T137 l0 ((j + 1 : Nat) : Int)).f0) ∧ w'.cell? ⟨gx, 1, none⟩ = some (.int .i64 (rd_T137 l0 ((j + 1 : Nat) : Int)).f1) ∧ w'.cell? ⟨gx, 2, none⟩ = some (.int .i64 (rd_T137 l0 ((j + 1 : Nat) : Int)).f2) ∧ w'.cell? (ad.add (j * 3)) = some (.string (rd_T137 l0 (j : Int)).f0)))
          obtain ⟨bP, EP⟩ : ∃ b, Op.bytesLess (rd_T137 l0 (j : Int)).f0.toList (rd_T137 l0 ((j : Int) + 1)).f0.toList = b := ⟨_, rfl⟩
          have HP : Aside0 (carryAtPv l0 ((j + 1 : Nat) : Int) = bP) := ⟨by unfold carryAtPv; rw [decide_eq_false (show ¬ ¬ ((j + 1 : Nat) : Int) > 0 by omega), show ((j + 1 : Nat) : Int) - 1 = (j : Int) by omega, show ((j + 1 : Nat) : Int) = (j : Int) + 1 by omega, EP]; rfl⟩
          clear y0 y1 y2 e0 h0
          rcases or4_ b1 bP b2 b3 with rfl | ⟨rfl, rfl⟩ | ⟨rfl, rfl, rfl⟩ | ⟨rfl, rfl, rfl, rfl⟩ | ⟨rfl, rfl, rfl, rfl⟩
          all_goals
            (refine rg_ (by kernel_rfl) (by kernel_rfl) ?_; (repeat (first | refine qn_ ?_ | refine qc_ uName (fun w' _ => Kb1.out w') ?_ | refine qc_ uIn (fun w' _ => Kb2.out w') ?_ | refine qc_ uIn (fun w' _ => Kb3.out w') ?_ | refine ql_ L.out ?_)); refine qd_ ?_; intro w5 hb; (try go_wp2); go_meet; case rel => exact ⟨by have hp := HP.out; unfold carryAtPv at hp; unfold carryAt; (try dsimp only); rw [HE.out.1, HE.out.2.1, HE.out.2.2, hp]; first | rfl | simp, ⟨below_step HB.out hb⟩⟩)
      case rest =>
        clear HB HZ HE HK
        obtain ⟨rfl, HB⟩ := hcut
        cases hc : carryAt l0 (i : Int) with
        | false =>
          rw [hc] at HS
          go_wp2
          go_ret
          exact ⟨by rw [HS.out]; rfl, HB.out⟩
        | true =>
          rw [hc] at HS
          go_wp2
          go_roundw
          case rel => exact ⟨i + 1, by omega, by go_num, ⟨HS.out⟩, HB⟩
          case measure => simp [intOf]; omega
    · obtain rfl : i = l0.length := by omega
      have HS := Aside0.mk (carry_end HE.out)
      go_wp2
      go_ret
      exact ⟨by rw [HS.out]; rfl, HB.out⟩
-- HAND TO

/-! ### spec_TaskOk: function 50 -/
def spec_TaskOk.f (k : Nat) (a0_0 : ByteArray) (a0_1 : Int) (a0_2 : Int) (a0_3 : Int) (a0_4 : Int) (a0_5 : Int) (a0_6 : Int) : Option (Bool) := (spec_l1Name.f k a0_0).bind fun t149 => (if t149 = true then ((spec_l1In.f a0_1 0 100000).bind fun t150 => (if t150 = true then ((spec_l1In.f a0_2 0 100000).bind fun t151 => (if t151 = true then ((spec_l1In.f a0_3 0 100000).bind fun t152 => (if t152 = true then (if (wrap64 ((wrap64 (a0_1 + a0_2)) + a0_3)) > 0 then ((spec_ClockOk.f a0_4 a0_5 a0_6).bind fun t153 => (some t153)) else (some false)) else (some false))) else (some false))) else (some false))) else (some false))
theorem spec_TaskOk.mono : ∀ a0 a1 a2 a3 a4 a5 a6 k, LeO (spec_TaskOk.f k a0 a1 a2 a3 a4 a5 a6) (spec_TaskOk.f (k + 1) a0 a1 a2 a3 a4 a5 a6) := by
 intro a0 a1 a2 a3 a4 a5 a6 k
 unfold spec_TaskOk.f
 repeat' first
   | (with_reducible exact spec_l1Name.mono _ _)
   | (with_reducible exact LeO.refl _)
   | (with_reducible exact LeO.none _)
   | (with_reducible refine LeO.ite ?_ ?_)
   | (with_reducible refine LeO.bind ?_ (fun _ => ?_))
   | exact spec_l1Name.mono _ _
   | exact LeO.none _
   | refine LeO.ite ?_ ?_
   | refine LeO.bind ?_ (fun _ => ?_)
set_option maxHeartbeats 8000000 in
set_option maxRecDepth 100000 in
theorem spec_TaskOk.calls (k : Nat) (a0_0 : ByteArray) (a0_1 : Int) (a0_2 : Int) (a0_3 : Int) (a0_4 : Int) (a0_5 : Int) (a0_6 : Int) (r : Bool) (w : World) (h : spec_TaskOk.f k a0_0 a0_1 a0_2 a0_3 a0_4 a0_5 a0_6 = some r) :
  Calls Try.prog 50 #[.agg #[.string a0_0, .int .i64 a0_1, .int .i64 a0_2, .int .i64 a0_3, .int .i64 a0_4, .int .i64 a0_5, .int .i64 a0_6]] w fun e w' => e = .returned (.bool r) ∧ Below w.heap.size w w' := by
 have hu104 := Try.underlying104
 have hu44 := Try.underlying44
 have HB := Aside0.mk (Below.refl w.heap.size w)
 have H : ((spec_l1Name.f k a0_0).bind fun t149 => (if t149 = true then ((spec_l1In.f a0_1 0 100000).bind fun t150 => (if t150 = true then ((spec_l1In.f a0_2 0 100000).bind fun t151 => (if t151 = true then ((spec_l1In.f a0_3 0 100000).bind fun t152 => (if t152 = true then (if (wrap64 ((wrap64 (a0_1 + a0_2)) + a0_3)) > 0 then ((spec_ClockOk.f a0_4 a0_5 a0_6).bind fun t153 => (some t153)) else (some false)) else (some false))) else (some false))) else (some false))) else (some false))) = some r := h
 clear h
 replace H := Option.bind_eq_some_iff.mp H
 obtain ⟨t149, A20, H⟩ := H
 replace H : (if t149 = true then ((spec_l1In.f a0_1 0 100000).bind fun t150 => (if t150 = true then ((spec_l1In.f a0_2 0 100000).bind fun t151 => (if t151 = true then ((spec_l1In.f a0_3 0 100000).bind fun t152 => (if t152 = true then (if (wrap64 ((wrap64 (a0_1 + a0_2)) + a0_3)) > 0 then ((spec_ClockOk.f a0_4 a0_5 a0_6).bind fun t153 => (some t153)) else (some false)) else (some false))) else (some false))) else (some false))) else (some false)) = some r := H
 have A2 := Aside0.mk A20
 clear A20
 by_cases c3 : t149 = true
 ·
  subst c3
  have H1 : ((spec_l1In.f a0_1 0 100000).bind fun t150 => (if t150 = true then ((spec_l1In.f a0_2 0 100000).bind fun t151 => (if t151 = true then ((spec_l1In.f a0_3 0 100000).bind fun t152 => (if t152 = true then (if (wrap64 ((wrap64 (a0_1 + a0_2)) + a0_3)) > 0 then ((spec_ClockOk.f a0_4 a0_5 a0_6).bind fun t153 => (some t153)) else (some false)) else (some false))) else (some false))) else (some false))) = some r := by rw [if_pos rfl] at H; exact H
  clear H
  have H := H1
  clear H1
  replace H := Option.bind_eq_some_iff.mp H
  obtain ⟨t150, A40, H⟩ := H
  replace H : (if t150 = true then ((spec_l1In.f a0_2 0 100000).bind fun t151 => (if t151 = true then ((spec_l1In.f a0_3 0 100000).bind fun t152 => (if t152 = true then (if (wrap64 ((wrap64 (a0_1 + a0_2)) + a0_3)) > 0 then ((spec_ClockOk.f a0_4 a0_5 a0_6).bind fun t153 => (some t153)) else (some false)) else (some false))) else (some false))) else (some false)) = some r := H
  have A4 := Aside0.mk A40
  clear A40
  by_cases c5 : t150 = true
  ·
   subst c5
   have H1 : ((spec_l1In.f a0_2 0 100000).bind fun t151 => (if t151 = true then ((spec_l1In.f a0_3 0 100000).bind fun t152 => (if t152 = true then (if (wrap64 ((wrap64 (a0_1 + a0_2)) + a0_3)) > 0 then ((spec_ClockOk.f a0_4 a0_5 a0_6).bind fun t153 => (some t153)) else (some false)) else (some false))) else (some false))) = some r := by rw [if_pos rfl] at H; exact H
   clear H
   have H := H1
   clear H1
   replace H := Option.bind_eq_some_iff.mp H
   obtain ⟨t151, A60, H⟩ := H
   replace H : (if t151 = true then ((spec_l1In.f a0_3 0 100000).bind fun t152 => (if t152 = true then (if (wrap64 ((wrap64 (a0_1 + a0_2)) + a0_3)) > 0 then ((spec_ClockOk.f a0_4 a0_5 a0_6).bind fun t153 => (some t153)) else (some false)) else (some false))) else (some false)) = some r := H
   have A6 := Aside0.mk A60
   clear A60
   by_cases c7 : t151 = true
   ·
    subst c7
    have H1 : ((spec_l1In.f a0_3 0 100000).bind fun t152 => (if t152 = true then (if (wrap64 ((wrap64 (a0_1 + a0_2)) + a0_3)) > 0 then ((spec_ClockOk.f a0_4 a0_5 a0_6).bind fun t153 => (some t153)) else (some false)) else (some false))) = some r := by rw [if_pos rfl] at H; exact H
    clear H
    have H := H1
    clear H1
    replace H := Option.bind_eq_some_iff.mp H
    obtain ⟨t152, A80, H⟩ := H
    replace H : (if t152 = true then (if (wrap64 ((wrap64 (a0_1 + a0_2)) + a0_3)) > 0 then ((spec_ClockOk.f a0_4 a0_5 a0_6).bind fun t153 => (some t153)) else (some false)) else (some false)) = some r := H
    have A8 := Aside0.mk A80
    clear A80
    by_cases c9 : t152 = true
    ·
     subst c9
     have H1 : (if (wrap64 ((wrap64 (a0_1 + a0_2)) + a0_3)) > 0 then ((spec_ClockOk.f a0_4 a0_5 a0_6).bind fun t153 => (some t153)) else (some false)) = some r := by rw [if_pos rfl] at H; exact H
     clear H
     have H := H1
     clear H1
     by_cases c10 : (wrap64 ((wrap64 (a0_1 + a0_2)) + a0_3)) > 0
     ·
      rw [if_pos c10] at H
      have c10b0 : decide (0 < (wrap64 ((wrap64 (a0_1 + a0_2)) + a0_3))) = true := decide_eq_true c10
      clear c10
      replace H := Option.bind_eq_some_iff.mp H
      obtain ⟨t153, A110, H⟩ := H
      replace H : (some t153) = some r := H
      have A11 := Aside0.mk A110
      clear A110
      obtain rfl := Option.some.inj H
      go_enter Try.func50, Try.ntmps50
      go_wp2_with (first | ((with_reducible refine gate_dst (N := 1) rfl ?_); refine box_event ?hg (N := 1) ?hd (cs := #[.string a0_0, .int .i64 a0_1, .int .i64 a0_2, .int .i64 a0_3, .int .i64 a0_4, .int .i64 a0_5, .int .i64 a0_6]) (t := 104) ?hr ?_; (case hd => rfl); (case hg => rfl); (case hr => first | (go_simp; done) | (go_simp; rfl)); intro gb148 hg w12 hbox hb; have BK148 := Aside0.mk (hbox); have GW148 := Aside0.mk ((by rw [hg]; exact (below_size (bl HB.out)) : w.heap.size ≤ gb148)); have GE148 := GW148; replace HB := Aside0.mk (below_step (bl HB.out) hb); clear hb hbox hg; obtain ⟨hcz13_0, hcz13_1, hcz13_2, hcz13_3, hcz13_4, hcz13_5, hcz13_6⟩ := ck7 BK148.out; obtain ⟨hfz13_0, hfz13_1, hfz13_2, hfz13_3, hfz13_4, hfz13_5, hfz13_6⟩ := fz7 BK148.out) | ((with_reducible refine gate_callee (f := 52) rfl ?_); refine goesL_ (some 5) rfl rfl Try.func52 (by kernel_rfl) rfl #[.string a0_0] rfl (by (try simp only [am_]); first | done | rfl) ?_; (with_reducible refine (spec_l1Name.calls k a0_0 true _ A2.out).mono ?_); rintro e w' ⟨rfl, ⟨nd, rfl⟩⟩; refine ⟨_, rfl, ?_⟩) | (go_at_call 47; (with_reducible refine (spec_l1In.calls a0_1 0 100000 true _ A4.out).mono ?_); rintro e w' ⟨rfl, ⟨nd, rfl⟩⟩) | (go_at_call 47; (with_reducible refine (spec_l1In.calls a0_2 0 100000 true _ A6.out).mono ?_); rintro e w' ⟨rfl, ⟨nd, rfl⟩⟩) | (go_at_call 47; (with_reducible refine (spec_l1In.calls a0_3 0 100000 true _ A8.out).mono ?_); rintro e w' ⟨rfl, ⟨nd, rfl⟩⟩) | (go_at_call 48; (with_reducible refine (spec_ClockOk.calls a0_4 a0_5 a0_6 t153 _ A11.out).mono ?_); rintro e w14 ⟨rfl, hb⟩; replace BK148 := Aside0.mk (blk_below (bk BK148.out) hb); replace HB := Aside0.mk (below_step (by repeat with_reducible first | exact bl HB.out | refine below_set ?_ GE148.out | refine bq ?_) hb); (try clear hb); (try clear hb2); (try clear hk); (try clear hi)))
      go_ret
      exact ⟨by first | rfl | (simp [errW_none, errW_some] <;> rfl) | (simp [*, errW_none, errW_some] <;> rfl), by repeat with_reducible first | exact bl HB.out | refine below_set ?_ GE148.out | refine bq ?_⟩
     ·
      rw [if_neg c10] at H
      have c10b0 : decide (0 < (wrap64 ((wrap64 (a0_1 + a0_2)) + a0_3))) = false := decide_eq_false c10
      clear c10
      obtain rfl := Option.some.inj H
      go_enter Try.func50, Try.ntmps50
      go_wp2_with (first | ((with_reducible refine gate_dst (N := 1) rfl ?_); refine box_event ?hg (N := 1) ?hd (cs := #[.string a0_0, .int .i64 a0_1, .int .i64 a0_2, .int .i64 a0_3, .int .i64 a0_4, .int .i64 a0_5, .int .i64 a0_6]) (t := 104) ?hr ?_; (case hd => rfl); (case hg => rfl); (case hr => first | (go_simp; done) | (go_simp; rfl)); intro gb148 hg w15 hbox hb; have BK148 := Aside0.mk (hbox); have GW148 := Aside0.mk ((by rw [hg]; exact (below_size (bl HB.out)) : w.heap.size ≤ gb148)); have GE148 := GW148; replace HB := Aside0.mk (below_step (bl HB.out) hb); clear hb hbox hg; obtain ⟨hcz16_0, hcz16_1, hcz16_2, hcz16_3, hcz16_4, hcz16_5, hcz16_6⟩ := ck7 BK148.out; obtain ⟨hfz16_0, hfz16_1, hfz16_2, hfz16_3, hfz16_4, hfz16_5, hfz16_6⟩ := fz7 BK148.out) | ((with_reducible refine gate_callee (f := 52) rfl ?_); refine goesL_ (some 5) rfl rfl Try.func52 (by kernel_rfl) rfl #[.string a0_0] rfl (by (try simp only [am_]); first | done | rfl) ?_; (with_reducible refine (spec_l1Name.calls k a0_0 true _ A2.out).mono ?_); rintro e w' ⟨rfl, ⟨nd, rfl⟩⟩; refine ⟨_, rfl, ?_⟩) | (go_at_call 47; (with_reducible refine (spec_l1In.calls a0_1 0 100000 true _ A4.out).mono ?_); rintro e w' ⟨rfl, ⟨nd, rfl⟩⟩) | (go_at_call 47; (with_reducible refine (spec_l1In.calls a0_2 0 100000 true _ A6.out).mono ?_); rintro e w' ⟨rfl, ⟨nd, rfl⟩⟩) | (go_at_call 47; (with_reducible refine (spec_l1In.calls a0_3 0 100000 true _ A8.out).mono ?_); rintro e w' ⟨rfl, ⟨nd, rfl⟩⟩))
      go_ret
      exact ⟨by first | rfl | (simp [errW_none, errW_some] <;> rfl) | (simp [*, errW_none, errW_some] <;> rfl), by repeat with_reducible first | exact bl HB.out | refine below_set ?_ GE148.out | refine bq ?_⟩
    ·
     replace c9 := Bool.eq_false_iff.mpr c9
     subst c9
     have H1 : (some false) = some r := by rw [if_neg (show ¬ (false = true) by decide)] at H; exact H
     clear H
     have H := H1
     clear H1
     obtain rfl := Option.some.inj H
     go_enter Try.func50, Try.ntmps50
     go_wp2_with (first | ((with_reducible refine gate_dst (N := 1) rfl ?_); refine box_event ?hg (N := 1) ?hd (cs := #[.string a0_0, .int .i64 a0_1, .int .i64 a0_2, .int .i64 a0_3, .int .i64 a0_4, .int .i64 a0_5, .int .i64 a0_6]) (t := 104) ?hr ?_; (case hd => rfl); (case hg => rfl); (case hr => first | (go_simp; done) | (go_simp; rfl)); intro gb148 hg w17 hbox hb; have BK148 := Aside0.mk (hbox); have GW148 := Aside0.mk ((by rw [hg]; exact (below_size (bl HB.out)) : w.heap.size ≤ gb148)); have GE148 := GW148; replace HB := Aside0.mk (below_step (bl HB.out) hb); clear hb hbox hg; obtain ⟨hcz18_0, hcz18_1, hcz18_2, hcz18_3, hcz18_4, hcz18_5, hcz18_6⟩ := ck7 BK148.out; obtain ⟨hfz18_0, hfz18_1, hfz18_2, hfz18_3, hfz18_4, hfz18_5, hfz18_6⟩ := fz7 BK148.out) | ((with_reducible refine gate_callee (f := 52) rfl ?_); refine goesL_ (some 5) rfl rfl Try.func52 (by kernel_rfl) rfl #[.string a0_0] rfl (by (try simp only [am_]); first | done | rfl) ?_; (with_reducible refine (spec_l1Name.calls k a0_0 true _ A2.out).mono ?_); rintro e w' ⟨rfl, ⟨nd, rfl⟩⟩; refine ⟨_, rfl, ?_⟩) | (go_at_call 47; (with_reducible refine (spec_l1In.calls a0_1 0 100000 true _ A4.out).mono ?_); rintro e w' ⟨rfl, ⟨nd, rfl⟩⟩) | (go_at_call 47; (with_reducible refine (spec_l1In.calls a0_2 0 100000 true _ A6.out).mono ?_); rintro e w' ⟨rfl, ⟨nd, rfl⟩⟩) | (go_at_call 47; (with_reducible refine (spec_l1In.calls a0_3 0 100000 false _ A8.out).mono ?_); rintro e w' ⟨rfl, ⟨nd, rfl⟩⟩))
     go_ret
     exact ⟨by first | rfl | (simp [errW_none, errW_some] <;> rfl) | (simp [*, errW_none, errW_some] <;> rfl), by repeat with_reducible first | exact bl HB.out | refine below_set ?_ GE148.out | refine bq ?_⟩
   ·
    replace c7 := Bool.eq_false_iff.mpr c7
    subst c7
    have H1 : (some false) = some r := by rw [if_neg (show ¬ (false = true) by decide)] at H; exact H
    clear H
    have H := H1
    clear H1
    obtain rfl := Option.some.inj H
    go_enter Try.func50, Try.ntmps50
    go_wp2_with (first | ((with_reducible refine gate_dst (N := 1) rfl ?_); refine box_event ?hg (N := 1) ?hd (cs := #[.string a0_0, .int .i64 a0_1, .int .i64 a0_2, .int .i64 a0_3, .int .i64 a0_4, .int .i64 a0_5, .int .i64 a0_6]) (t := 104) ?hr ?_; (case hd => rfl); (case hg => rfl); (case hr => first | (go_simp; done) | (go_simp; rfl)); intro gb148 hg w19 hbox hb; have BK148 := Aside0.mk (hbox); have GW148 := Aside0.mk ((by rw [hg]; exact (below_size (bl HB.out)) : w.heap.size ≤ gb148)); have GE148 := GW148; replace HB := Aside0.mk (below_step (bl HB.out) hb); clear hb hbox hg; obtain ⟨hcz20_0, hcz20_1, hcz20_2, hcz20_3, hcz20_4, hcz20_5, hcz20_6⟩ := ck7 BK148.out; obtain ⟨hfz20_0, hfz20_1, hfz20_2, hfz20_3, hfz20_4, hfz20_5, hfz20_6⟩ := fz7 BK148.out) | ((with_reducible refine gate_callee (f := 52) rfl ?_); refine goesL_ (some 5) rfl rfl Try.func52 (by kernel_rfl) rfl #[.string a0_0] rfl (by (try simp only [am_]); first | done | rfl) ?_; (with_reducible refine (spec_l1Name.calls k a0_0 true _ A2.out).mono ?_); rintro e w' ⟨rfl, ⟨nd, rfl⟩⟩; refine ⟨_, rfl, ?_⟩) | (go_at_call 47; (with_reducible refine (spec_l1In.calls a0_1 0 100000 true _ A4.out).mono ?_); rintro e w' ⟨rfl, ⟨nd, rfl⟩⟩) | (go_at_call 47; (with_reducible refine (spec_l1In.calls a0_2 0 100000 false _ A6.out).mono ?_); rintro e w' ⟨rfl, ⟨nd, rfl⟩⟩))
    go_ret
    exact ⟨by first | rfl | (simp [errW_none, errW_some] <;> rfl) | (simp [*, errW_none, errW_some] <;> rfl), by repeat with_reducible first | exact bl HB.out | refine below_set ?_ GE148.out | refine bq ?_⟩
  ·
   replace c5 := Bool.eq_false_iff.mpr c5
   subst c5
   have H1 : (some false) = some r := by rw [if_neg (show ¬ (false = true) by decide)] at H; exact H
   clear H
   have H := H1
   clear H1
   obtain rfl := Option.some.inj H
   go_enter Try.func50, Try.ntmps50
   go_wp2_with (first | ((with_reducible refine gate_dst (N := 1) rfl ?_); refine box_event ?hg (N := 1) ?hd (cs := #[.string a0_0, .int .i64 a0_1, .int .i64 a0_2, .int .i64 a0_3, .int .i64 a0_4, .int .i64 a0_5, .int .i64 a0_6]) (t := 104) ?hr ?_; (case hd => rfl); (case hg => rfl); (case hr => first | (go_simp; done) | (go_simp; rfl)); intro gb148 hg w21 hbox hb; have BK148 := Aside0.mk (hbox); have GW148 := Aside0.mk ((by rw [hg]; exact (below_size (bl HB.out)) : w.heap.size ≤ gb148)); have GE148 := GW148; replace HB := Aside0.mk (below_step (bl HB.out) hb); clear hb hbox hg; obtain ⟨hcz22_0, hcz22_1, hcz22_2, hcz22_3, hcz22_4, hcz22_5, hcz22_6⟩ := ck7 BK148.out; obtain ⟨hfz22_0, hfz22_1, hfz22_2, hfz22_3, hfz22_4, hfz22_5, hfz22_6⟩ := fz7 BK148.out) | ((with_reducible refine gate_callee (f := 52) rfl ?_); refine goesL_ (some 5) rfl rfl Try.func52 (by kernel_rfl) rfl #[.string a0_0] rfl (by (try simp only [am_]); first | done | rfl) ?_; (with_reducible refine (spec_l1Name.calls k a0_0 true _ A2.out).mono ?_); rintro e w' ⟨rfl, ⟨nd, rfl⟩⟩; refine ⟨_, rfl, ?_⟩) | (go_at_call 47; (with_reducible refine (spec_l1In.calls a0_1 0 100000 false _ A4.out).mono ?_); rintro e w' ⟨rfl, ⟨nd, rfl⟩⟩))
   go_ret
   exact ⟨by first | rfl | (simp [errW_none, errW_some] <;> rfl) | (simp [*, errW_none, errW_some] <;> rfl), by repeat with_reducible first | exact bl HB.out | refine below_set ?_ GE148.out | refine bq ?_⟩
 ·
  replace c3 := Bool.eq_false_iff.mpr c3
  subst c3
  have H1 : (some false) = some r := by rw [if_neg (show ¬ (false = true) by decide)] at H; exact H
  clear H
  have H := H1
  clear H1
  obtain rfl := Option.some.inj H
  go_enter Try.func50, Try.ntmps50
  go_wp2_with (first | ((with_reducible refine gate_dst (N := 1) rfl ?_); refine box_event ?hg (N := 1) ?hd (cs := #[.string a0_0, .int .i64 a0_1, .int .i64 a0_2, .int .i64 a0_3, .int .i64 a0_4, .int .i64 a0_5, .int .i64 a0_6]) (t := 104) ?hr ?_; (case hd => rfl); (case hg => rfl); (case hr => first | (go_simp; done) | (go_simp; rfl)); intro gb148 hg w23 hbox hb; have BK148 := Aside0.mk (hbox); have GW148 := Aside0.mk ((by rw [hg]; exact (below_size (bl HB.out)) : w.heap.size ≤ gb148)); have GE148 := GW148; replace HB := Aside0.mk (below_step (bl HB.out) hb); clear hb hbox hg; obtain ⟨hcz24_0, hcz24_1, hcz24_2, hcz24_3, hcz24_4, hcz24_5, hcz24_6⟩ := ck7 BK148.out; obtain ⟨hfz24_0, hfz24_1, hfz24_2, hfz24_3, hfz24_4, hfz24_5, hfz24_6⟩ := fz7 BK148.out) | ((with_reducible refine gate_callee (f := 52) rfl ?_); refine goesL_ (some 5) rfl rfl Try.func52 (by kernel_rfl) rfl #[.string a0_0] rfl (by (try simp only [am_]); first | done | rfl) ?_; (with_reducible refine (spec_l1Name.calls k a0_0 false _ A2.out).mono ?_); rintro e w' ⟨rfl, ⟨nd, rfl⟩⟩; refine ⟨_, rfl, ?_⟩))
  go_ret
  exact ⟨by first | rfl | (simp [errW_none, errW_some] <;> rfl) | (simp [*, errW_none, errW_some] <;> rfl), by repeat with_reducible first | exact bl HB.out | refine below_set ?_ GE148.out | refine bq ?_⟩

/-! ### spec_l19Behind: function 51 -/
def spec_l19Behind.f (a0_0 : Int) (a0_1 : Int) (a0_2 : Int) (a1_0 : Int) (a1_1 : Int) (a1_2 : Int) : Option (Bool) := if a0_0 ≤ a1_0 then (if a0_1 ≤ a1_1 then (some (decide (a0_2 ≤ a1_2))) else (some false)) else (some false)
set_option maxHeartbeats 8000000 in
set_option maxRecDepth 100000 in
theorem spec_l19Behind.calls (a0_0 : Int) (a0_1 : Int) (a0_2 : Int) (a1_0 : Int) (a1_1 : Int) (a1_2 : Int) (r : Bool) (w : World) (h : spec_l19Behind.f a0_0 a0_1 a0_2 a1_0 a1_1 a1_2 = some r) :
  Calls Try.prog 51 #[.agg #[.int .i64 a0_0, .int .i64 a0_1, .int .i64 a0_2], .agg #[.int .i64 a1_0, .int .i64 a1_1, .int .i64 a1_2]] w fun e w' => e = .returned (.bool r) ∧ Below w.heap.size w w' := by
 have hu44 := Try.underlying44
 have HB := Aside0.mk (Below.refl w.heap.size w)
 have H : (if a0_0 ≤ a1_0 then (if a0_1 ≤ a1_1 then (some (decide (a0_2 ≤ a1_2))) else (some false)) else (some false)) = some r := h
 clear h
 by_cases c3 : a0_0 ≤ a1_0
 ·
  rw [if_pos c3] at H
  have c3b0 : decide (a0_0 ≤ a1_0) = true := decide_eq_true c3
  clear c3
  by_cases c4 : a0_1 ≤ a1_1
  ·
   rw [if_pos c4] at H
   have c4b0 : decide (a0_1 ≤ a1_1) = true := decide_eq_true c4
   clear c4
   obtain rfl := Option.some.inj H
   go_enter Try.func51, Try.ntmps51
   go_wp2_with (first | ((with_reducible refine gate_dst (N := 2) rfl ?_); refine box_event ?hg (N := 2) ?hd (cs := #[.int .i64 a0_0, .int .i64 a0_1, .int .i64 a0_2]) (t := 44) ?hr ?_; (case hd => rfl); (case hg => rfl); (case hr => first | (go_simp; done) | (go_simp; rfl)); intro gb154 hg w5 hbox hb; have BK154 := Aside0.mk (hbox); have GW154 := Aside0.mk ((by rw [hg]; exact (below_size (bl HB.out)) : w.heap.size ≤ gb154)); have GE154 := GW154; replace HB := Aside0.mk (below_step (bl HB.out) hb); clear hb hbox hg) | ((with_reducible refine gate_dst (N := 3) rfl ?_); refine box_event ?hg (N := 3) ?hd (cs := #[.int .i64 a1_0, .int .i64 a1_1, .int .i64 a1_2]) (t := 44) ?hr ?_; (case hd => rfl); (case hg => rfl); (case hr => first | (go_simp; done) | (go_simp; rfl)); intro gb155 hg w6 hbox hb; have BK155 := Aside0.mk (hbox); have GW155 := Aside0.mk ((by rw [hg]; exact (below_size (by repeat with_reducible first | exact bl HB.out | refine below_set ?_ GE154.out | refine bq ?_)) : w.heap.size ≤ gb155)); have GE155 := GW155; replace HB := Aside0.mk (below_step (by repeat with_reducible first | exact bl HB.out | refine below_set ?_ GE154.out | refine bq ?_) hb); have NB154_155 := nb_ hg BK154.out; have NB155_154 := Aside0.mk NB154_155.out.symm; replace BK154 := Aside0.mk (blk_below (bk BK154.out) hb); clear hb hbox hg; have hnb7 := NB154_155.out; have hnc7 := NB155_154.out; obtain ⟨hcz8_0, hcz8_1, hcz8_2⟩ := ck3 BK154.out; obtain ⟨hfz8_0, hfz8_1, hfz8_2⟩ := fz3 BK154.out; obtain ⟨hcz9_0, hcz9_1, hcz9_2⟩ := ck3 BK155.out; obtain ⟨hfz9_0, hfz9_1, hfz9_2⟩ := fz3 BK155.out))
   go_ret
   exact ⟨by first | rfl | (simp [errW_none, errW_some] <;> rfl) | (simp [*, errW_none, errW_some] <;> rfl), by repeat with_reducible first | exact bl HB.out | refine below_set ?_ GE154.out | refine below_set ?_ GE155.out | refine bq ?_⟩
  ·
   rw [if_neg c4] at H
   have c4b0 : decide (a0_1 ≤ a1_1) = false := decide_eq_false c4
   clear c4
   obtain rfl := Option.some.inj H
   go_enter Try.func51, Try.ntmps51
   go_wp2_with (first | ((with_reducible refine gate_dst (N := 2) rfl ?_); refine box_event ?hg (N := 2) ?hd (cs := #[.int .i64 a0_0, .int .i64 a0_1, .int .i64 a0_2]) (t := 44) ?hr ?_; (case hd => rfl); (case hg => rfl); (case hr => first | (go_simp; done) | (go_simp; rfl)); intro gb154 hg w10 hbox hb; have BK154 := Aside0.mk (hbox); have GW154 := Aside0.mk ((by rw [hg]; exact (below_size (bl HB.out)) : w.heap.size ≤ gb154)); have GE154 := GW154; replace HB := Aside0.mk (below_step (bl HB.out) hb); clear hb hbox hg) | ((with_reducible refine gate_dst (N := 3) rfl ?_); refine box_event ?hg (N := 3) ?hd (cs := #[.int .i64 a1_0, .int .i64 a1_1, .int .i64 a1_2]) (t := 44) ?hr ?_; (case hd => rfl); (case hg => rfl); (case hr => first | (go_simp; done) | (go_simp; rfl)); intro gb155 hg w11 hbox hb; have BK155 := Aside0.mk (hbox); have GW155 := Aside0.mk ((by rw [hg]; exact (below_size (by repeat with_reducible first | exact bl HB.out | refine below_set ?_ GE154.out | refine bq ?_)) : w.heap.size ≤ gb155)); have GE155 := GW155; replace HB := Aside0.mk (below_step (by repeat with_reducible first | exact bl HB.out | refine below_set ?_ GE154.out | refine bq ?_) hb); have NB154_155 := nb_ hg BK154.out; have NB155_154 := Aside0.mk NB154_155.out.symm; replace BK154 := Aside0.mk (blk_below (bk BK154.out) hb); clear hb hbox hg; have hnb12 := NB154_155.out; have hnc12 := NB155_154.out; obtain ⟨hcz13_0, hcz13_1, hcz13_2⟩ := ck3 BK154.out; obtain ⟨hfz13_0, hfz13_1, hfz13_2⟩ := fz3 BK154.out; obtain ⟨hcz14_0, hcz14_1, hcz14_2⟩ := ck3 BK155.out; obtain ⟨hfz14_0, hfz14_1, hfz14_2⟩ := fz3 BK155.out))
   go_ret
   exact ⟨by first | rfl | (simp [errW_none, errW_some] <;> rfl) | (simp [*, errW_none, errW_some] <;> rfl), by repeat with_reducible first | exact bl HB.out | refine below_set ?_ GE154.out | refine below_set ?_ GE155.out | refine bq ?_⟩
 ·
  rw [if_neg c3] at H
  have c3b0 : decide (a0_0 ≤ a1_0) = false := decide_eq_false c3
  clear c3
  obtain rfl := Option.some.inj H
  go_enter Try.func51, Try.ntmps51
  go_wp2_with (first | ((with_reducible refine gate_dst (N := 2) rfl ?_); refine box_event ?hg (N := 2) ?hd (cs := #[.int .i64 a0_0, .int .i64 a0_1, .int .i64 a0_2]) (t := 44) ?hr ?_; (case hd => rfl); (case hg => rfl); (case hr => first | (go_simp; done) | (go_simp; rfl)); intro gb154 hg w15 hbox hb; have BK154 := Aside0.mk (hbox); have GW154 := Aside0.mk ((by rw [hg]; exact (below_size (bl HB.out)) : w.heap.size ≤ gb154)); have GE154 := GW154; replace HB := Aside0.mk (below_step (bl HB.out) hb); clear hb hbox hg) | ((with_reducible refine gate_dst (N := 3) rfl ?_); refine box_event ?hg (N := 3) ?hd (cs := #[.int .i64 a1_0, .int .i64 a1_1, .int .i64 a1_2]) (t := 44) ?hr ?_; (case hd => rfl); (case hg => rfl); (case hr => first | (go_simp; done) | (go_simp; rfl)); intro gb155 hg w16 hbox hb; have BK155 := Aside0.mk (hbox); have GW155 := Aside0.mk ((by rw [hg]; exact (below_size (by repeat with_reducible first | exact bl HB.out | refine below_set ?_ GE154.out | refine bq ?_)) : w.heap.size ≤ gb155)); have GE155 := GW155; replace HB := Aside0.mk (below_step (by repeat with_reducible first | exact bl HB.out | refine below_set ?_ GE154.out | refine bq ?_) hb); have NB154_155 := nb_ hg BK154.out; have NB155_154 := Aside0.mk NB154_155.out.symm; replace BK154 := Aside0.mk (blk_below (bk BK154.out) hb); clear hb hbox hg; have hnb17 := NB154_155.out; have hnc17 := NB155_154.out; obtain ⟨hcz18_0, hcz18_1, hcz18_2⟩ := ck3 BK154.out; obtain ⟨hfz18_0, hfz18_1, hfz18_2⟩ := fz3 BK154.out; obtain ⟨hcz19_0, hcz19_1, hcz19_2⟩ := ck3 BK155.out; obtain ⟨hfz19_0, hfz19_1, hfz19_2⟩ := fz3 BK155.out))
  go_ret
  exact ⟨by first | rfl | (simp [errW_none, errW_some] <;> rfl) | (simp [*, errW_none, errW_some] <;> rfl), by repeat with_reducible first | exact bl HB.out | refine below_set ?_ GE154.out | refine below_set ?_ GE155.out | refine bq ?_⟩

-- HAND FROM
open Go.Proofs.Ytljceaggilpgbaa.Base Go.Proofs.Ytljceaggilpgbaa.Sq
def clockB (a b c : Int) : Bool := inB a 0 1000000 && (inB b 0 1000000 && inB c 0 1000000)
theorem clockB_in {a b c : Int} (h : clockB a b c = true) : (0 ≤ a ∧ a ≤ 1000000) ∧ (0 ≤ b ∧ b ≤ 1000000) ∧ 0 ≤ c ∧ c ≤ 1000000 := by
  simp [clockB, inB] at h
  omega
def taskB (n : ByteArray) (h c d p q r : Int) : Bool := nameB n && (inB h 0 100000 && (inB c 0 100000 && (inB d 0 100000 && (decide (h + c + d > 0) && clockB p q r))))
theorem taskB_in {n : ByteArray} {h c d p q r : Int} (k : taskB n h c d p q r = true) : nameB n = true ∧ ((0 ≤ h ∧ h ≤ 100000) ∧ (0 ≤ c ∧ c ≤ 100000) ∧ 0 ≤ d ∧ d ≤ 100000) ∧ (h + c + d > 0) ∧ clockB p q r = true := by
  simp only [taskB, Bool.and_eq_true, inB_iff, decide_eq_true_eq] at k
  exact ⟨k.1, ⟨k.2.1, k.2.2.1, k.2.2.2.1⟩, k.2.2.2.2.1, k.2.2.2.2.2⟩
def behindB (p q r p' q' r' : Int) : Bool := decide (p ≤ p') && (decide (q ≤ q') && decide (r ≤ r'))
abbrev Tk := S104
abbrev Df := S63
def passB (p q r p' q' r' : Int) : Bool := decide (mn (mn (wrap64 (p' - p)) (wrap64 (q' - q))) (wrap64 (r' - r)) ≥ 0)
theorem passB_is {p q r p' q' r' : Int} (h : clockB p q r = true) (h' : clockB p' q' r' = true) : passB p q r p' q' r' = behindB p q r p' q' r' := by
  have a := clockB_in h
  have b := clockB_in h'
  unfold passB behindB
  rw [w64 (n := p' - p) (by omega) (by omega), w64 (n := q' - q) (by omega) (by omega), w64 (n := r' - r) (by omega) (by omega), Bool.eq_iff_iff]
  simp only [Bool.and_eq_true, decide_eq_true_eq]
  unfold mn
  repeat' split
  all_goals omega
def taskAt (β : Int → Int → Int → Bool) (xs : List Tk) (i : Int) : Bool := taskB (rd_T104 xs i).f0 (rd_T104 xs i).f1 (rd_T104 xs i).f2 (rd_T104 xs i).f3 (rd_T104 xs i).f4.f0 (rd_T104 xs i).f4.f1 (rd_T104 xs i).f4.f2 && (β (rd_T104 xs i).f4.f0 (rd_T104 xs i).f4.f1 (rd_T104 xs i).f4.f2 && (decide (¬ i > 0) || Op.bytesLess (rd_T104 xs (i - 1)).f0.toList (rd_T104 xs i).f0.toList))
def tasksFrom (β : Int → Int → Int → Bool) (xs : List Tk) : Nat → Nat → Bool
  | 0, _ => true
  | d + 1, i => taskAt β xs (i : Int) && tasksFrom β xs d (i + 1)
def defectAt (r : Int) (xs : List Df) (i : Int) : Bool := nameB (rd_T63 xs i).f0 && (inB (rd_T63 xs i).f1 1 1000000 && ((decide (¬ i > 0) || decide ((rd_T63 xs (i - 1)).f1 < (rd_T63 xs i).f1)) && inB (rd_T63 xs i).f2 0 r))
def defectsFrom (r : Int) (xs : List Df) : Nat → Nat → Bool
  | 0, _ => true
  | d + 1, i => defectAt r xs (i : Int) && defectsFrom r xs d (i + 1)
def fleetB (ts : List Tk) (cs : List Cr) (ds : List Df) (p q r : Int) : Bool := clockB p q r && (carryB cs && (decide ((ts.length : Int) ≤ 40) && (decide ((ds.length : Int) ≤ 20) && (tasksFrom (fun a b c => behindB a b c p q r) ts ts.length 0 && defectsFrom r ds ds.length 0))))
theorem tasks_same {p q r : Int} (h : clockB p q r = true) (xs : List Tk) (d : Nat) : ∀ i, tasksFrom (fun a b c => passB a b c p q r) xs d i = tasksFrom (fun a b c => behindB a b c p q r) xs d i := by
  induction d with
  | zero => intro i; rfl
  | succ d ih =>
    intro i
    simp only [tasksFrom, ih]
    congr 1
    unfold taskAt
    dsimp only
    cases ht : taskB (rd_T104 xs (i : Int)).f0 (rd_T104 xs (i : Int)).f1 (rd_T104 xs (i : Int)).f2 (rd_T104 xs (i : Int)).f3 (rd_T104 xs (i : Int)).f4.f0 (rd_T104 xs (i : Int)).f4.f1 (rd_T104 xs (i : Int)).f4.f2 with
    | false => rfl
    | true => rw [passB_is (taskB_in ht).2.2.2 h]
structure FleetSz (ts : List S104) (cs : List S137) (ds : List S63) : Prop where
  t : ∀ x ∈ ts, x.f0.size ≤ 140737488355328
  c : ∀ x ∈ cs, x.f0.size ≤ 140737488355328
  d : ∀ x ∈ ds, x.f0.size ≤ 140737488355328
  tn : ts.length ≤ 140737488355328
  cn : cs.length ≤ 140737488355328
  dn : ds.length ≤ 140737488355328
def fleetSzB (ts : List S104) (cs : List S137) (ds : List S63) : Bool := (ts.all (fun x => decide (x.f0.size ≤ 140737488355328)) && (cs.all (fun x => decide (x.f0.size ≤ 140737488355328)) && ds.all (fun x => decide (x.f0.size ≤ 140737488355328)))) && (decide (ts.length ≤ 140737488355328) && (decide (cs.length ≤ 140737488355328) && decide (ds.length ≤ 140737488355328)))
theorem fleetSz_of {ts : List S104} {cs : List S137} {ds : List S63} : fleetSzB ts cs ds = true ↔ FleetSz ts cs ds := by
  unfold fleetSzB
  simp only [Bool.and_eq_true, List.all_eq_true, decide_eq_true_eq]
  exact ⟨fun h => ⟨h.1.1, h.1.2.1, h.1.2.2, h.2.1, h.2.2.1, h.2.2.2⟩, fun h => ⟨⟨h.t, h.c, h.d⟩, h.tn, h.cn, h.dn⟩⟩
theorem tasks_step {β : Int → Int → Int → Bool} {l : List S104} {i : Nat} (h : i < l.length) {b R : Bool} (e : b = (tasksFrom β l (l.length - i) i && R)) : b = (taskAt β l (i : Int) && (tasksFrom β l (l.length - (i + 1)) (i + 1) && R)) := by
  rw [e, show l.length - i = (l.length - (i + 1)) + 1 by omega, ← Bool.and_assoc]; rfl
theorem tasks_end {β : Int → Int → Int → Bool} {l : List S104} {b R : Bool} (e : b = (tasksFrom β l (l.length - l.length) l.length && R)) : b = R := by
  rw [e, Nat.sub_self]; rfl
theorem defects_step {z : Int} {l : List S63} {i : Nat} (h : i < l.length) {b R : Bool} (e : b = (defectsFrom z l (l.length - i) i && R)) : b = (defectAt z l (i : Int) && (defectsFrom z l (l.length - (i + 1)) (i + 1) && R)) := by
  rw [e, show l.length - i = (l.length - (i + 1)) + 1 by omega, ← Bool.and_assoc]; rfl
theorem defects_end {z : Int} {l : List S63} {b R : Bool} (e : b = (defectsFrom z l (l.length - l.length) l.length && R)) : b = R := by
  rw [e, Nat.sub_self]; rfl
def taskAtPv (xs : List S104) (i : Int) : Bool := decide (¬ i > 0) || Op.bytesLess (rd_T104 xs (i - 1)).f0.toList (rd_T104 xs i).f0.toList
def defectAtPv (xs : List S63) (i : Int) : Bool := decide (¬ i > 0) || decide ((rd_T63 xs (i - 1)).f1 < (rd_T63 xs i).f1)
theorem spec_ClockOk_eq (a b c : Int) : spec_ClockOk.f a b c = some (clockB a b c) := by
  simp only [spec_ClockOk.f, spec_in_eq, Option.bind_some, clockB]
  cases inB a 0 1000000 <;> cases inB b 0 1000000 <;> simp
theorem spec_TaskOk_ev (n : ByteArray) (hn : n.size ≤ 140737488355328) (h c d p q r : Int) : Ev (fun k => spec_TaskOk.f k n h c d p q r) (taskB n h c d p q r) := by
  simp only [spec_TaskOk.f, spec_in_eq, spec_ClockOk_eq, Option.bind_some]
  refine (spec_l1Name_ev n hn).bind ?_
  unfold taskB
  cases nameB n with
  | false => simpa using ev_now false
  | true =>
    cases h1 : inB h 0 100000 with
    | false => simpa using ev_now false
    | true =>
      cases h2 : inB c 0 100000 with
      | false => simpa using ev_now false
      | true =>
        cases h3 : inB d 0 100000 with
        | false => simpa using ev_now false
        | true =>
          rw [inB_iff] at h1 h2 h3
          simp only [if_true, Bool.true_and, w64 (show -9223372036854775808 ≤ h + c by omega) (by omega), w64 (show -9223372036854775808 ≤ h + c + d by omega) (by omega)]
          by_cases h4 : h + c + d > 0
          · simp only [if_pos h4, h4, decide_true, Bool.true_and]; exact ev_now _
          · simp only [if_neg h4, h4, decide_false, Bool.false_and]; exact ev_now _
theorem uTaskOk : Ent Try.prog 50 := fun a w => enters_ Try.func50 rfl rfl a w
theorem uBehind : Ent Try.prog 51 := fun a w => enters_ Try.func51 rfl rfl a w
theorem task_u (n : ByteArray) (h c d p q r : Int) (hn : n.size ≤ 140737488355328) (w : World) : Calls Try.prog 50 #[.agg #[.string n, .int .i64 h, .int .i64 c, .int .i64 d, .int .i64 p, .int .i64 q, .int .i64 r]] w fun e w' => e = .returned (.bool (taskB n h c d p q r)) ∧ Below w.heap.size w w' := by
  obtain ⟨k, hk⟩ := (spec_TaskOk_ev n hn h c d p q r).rounds
  exact spec_TaskOk.calls k n h c d p q r _ w hk
theorem clock_u (a b c : Int) (w : World) : Calls Try.prog 48 #[.agg #[.int .i64 a, .int .i64 b, .int .i64 c]] w fun e w' => e = .returned (.bool (clockB a b c)) ∧ Below w.heap.size w w' := spec_ClockOk.calls a b c _ w (spec_ClockOk_eq a b c)
theorem behind_u (p q r p' q' r' : Int) (w : World) : Calls Try.prog 51 #[.agg #[.int .i64 p, .int .i64 q, .int .i64 r], .agg #[.int .i64 p', .int .i64 q', .int .i64 r']] w fun e w' => e = .returned (.bool (behindB p q r p' q' r')) ∧ Below w.heap.size w w' :=
  spec_l19Behind.calls p q r p' q' r' _ w (by unfold spec_l19Behind.f behindB; by_cases x1 : p ≤ p' <;> by_cases x2 : q ≤ q' <;> simp [x1, x2])
set_option maxHeartbeats 8000000 in
set_option maxRecDepth 100000 in
theorem spec_FleetOk.go (A0 : Option Addr) (c0 : Nat) (l0 : List S104) (A1 : Option Addr) (c1 : Nat) (l1 : List S137) (A2 : Option Addr) (c2 : Nat) (l2 : List S63) (p q r : Int) (w : World) (hr0 : Kd.C k104 w A0 l0.length l0) (hc0 : l0.length ≤ c0) (hr1 : Kd.C k137 w A1 l1.length l1) (hc1 : l1.length ≤ c1) (hr2 : Kd.C k63 w A2 l2.length l2) (hc2 : l2.length ≤ c2) (hz : FleetSz l0 l1 l2) :
    Calls Try.prog 20 #[.agg #[.slice A0 l0.length c0, .slice A1 l1.length c1, .slice A2 l2.length c2, .int .i64 p, .int .i64 q, .int .i64 r]] w fun e w' => e = .returned (.bool (fleetB l0 l1 l2 p q r)) ∧ Below w.heap.size w w' := by
  have hu104 := Try.underlying104
  have hu137 := Try.underlying137
  have hu63 := Try.underlying63
  have hu46 := Try.underlying46
  have hu44 := Try.underlying44
  have HR0 := Aside0.mk hr0
  have HR1 := Aside0.mk hr1
  have HR2 := Aside0.mk hr2
  have HX0 := Aside0.mk hz.t
  have HX1 := Aside0.mk hz.c
  have HX2 := Aside0.mk hz.d
  have hn0 := hz.tn
  have hn1 := hz.cn
  have hn2 := hz.dn
  clear hr0 hr1 hr2 hz
  have BK0 := Aside0.mk (blk_new w (.cells #[.slice A0 l0.length c0, .slice A1 l1.length c1, .slice A2 l2.length c2, .int .i64 p, .int .i64 q, .int .i64 r] 46 (0, 0)))
  have HB0 := Aside0.mk (below_alloc (Below.refl w.heap.size w) (.cells #[.slice A0 l0.length c0, .slice A1 l1.length c1, .slice A2 l2.length c2, .int .i64 p, .int .i64 q, .int .i64 r] 46 (0, 0)))
  obtain ⟨b1, E1⟩ : ∃ b, clockB p q r = b := ⟨_, rfl⟩
  obtain ⟨b2, E2⟩ : ∃ b, carryB l1 = b := ⟨_, rfl⟩
  obtain ⟨b3, E3⟩ : ∃ b, decide ((l0.length : Int) ≤ 40) = b := ⟨_, rfl⟩
  obtain ⟨b4, E4⟩ : ∃ b, decide ((l2.length : Int) ≤ 20) = b := ⟨_, rfl⟩
  have F3 : decide (40 < (l0.length : Int)) = !b3 := by rw [← E3]; exact (lt_le_ _ _)
  have F4 : decide (20 < (l2.length : Int)) = !b4 := by rw [← E4]; exact (lt_le_ _ _)
  have K1 := Aside0.mk (fun w' => kb_ (clock_u p q r w') E1)
  have HE := Aside0.mk (And.intro E1 (And.intro E2 (And.intro E3 E4)))
  clear E1 E2 E3 E4
  go_enter Try.func20, Try.ntmps20
  rcases or4_ b1 b2 b3 b4 with rfl | ⟨rfl, rfl⟩ | ⟨rfl, rfl, rfl⟩ | ⟨rfl, rfl, rfl, rfl⟩ | ⟨rfl, rfl, rfl, rfl⟩
  all_goals (go_wp2_with (first | (go_at_call 48; (with_reducible refine (K1.out _).mono ?_); rintro e w5 ⟨rfl, hb⟩; have BK5 := Aside0.mk (blk_below BK0.out hb); have HB5 := Aside0.mk (below_step HB0.out hb); obtain ⟨hf0, hf1, hf2, hf3, hf4, hf5⟩ := ck6 BK5.out; clear hb) | (go_at_call 49; (with_reducible refine (kb_ (spec_CarryOk.go A1 c1 l1 _ (Kd.C_below HR1.out HB5.out) hc1 hn1 HX1.out) HE.out.2.1).mono ?_); rintro e w6 ⟨rfl, hb⟩; have BK6 := Aside0.mk (blk_below BK5.out hb); have HB6 := Aside0.mk (below_step HB5.out hb); clear hf0 hf1 hf2 hf3 hf4 hf5; obtain ⟨hf0, hf1, hf2, hf3, hf4, hf5⟩ := ck6 BK6.out; clear hb)))
  iterate 4 · go_ret; exact ⟨by unfold fleetB; rw [HE.out.1, HE.out.2.1, HE.out.2.2.1, HE.out.2.2.2]; rfl, by first | exact HB6.out | exact HB5.out⟩
  have HS := Aside0.mk (show fleetB l0 l1 l2 p q r = (tasksFrom (fun a b c => behindB a b c p q r) l0 l0.length 0 && defectsFrom r l2 l2.length 0) by unfold fleetB; rw [HE.out.1, HE.out.2.1, HE.out.2.2.1, HE.out.2.2.2]; rfl)
  clear hf0 hf1 hf2 hf3 hf4 hf5 F3 F4 K1 HE BK0 HB0 BK5 HB5
  go_loopw [3] (fun v wr => ∃ i : Nat, i ≤ l0.length ∧ v = .int .i64 i ∧ Aside0 (fleetB l0 l1 l2 p q r = (tasksFrom (fun a b c => behindB a b c p q r) l0 (l0.length - i) i && defectsFrom r l2 l2.length 0)) ∧ Aside0 (wr.heap[w.heap.size]? = some (.cells #[.slice A0 l0.length c0, .slice A1 l1.length c1, .slice A2 l2.length c2, .int .i64 p, .int .i64 q, .int .i64 r] 46 (0, 0))) ∧ Aside0 (Below w.heap.size w wr)) (fun v _ => l0.length - (intOf v).toNat)
  case atStart => exact ⟨0, Nat.zero_le _, rfl, HS, BK6, HB6⟩
  case round =>
    clear BK6 HB6 HS
    obtain ⟨i, hi, rfl, HE, BK, HB⟩ := hrel
    by_cases hlt : i < l0.length
    · have hfs := ck6 BK.out
      obtain ⟨ad, e0, hx0, hx1, hx2, hx3, hx4, hx5, hx6⟩ := at_T104 (Kd.C_below HR0.out HB.out) (i : Int) (by omega) (by omega)
      cases e0
      simp only [Int.toNat_natCast] at hx0 hx1 hx2 hx3 hx4 hx5 hx6
      obtain ⟨hf0, hf1, hf2, hf3, hf4, hf5⟩ := hfs
      have HS := Aside0.mk (tasks_step hlt HE.out)
      have HZ := Aside0.mk (HX0.out _ (List.getElem_mem hlt))
      rw [← rd_at104 hlt] at HZ
      have HK := Aside0.mk (blk_new wr (.cells #[.string (rd_T104 l0 (i : Int)).f0, .int .i64 (rd_T104 l0 (i : Int)).f1, .int .i64 (rd_T104 l0 (i : Int)).f2, .int .i64 (rd_T104 l0 (i : Int)).f3, .int .i64 (rd_T104 l0 (i : Int)).f4.f0, .int .i64 (rd_T104 l0 (i : Int)).f4.f1, .int .i64 (rd_T104 l0 (i : Int)).f4.f2] 104 (0, 0)))
      have HB2 := Aside0.mk (below_alloc HB.out (.cells #[.string (rd_T104 l0 (i : Int)).f0, .int .i64 (rd_T104 l0 (i : Int)).f1, .int .i64 (rd_T104 l0 (i : Int)).f2, .int .i64 (rd_T104 l0 (i : Int)).f3, .int .i64 (rd_T104 l0 (i : Int)).f4.f0, .int .i64 (rd_T104 l0 (i : Int)).f4.f1, .int .i64 (rd_T104 l0 (i : Int)).f4.f2] 104 (0, 0)))
      have BK2 := Aside0.mk (blk_alloc BK.out (.cells #[.string (rd_T104 l0 (i : Int)).f0, .int .i64 (rd_T104 l0 (i : Int)).f1, .int .i64 (rd_T104 l0 (i : Int)).f2, .int .i64 (rd_T104 l0 (i : Int)).f3, .int .i64 (rd_T104 l0 (i : Int)).f4.f0, .int .i64 (rd_T104 l0 (i : Int)).f4.f1, .int .i64 (rd_T104 l0 (i : Int)).f4.f2] 104 (0, 0)))
      go_upto_region 7 with (fail)
      generalize wr.heap.size = gx at HK ⊢
      refine world_ (fun W => W.heap[gx]? = some (.cells #[.string (rd_T104 l0 (i : Int)).f0, .int .i64 (rd_T104 l0 (i : Int)).f1, .int .i64 (rd_T104 l0 (i : Int)).f2, .int .i64 (rd_T104 l0 (i : Int)).f3, .int .i64 (rd_T104 l0 (i : Int)).f4.f0, .int .i64 (rd_T104 l0 (i : Int)).f4.f1, .int .i64 (rd_T104 l0 (i : Int)).f4.f2] 104 (0, 0)) ∧ W.heap[w.heap.size]? = some (.cells #[.slice (some ad) l0.length c0, .slice A1 l1.length c1, .slice A2 l2.length c2, .int .i64 p, .int .i64 q, .int .i64 r] 46 (0, 0)) ∧ Below w.heap.size w W) ⟨HK.out, BK2.out, HB2.out⟩ ?_
      clear HK HB2 HE HB hx0 hx1 hx2 hx3 hx4 hx5 hx6 BK2 BK hf0 hf1 hf2 hf3 hf4 hf5
      rintro W ⟨HK, BK, HB⟩
      replace HK := Aside0.mk HK
      replace HB := Aside0.mk HB
      replace BK := Aside0.mk BK
      obtain ⟨b1, Eb1⟩ : ∃ b, taskB (rd_T104 l0 (i : Int)).f0 (rd_T104 l0 (i : Int)).f1 (rd_T104 l0 (i : Int)).f2 (rd_T104 l0 (i : Int)).f3 (rd_T104 l0 (i : Int)).f4.f0 (rd_T104 l0 (i : Int)).f4.f1 (rd_T104 l0 (i : Int)).f4.f2 = b := ⟨_, rfl⟩
      have Kb1 := Aside0.mk (fun w' => kb_ (task_u (rd_T104 l0 (i : Int)).f0 (rd_T104 l0 (i : Int)).f1 (rd_T104 l0 (i : Int)).f2 (rd_T104 l0 (i : Int)).f3 (rd_T104 l0 (i : Int)).f4.f0 (rd_T104 l0 (i : Int)).f4.f1 (rd_T104 l0 (i : Int)).f4.f2 HZ.out w') Eb1)
      obtain ⟨b2, Eb2⟩ : ∃ b, behindB (rd_T104 l0 (i : Int)).f4.f0 (rd_T104 l0 (i : Int)).f4.f1 (rd_T104 l0 (i : Int)).f4.f2 p q r = b := ⟨_, rfl⟩
      have Kb2 := Aside0.mk (fun w' => kb_ (behind_u (rd_T104 l0 (i : Int)).f4.f0 (rd_T104 l0 (i : Int)).f4.f1 (rd_T104 l0 (i : Int)).f4.f2 p q r w') Eb2)
      have HE := Aside0.mk (And.intro Eb1 Eb2)
      clear Eb1 Eb2
      go_cut [67] (fun v wc => v = .bool (!taskAt (fun a b c => behindB a b c p q r) l0 (i : Int)) ∧ Aside0 (wc.heap[w.heap.size]? = some (.cells #[.slice (some ad) l0.length c0, .slice A1 l1.length c1, .slice A2 l2.length c2, .int .i64 p, .int .i64 q, .int .i64 r] 46 (0, 0))) ∧ Aside0 (Below w.heap.size w wc))
      case first =>
        clear HS
        rcases Nat.eq_zero_or_pos i with h0 | h0
        · subst h0
          have L := Aside0.mk (fun w' (h : Up W w') => (⟨ck (blk_below HK.out h) 0 rfl, ck (blk_below HK.out h) 1 rfl, ck (blk_below HK.out h) 2 rfl, ck (blk_below HK.out h) 3 rfl, ck (blk_below HK.out h) 4 rfl, ck (blk_below HK.out h) 5 rfl, ck (blk_below HK.out h) 6 rfl, ck (blk_below BK.out h) 0 rfl, ck (blk_below BK.out h) 3 rfl, ck (blk_below BK.out h) 4 rfl, ck (blk_below BK.out h) 5 rfl⟩ : w'.cell? ⟨gx, 0, none⟩ = some (.string (rd_T104 l0 ((0 : Nat) : Int)).f0) ∧ w'.cell? ⟨gx, 1, none⟩ = some (.int .i64 (rd_T104 l0 ((0 : Nat) : Int)).f1) ∧ w'.cell? ⟨gx, 2, none⟩ = some (.int .i64 (rd_T104 l0 ((0 : Nat) : Int)).f2) ∧ w'.cell? ⟨gx, 3, none⟩ = some (.int .i64 (rd_T104 l0 ((0 : Nat) : Int)).f3) ∧ w'.cell? ⟨gx, 4, none⟩ = some (.int .i64 (rd_T104 l0 ((0 : Nat) : Int)).f4.f0) ∧ w'.cell? ⟨gx, 5, none⟩ = some (.int .i64 (rd_T104 l0 ((0 : Nat) : Int)).f4.f1) ∧ w'.cell? ⟨gx, 6, none⟩ = some (.int .i64 (rd_T104 l0 ((0 : Nat) : Int)).f4.f2) ∧ w'.cell? ⟨w.heap.size, 0, none⟩ = some (.slice (some ad) l0.length c0) ∧ w'.cell? ⟨w.heap.size, 3, none⟩ = some (.int .i64 p) ∧ w'.cell? ⟨w.heap.size, 4, none⟩ = some (.int .i64 q) ∧ w'.cell? ⟨w.heap.size, 5, none⟩ = some (.int .i64 r)))
          have HP : Aside0 (taskAtPv l0 ((0 : Nat) : Int) = true) := ⟨rfl⟩
          rcases or2_ b1 b2 with rfl | ⟨rfl, rfl⟩ | ⟨rfl, rfl⟩
          all_goals
            (refine rg_ (by kernel_rfl) (by kernel_rfl) ?_; (repeat (first | refine qn_ ?_ | refine qc_ uTaskOk (fun w' _ => Kb1.out w') ?_ | refine qc_ uBehind (fun w' _ => Kb2.out w') ?_ | refine ql_ L.out ?_)); refine qd_ ?_; intro w5 hb; (try go_wp2); go_meet; case rel => exact ⟨by have hp := HP.out; unfold taskAtPv at hp; unfold taskAt; (try dsimp only); rw [HE.out.1, HE.out.2, hp]; first | rfl | simp, ⟨blk_below BK.out hb⟩, ⟨below_step HB.out hb⟩⟩)
        · obtain ⟨j, rfl⟩ : ∃ j, i = j + 1 := ⟨i - 1, by omega⟩
          obtain ⟨ad', e0, y0, y1, y2, y3, y4, y5, y6⟩ := at_T104 HR0.out (j : Int) (by omega) (by omega)
          obtain rfl : ad = ad' := by injection e0
          simp only [Int.toNat_natCast] at y0 y1 y2 y3 y4 y5 y6
          have hj : wrap64 (j : Int) = (j : Int) := w64 (by omega) (by omega)
          have hjl : j < l0.length := by omega
          have L := Aside0.mk (fun w' (h : Up W w') => (⟨ck (blk_below HK.out h) 0 rfl, ck (blk_below HK.out h) 1 rfl, ck (blk_below HK.out h) 2 rfl, ck (blk_below HK.out h) 3 rfl, ck (blk_below HK.out h) 4 rfl, ck (blk_below HK.out h) 5 rfl, ck (blk_below HK.out h) 6 rfl, ck (blk_below BK.out h) 0 rfl, ck (blk_below BK.out h) 3 rfl, ck (blk_below BK.out h) 4 rfl, ck (blk_below BK.out h) 5 rfl, bc (below_step HB.out h) y0⟩ : w'.cell? ⟨gx, 0, none⟩ = some (.string (rd_T104 l0 ((j + 1 : Nat) : Int)).f0) ∧ w'.cell? ⟨gx, 1, none⟩ = some (.int .i64 (rd_T104 l0 ((j + 1 : Nat) : Int)).f1) ∧ w'.cell? ⟨gx, 2, none⟩ = some (.int .i64 (rd_T104 l0 ((j + 1 : Nat) : Int)).f2) ∧ w'.cell? ⟨gx, 3, none⟩ = some (.int .i64 (rd_T104 l0 ((j + 1 : Nat) : Int)).f3) ∧ w'.cell? ⟨gx, 4, none⟩ = some (.int .i64 (rd_T104 l0 ((j + 1 : Nat) : Int)).f4.f0) ∧ w'.cell? ⟨gx, 5, none⟩ = some (.int .i64 (rd_T104 l0 ((j + 1 : Nat) : Int)).f4.f1) ∧ w'.cell? ⟨gx, 6, none⟩ = some (.int .i64 (rd_T104 l0 ((j + 1 : Nat) : Int)).f4.f2) ∧ w'.cell? ⟨w.heap.size, 0, none⟩ = some (.slice (some ad) l0.length c0) ∧ w'.cell? ⟨w.heap.size, 3, none⟩ = some (.int .i64 p) ∧ w'.cell? ⟨w.heap.size, 4, none⟩ = some (.int .i64 q) ∧ w'.cell? ⟨w.heap.size, 5, none⟩ = some (.int .i64 r) ∧ w'.cell? (ad.add (j * 7)) = some (.string (rd_T104 l0 (j : Int)).f0)))
          obtain ⟨bP, EP⟩ : ∃ b, Op.bytesLess (rd_T104 l0 (j : Int)).f0.toList (rd_T104 l0 ((j : Int) + 1)).f0.toList = b := ⟨_, rfl⟩
          have HP : Aside0 (taskAtPv l0 ((j + 1 : Nat) : Int) = bP) := ⟨by unfold taskAtPv; rw [decide_eq_false (show ¬ ¬ ((j + 1 : Nat) : Int) > 0 by omega), show ((j + 1 : Nat) : Int) - 1 = (j : Int) by omega, show ((j + 1 : Nat) : Int) = (j : Int) + 1 by omega, EP]; rfl⟩
          clear y0 y1 y2 y3 y4 y5 y6 e0 h0
          rcases or3_ b1 b2 bP with rfl | ⟨rfl, rfl⟩ | ⟨rfl, rfl, rfl⟩ | ⟨rfl, rfl, rfl⟩
          all_goals
            (refine rg_ (by kernel_rfl) (by kernel_rfl) ?_; (repeat (first | refine qn_ ?_ | refine qc_ uTaskOk (fun w' _ => Kb1.out w') ?_ | refine qc_ uBehind (fun w' _ => Kb2.out w') ?_ | refine ql_ L.out ?_)); refine qd_ ?_; intro w5 hb; (try go_wp2); go_meet; case rel => exact ⟨by have hp := HP.out; unfold taskAtPv at hp; unfold taskAt; (try dsimp only); rw [HE.out.1, HE.out.2, hp]; first | rfl | simp, ⟨blk_below BK.out hb⟩, ⟨below_step HB.out hb⟩⟩)
      case rest =>
        clear HB HZ HE HK BK
        obtain ⟨rfl, BK, HB⟩ := hcut
        cases hc : taskAt (fun a b c => behindB a b c p q r) l0 (i : Int) with
        | false =>
          rw [hc] at HS
          go_wp2
          go_ret
          exact ⟨by rw [HS.out]; rfl, HB.out⟩
        | true =>
          rw [hc] at HS
          go_wp2
          go_roundw
          case rel => exact ⟨i + 1, by omega, by go_num, ⟨HS.out⟩, BK, HB⟩
          case measure => simp [intOf]; omega
    · obtain rfl : i = l0.length := by omega
      have HS := Aside0.mk (tasks_end HE.out)
      have HS0 := Aside0.mk (HS.out.trans (Bool.and_true _).symm)
      obtain ⟨hf0, hf1, hf2, hf3, hf4, hf5⟩ := ck6 BK.out
      clear HS HE
      go_wp2
      clear hf0 hf1 hf2 hf3 hf4 hf5
      have BK0 := BK
      have HB0 := HB
      clear BK HB
      obtain ⟨wo, rfl⟩ : ∃ wo : World, wo = wr := ⟨_, rfl⟩
      go_loopw [5] (fun v wr => ∃ i : Nat, i ≤ l2.length ∧ v = .int .i64 i ∧ Aside0 (fleetB l0 l1 l2 p q r = (defectsFrom r l2 (l2.length - i) i && true)) ∧ Aside0 (wr.heap[w.heap.size]? = some (.cells #[.slice A0 l0.length c0, .slice A1 l1.length c1, .slice A2 l2.length c2, .int .i64 p, .int .i64 q, .int .i64 r] 46 (0, 0))) ∧ Aside0 (Below w.heap.size w wr)) (fun v _ => l2.length - (intOf v).toNat)
      case atStart => exact ⟨0, Nat.zero_le _, rfl, ⟨HS0.out⟩, BK0, HB0⟩
      case round =>
        clear BK0 HB0 HS0
        obtain ⟨i, hi, rfl, HE, BK, HB⟩ := hrel
        by_cases hlt : i < l2.length
        · have hfs := ck6 BK.out
          obtain ⟨ad, e0, hx0, hx1, hx2⟩ := at_T63 (Kd.C_below HR2.out HB.out) (i : Int) (by omega) (by omega)
          cases e0
          simp only [Int.toNat_natCast] at hx0 hx1 hx2
          obtain ⟨hf0, hf1, hf2, hf3, hf4, hf5⟩ := hfs
          have HS := Aside0.mk (defects_step hlt HE.out)
          have HZ := Aside0.mk (HX2.out _ (List.getElem_mem hlt))
          rw [← rd_at63 hlt] at HZ
          have HK := Aside0.mk (blk_new wr (.cells #[.string (rd_T63 l2 (i : Int)).f0, .int .i64 (rd_T63 l2 (i : Int)).f1, .int .i64 (rd_T63 l2 (i : Int)).f2] 63 (0, 0)))
          have HB2 := Aside0.mk (below_alloc HB.out (.cells #[.string (rd_T63 l2 (i : Int)).f0, .int .i64 (rd_T63 l2 (i : Int)).f1, .int .i64 (rd_T63 l2 (i : Int)).f2] 63 (0, 0)))
          have BK2 := Aside0.mk (blk_alloc BK.out (.cells #[.string (rd_T63 l2 (i : Int)).f0, .int .i64 (rd_T63 l2 (i : Int)).f1, .int .i64 (rd_T63 l2 (i : Int)).f2] 63 (0, 0)))
          go_upto_region 13 with (fail)
          generalize wr.heap.size = gx at HK ⊢
          refine world_ (fun W => W.heap[gx]? = some (.cells #[.string (rd_T63 l2 (i : Int)).f0, .int .i64 (rd_T63 l2 (i : Int)).f1, .int .i64 (rd_T63 l2 (i : Int)).f2] 63 (0, 0)) ∧ W.heap[w.heap.size]? = some (.cells #[.slice A0 l0.length c0, .slice A1 l1.length c1, .slice (some ad) l2.length c2, .int .i64 p, .int .i64 q, .int .i64 r] 46 (0, 0)) ∧ Below w.heap.size w W) ⟨HK.out, BK2.out, HB2.out⟩ ?_
          clear HK HB2 HE HB hx0 hx1 hx2 BK2 BK hf0 hf1 hf2 hf3 hf4 hf5
          rintro W ⟨HK, BK, HB⟩
          replace HK := Aside0.mk HK
          replace HB := Aside0.mk HB
          replace BK := Aside0.mk BK
          obtain ⟨b1, Eb1⟩ : ∃ b, nameB (rd_T63 l2 (i : Int)).f0 = b := ⟨_, rfl⟩
          have Kb1 := Aside0.mk (fun w' => kb_ (name_u (rd_T63 l2 (i : Int)).f0 HZ.out w') Eb1)
          obtain ⟨b2, Eb2⟩ : ∃ b, inB (rd_T63 l2 (i : Int)).f1 1 1000000 = b := ⟨_, rfl⟩
          have Kb2 := Aside0.mk (fun w' => kb_ (in_u (rd_T63 l2 (i : Int)).f1 1 1000000 w') Eb2)
          obtain ⟨b3, Eb3⟩ : ∃ b, inB (rd_T63 l2 (i : Int)).f2 0 r = b := ⟨_, rfl⟩
          have Kb3 := Aside0.mk (fun w' => kb_ (in_u (rd_T63 l2 (i : Int)).f2 0 r w') Eb3)
          have HE := Aside0.mk (And.intro Eb1 (And.intro Eb2 Eb3))
          clear Eb1 Eb2 Eb3
          go_cut [114] (fun v wc => v = .bool (!defectAt r l2 (i : Int)) ∧ Aside0 (wc.heap[w.heap.size]? = some (.cells #[.slice A0 l0.length c0, .slice A1 l1.length c1, .slice (some ad) l2.length c2, .int .i64 p, .int .i64 q, .int .i64 r] 46 (0, 0))) ∧ Aside0 (Below w.heap.size w wc))
          case first =>
            clear HS
            rcases Nat.eq_zero_or_pos i with h0 | h0
            · subst h0
              have L := Aside0.mk (fun w' (h : Up W w') => (⟨ck (blk_below HK.out h) 0 rfl, ck (blk_below HK.out h) 1 rfl, ck (blk_below HK.out h) 2 rfl, ck (blk_below BK.out h) 2 rfl, ck (blk_below BK.out h) 5 rfl⟩ : w'.cell? ⟨gx, 0, none⟩ = some (.string (rd_T63 l2 ((0 : Nat) : Int)).f0) ∧ w'.cell? ⟨gx, 1, none⟩ = some (.int .i64 (rd_T63 l2 ((0 : Nat) : Int)).f1) ∧ w'.cell? ⟨gx, 2, none⟩ = some (.int .i64 (rd_T63 l2 ((0 : Nat) : Int)).f2) ∧ w'.cell? ⟨w.heap.size, 2, none⟩ = some (.slice (some ad) l2.length c2) ∧ w'.cell? ⟨w.heap.size, 5, none⟩ = some (.int .i64 r)))
              have HP : Aside0 (defectAtPv l2 ((0 : Nat) : Int) = true) := ⟨rfl⟩
              rcases or3_ b1 b2 b3 with rfl | ⟨rfl, rfl⟩ | ⟨rfl, rfl, rfl⟩ | ⟨rfl, rfl, rfl⟩
              all_goals
                (refine rg_ (by kernel_rfl) (by kernel_rfl) ?_; (repeat (first | refine qn_ ?_ | refine qc_ uName (fun w' _ => Kb1.out w') ?_ | refine qc_ uIn (fun w' _ => Kb2.out w') ?_ | refine qc_ uIn (fun w' _ => Kb3.out w') ?_ | refine ql_ L.out ?_)); refine qd_ ?_; intro w5 hb; (try go_wp2); go_meet; case rel => exact ⟨by have hp := HP.out; unfold defectAtPv at hp; unfold defectAt; (try dsimp only); rw [HE.out.1, HE.out.2.1, HE.out.2.2, hp]; first | rfl | simp, ⟨blk_below BK.out hb⟩, ⟨below_step HB.out hb⟩⟩)
            · obtain ⟨j, rfl⟩ : ∃ j, i = j + 1 := ⟨i - 1, by omega⟩
              obtain ⟨ad', e0, y0, y1, y2⟩ := at_T63 HR2.out (j : Int) (by omega) (by omega)
              obtain rfl : ad = ad' := by injection e0
              simp only [Int.toNat_natCast] at y0 y1 y2
              have hj : wrap64 (j : Int) = (j : Int) := w64 (by omega) (by omega)
              have hjl : j < l2.length := by omega
              have L := Aside0.mk (fun w' (h : Up W w') => (⟨ck (blk_below HK.out h) 0 rfl, ck (blk_below HK.out h) 1 rfl, ck (blk_below HK.out h) 2 rfl, ck (blk_below BK.out h) 2 rfl, ck (blk_below BK.out h) 5 rfl, bc (below_step HB.out h) y1⟩ : w'.cell? ⟨gx, 0, none⟩ = some (.string (rd_T63 l2 ((j + 1 : Nat) : Int)).f0) ∧ w'.cell? ⟨gx, 1, none⟩ = some (.int .i64 (rd_T63 l2 ((j + 1 : Nat) : Int)).f1) ∧ w'.cell? ⟨gx, 2, none⟩ = some (.int .i64 (rd_T63 l2 ((j + 1 : Nat) : Int)).f2) ∧ w'.cell? ⟨w.heap.size, 2, none⟩ = some (.slice (some ad) l2.length c2) ∧ w'.cell? ⟨w.heap.size, 5, none⟩ = some (.int .i64 r) ∧ w'.cell? ⟨(ad.add (j * 3)).block, (ad.add (j * 3)).off + 1, none⟩ = some (.int .i64 (rd_T63 l2 (j : Int)).f1)))
              obtain ⟨bP, EP⟩ : ∃ b, decide ((rd_T63 l2 (j : Int)).f1 < (rd_T63 l2 ((j : Int) + 1)).f1) = b := ⟨_, rfl⟩
              have HP : Aside0 (defectAtPv l2 ((j + 1 : Nat) : Int) = bP) := ⟨by unfold defectAtPv; rw [decide_eq_false (show ¬ ¬ ((j + 1 : Nat) : Int) > 0 by omega), show ((j + 1 : Nat) : Int) - 1 = (j : Int) by omega, show ((j + 1 : Nat) : Int) = (j : Int) + 1 by omega, EP]; rfl⟩
              have EQ : decide ((rd_T63 l2 ((j : Int) + 1)).f1 ≤ (rd_T63 l2 (j : Int)).f1) = !bP := by rw [← EP]; exact le_lt_ _ _
              clear EP
              clear y0 y1 y2 e0 h0
              rcases or4_ b1 b2 bP b3 with rfl | ⟨rfl, rfl⟩ | ⟨rfl, rfl, rfl⟩ | ⟨rfl, rfl, rfl, rfl⟩ | ⟨rfl, rfl, rfl, rfl⟩
              all_goals
                (refine rg_ (by kernel_rfl) (by kernel_rfl) ?_; (repeat (first | refine qn_ ?_ | refine qc_ uName (fun w' _ => Kb1.out w') ?_ | refine qc_ uIn (fun w' _ => Kb2.out w') ?_ | refine qc_ uIn (fun w' _ => Kb3.out w') ?_ | refine ql_ L.out ?_)); refine qd_ ?_; intro w5 hb; (try go_wp2); go_meet; case rel => exact ⟨by have hp := HP.out; unfold defectAtPv at hp; unfold defectAt; (try dsimp only); rw [HE.out.1, HE.out.2.1, HE.out.2.2, hp]; first | rfl | simp, ⟨blk_below BK.out hb⟩, ⟨below_step HB.out hb⟩⟩)
          case rest =>
            clear HB HZ HE HK BK
            obtain ⟨rfl, BK, HB⟩ := hcut
            cases hc : defectAt r l2 (i : Int) with
            | false =>
              rw [hc] at HS
              go_wp2
              go_ret
              exact ⟨by rw [HS.out]; rfl, HB.out⟩
            | true =>
              rw [hc] at HS
              go_wp2
              go_roundw
              case rel => exact ⟨i + 1, by omega, by go_num, ⟨HS.out⟩, BK, HB⟩
              case measure => simp [intOf]; omega
        · obtain rfl : i = l2.length := by omega
          have HS := Aside0.mk (defects_end HE.out)
          clear HE
          obtain ⟨hf0, hf1, hf2, hf3, hf4, hf5⟩ := ck6 BK.out
          go_wp2
          go_ret
          exact ⟨by rw [HS.out]; rfl, HB.out⟩
def spec_FleetOk.f (l0_0 : List S104) (l0_1 : List S137) (l0_2 : List S63) (a0_3 : Int) (a0_4 : Int) (a0_5 : Int) : Option (Bool) := if fleetSzB l0_0 l0_1 l0_2 = true then some (fleetB l0_0 l0_1 l0_2 a0_3 a0_4 a0_5) else none
theorem spec_FleetOk.calls (A0_0 : Option Addr) (c0_0 : Nat) (l0_0 : List (S104)) (A0_1 : Option Addr) (c0_1 : Nat) (l0_1 : List (S137)) (A0_2 : Option Addr) (c0_2 : Nat) (l0_2 : List (S63)) (a0_3 : Int) (a0_4 : Int) (a0_5 : Int) (r : Bool) (w : World) (hr0_0 : Kd.C k104 w A0_0 l0_0.length l0_0) (hc0_0 : l0_0.length ≤ c0_0) (hr0_1 : Kd.C k137 w A0_1 l0_1.length l0_1) (hc0_1 : l0_1.length ≤ c0_1) (hr0_2 : Kd.C k63 w A0_2 l0_2.length l0_2) (hc0_2 : l0_2.length ≤ c0_2) (h : spec_FleetOk.f l0_0 l0_1 l0_2 a0_3 a0_4 a0_5 = some r) :
    Calls Try.prog 20 #[.agg #[.slice A0_0 l0_0.length c0_0, .slice A0_1 l0_1.length c0_1, .slice A0_2 l0_2.length c0_2, .int .i64 a0_3, .int .i64 a0_4, .int .i64 a0_5]] w fun e w' => e = .returned (.bool r) ∧ Below w.heap.size w w' := by
  unfold spec_FleetOk.f at h
  by_cases hz : fleetSzB l0_0 l0_1 l0_2 = true
  · rw [if_pos hz] at h
    have e := Option.some.inj h
    have c := spec_FleetOk.go A0_0 c0_0 l0_0 A0_1 c0_1 l0_1 A0_2 c0_2 l0_2 a0_3 a0_4 a0_5 w hr0_0 hc0_0 hr0_1 hc0_1 hr0_2 hc0_2 (fleetSz_of.1 hz)
    rw [e] at c
    exact c
  · rw [if_neg hz] at h
    exact absurd h (by simp)
-- HAND TO

end Go.Proofs.Ytljceaggilpgbaa.PFnExactDeskOk
