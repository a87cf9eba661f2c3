-- Written by a program of this session (wip/xprint.py) out of the translation; Lean checks it.
import Derived.Test.YtaeoiofdbjfdlaaPFnExactNewDeskx0
import Derived.Test.YtaeoiofdbjfdlaaPFnExactNewDeskx3
namespace Go.Proofs.Ytaeoiofdbjfdlaa.PFnExactNewDesk
open Go.RowKit Go.Proofs.YtaeoiofdbjfdlaaW.PrintWords Go.Proofs.YtaeoiofdbjfdlaaW.PrintLast Go.Proofs.YtaeoiofdbjfdlaaW.PrintMore Go.Proofs.Ytaeoiofdbjfdlaa.Sq
attribute [local go_sem] max2_int min2_int max_two min_two max_three min_three max_four min_four   -- for this text's walks alone
set_option linter.unusedVariables false
set_option linter.unusedSimpArgs false

/-! ### laws_markText: function 102 -/
def laws_markText.l0 : Nat → Int → ByteArray → Option (ByteArray)
 | 0, _, _ => none
 | k + 1, x0, x3 => if x0 > 0 then ((some (([(wrap64 (48 + (Int.tmod x0 10))) % 256] : List Int) : List Int)).bind fun y159 => (if (strOfNums y159).size + x3.size ≤ 9223372036854775807 then (laws_markText.l0 k (wrap64 (Int.tdiv x0 10)) ((strOfNums y159) ++ x3)) else (none))) else (if 1 + x3.size ≤ 9223372036854775807 then (some ((⟨#[109]⟩ : ByteArray) ++ x3)) else (none))
def laws_markText.f (k : Nat) (a0 : Int) : Option (ByteArray) := if a0 ≤ 0 then (some (⟨#[109, 48]⟩ : ByteArray)) else (laws_markText.l0 k a0 (⟨#[]⟩ : ByteArray))
theorem laws_markText.mono_l : ∀ k, (∀ y0 y1, LeO (laws_markText.l0 k y0 y1) (laws_markText.l0 (k + 1) y0 y1))
 | 0 => fun _ _ r h => by simp [laws_markText.l0] at h
 | k + 1 => by
  have ih0 := laws_markText.mono_l k
  ·
   intro y0 y1
   unfold laws_markText.l0
   repeat' first
   | (with_reducible exact ih0 _ _)
   | (with_reducible exact LeO.refl _)
   | (with_reducible exact LeO.none _)
   | (with_reducible refine LeO.ite ?_ ?_)
   | (with_reducible refine LeO.bind ?_ (fun _ => ?_))
   | exact ih0 _ _
   | exact LeO.none _
   | refine LeO.ite ?_ ?_
   | refine LeO.bind ?_ (fun _ => ?_)
theorem laws_markText.mono : ∀ a0 k, LeO (laws_markText.f k a0) (laws_markText.f (k + 1) a0) := by
 intro a0 k
 have ih0 := laws_markText.mono_l k
 unfold laws_markText.f
 repeat' first
   | (with_reducible exact ih0 _ _)
   | (with_reducible exact LeO.refl _)
   | (with_reducible exact LeO.none _)
   | (with_reducible refine LeO.ite ?_ ?_)
   | (with_reducible refine LeO.bind ?_ (fun _ => ?_))
   | exact ih0 _ _
   | exact LeO.none _
   | refine LeO.ite ?_ ?_
   | refine LeO.bind ?_ (fun _ => ?_)
set_option maxHeartbeats 8000000 in
set_option maxRecDepth 100000 in
theorem laws_markText.calls (k : Nat) (a0 : Int) (r : ByteArray) (w : World) (h : laws_markText.f k a0 = some r) :
  Calls Try.prog 102 #[.int .i64 a0] w fun e w' => e = .returned (.string r) ∧ Below w.heap.size w w' := by
 have HB := Aside0.mk (Below.refl w.heap.size w)
 have H : (if a0 ≤ 0 then (some (⟨#[109, 48]⟩ : ByteArray)) else (laws_markText.l0 k a0 (⟨#[]⟩ : ByteArray))) = some r := h
 clear h
 by_cases c2 : a0 ≤ 0
 ·
  rw [if_pos c2] at H
  have c2b0 : decide (a0 ≤ 0) = true := decide_eq_true c2
  clear c2
  obtain rfl := Option.some.inj H
  go_enter Try.func102, Try.ntmps102
  go_wp2
  go_ret
  exact ⟨by first | rfl | (simp [errW_none, errW_some] <;> rfl) | (simp [*, errW_none, errW_some] <;> rfl), bl HB.out⟩
 ·
  rw [if_neg c2] at H
  have c2b0 : decide (a0 ≤ 0) = false := decide_eq_false c2
  clear c2
  have H' := Aside0.mk H
  clear H
  go_enter Try.func102, Try.ntmps102
  go_wp2
  go_loopg [0, 3] k (fun kq v0 v3 w' => ∃ (x0_1 : Int) (x3_1 : ByteArray), v0 = .int .i64 x0_1 ∧ v3 = .string x3_1 ∧ Aside0 (laws_markText.l0 kq x0_1 x3_1 = some r) ∧ Aside0 (kq ≤ k) ∧ Aside0 (Below w.heap.size w w'))
  case atStart => exact ⟨(a0), ((⟨#[]⟩ : ByteArray)), (by first | rfl | (simp; done) | (simp [*]; done)), (by first | rfl | (simp; done) | (simp [*]; done)), H', ⟨Nat.le_refl _⟩, ⟨bl HB.out⟩⟩
  case round =>
   clear H'
   try clear c1
   try clear c2
   try clear c2b0
   try clear p2
   obtain ⟨x0_1, x3_1, rfl, rfl, HA, HK1, HB⟩ := hrel
   cases gk with
   | zero => exact absurd HA.out (by simp [laws_markText.l0])
   | succ k1 =>
    have H := HA.out
    clear HA
    simp only [laws_markText.l0] at H
    by_cases c3 : x0_1 > 0
    ·
     rw [if_pos c3] at H
     have c3b0 : decide (0 < x0_1) = true := decide_eq_true c3
     clear c3
     obtain ⟨y159, hy159⟩ : ∃ y_ : List Int, y_ = (([(wrap64 (48 + (Int.tmod x0_1 10))) % 256] : List Int)) := ⟨_, rfl⟩
     replace H : (if (strOfNums y159).size + x3_1.size ≤ 9223372036854775807 then (laws_markText.l0 k1 (wrap64 (Int.tdiv x0_1 10)) ((strOfNums y159) ++ x3_1)) else (none)) = some r := by first | (rw [hy159]; with_reducible exact H) | (have H2_ := (Option.bind_some _ _).symm.trans H; rw [hy159]; with_reducible exact H2_) | (have H2_ := (Option.bind_some _ _).symm.trans H; with_reducible exact H2_) | with_reducible exact H | (rw [hy159]; exact H) | exact H
     have Ny159 := Aside0.mk hy159
     clear hy159
     by_cases c4 : (strOfNums y159).size + x3_1.size ≤ 9223372036854775807
     ·
      rw [if_pos c4] at H
      have c4b0 := eq_true c4
      have c4b1 : decide ((strOfNums y159).size + x3_1.size ≤ 9223372036854775807) = true := decide_eq_true c4
      try have c4b2 : (9223372036854775807 < (strOfNums y159).size + x3_1.size) = False := eq_false (Nat.not_lt.2 c4)
      have H' := Aside0.mk H
      clear H
      go_wp2_with (first | ((with_reducible refine gate_dst (N := 12) rfl ?_); refine Kd.R_lit (Kd.int .u8) _ 5 ?hg (N := 12) ?hd (xs := ([(wrap64 (48 + (Int.tmod x0_1 10))) % 256] : List Int)) (inner := [.int .u8 ((wrap64 (48 + (Int.tmod x0_1 10))) % 256)]) (ok := fun _ => True) (okp := fun _ => True) ?hr ?hp (fun _ hk => hk) trivial (Below.refl _ _) (Nat.le_refl _) (by simp) ?_; (case hd => rfl); (case hg => rfl); (case hr => first | (go_simp; done) | (go_simp; rfl)); (case hp => exact (Reps.one (show Kd.M (Kd.int .u8) _ _ _ ((wrap64 (48 + (Int.tmod x0_1 10))) % 256) [.int .u8 ((wrap64 (48 + (Int.tmod x0_1 10))) % 256)] from rfl) (Reps.none _ _))); intro v160 w5 ho6 hb hg_ hnew_; clear hg_ hnew_; (first | rw [← Ny159.out] at ho6 | (simp only [Int.reduceToNat] at ho6; rw [← Ny159.out] at ho6)); have n0_ := Aside0.mk (Kd.R_lower ho6 (below_size (bl HB.out))); have n1_ := Aside0.mk (below_step (bl HB.out) hb); clear HB; have HO161 := n0_; have HB := n1_; clear n0_ n1_; clear hb ho6; have hcv7 := own_string (P := Try.prog) Try.underlying55 Try.underlying5 Try.underlying9 (Kd.own_of_R HO161.out)))
      go_roundg k1
      case measure => have := HK1.out; omega
      case rel => exact ⟨(wrap64 (Int.tdiv x0_1 10)), ((strOfNums y159) ++ x3_1), (by first | rfl | (simp; done) | (simp [*]; done)), (by first | rfl | (simp; done) | (simp [*]; done)), H', ⟨by have := HK1.out; omega⟩, ⟨bl HB.out⟩⟩
     ·
      rw [if_neg c4] at H
      exact absurd H (by simp)
    ·
     rw [if_neg c3] at H
     have c3b0 : decide (0 < x0_1) = false := decide_eq_false c3
     clear c3
     by_cases c8 : 1 + x3_1.size ≤ 9223372036854775807
     ·
      rw [if_pos c8] at H
      have c8b0 := eq_true c8
      have c8b1 : decide (1 + x3_1.size ≤ 9223372036854775807) = true := decide_eq_true c8
      try have c8b2 : (9223372036854775807 < 1 + x3_1.size) = False := eq_false (Nat.not_lt.2 c8)
      obtain rfl := Option.some.inj H
      go_wp2
      go_ret
      exact ⟨by first | rfl | (simp [errW_none, errW_some] <;> rfl) | (simp [*, errW_none, errW_some] <;> rfl), bl HB.out⟩
     ·
      rw [if_neg c8] at H
      exact absurd H (by simp)

/-! ### laws_markTaskS: function 58 -/
def laws_markTaskS.l0 : Nat → List (S71) → Int → Int → Option (Int × (List (S71)))
 | 0, _, _, _ => none
 | k + 1, x0, x1, x5 => if x5 < (x0.length : Int) then ((laws_markText.f k x1).bind fun t162 => (if 0 ≤ x5 then ((some (x0.set (x5 : Int).toNat (⟨t162, (rd_T71 x0 x5).f1, (rd_T71 x0 x5).f2, (rd_T71 x0 x5).f3, (⟨(rd_T71 x0 x5).f4.f0, (rd_T71 x0 x5).f4.f1, (rd_T71 x0 x5).f4.f2⟩ : S31)⟩ : S71) : List (S71))).bind fun y163 => ((some (y163.set (x5 : Int).toNat (⟨(rd_T71 y163 x5).f0, wrap64 (x1 + 1), (rd_T71 y163 x5).f2, (rd_T71 y163 x5).f3, (⟨(rd_T71 y163 x5).f4.f0, (rd_T71 y163 x5).f4.f1, (rd_T71 y163 x5).f4.f2⟩ : S31)⟩ : S71) : List (S71))).bind fun y164 => ((some (y164.set (x5 : Int).toNat (⟨(rd_T71 y164 x5).f0, (rd_T71 y164 x5).f1, wrap64 ((wrap64 (x1 + 1)) + 1), (rd_T71 y164 x5).f3, (⟨(rd_T71 y164 x5).f4.f0, (rd_T71 y164 x5).f4.f1, (rd_T71 y164 x5).f4.f2⟩ : S31)⟩ : S71) : List (S71))).bind fun y165 => ((some (y165.set (x5 : Int).toNat (⟨(rd_T71 y165 x5).f0, (rd_T71 y165 x5).f1, (rd_T71 y165 x5).f2, wrap64 ((wrap64 ((wrap64 (x1 + 1)) + 1)) + 1), (⟨(rd_T71 y165 x5).f4.f0, (rd_T71 y165 x5).f4.f1, (rd_T71 y165 x5).f4.f2⟩ : S31)⟩ : S71) : List (S71))).bind fun y166 => ((some (y166.set (x5 : Int).toNat (⟨(rd_T71 y166 x5).f0, (rd_T71 y166 x5).f1, (rd_T71 y166 x5).f2, (rd_T71 y166 x5).f3, (⟨wrap64 ((wrap64 ((wrap64 ((wrap64 (x1 + 1)) + 1)) + 1)) + 1), (rd_T71 y166 x5).f4.f1, (rd_T71 y166 x5).f4.f2⟩ : S31)⟩ : S71) : List (S71))).bind fun y167 => ((some (y167.set (x5 : Int).toNat (⟨(rd_T71 y167 x5).f0, (rd_T71 y167 x5).f1, (rd_T71 y167 x5).f2, (rd_T71 y167 x5).f3, (⟨(rd_T71 y167 x5).f4.f0, wrap64 ((wrap64 ((wrap64 ((wrap64 ((wrap64 (x1 + 1)) + 1)) + 1)) + 1)) + 1), (rd_T71 y167 x5).f4.f2⟩ : S31)⟩ : S71) : List (S71))).bind fun y168 => (laws_markTaskS.l0 k (y168.set (x5 : Int).toNat (⟨(rd_T71 y168 x5).f0, (rd_T71 y168 x5).f1, (rd_T71 y168 x5).f2, (rd_T71 y168 x5).f3, (⟨(rd_T71 y168 x5).f4.f0, (rd_T71 y168 x5).f4.f1, wrap64 ((wrap64 ((wrap64 ((wrap64 ((wrap64 ((wrap64 (x1 + 1)) + 1)) + 1)) + 1)) + 1)) + 1)⟩ : S31)⟩ : S71)) (wrap64 ((wrap64 ((wrap64 ((wrap64 ((wrap64 ((wrap64 ((wrap64 (x1 + 1)) + 1)) + 1)) + 1)) + 1)) + 1)) + 1)) (wrap64 (x5 + 1))))))))) else (none))) else (some (x1, x0))
def laws_markTaskS.f (k : Nat) (l0 : List (S71)) (a1 : Int) : Option (Int × (List (S71))) := laws_markTaskS.l0 k l0 a1 0
theorem laws_markTaskS.mono_l : ∀ k, (∀ y0 y1 y2, LeO (laws_markTaskS.l0 k y0 y1 y2) (laws_markTaskS.l0 (k + 1) y0 y1 y2))
 | 0 => fun _ _ _ r h => by simp [laws_markTaskS.l0] at h
 | k + 1 => by
  have ih0 := laws_markTaskS.mono_l k
  ·
   intro y0 y1 y2
   unfold laws_markTaskS.l0
   repeat' first
   | (with_reducible exact ih0 _ _ _)
   | (with_reducible exact laws_markText.mono _ _)
   | (with_reducible exact LeO.refl _)
   | (with_reducible exact LeO.none _)
   | (with_reducible refine LeO.ite ?_ ?_)
   | (with_reducible refine LeO.bind ?_ (fun _ => ?_))
   | exact ih0 _ _ _
   | exact laws_markText.mono _ _
   | exact LeO.none _
   | refine LeO.ite ?_ ?_
   | refine LeO.bind ?_ (fun _ => ?_)
theorem laws_markTaskS.mono : ∀ a0 a1 k, LeO (laws_markTaskS.f k a0 a1) (laws_markTaskS.f (k + 1) a0 a1) := by
 intro a0 a1 k
 have ih0 := laws_markTaskS.mono_l k
 unfold laws_markTaskS.f
 repeat' first
   | (with_reducible exact ih0 _ _ _)
   | (with_reducible exact laws_markText.mono _ _)
   | (with_reducible exact LeO.refl _)
   | (with_reducible exact LeO.none _)
   | (with_reducible refine LeO.ite ?_ ?_)
   | (with_reducible refine LeO.bind ?_ (fun _ => ?_))
   | exact ih0 _ _ _
   | exact laws_markText.mono _ _
   | exact LeO.none _
   | refine LeO.ite ?_ ?_
   | refine LeO.bind ?_ (fun _ => ?_)
set_option maxHeartbeats 8000000 in
set_option maxRecDepth 100000 in
theorem laws_markTaskS.calls (k : Nat) (P0_ : Nat → Prop) (u9000_ : Value) (l0 : List (S71)) (a1 : Int) (r1 : Int) (r2 : List (S71)) (w0 w : World) (hB : Below w0.heap.size w0 w) (ho0 : Kd.R k71 71 w w0.heap.size P0_ u9000_ l0) (h : laws_markTaskS.f k l0 a1 = some (r1, r2)) :
  Calls Try.prog 58 #[u9000_, .int .i64 a1] w fun e w' => e = .returned (.int .i64 r1) ∧ Kd.R k71 71 w' w0.heap.size (fun k_ => (P0_ k_ ∨ w.heap.size ≤ k_)) u9000_ r2 ∧ Below w0.heap.size w0 w' ∧ Kept w w' (fun k_ => P0_ k_) := by
 have HO0 := Aside0.mk (show Kd.R k71 71 w w0.heap.size (fun k_ => (P0_ k_ ∨ w.heap.size ≤ k_)) u9000_ l0 from Kd.R_mono ho0 (fun k_ hk => (.inl hk)))
 have HK := Aside0.mk (Kept.refl w (fun k_ => P0_ k_))
 have HW0 := Aside0.mk hB.size
 have HB := Aside0.mk hB
 clear hB
 have H : (laws_markTaskS.l0 k l0 a1 0) = some (r1, r2) := h
 clear h
 have H' := Aside0.mk H
 clear H
 go_enter Try.func58, Try.ntmps58
 go_wp2
 go_loopg [1, 5] k (fun kq v1 v5 w' => ∃ (x0_1 : List (S71)) (x1_1 : Int) (x5_1 : Int), v1 = .int .i64 x1_1 ∧ v5 = .int .i64 x5_1 ∧ Aside0 (laws_markTaskS.l0 kq x0_1 x1_1 x5_1 = some (r1, r2)) ∧ Aside0 (kq ≤ k) ∧ Aside0 (Kd.R k71 71 w' w0.heap.size (fun k_ => (P0_ k_ ∨ w.heap.size ≤ k_)) u9000_ x0_1) ∧ Aside0 (Kept w w' (fun k_ => P0_ k_)) ∧ Aside0 (Below w0.heap.size w0 w'))
 case atStart => exact ⟨(l0), (a1), (0), (by first | rfl | (simp; done) | (simp [*]; done)), (by first | rfl | (simp; done) | (simp [*]; done)), H', ⟨Nat.le_refl _⟩, ⟨rl HO0.out⟩, ⟨by repeat (first | (with_reducible first | exact HK.out | apply Kept.alloc | apply Kept.drewN | apply Kept.drew) | exact HK.out)⟩, ⟨bl HB.out⟩⟩
 case round =>
  clear H'
  try clear p2
  obtain ⟨x0_1, x1_1, x5_1, rfl, rfl, HA, HK1, HO_0, HK, HB⟩ := hrel
  cases gk with
  | zero => exact absurd HA.out (by simp [laws_markTaskS.l0])
  | succ k1 =>
   have H := HA.out
   clear HA
   simp only [laws_markTaskS.l0] at H
   by_cases c3 : x5_1 < (x0_1.length : Int)
   ·
    rw [if_pos c3] at H
    have c3b0 : decide (x5_1 < (x0_1.length : Int)) = true := decide_eq_true c3
    clear c3
    replace H := Option.bind_eq_some_iff.mp H
    obtain ⟨t162, A40, H⟩ := H
    replace H : (if 0 ≤ x5_1 then ((some (x0_1.set (x5_1 : Int).toNat (⟨t162, (rd_T71 x0_1 x5_1).f1, (rd_T71 x0_1 x5_1).f2, (rd_T71 x0_1 x5_1).f3, (⟨(rd_T71 x0_1 x5_1).f4.f0, (rd_T71 x0_1 x5_1).f4.f1, (rd_T71 x0_1 x5_1).f4.f2⟩ : S31)⟩ : S71) : List (S71))).bind fun y163 => ((some (y163.set (x5_1 : Int).toNat (⟨(rd_T71 y163 x5_1).f0, wrap64 (x1_1 + 1), (rd_T71 y163 x5_1).f2, (rd_T71 y163 x5_1).f3, (⟨(rd_T71 y163 x5_1).f4.f0, (rd_T71 y163 x5_1).f4.f1, (rd_T71 y163 x5_1).f4.f2⟩ : S31)⟩ : S71) : List (S71))).bind fun y164 => ((some (y164.set (x5_1 : Int).toNat (⟨(rd_T71 y164 x5_1).f0, (rd_T71 y164 x5_1).f1, wrap64 ((wrap64 (x1_1 + 1)) + 1), (rd_T71 y164 x5_1).f3, (⟨(rd_T71 y164 x5_1).f4.f0, (rd_T71 y164 x5_1).f4.f1, (rd_T71 y164 x5_1).f4.f2⟩ : S31)⟩ : S71) : List (S71))).bind fun y165 => ((some (y165.set (x5_1 : Int).toNat (⟨(rd_T71 y165 x5_1).f0, (rd_T71 y165 x5_1).f1, (rd_T71 y165 x5_1).f2, wrap64 ((wrap64 ((wrap64 (x1_1 + 1)) + 1)) + 1), (⟨(rd_T71 y165 x5_1).f4.f0, (rd_T71 y165 x5_1).f4.f1, (rd_T71 y165 x5_1).f4.f2⟩ : S31)⟩ : S71) : List (S71))).bind fun y166 => ((some (y166.set (x5_1 : Int).toNat (⟨(rd_T71 y166 x5_1).f0, (rd_T71 y166 x5_1).f1, (rd_T71 y166 x5_1).f2, (rd_T71 y166 x5_1).f3, (⟨wrap64 ((wrap64 ((wrap64 ((wrap64 (x1_1 + 1)) + 1)) + 1)) + 1), (rd_T71 y166 x5_1).f4.f1, (rd_T71 y166 x5_1).f4.f2⟩ : S31)⟩ : S71) : List (S71))).bind fun y167 => ((some (y167.set (x5_1 : Int).toNat (⟨(rd_T71 y167 x5_1).f0, (rd_T71 y167 x5_1).f1, (rd_T71 y167 x5_1).f2, (rd_T71 y167 x5_1).f3, (⟨(rd_T71 y167 x5_1).f4.f0, wrap64 ((wrap64 ((wrap64 ((wrap64 ((wrap64 (x1_1 + 1)) + 1)) + 1)) + 1)) + 1), (rd_T71 y167 x5_1).f4.f2⟩ : S31)⟩ : S71) : List (S71))).bind fun y168 => (laws_markTaskS.l0 k1 (y168.set (x5_1 : Int).toNat (⟨(rd_T71 y168 x5_1).f0, (rd_T71 y168 x5_1).f1, (rd_T71 y168 x5_1).f2, (rd_T71 y168 x5_1).f3, (⟨(rd_T71 y168 x5_1).f4.f0, (rd_T71 y168 x5_1).f4.f1, wrap64 ((wrap64 ((wrap64 ((wrap64 ((wrap64 ((wrap64 (x1_1 + 1)) + 1)) + 1)) + 1)) + 1)) + 1)⟩ : S31)⟩ : S71)) (wrap64 ((wrap64 ((wrap64 ((wrap64 ((wrap64 ((wrap64 ((wrap64 (x1_1 + 1)) + 1)) + 1)) + 1)) + 1)) + 1)) + 1)) (wrap64 (x5_1 + 1))))))))) else (none)) = some (r1, r2) := H
    have A4 := Aside0.mk A40
    clear A40
    by_cases c5 : 0 ≤ x5_1
    ·
     rw [if_pos c5] at H
     have c5b0 : decide (0 ≤ x5_1) = true := decide_eq_true c5
     clear c5
     obtain ⟨y163, hy163⟩ : ∃ y_ : List (S71), y_ = (x0_1.set (x5_1 : Int).toNat (⟨t162, (rd_T71 x0_1 x5_1).f1, (rd_T71 x0_1 x5_1).f2, (rd_T71 x0_1 x5_1).f3, (⟨(rd_T71 x0_1 x5_1).f4.f0, (rd_T71 x0_1 x5_1).f4.f1, (rd_T71 x0_1 x5_1).f4.f2⟩ : S31)⟩ : S71)) := ⟨_, rfl⟩
     replace H : ((some (y163.set (x5_1 : Int).toNat (⟨(rd_T71 y163 x5_1).f0, wrap64 (x1_1 + 1), (rd_T71 y163 x5_1).f2, (rd_T71 y163 x5_1).f3, (⟨(rd_T71 y163 x5_1).f4.f0, (rd_T71 y163 x5_1).f4.f1, (rd_T71 y163 x5_1).f4.f2⟩ : S31)⟩ : S71) : List (S71))).bind fun y164 => ((some (y164.set (x5_1 : Int).toNat (⟨(rd_T71 y164 x5_1).f0, (rd_T71 y164 x5_1).f1, wrap64 ((wrap64 (x1_1 + 1)) + 1), (rd_T71 y164 x5_1).f3, (⟨(rd_T71 y164 x5_1).f4.f0, (rd_T71 y164 x5_1).f4.f1, (rd_T71 y164 x5_1).f4.f2⟩ : S31)⟩ : S71) : List (S71))).bind fun y165 => ((some (y165.set (x5_1 : Int).toNat (⟨(rd_T71 y165 x5_1).f0, (rd_T71 y165 x5_1).f1, (rd_T71 y165 x5_1).f2, wrap64 ((wrap64 ((wrap64 (x1_1 + 1)) + 1)) + 1), (⟨(rd_T71 y165 x5_1).f4.f0, (rd_T71 y165 x5_1).f4.f1, (rd_T71 y165 x5_1).f4.f2⟩ : S31)⟩ : S71) : List (S71))).bind fun y166 => ((some (y166.set (x5_1 : Int).toNat (⟨(rd_T71 y166 x5_1).f0, (rd_T71 y166 x5_1).f1, (rd_T71 y166 x5_1).f2, (rd_T71 y166 x5_1).f3, (⟨wrap64 ((wrap64 ((wrap64 ((wrap64 (x1_1 + 1)) + 1)) + 1)) + 1), (rd_T71 y166 x5_1).f4.f1, (rd_T71 y166 x5_1).f4.f2⟩ : S31)⟩ : S71) : List (S71))).bind fun y167 => ((some (y167.set (x5_1 : Int).toNat (⟨(rd_T71 y167 x5_1).f0, (rd_T71 y167 x5_1).f1, (rd_T71 y167 x5_1).f2, (rd_T71 y167 x5_1).f3, (⟨(rd_T71 y167 x5_1).f4.f0, wrap64 ((wrap64 ((wrap64 ((wrap64 ((wrap64 (x1_1 + 1)) + 1)) + 1)) + 1)) + 1), (rd_T71 y167 x5_1).f4.f2⟩ : S31)⟩ : S71) : List (S71))).bind fun y168 => (laws_markTaskS.l0 k1 (y168.set (x5_1 : Int).toNat (⟨(rd_T71 y168 x5_1).f0, (rd_T71 y168 x5_1).f1, (rd_T71 y168 x5_1).f2, (rd_T71 y168 x5_1).f3, (⟨(rd_T71 y168 x5_1).f4.f0, (rd_T71 y168 x5_1).f4.f1, wrap64 ((wrap64 ((wrap64 ((wrap64 ((wrap64 ((wrap64 (x1_1 + 1)) + 1)) + 1)) + 1)) + 1)) + 1)⟩ : S31)⟩ : S71)) (wrap64 ((wrap64 ((wrap64 ((wrap64 ((wrap64 ((wrap64 ((wrap64 (x1_1 + 1)) + 1)) + 1)) + 1)) + 1)) + 1)) + 1)) (wrap64 (x5_1 + 1)))))))) = some (r1, r2) := by first | (rw [hy163]; with_reducible exact H) | (have H2_ := (Option.bind_some _ _).symm.trans H; rw [hy163]; with_reducible exact H2_) | (have H2_ := (Option.bind_some _ _).symm.trans H; with_reducible exact H2_) | with_reducible exact H | (rw [hy163]; exact H) | exact H
     have Ny163 := Aside0.mk hy163
     clear hy163
     obtain ⟨y164, hy164⟩ : ∃ y_ : List (S71), y_ = (y163.set (x5_1 : Int).toNat (⟨(rd_T71 y163 x5_1).f0, wrap64 (x1_1 + 1), (rd_T71 y163 x5_1).f2, (rd_T71 y163 x5_1).f3, (⟨(rd_T71 y163 x5_1).f4.f0, (rd_T71 y163 x5_1).f4.f1, (rd_T71 y163 x5_1).f4.f2⟩ : S31)⟩ : S71)) := ⟨_, rfl⟩
     replace H : ((some (y164.set (x5_1 : Int).toNat (⟨(rd_T71 y164 x5_1).f0, (rd_T71 y164 x5_1).f1, wrap64 ((wrap64 (x1_1 + 1)) + 1), (rd_T71 y164 x5_1).f3, (⟨(rd_T71 y164 x5_1).f4.f0, (rd_T71 y164 x5_1).f4.f1, (rd_T71 y164 x5_1).f4.f2⟩ : S31)⟩ : S71) : List (S71))).bind fun y165 => ((some (y165.set (x5_1 : Int).toNat (⟨(rd_T71 y165 x5_1).f0, (rd_T71 y165 x5_1).f1, (rd_T71 y165 x5_1).f2, wrap64 ((wrap64 ((wrap64 (x1_1 + 1)) + 1)) + 1), (⟨(rd_T71 y165 x5_1).f4.f0, (rd_T71 y165 x5_1).f4.f1, (rd_T71 y165 x5_1).f4.f2⟩ : S31)⟩ : S71) : List (S71))).bind fun y166 => ((some (y166.set (x5_1 : Int).toNat (⟨(rd_T71 y166 x5_1).f0, (rd_T71 y166 x5_1).f1, (rd_T71 y166 x5_1).f2, (rd_T71 y166 x5_1).f3, (⟨wrap64 ((wrap64 ((wrap64 ((wrap64 (x1_1 + 1)) + 1)) + 1)) + 1), (rd_T71 y166 x5_1).f4.f1, (rd_T71 y166 x5_1).f4.f2⟩ : S31)⟩ : S71) : List (S71))).bind fun y167 => ((some (y167.set (x5_1 : Int).toNat (⟨(rd_T71 y167 x5_1).f0, (rd_T71 y167 x5_1).f1, (rd_T71 y167 x5_1).f2, (rd_T71 y167 x5_1).f3, (⟨(rd_T71 y167 x5_1).f4.f0, wrap64 ((wrap64 ((wrap64 ((wrap64 ((wrap64 (x1_1 + 1)) + 1)) + 1)) + 1)) + 1), (rd_T71 y167 x5_1).f4.f2⟩ : S31)⟩ : S71) : List (S71))).bind fun y168 => (laws_markTaskS.l0 k1 (y168.set (x5_1 : Int).toNat (⟨(rd_T71 y168 x5_1).f0, (rd_T71 y168 x5_1).f1, (rd_T71 y168 x5_1).f2, (rd_T71 y168 x5_1).f3, (⟨(rd_T71 y168 x5_1).f4.f0, (rd_T71 y168 x5_1).f4.f1, wrap64 ((wrap64 ((wrap64 ((wrap64 ((wrap64 ((wrap64 (x1_1 + 1)) + 1)) + 1)) + 1)) + 1)) + 1)⟩ : S31)⟩ : S71)) (wrap64 ((wrap64 ((wrap64 ((wrap64 ((wrap64 ((wrap64 ((wrap64 (x1_1 + 1)) + 1)) + 1)) + 1)) + 1)) + 1)) + 1)) (wrap64 (x5_1 + 1))))))) = some (r1, r2) := by first | (rw [hy164]; with_reducible exact H) | (have H2_ := (Option.bind_some _ _).symm.trans H; rw [hy164]; with_reducible exact H2_) | (have H2_ := (Option.bind_some _ _).symm.trans H; with_reducible exact H2_) | with_reducible exact H | (rw [hy164]; exact H) | exact H
     have Ny164 := Aside0.mk hy164
     clear hy164
     obtain ⟨y165, hy165⟩ : ∃ y_ : List (S71), y_ = (y164.set (x5_1 : Int).toNat (⟨(rd_T71 y164 x5_1).f0, (rd_T71 y164 x5_1).f1, wrap64 ((wrap64 (x1_1 + 1)) + 1), (rd_T71 y164 x5_1).f3, (⟨(rd_T71 y164 x5_1).f4.f0, (rd_T71 y164 x5_1).f4.f1, (rd_T71 y164 x5_1).f4.f2⟩ : S31)⟩ : S71)) := ⟨_, rfl⟩
     replace H : ((some (y165.set (x5_1 : Int).toNat (⟨(rd_T71 y165 x5_1).f0, (rd_T71 y165 x5_1).f1, (rd_T71 y165 x5_1).f2, wrap64 ((wrap64 ((wrap64 (x1_1 + 1)) + 1)) + 1), (⟨(rd_T71 y165 x5_1).f4.f0, (rd_T71 y165 x5_1).f4.f1, (rd_T71 y165 x5_1).f4.f2⟩ : S31)⟩ : S71) : List (S71))).bind fun y166 => ((some (y166.set (x5_1 : Int).toNat (⟨(rd_T71 y166 x5_1).f0, (rd_T71 y166 x5_1).f1, (rd_T71 y166 x5_1).f2, (rd_T71 y166 x5_1).f3, (⟨wrap64 ((wrap64 ((wrap64 ((wrap64 (x1_1 + 1)) + 1)) + 1)) + 1), (rd_T71 y166 x5_1).f4.f1, (rd_T71 y166 x5_1).f4.f2⟩ : S31)⟩ : S71) : List (S71))).bind fun y167 => ((some (y167.set (x5_1 : Int).toNat (⟨(rd_T71 y167 x5_1).f0, (rd_T71 y167 x5_1).f1, (rd_T71 y167 x5_1).f2, (rd_T71 y167 x5_1).f3, (⟨(rd_T71 y167 x5_1).f4.f0, wrap64 ((wrap64 ((wrap64 ((wrap64 ((wrap64 (x1_1 + 1)) + 1)) + 1)) + 1)) + 1), (rd_T71 y167 x5_1).f4.f2⟩ : S31)⟩ : S71) : List (S71))).bind fun y168 => (laws_markTaskS.l0 k1 (y168.set (x5_1 : Int).toNat (⟨(rd_T71 y168 x5_1).f0, (rd_T71 y168 x5_1).f1, (rd_T71 y168 x5_1).f2, (rd_T71 y168 x5_1).f3, (⟨(rd_T71 y168 x5_1).f4.f0, (rd_T71 y168 x5_1).f4.f1, wrap64 ((wrap64 ((wrap64 ((wrap64 ((wrap64 ((wrap64 (x1_1 + 1)) + 1)) + 1)) + 1)) + 1)) + 1)⟩ : S31)⟩ : S71)) (wrap64 ((wrap64 ((wrap64 ((wrap64 ((wrap64 ((wrap64 ((wrap64 (x1_1 + 1)) + 1)) + 1)) + 1)) + 1)) + 1)) + 1)) (wrap64 (x5_1 + 1)))))) = some (r1, r2) := by first | (rw [hy165]; with_reducible exact H) | (have H2_ := (Option.bind_some _ _).symm.trans H; rw [hy165]; with_reducible exact H2_) | (have H2_ := (Option.bind_some _ _).symm.trans H; with_reducible exact H2_) | with_reducible exact H | (rw [hy165]; exact H) | exact H
     have Ny165 := Aside0.mk hy165
     clear hy165
     obtain ⟨y166, hy166⟩ : ∃ y_ : List (S71), y_ = (y165.set (x5_1 : Int).toNat (⟨(rd_T71 y165 x5_1).f0, (rd_T71 y165 x5_1).f1, (rd_T71 y165 x5_1).f2, wrap64 ((wrap64 ((wrap64 (x1_1 + 1)) + 1)) + 1), (⟨(rd_T71 y165 x5_1).f4.f0, (rd_T71 y165 x5_1).f4.f1, (rd_T71 y165 x5_1).f4.f2⟩ : S31)⟩ : S71)) := ⟨_, rfl⟩
     replace H : ((some (y166.set (x5_1 : Int).toNat (⟨(rd_T71 y166 x5_1).f0, (rd_T71 y166 x5_1).f1, (rd_T71 y166 x5_1).f2, (rd_T71 y166 x5_1).f3, (⟨wrap64 ((wrap64 ((wrap64 ((wrap64 (x1_1 + 1)) + 1)) + 1)) + 1), (rd_T71 y166 x5_1).f4.f1, (rd_T71 y166 x5_1).f4.f2⟩ : S31)⟩ : S71) : List (S71))).bind fun y167 => ((some (y167.set (x5_1 : Int).toNat (⟨(rd_T71 y167 x5_1).f0, (rd_T71 y167 x5_1).f1, (rd_T71 y167 x5_1).f2, (rd_T71 y167 x5_1).f3, (⟨(rd_T71 y167 x5_1).f4.f0, wrap64 ((wrap64 ((wrap64 ((wrap64 ((wrap64 (x1_1 + 1)) + 1)) + 1)) + 1)) + 1), (rd_T71 y167 x5_1).f4.f2⟩ : S31)⟩ : S71) : List (S71))).bind fun y168 => (laws_markTaskS.l0 k1 (y168.set (x5_1 : Int).toNat (⟨(rd_T71 y168 x5_1).f0, (rd_T71 y168 x5_1).f1, (rd_T71 y168 x5_1).f2, (rd_T71 y168 x5_1).f3, (⟨(rd_T71 y168 x5_1).f4.f0, (rd_T71 y168 x5_1).f4.f1, wrap64 ((wrap64 ((wrap64 ((wrap64 ((wrap64 ((wrap64 (x1_1 + 1)) + 1)) + 1)) + 1)) + 1)) + 1)⟩ : S31)⟩ : S71)) (wrap64 ((wrap64 ((wrap64 ((wrap64 ((wrap64 ((wrap64 ((wrap64 (x1_1 + 1)) + 1)) + 1)) + 1)) + 1)) + 1)) + 1)) (wrap64 (x5_1 + 1))))) = some (r1, r2) := by first | (rw [hy166]; with_reducible exact H) | (have H2_ := (Option.bind_some _ _).symm.trans H; rw [hy166]; with_reducible exact H2_) | (have H2_ := (Option.bind_some _ _).symm.trans H; with_reducible exact H2_) | with_reducible exact H | (rw [hy166]; exact H) | exact H
     have Ny166 := Aside0.mk hy166
     clear hy166
     obtain ⟨y167, hy167⟩ : ∃ y_ : List (S71), y_ = (y166.set (x5_1 : Int).toNat (⟨(rd_T71 y166 x5_1).f0, (rd_T71 y166 x5_1).f1, (rd_T71 y166 x5_1).f2, (rd_T71 y166 x5_1).f3, (⟨wrap64 ((wrap64 ((wrap64 ((wrap64 (x1_1 + 1)) + 1)) + 1)) + 1), (rd_T71 y166 x5_1).f4.f1, (rd_T71 y166 x5_1).f4.f2⟩ : S31)⟩ : S71)) := ⟨_, rfl⟩
     replace H : ((some (y167.set (x5_1 : Int).toNat (⟨(rd_T71 y167 x5_1).f0, (rd_T71 y167 x5_1).f1, (rd_T71 y167 x5_1).f2, (rd_T71 y167 x5_1).f3, (⟨(rd_T71 y167 x5_1).f4.f0, wrap64 ((wrap64 ((wrap64 ((wrap64 ((wrap64 (x1_1 + 1)) + 1)) + 1)) + 1)) + 1), (rd_T71 y167 x5_1).f4.f2⟩ : S31)⟩ : S71) : List (S71))).bind fun y168 => (laws_markTaskS.l0 k1 (y168.set (x5_1 : Int).toNat (⟨(rd_T71 y168 x5_1).f0, (rd_T71 y168 x5_1).f1, (rd_T71 y168 x5_1).f2, (rd_T71 y168 x5_1).f3, (⟨(rd_T71 y168 x5_1).f4.f0, (rd_T71 y168 x5_1).f4.f1, wrap64 ((wrap64 ((wrap64 ((wrap64 ((wrap64 ((wrap64 (x1_1 + 1)) + 1)) + 1)) + 1)) + 1)) + 1)⟩ : S31)⟩ : S71)) (wrap64 ((wrap64 ((wrap64 ((wrap64 ((wrap64 ((wrap64 ((wrap64 (x1_1 + 1)) + 1)) + 1)) + 1)) + 1)) + 1)) + 1)) (wrap64 (x5_1 + 1)))) = some (r1, r2) := by first | (rw [hy167]; with_reducible exact H) | (have H2_ := (Option.bind_some _ _).symm.trans H; rw [hy167]; with_reducible exact H2_) | (have H2_ := (Option.bind_some _ _).symm.trans H; with_reducible exact H2_) | with_reducible exact H | (rw [hy167]; exact H) | exact H
     have Ny167 := Aside0.mk hy167
     clear hy167
     obtain ⟨y168, hy168⟩ : ∃ y_ : List (S71), y_ = (y167.set (x5_1 : Int).toNat (⟨(rd_T71 y167 x5_1).f0, (rd_T71 y167 x5_1).f1, (rd_T71 y167 x5_1).f2, (rd_T71 y167 x5_1).f3, (⟨(rd_T71 y167 x5_1).f4.f0, wrap64 ((wrap64 ((wrap64 ((wrap64 ((wrap64 (x1_1 + 1)) + 1)) + 1)) + 1)) + 1), (rd_T71 y167 x5_1).f4.f2⟩ : S31)⟩ : S71)) := ⟨_, rfl⟩
     replace H : (laws_markTaskS.l0 k1 (y168.set (x5_1 : Int).toNat (⟨(rd_T71 y168 x5_1).f0, (rd_T71 y168 x5_1).f1, (rd_T71 y168 x5_1).f2, (rd_T71 y168 x5_1).f3, (⟨(rd_T71 y168 x5_1).f4.f0, (rd_T71 y168 x5_1).f4.f1, wrap64 ((wrap64 ((wrap64 ((wrap64 ((wrap64 ((wrap64 (x1_1 + 1)) + 1)) + 1)) + 1)) + 1)) + 1)⟩ : S31)⟩ : S71)) (wrap64 ((wrap64 ((wrap64 ((wrap64 ((wrap64 ((wrap64 ((wrap64 (x1_1 + 1)) + 1)) + 1)) + 1)) + 1)) + 1)) + 1)) (wrap64 (x5_1 + 1))) = some (r1, r2) := by first | (rw [hy168]; with_reducible exact H) | (have H2_ := (Option.bind_some _ _).symm.trans H; rw [hy168]; with_reducible exact H2_) | (have H2_ := (Option.bind_some _ _).symm.trans H; with_reducible exact H2_) | with_reducible exact H | (rw [hy168]; exact H) | exact H
     have Ny168 := Aside0.mk hy168
     clear hy168
     obtain ⟨y169, hy169⟩ : ∃ y_ : List (S71), y_ = (y168.set (x5_1 : Int).toNat (⟨(rd_T71 y168 x5_1).f0, (rd_T71 y168 x5_1).f1, (rd_T71 y168 x5_1).f2, (rd_T71 y168 x5_1).f3, (⟨(rd_T71 y168 x5_1).f4.f0, (rd_T71 y168 x5_1).f4.f1, wrap64 ((wrap64 ((wrap64 ((wrap64 ((wrap64 ((wrap64 (x1_1 + 1)) + 1)) + 1)) + 1)) + 1)) + 1)⟩ : S31)⟩ : S71)) := ⟨_, rfl⟩
     replace H : (laws_markTaskS.l0 k1 y169 (wrap64 ((wrap64 ((wrap64 ((wrap64 ((wrap64 ((wrap64 ((wrap64 (x1_1 + 1)) + 1)) + 1)) + 1)) + 1)) + 1)) + 1)) (wrap64 (x5_1 + 1))) = some (r1, r2) := by first | (rw [hy169]; with_reducible exact H) | (have H2_ := (Option.bind_some _ _).symm.trans H; rw [hy169]; with_reducible exact H2_) | (have H2_ := (Option.bind_some _ _).symm.trans H; with_reducible exact H2_) | with_reducible exact H | (rw [hy169]; exact H) | exact H
     have Ny169 := Aside0.mk hy169
     clear hy169
     have H' := Aside0.mk H
     clear H
     obtain ⟨Ao13, co13, eo13⟩ := Kd.R_slice HO_0.out
     subst eo13
     go_wp2_with (first | ((with_reducible refine gate_callee (f := 102) rfl ?_); refine goesL_ (some 15) rfl rfl Try.func102 (by kernel_rfl) rfl #[.int .i64 x1_1] rfl (by (try simp only [am_]); first | done | rfl) ?_; (with_reducible refine (laws_markText.calls k1 x1_1 t162 _ A4.out).mono ?_); rintro e w14 ⟨rfl, hb⟩; refine ⟨_, rfl, ?_⟩; have n0_ := Aside0.mk (Kd.R_below (rl HO_0.out) hb); have n1_ := Aside0.mk (Kept.below (S := (fun k_ => P0_ k_)) (by repeat (first | (with_reducible first | exact HK.out | apply Kept.alloc | apply Kept.drewN | apply Kept.drew) | exact HK.out)) hb); have n2_ := Aside0.mk (below_step (bl HB.out) hb); clear HO_0; clear HK; clear HB; have HO_0 := n0_; have HK := n1_; have HB := n2_; clear n0_ n1_ n2_; (try clear hb); (try clear hb2); (try clear hk); (try clear hi); have p6 : 0 ≤ (x5_1 : Int) := of_decide_eq_true (by first | (with_reducible assumption) | assumption); have q6 : (x5_1 : Int) < ((x0_1.length : Int) : Int) := of_decide_eq_true (by first | (with_reducible assumption) | assumption); obtain ⟨go6, co6, eo6, gb6, gl6, cl6, HG6⟩ := Kd.R_form HO_0.out (by omega); (first | cases eo6 | (injection eo6 with ea_ en_ ec_; (first | subst ea_ | (injection ea_ with ea_; subst ea_)); subst ec_; clear en_)); have GB6 := Aside0.mk gb6; have GG6 := Aside0.mk HG6; clear gb6 gl6 HG6; have HMgo6 := Aside0.mk (show (P0_ go6 ∨ w.heap.size ≤ go6) from (HO_0.out.1 _ rfl)); obtain ⟨ce6, hcl6, hM6, hcc6, hfr6⟩ := Kd.R_elem HO_0.out z71 (x5_1 : Int) p6 q6; obtain rfl := k71_openM hM6; have hx6_0 : w14.cell? ⟨go6, (x5_1 : Int).toNat * 7, none⟩ = some (.string ((rd_T71 x0_1 x5_1).f0)) := hcc6 0 _ rfl; have hx6_1 : w14.cell? ⟨go6, (x5_1 : Int).toNat * 7 + 1, none⟩ = some (.int .i64 ((rd_T71 x0_1 x5_1).f1)) := hcc6 1 _ rfl; have hx6_2 : w14.cell? ⟨go6, (x5_1 : Int).toNat * 7 + 2, none⟩ = some (.int .i64 ((rd_T71 x0_1 x5_1).f2)) := hcc6 2 _ rfl; have hx6_3 : w14.cell? ⟨go6, (x5_1 : Int).toNat * 7 + 3, none⟩ = some (.int .i64 ((rd_T71 x0_1 x5_1).f3)) := hcc6 3 _ rfl; have hx6_4 : w14.cell? ⟨go6, (x5_1 : Int).toNat * 7 + 4, none⟩ = some (.int .i64 ((rd_T71 x0_1 x5_1).f4.f0)) := hcc6 4 _ rfl; have hx6_5 : w14.cell? ⟨go6, (x5_1 : Int).toNat * 7 + 5, none⟩ = some (.int .i64 ((rd_T71 x0_1 x5_1).f4.f1)) := hcc6 5 _ rfl; have hx6_6 : w14.cell? ⟨go6, (x5_1 : Int).toNat * 7 + 6, none⟩ = some (.int .i64 ((rd_T71 x0_1 x5_1).f4.f2)) := hcc6 6 _ rfl; have hf6_0 : w14.frozen? ⟨go6, (x5_1 : Int).toNat * 7, none⟩ = false := hfr6 0; have hf6_1 : w14.frozen? ⟨go6, (x5_1 : Int).toNat * 7 + 1, none⟩ = false := hfr6 1; have hf6_2 : w14.frozen? ⟨go6, (x5_1 : Int).toNat * 7 + 2, none⟩ = false := hfr6 2; have hf6_3 : w14.frozen? ⟨go6, (x5_1 : Int).toNat * 7 + 3, none⟩ = false := hfr6 3; have hf6_4 : w14.frozen? ⟨go6, (x5_1 : Int).toNat * 7 + 4, none⟩ = false := hfr6 4; have hf6_5 : w14.frozen? ⟨go6, (x5_1 : Int).toNat * 7 + 5, none⟩ = false := hfr6 5; have hf6_6 : w14.frozen? ⟨go6, (x5_1 : Int).toNat * 7 + 6, none⟩ = false := hfr6 6; clear hcl6 hcc6 hfr6; (try clear hM6); replace p6 := eq_true p6; replace q6 := eq_true q6; have HX15 := Aside0.mk (show Kd.R k71 71 w14 w0.heap.size (fun k_ => (P0_ k_ ∨ w.heap.size ≤ k_)) (.slice (some ⟨go6, 0, none⟩) x0_1.length co13) x0_1 from (rl HO_0.out)); obtain ⟨ce15, hcl15, hM15, hcc15, hfr15⟩ := Kd.R_elem HX15.out z71 (x5_1 : Int) (of_decide_eq_true (by first | (with_reducible assumption) | assumption)) (by have h_ : (x5_1 : Int) < ((x0_1.length : Int) : Int) := of_decide_eq_true (by first | (with_reducible assumption) | assumption); first | exact h_ | (have e_ := (Kd.R_reads' HO_0.out).1; omega) | simpa using h_); obtain rfl := k71_openM hM15; have HP15 := Kd.R_seg HX15.out (x5_1 : Int) (of_decide_eq_true (by first | (with_reducible assumption) | assumption)) (by have h_ : (x5_1 : Int) < ((x0_1.length : Int) : Int) := of_decide_eq_true (by first | (with_reducible assumption) | assumption); first | exact h_ | (have e_ := (Kd.R_reads' HO_0.out).1; omega) | simpa using h_) (seg := [.string t162]) (j := 0) hcl15 hcc15 (show 1 ≤ 7 from by decide) (x' := (⟨t162, (rd_T71 x0_1 x5_1).f1, (rd_T71 x0_1 x5_1).f2, (rd_T71 x0_1 x5_1).f3, (⟨(rd_T71 x0_1 x5_1).f4.f0, (rd_T71 x0_1 x5_1).f4.f1, (rd_T71 x0_1 x5_1).f4.f2⟩ : S31)⟩ : S71)) (k71_mkM _ _ _ (⟨t162, (rd_T71 x0_1 x5_1).f1, (rd_T71 x0_1 x5_1).f2, (rd_T71 x0_1 x5_1).f3, (⟨(rd_T71 x0_1 x5_1).f4.f0, (rd_T71 x0_1 x5_1).f4.f1, (rd_T71 x0_1 x5_1).f4.f2⟩ : S31)⟩ : S71) ) (fun _ hk => hk); have hx15_0 := hcc15 0 _ rfl; (try simp only [show (k71).sz = 7 from rfl, Nat.mul_one, Nat.add_zero] at hx15_0); have hf15_0 := hfr15 0; (try simp only [show (k71).sz = 7 from rfl, Nat.mul_one, Nat.add_zero] at hf15_0); clear hcl15 hcc15 hfr15; (try clear hM15)) | ((with_reducible refine gate_store (t := 9) (p := 17) rfl ?_); refine store_event (t := 9) (p := 17) (v := ?vo_w16) (w1 := (w14.setCell ⟨go6, (x5_1 : Int).toNat * 7, none⟩ (.string t162))) ?hg ?ho ?hn ?hr ?_; (case ho => rfl); (case hg => rfl); (case hn => rfl); (case hr => first | (go_simp; done) | (go_simp; rfl)); intro w16 hw; have hg : w14.grownBy w16 (some go6) := (by rw [hw]; exact HP15.2); have hp_ : Kd.R k71 71 w16 w0.heap.size (fun k_ => (P0_ k_ ∨ w.heap.size ≤ k_)) (.slice (some ⟨go6, 0, none⟩) x0_1.length co13) y163 := (by rw [hw, Ny163.out]; exact HP15.1); clear HP15; have n0_ := Aside0.mk (hp_); have n1_ := Aside0.mk ((by rw [hw]; exact below_set (HB.out) GB6.out : Below w0.heap.size w0 w16)); have n2_ := Aside0.mk (Kept.of_grown (S := (fun k_ => P0_ k_)) hg (by repeat (first | (with_reducible first | exact HK.out | apply Kept.alloc | apply Kept.drewN | apply Kept.drew) | exact HK.out)) (fun k_ e_ => (HO_0.out.1 k_ e_))); clear HO_0; clear HB; clear HK; have HO_0 := n0_; have HB := n1_; have HK := n2_; clear n0_ n1_ n2_; clear hg hw hp_; have p7 : 0 ≤ (x5_1 : Int) := of_decide_eq_true (by first | (with_reducible assumption) | assumption); have q7 : (x5_1 : Int) < ((x0_1.length : Int) : Int) := of_decide_eq_true (by first | (with_reducible assumption) | assumption); obtain ⟨ce7, hcl7, hM7, hcc7, hfr7⟩ := Kd.R_elem HO_0.out z71 (x5_1 : Int) p7 q7; obtain rfl := k71_openM hM7; have hx7_0 : w16.cell? ⟨go6, (x5_1 : Int).toNat * 7, none⟩ = some (.string ((rd_T71 y163 x5_1).f0)) := hcc7 0 _ rfl; have hx7_1 : w16.cell? ⟨go6, (x5_1 : Int).toNat * 7 + 1, none⟩ = some (.int .i64 ((rd_T71 y163 x5_1).f1)) := hcc7 1 _ rfl; have hx7_2 : w16.cell? ⟨go6, (x5_1 : Int).toNat * 7 + 2, none⟩ = some (.int .i64 ((rd_T71 y163 x5_1).f2)) := hcc7 2 _ rfl; have hx7_3 : w16.cell? ⟨go6, (x5_1 : Int).toNat * 7 + 3, none⟩ = some (.int .i64 ((rd_T71 y163 x5_1).f3)) := hcc7 3 _ rfl; have hx7_4 : w16.cell? ⟨go6, (x5_1 : Int).toNat * 7 + 4, none⟩ = some (.int .i64 ((rd_T71 y163 x5_1).f4.f0)) := hcc7 4 _ rfl; have hx7_5 : w16.cell? ⟨go6, (x5_1 : Int).toNat * 7 + 5, none⟩ = some (.int .i64 ((rd_T71 y163 x5_1).f4.f1)) := hcc7 5 _ rfl; have hx7_6 : w16.cell? ⟨go6, (x5_1 : Int).toNat * 7 + 6, none⟩ = some (.int .i64 ((rd_T71 y163 x5_1).f4.f2)) := hcc7 6 _ rfl; have hf7_0 : w16.frozen? ⟨go6, (x5_1 : Int).toNat * 7, none⟩ = false := hfr7 0; have hf7_1 : w16.frozen? ⟨go6, (x5_1 : Int).toNat * 7 + 1, none⟩ = false := hfr7 1; have hf7_2 : w16.frozen? ⟨go6, (x5_1 : Int).toNat * 7 + 2, none⟩ = false := hfr7 2; have hf7_3 : w16.frozen? ⟨go6, (x5_1 : Int).toNat * 7 + 3, none⟩ = false := hfr7 3; have hf7_4 : w16.frozen? ⟨go6, (x5_1 : Int).toNat * 7 + 4, none⟩ = false := hfr7 4; have hf7_5 : w16.frozen? ⟨go6, (x5_1 : Int).toNat * 7 + 5, none⟩ = false := hfr7 5; have hf7_6 : w16.frozen? ⟨go6, (x5_1 : Int).toNat * 7 + 6, none⟩ = false := hfr7 6; clear hcl7 hcc7 hfr7; (try clear hM7); replace p7 := eq_true p7; replace q7 := eq_true q7; have HX17 := Aside0.mk (show Kd.R k71 71 w16 w0.heap.size (fun k_ => (P0_ k_ ∨ w.heap.size ≤ k_)) (.slice (some ⟨go6, 0, none⟩) x0_1.length co13) y163 from (rl HO_0.out)); obtain ⟨ce17, hcl17, hM17, hcc17, hfr17⟩ := Kd.R_elem HX17.out z71 (x5_1 : Int) (of_decide_eq_true (by first | (with_reducible assumption) | assumption)) (by have h_ : (x5_1 : Int) < ((x0_1.length : Int) : Int) := of_decide_eq_true (by first | (with_reducible assumption) | assumption); first | exact h_ | (have e_ := (Kd.R_reads' HO_0.out).1; omega) | simpa using h_); obtain rfl := k71_openM hM17; have HP17 := Kd.R_seg HX17.out (x5_1 : Int) (of_decide_eq_true (by first | (with_reducible assumption) | assumption)) (by have h_ : (x5_1 : Int) < ((x0_1.length : Int) : Int) := of_decide_eq_true (by first | (with_reducible assumption) | assumption); first | exact h_ | (have e_ := (Kd.R_reads' HO_0.out).1; omega) | simpa using h_) (seg := [.int .i64 (wrap64 (x1_1 + 1))]) (j := 1) hcl17 hcc17 (show 2 ≤ 7 from by decide) (x' := (⟨(rd_T71 y163 x5_1).f0, wrap64 (x1_1 + 1), (rd_T71 y163 x5_1).f2, (rd_T71 y163 x5_1).f3, (⟨(rd_T71 y163 x5_1).f4.f0, (rd_T71 y163 x5_1).f4.f1, (rd_T71 y163 x5_1).f4.f2⟩ : S31)⟩ : S71)) (k71_mkM _ _ _ (⟨(rd_T71 y163 x5_1).f0, wrap64 (x1_1 + 1), (rd_T71 y163 x5_1).f2, (rd_T71 y163 x5_1).f3, (⟨(rd_T71 y163 x5_1).f4.f0, (rd_T71 y163 x5_1).f4.f1, (rd_T71 y163 x5_1).f4.f2⟩ : S31)⟩ : S71) ) (fun _ hk => hk); have hx17_1 := hcc17 1 _ rfl; (try simp only [show (k71).sz = 7 from rfl, Nat.mul_one, Nat.add_zero] at hx17_1); have hf17_1 := hfr17 1; (try simp only [show (k71).sz = 7 from rfl, Nat.mul_one, Nat.add_zero] at hf17_1); clear hcl17 hcc17 hfr17; (try clear hM17)) | ((with_reducible refine gate_store (t := 3) (p := 24) rfl ?_); refine store_event (t := 3) (p := 24) (v := ?vo_w18) (w1 := (w16.setCell ⟨go6, (x5_1 : Int).toNat * 7 + 1, none⟩ (.int .i64 (wrap64 (x1_1 + 1))))) ?hg ?ho ?hn ?hr ?_; (case ho => rfl); (case hg => rfl); (case hn => rfl); (case hr => first | (go_simp; done) | (go_simp; rfl)); intro w18 hw; have hg : w16.grownBy w18 (some go6) := (by rw [hw]; exact HP17.2); have hp_ : Kd.R k71 71 w18 w0.heap.size (fun k_ => (P0_ k_ ∨ w.heap.size ≤ k_)) (.slice (some ⟨go6, 0, none⟩) x0_1.length co13) y164 := (by rw [hw, Ny164.out]; exact HP17.1); clear HP17; have n0_ := Aside0.mk (hp_); have n1_ := Aside0.mk ((by rw [hw]; exact below_set (HB.out) GB6.out : Below w0.heap.size w0 w18)); have n2_ := Aside0.mk (Kept.of_grown (S := (fun k_ => P0_ k_)) hg (by repeat (first | (with_reducible first | exact HK.out | apply Kept.alloc | apply Kept.drewN | apply Kept.drew) | exact HK.out)) (fun k_ e_ => (HO_0.out.1 k_ e_))); clear HO_0; clear HB; clear HK; have HO_0 := n0_; have HB := n1_; have HK := n2_; clear n0_ n1_ n2_; clear hg hw hp_; have p8 : 0 ≤ (x5_1 : Int) := of_decide_eq_true (by first | (with_reducible assumption) | assumption); have q8 : (x5_1 : Int) < ((x0_1.length : Int) : Int) := of_decide_eq_true (by first | (with_reducible assumption) | assumption); obtain ⟨ce8, hcl8, hM8, hcc8, hfr8⟩ := Kd.R_elem HO_0.out z71 (x5_1 : Int) p8 q8; obtain rfl := k71_openM hM8; have hx8_0 : w18.cell? ⟨go6, (x5_1 : Int).toNat * 7, none⟩ = some (.string ((rd_T71 y164 x5_1).f0)) := hcc8 0 _ rfl; have hx8_1 : w18.cell? ⟨go6, (x5_1 : Int).toNat * 7 + 1, none⟩ = some (.int .i64 ((rd_T71 y164 x5_1).f1)) := hcc8 1 _ rfl; have hx8_2 : w18.cell? ⟨go6, (x5_1 : Int).toNat * 7 + 2, none⟩ = some (.int .i64 ((rd_T71 y164 x5_1).f2)) := hcc8 2 _ rfl; have hx8_3 : w18.cell? ⟨go6, (x5_1 : Int).toNat * 7 + 3, none⟩ = some (.int .i64 ((rd_T71 y164 x5_1).f3)) := hcc8 3 _ rfl; have hx8_4 : w18.cell? ⟨go6, (x5_1 : Int).toNat * 7 + 4, none⟩ = some (.int .i64 ((rd_T71 y164 x5_1).f4.f0)) := hcc8 4 _ rfl; have hx8_5 : w18.cell? ⟨go6, (x5_1 : Int).toNat * 7 + 5, none⟩ = some (.int .i64 ((rd_T71 y164 x5_1).f4.f1)) := hcc8 5 _ rfl; have hx8_6 : w18.cell? ⟨go6, (x5_1 : Int).toNat * 7 + 6, none⟩ = some (.int .i64 ((rd_T71 y164 x5_1).f4.f2)) := hcc8 6 _ rfl; have hf8_0 : w18.frozen? ⟨go6, (x5_1 : Int).toNat * 7, none⟩ = false := hfr8 0; have hf8_1 : w18.frozen? ⟨go6, (x5_1 : Int).toNat * 7 + 1, none⟩ = false := hfr8 1; have hf8_2 : w18.frozen? ⟨go6, (x5_1 : Int).toNat * 7 + 2, none⟩ = false := hfr8 2; have hf8_3 : w18.frozen? ⟨go6, (x5_1 : Int).toNat * 7 + 3, none⟩ = false := hfr8 3; have hf8_4 : w18.frozen? ⟨go6, (x5_1 : Int).toNat * 7 + 4, none⟩ = false := hfr8 4; have hf8_5 : w18.frozen? ⟨go6, (x5_1 : Int).toNat * 7 + 5, none⟩ = false := hfr8 5; have hf8_6 : w18.frozen? ⟨go6, (x5_1 : Int).toNat * 7 + 6, none⟩ = false := hfr8 6; clear hcl8 hcc8 hfr8; (try clear hM8); replace p8 := eq_true p8; replace q8 := eq_true q8; have HX19 := Aside0.mk (show Kd.R k71 71 w18 w0.heap.size (fun k_ => (P0_ k_ ∨ w.heap.size ≤ k_)) (.slice (some ⟨go6, 0, none⟩) x0_1.length co13) y164 from (rl HO_0.out)); obtain ⟨ce19, hcl19, hM19, hcc19, hfr19⟩ := Kd.R_elem HX19.out z71 (x5_1 : Int) (of_decide_eq_true (by first | (with_reducible assumption) | assumption)) (by have h_ : (x5_1 : Int) < ((x0_1.length : Int) : Int) := of_decide_eq_true (by first | (with_reducible assumption) | assumption); first | exact h_ | (have e_ := (Kd.R_reads' HO_0.out).1; omega) | simpa using h_); obtain rfl := k71_openM hM19; have HP19 := Kd.R_seg HX19.out (x5_1 : Int) (of_decide_eq_true (by first | (with_reducible assumption) | assumption)) (by have h_ : (x5_1 : Int) < ((x0_1.length : Int) : Int) := of_decide_eq_true (by first | (with_reducible assumption) | assumption); first | exact h_ | (have e_ := (Kd.R_reads' HO_0.out).1; omega) | simpa using h_) (seg := [.int .i64 (wrap64 ((wrap64 (x1_1 + 1)) + 1))]) (j := 2) hcl19 hcc19 (show 3 ≤ 7 from by decide) (x' := (⟨(rd_T71 y164 x5_1).f0, (rd_T71 y164 x5_1).f1, wrap64 ((wrap64 (x1_1 + 1)) + 1), (rd_T71 y164 x5_1).f3, (⟨(rd_T71 y164 x5_1).f4.f0, (rd_T71 y164 x5_1).f4.f1, (rd_T71 y164 x5_1).f4.f2⟩ : S31)⟩ : S71)) (k71_mkM _ _ _ (⟨(rd_T71 y164 x5_1).f0, (rd_T71 y164 x5_1).f1, wrap64 ((wrap64 (x1_1 + 1)) + 1), (rd_T71 y164 x5_1).f3, (⟨(rd_T71 y164 x5_1).f4.f0, (rd_T71 y164 x5_1).f4.f1, (rd_T71 y164 x5_1).f4.f2⟩ : S31)⟩ : S71) ) (fun _ hk => hk); have hx19_2 := hcc19 2 _ rfl; (try simp only [show (k71).sz = 7 from rfl, Nat.mul_one, Nat.add_zero] at hx19_2); have hf19_2 := hfr19 2; (try simp only [show (k71).sz = 7 from rfl, Nat.mul_one, Nat.add_zero] at hf19_2); clear hcl19 hcc19 hfr19; (try clear hM19)) | ((with_reducible refine gate_store (t := 3) (p := 31) rfl ?_); refine store_event (t := 3) (p := 31) (v := ?vo_w20) (w1 := (w18.setCell ⟨go6, (x5_1 : Int).toNat * 7 + 2, none⟩ (.int .i64 (wrap64 ((wrap64 (x1_1 + 1)) + 1))))) ?hg ?ho ?hn ?hr ?_; (case ho => rfl); (case hg => rfl); (case hn => rfl); (case hr => first | (go_simp; done) | (go_simp; rfl)); intro w20 hw; have hg : w18.grownBy w20 (some go6) := (by rw [hw]; exact HP19.2); have hp_ : Kd.R k71 71 w20 w0.heap.size (fun k_ => (P0_ k_ ∨ w.heap.size ≤ k_)) (.slice (some ⟨go6, 0, none⟩) x0_1.length co13) y165 := (by rw [hw, Ny165.out]; exact HP19.1); clear HP19; have n0_ := Aside0.mk (hp_); have n1_ := Aside0.mk ((by rw [hw]; exact below_set (HB.out) GB6.out : Below w0.heap.size w0 w20)); have n2_ := Aside0.mk (Kept.of_grown (S := (fun k_ => P0_ k_)) hg (by repeat (first | (with_reducible first | exact HK.out | apply Kept.alloc | apply Kept.drewN | apply Kept.drew) | exact HK.out)) (fun k_ e_ => (HO_0.out.1 k_ e_))); clear HO_0; clear HB; clear HK; have HO_0 := n0_; have HB := n1_; have HK := n2_; clear n0_ n1_ n2_; clear hg hw hp_; have p9 : 0 ≤ (x5_1 : Int) := of_decide_eq_true (by first | (with_reducible assumption) | assumption); have q9 : (x5_1 : Int) < ((x0_1.length : Int) : Int) := of_decide_eq_true (by first | (with_reducible assumption) | assumption); obtain ⟨ce9, hcl9, hM9, hcc9, hfr9⟩ := Kd.R_elem HO_0.out z71 (x5_1 : Int) p9 q9; obtain rfl := k71_openM hM9; have hx9_0 : w20.cell? ⟨go6, (x5_1 : Int).toNat * 7, none⟩ = some (.string ((rd_T71 y165 x5_1).f0)) := hcc9 0 _ rfl; have hx9_1 : w20.cell? ⟨go6, (x5_1 : Int).toNat * 7 + 1, none⟩ = some (.int .i64 ((rd_T71 y165 x5_1).f1)) := hcc9 1 _ rfl; have hx9_2 : w20.cell? ⟨go6, (x5_1 : Int).toNat * 7 + 2, none⟩ = some (.int .i64 ((rd_T71 y165 x5_1).f2)) := hcc9 2 _ rfl; have hx9_3 : w20.cell? ⟨go6, (x5_1 : Int).toNat * 7 + 3, none⟩ = some (.int .i64 ((rd_T71 y165 x5_1).f3)) := hcc9 3 _ rfl; have hx9_4 : w20.cell? ⟨go6, (x5_1 : Int).toNat * 7 + 4, none⟩ = some (.int .i64 ((rd_T71 y165 x5_1).f4.f0)) := hcc9 4 _ rfl; have hx9_5 : w20.cell? ⟨go6, (x5_1 : Int).toNat * 7 + 5, none⟩ = some (.int .i64 ((rd_T71 y165 x5_1).f4.f1)) := hcc9 5 _ rfl; have hx9_6 : w20.cell? ⟨go6, (x5_1 : Int).toNat * 7 + 6, none⟩ = some (.int .i64 ((rd_T71 y165 x5_1).f4.f2)) := hcc9 6 _ rfl; have hf9_0 : w20.frozen? ⟨go6, (x5_1 : Int).toNat * 7, none⟩ = false := hfr9 0; have hf9_1 : w20.frozen? ⟨go6, (x5_1 : Int).toNat * 7 + 1, none⟩ = false := hfr9 1; have hf9_2 : w20.frozen? ⟨go6, (x5_1 : Int).toNat * 7 + 2, none⟩ = false := hfr9 2; have hf9_3 : w20.frozen? ⟨go6, (x5_1 : Int).toNat * 7 + 3, none⟩ = false := hfr9 3; have hf9_4 : w20.frozen? ⟨go6, (x5_1 : Int).toNat * 7 + 4, none⟩ = false := hfr9 4; have hf9_5 : w20.frozen? ⟨go6, (x5_1 : Int).toNat * 7 + 5, none⟩ = false := hfr9 5; have hf9_6 : w20.frozen? ⟨go6, (x5_1 : Int).toNat * 7 + 6, none⟩ = false := hfr9 6; clear hcl9 hcc9 hfr9; (try clear hM9); replace p9 := eq_true p9; replace q9 := eq_true q9; have HX21 := Aside0.mk (show Kd.R k71 71 w20 w0.heap.size (fun k_ => (P0_ k_ ∨ w.heap.size ≤ k_)) (.slice (some ⟨go6, 0, none⟩) x0_1.length co13) y165 from (rl HO_0.out)); obtain ⟨ce21, hcl21, hM21, hcc21, hfr21⟩ := Kd.R_elem HX21.out z71 (x5_1 : Int) (of_decide_eq_true (by first | (with_reducible assumption) | assumption)) (by have h_ : (x5_1 : Int) < ((x0_1.length : Int) : Int) := of_decide_eq_true (by first | (with_reducible assumption) | assumption); first | exact h_ | (have e_ := (Kd.R_reads' HO_0.out).1; omega) | simpa using h_); obtain rfl := k71_openM hM21; have HP21 := Kd.R_seg HX21.out (x5_1 : Int) (of_decide_eq_true (by first | (with_reducible assumption) | assumption)) (by have h_ : (x5_1 : Int) < ((x0_1.length : Int) : Int) := of_decide_eq_true (by first | (with_reducible assumption) | assumption); first | exact h_ | (have e_ := (Kd.R_reads' HO_0.out).1; omega) | simpa using h_) (seg := [.int .i64 (wrap64 ((wrap64 ((wrap64 (x1_1 + 1)) + 1)) + 1))]) (j := 3) hcl21 hcc21 (show 4 ≤ 7 from by decide) (x' := (⟨(rd_T71 y165 x5_1).f0, (rd_T71 y165 x5_1).f1, (rd_T71 y165 x5_1).f2, wrap64 ((wrap64 ((wrap64 (x1_1 + 1)) + 1)) + 1), (⟨(rd_T71 y165 x5_1).f4.f0, (rd_T71 y165 x5_1).f4.f1, (rd_T71 y165 x5_1).f4.f2⟩ : S31)⟩ : S71)) (k71_mkM _ _ _ (⟨(rd_T71 y165 x5_1).f0, (rd_T71 y165 x5_1).f1, (rd_T71 y165 x5_1).f2, wrap64 ((wrap64 ((wrap64 (x1_1 + 1)) + 1)) + 1), (⟨(rd_T71 y165 x5_1).f4.f0, (rd_T71 y165 x5_1).f4.f1, (rd_T71 y165 x5_1).f4.f2⟩ : S31)⟩ : S71) ) (fun _ hk => hk); have hx21_3 := hcc21 3 _ rfl; (try simp only [show (k71).sz = 7 from rfl, Nat.mul_one, Nat.add_zero] at hx21_3); have hf21_3 := hfr21 3; (try simp only [show (k71).sz = 7 from rfl, Nat.mul_one, Nat.add_zero] at hf21_3); clear hcl21 hcc21 hfr21; (try clear hM21)) | ((with_reducible refine gate_store (t := 3) (p := 38) rfl ?_); refine store_event (t := 3) (p := 38) (v := ?vo_w22) (w1 := (w20.setCell ⟨go6, (x5_1 : Int).toNat * 7 + 3, none⟩ (.int .i64 (wrap64 ((wrap64 ((wrap64 (x1_1 + 1)) + 1)) + 1))))) ?hg ?ho ?hn ?hr ?_; (case ho => rfl); (case hg => rfl); (case hn => rfl); (case hr => first | (go_simp; done) | (go_simp; rfl)); intro w22 hw; have hg : w20.grownBy w22 (some go6) := (by rw [hw]; exact HP21.2); have hp_ : Kd.R k71 71 w22 w0.heap.size (fun k_ => (P0_ k_ ∨ w.heap.size ≤ k_)) (.slice (some ⟨go6, 0, none⟩) x0_1.length co13) y166 := (by rw [hw, Ny166.out]; exact HP21.1); clear HP21; have n0_ := Aside0.mk (hp_); have n1_ := Aside0.mk ((by rw [hw]; exact below_set (HB.out) GB6.out : Below w0.heap.size w0 w22)); have n2_ := Aside0.mk (Kept.of_grown (S := (fun k_ => P0_ k_)) hg (by repeat (first | (with_reducible first | exact HK.out | apply Kept.alloc | apply Kept.drewN | apply Kept.drew) | exact HK.out)) (fun k_ e_ => (HO_0.out.1 k_ e_))); clear HO_0; clear HB; clear HK; have HO_0 := n0_; have HB := n1_; have HK := n2_; clear n0_ n1_ n2_; clear hg hw hp_; have p10 : 0 ≤ (x5_1 : Int) := of_decide_eq_true (by first | (with_reducible assumption) | assumption); have q10 : (x5_1 : Int) < ((x0_1.length : Int) : Int) := of_decide_eq_true (by first | (with_reducible assumption) | assumption); obtain ⟨ce10, hcl10, hM10, hcc10, hfr10⟩ := Kd.R_elem HO_0.out z71 (x5_1 : Int) p10 q10; obtain rfl := k71_openM hM10; have hx10_0 : w22.cell? ⟨go6, (x5_1 : Int).toNat * 7, none⟩ = some (.string ((rd_T71 y166 x5_1).f0)) := hcc10 0 _ rfl; have hx10_1 : w22.cell? ⟨go6, (x5_1 : Int).toNat * 7 + 1, none⟩ = some (.int .i64 ((rd_T71 y166 x5_1).f1)) := hcc10 1 _ rfl; have hx10_2 : w22.cell? ⟨go6, (x5_1 : Int).toNat * 7 + 2, none⟩ = some (.int .i64 ((rd_T71 y166 x5_1).f2)) := hcc10 2 _ rfl; have hx10_3 : w22.cell? ⟨go6, (x5_1 : Int).toNat * 7 + 3, none⟩ = some (.int .i64 ((rd_T71 y166 x5_1).f3)) := hcc10 3 _ rfl; have hx10_4 : w22.cell? ⟨go6, (x5_1 : Int).toNat * 7 + 4, none⟩ = some (.int .i64 ((rd_T71 y166 x5_1).f4.f0)) := hcc10 4 _ rfl; have hx10_5 : w22.cell? ⟨go6, (x5_1 : Int).toNat * 7 + 5, none⟩ = some (.int .i64 ((rd_T71 y166 x5_1).f4.f1)) := hcc10 5 _ rfl; have hx10_6 : w22.cell? ⟨go6, (x5_1 : Int).toNat * 7 + 6, none⟩ = some (.int .i64 ((rd_T71 y166 x5_1).f4.f2)) := hcc10 6 _ rfl; have hf10_0 : w22.frozen? ⟨go6, (x5_1 : Int).toNat * 7, none⟩ = false := hfr10 0; have hf10_1 : w22.frozen? ⟨go6, (x5_1 : Int).toNat * 7 + 1, none⟩ = false := hfr10 1; have hf10_2 : w22.frozen? ⟨go6, (x5_1 : Int).toNat * 7 + 2, none⟩ = false := hfr10 2; have hf10_3 : w22.frozen? ⟨go6, (x5_1 : Int).toNat * 7 + 3, none⟩ = false := hfr10 3; have hf10_4 : w22.frozen? ⟨go6, (x5_1 : Int).toNat * 7 + 4, none⟩ = false := hfr10 4; have hf10_5 : w22.frozen? ⟨go6, (x5_1 : Int).toNat * 7 + 5, none⟩ = false := hfr10 5; have hf10_6 : w22.frozen? ⟨go6, (x5_1 : Int).toNat * 7 + 6, none⟩ = false := hfr10 6; clear hcl10 hcc10 hfr10; (try clear hM10); replace p10 := eq_true p10; replace q10 := eq_true q10; have HX23 := Aside0.mk (show Kd.R k71 71 w22 w0.heap.size (fun k_ => (P0_ k_ ∨ w.heap.size ≤ k_)) (.slice (some ⟨go6, 0, none⟩) x0_1.length co13) y166 from (rl HO_0.out)); obtain ⟨ce23, hcl23, hM23, hcc23, hfr23⟩ := Kd.R_elem HX23.out z71 (x5_1 : Int) (of_decide_eq_true (by first | (with_reducible assumption) | assumption)) (by have h_ : (x5_1 : Int) < ((x0_1.length : Int) : Int) := of_decide_eq_true (by first | (with_reducible assumption) | assumption); first | exact h_ | (have e_ := (Kd.R_reads' HO_0.out).1; omega) | simpa using h_); obtain rfl := k71_openM hM23; have HP23 := Kd.R_seg HX23.out (x5_1 : Int) (of_decide_eq_true (by first | (with_reducible assumption) | assumption)) (by have h_ : (x5_1 : Int) < ((x0_1.length : Int) : Int) := of_decide_eq_true (by first | (with_reducible assumption) | assumption); first | exact h_ | (have e_ := (Kd.R_reads' HO_0.out).1; omega) | simpa using h_) (seg := [.int .i64 (wrap64 ((wrap64 ((wrap64 ((wrap64 (x1_1 + 1)) + 1)) + 1)) + 1))]) (j := 4) hcl23 hcc23 (show 5 ≤ 7 from by decide) (x' := (⟨(rd_T71 y166 x5_1).f0, (rd_T71 y166 x5_1).f1, (rd_T71 y166 x5_1).f2, (rd_T71 y166 x5_1).f3, (⟨wrap64 ((wrap64 ((wrap64 ((wrap64 (x1_1 + 1)) + 1)) + 1)) + 1), (rd_T71 y166 x5_1).f4.f1, (rd_T71 y166 x5_1).f4.f2⟩ : S31)⟩ : S71)) (k71_mkM _ _ _ (⟨(rd_T71 y166 x5_1).f0, (rd_T71 y166 x5_1).f1, (rd_T71 y166 x5_1).f2, (rd_T71 y166 x5_1).f3, (⟨wrap64 ((wrap64 ((wrap64 ((wrap64 (x1_1 + 1)) + 1)) + 1)) + 1), (rd_T71 y166 x5_1).f4.f1, (rd_T71 y166 x5_1).f4.f2⟩ : S31)⟩ : S71) ) (fun _ hk => hk); have hx23_4 := hcc23 4 _ rfl; (try simp only [show (k71).sz = 7 from rfl, Nat.mul_one, Nat.add_zero] at hx23_4); have hf23_4 := hfr23 4; (try simp only [show (k71).sz = 7 from rfl, Nat.mul_one, Nat.add_zero] at hf23_4); clear hcl23 hcc23 hfr23; (try clear hM23)) | ((with_reducible refine gate_store (t := 3) (p := 46) rfl ?_); refine store_event (t := 3) (p := 46) (v := ?vo_w24) (w1 := (w22.setCell ⟨go6, (x5_1 : Int).toNat * 7 + 4, none⟩ (.int .i64 (wrap64 ((wrap64 ((wrap64 ((wrap64 (x1_1 + 1)) + 1)) + 1)) + 1))))) ?hg ?ho ?hn ?hr ?_; (case ho => rfl); (case hg => rfl); (case hn => rfl); (case hr => first | (go_simp; done) | (go_simp; rfl)); intro w24 hw; have hg : w22.grownBy w24 (some go6) := (by rw [hw]; exact HP23.2); have hp_ : Kd.R k71 71 w24 w0.heap.size (fun k_ => (P0_ k_ ∨ w.heap.size ≤ k_)) (.slice (some ⟨go6, 0, none⟩) x0_1.length co13) y167 := (by rw [hw, Ny167.out]; exact HP23.1); clear HP23; have n0_ := Aside0.mk (hp_); have n1_ := Aside0.mk ((by rw [hw]; exact below_set (HB.out) GB6.out : Below w0.heap.size w0 w24)); have n2_ := Aside0.mk (Kept.of_grown (S := (fun k_ => P0_ k_)) hg (by repeat (first | (with_reducible first | exact HK.out | apply Kept.alloc | apply Kept.drewN | apply Kept.drew) | exact HK.out)) (fun k_ e_ => (HO_0.out.1 k_ e_))); clear HO_0; clear HB; clear HK; have HO_0 := n0_; have HB := n1_; have HK := n2_; clear n0_ n1_ n2_; clear hg hw hp_; have p11 : 0 ≤ (x5_1 : Int) := of_decide_eq_true (by first | (with_reducible assumption) | assumption); have q11 : (x5_1 : Int) < ((x0_1.length : Int) : Int) := of_decide_eq_true (by first | (with_reducible assumption) | assumption); obtain ⟨ce11, hcl11, hM11, hcc11, hfr11⟩ := Kd.R_elem HO_0.out z71 (x5_1 : Int) p11 q11; obtain rfl := k71_openM hM11; have hx11_0 : w24.cell? ⟨go6, (x5_1 : Int).toNat * 7, none⟩ = some (.string ((rd_T71 y167 x5_1).f0)) := hcc11 0 _ rfl; have hx11_1 : w24.cell? ⟨go6, (x5_1 : Int).toNat * 7 + 1, none⟩ = some (.int .i64 ((rd_T71 y167 x5_1).f1)) := hcc11 1 _ rfl; have hx11_2 : w24.cell? ⟨go6, (x5_1 : Int).toNat * 7 + 2, none⟩ = some (.int .i64 ((rd_T71 y167 x5_1).f2)) := hcc11 2 _ rfl; have hx11_3 : w24.cell? ⟨go6, (x5_1 : Int).toNat * 7 + 3, none⟩ = some (.int .i64 ((rd_T71 y167 x5_1).f3)) := hcc11 3 _ rfl; have hx11_4 : w24.cell? ⟨go6, (x5_1 : Int).toNat * 7 + 4, none⟩ = some (.int .i64 ((rd_T71 y167 x5_1).f4.f0)) := hcc11 4 _ rfl; have hx11_5 : w24.cell? ⟨go6, (x5_1 : Int).toNat * 7 + 5, none⟩ = some (.int .i64 ((rd_T71 y167 x5_1).f4.f1)) := hcc11 5 _ rfl; have hx11_6 : w24.cell? ⟨go6, (x5_1 : Int).toNat * 7 + 6, none⟩ = some (.int .i64 ((rd_T71 y167 x5_1).f4.f2)) := hcc11 6 _ rfl; have hf11_0 : w24.frozen? ⟨go6, (x5_1 : Int).toNat * 7, none⟩ = false := hfr11 0; have hf11_1 : w24.frozen? ⟨go6, (x5_1 : Int).toNat * 7 + 1, none⟩ = false := hfr11 1; have hf11_2 : w24.frozen? ⟨go6, (x5_1 : Int).toNat * 7 + 2, none⟩ = false := hfr11 2; have hf11_3 : w24.frozen? ⟨go6, (x5_1 : Int).toNat * 7 + 3, none⟩ = false := hfr11 3; have hf11_4 : w24.frozen? ⟨go6, (x5_1 : Int).toNat * 7 + 4, none⟩ = false := hfr11 4; have hf11_5 : w24.frozen? ⟨go6, (x5_1 : Int).toNat * 7 + 5, none⟩ = false := hfr11 5; have hf11_6 : w24.frozen? ⟨go6, (x5_1 : Int).toNat * 7 + 6, none⟩ = false := hfr11 6; clear hcl11 hcc11 hfr11; (try clear hM11); replace p11 := eq_true p11; replace q11 := eq_true q11; have HX25 := Aside0.mk (show Kd.R k71 71 w24 w0.heap.size (fun k_ => (P0_ k_ ∨ w.heap.size ≤ k_)) (.slice (some ⟨go6, 0, none⟩) x0_1.length co13) y167 from (rl HO_0.out)); obtain ⟨ce25, hcl25, hM25, hcc25, hfr25⟩ := Kd.R_elem HX25.out z71 (x5_1 : Int) (of_decide_eq_true (by first | (with_reducible assumption) | assumption)) (by have h_ : (x5_1 : Int) < ((x0_1.length : Int) : Int) := of_decide_eq_true (by first | (with_reducible assumption) | assumption); first | exact h_ | (have e_ := (Kd.R_reads' HO_0.out).1; omega) | simpa using h_); obtain rfl := k71_openM hM25; have HP25 := Kd.R_seg HX25.out (x5_1 : Int) (of_decide_eq_true (by first | (with_reducible assumption) | assumption)) (by have h_ : (x5_1 : Int) < ((x0_1.length : Int) : Int) := of_decide_eq_true (by first | (with_reducible assumption) | assumption); first | exact h_ | (have e_ := (Kd.R_reads' HO_0.out).1; omega) | simpa using h_) (seg := [.int .i64 (wrap64 ((wrap64 ((wrap64 ((wrap64 ((wrap64 (x1_1 + 1)) + 1)) + 1)) + 1)) + 1))]) (j := 5) hcl25 hcc25 (show 6 ≤ 7 from by decide) (x' := (⟨(rd_T71 y167 x5_1).f0, (rd_T71 y167 x5_1).f1, (rd_T71 y167 x5_1).f2, (rd_T71 y167 x5_1).f3, (⟨(rd_T71 y167 x5_1).f4.f0, wrap64 ((wrap64 ((wrap64 ((wrap64 ((wrap64 (x1_1 + 1)) + 1)) + 1)) + 1)) + 1), (rd_T71 y167 x5_1).f4.f2⟩ : S31)⟩ : S71)) (k71_mkM _ _ _ (⟨(rd_T71 y167 x5_1).f0, (rd_T71 y167 x5_1).f1, (rd_T71 y167 x5_1).f2, (rd_T71 y167 x5_1).f3, (⟨(rd_T71 y167 x5_1).f4.f0, wrap64 ((wrap64 ((wrap64 ((wrap64 ((wrap64 (x1_1 + 1)) + 1)) + 1)) + 1)) + 1), (rd_T71 y167 x5_1).f4.f2⟩ : S31)⟩ : S71) ) (fun _ hk => hk); have hx25_5 := hcc25 5 _ rfl; (try simp only [show (k71).sz = 7 from rfl, Nat.mul_one, Nat.add_zero] at hx25_5); have hf25_5 := hfr25 5; (try simp only [show (k71).sz = 7 from rfl, Nat.mul_one, Nat.add_zero] at hf25_5); clear hcl25 hcc25 hfr25; (try clear hM25)) | ((with_reducible refine gate_store (t := 3) (p := 54) rfl ?_); refine store_event (t := 3) (p := 54) (v := ?vo_w26) (w1 := (w24.setCell ⟨go6, (x5_1 : Int).toNat * 7 + 5, none⟩ (.int .i64 (wrap64 ((wrap64 ((wrap64 ((wrap64 ((wrap64 (x1_1 + 1)) + 1)) + 1)) + 1)) + 1))))) ?hg ?ho ?hn ?hr ?_; (case ho => rfl); (case hg => rfl); (case hn => rfl); (case hr => first | (go_simp; done) | (go_simp; rfl)); intro w26 hw; have hg : w24.grownBy w26 (some go6) := (by rw [hw]; exact HP25.2); have hp_ : Kd.R k71 71 w26 w0.heap.size (fun k_ => (P0_ k_ ∨ w.heap.size ≤ k_)) (.slice (some ⟨go6, 0, none⟩) x0_1.length co13) y168 := (by rw [hw, Ny168.out]; exact HP25.1); clear HP25; have n0_ := Aside0.mk (hp_); have n1_ := Aside0.mk ((by rw [hw]; exact below_set (HB.out) GB6.out : Below w0.heap.size w0 w26)); have n2_ := Aside0.mk (Kept.of_grown (S := (fun k_ => P0_ k_)) hg (by repeat (first | (with_reducible first | exact HK.out | apply Kept.alloc | apply Kept.drewN | apply Kept.drew) | exact HK.out)) (fun k_ e_ => (HO_0.out.1 k_ e_))); clear HO_0; clear HB; clear HK; have HO_0 := n0_; have HB := n1_; have HK := n2_; clear n0_ n1_ n2_; clear hg hw hp_; have p12 : 0 ≤ (x5_1 : Int) := of_decide_eq_true (by first | (with_reducible assumption) | assumption); have q12 : (x5_1 : Int) < ((x0_1.length : Int) : Int) := of_decide_eq_true (by first | (with_reducible assumption) | assumption); obtain ⟨ce12, hcl12, hM12, hcc12, hfr12⟩ := Kd.R_elem HO_0.out z71 (x5_1 : Int) p12 q12; obtain rfl := k71_openM hM12; have hx12_0 : w26.cell? ⟨go6, (x5_1 : Int).toNat * 7, none⟩ = some (.string ((rd_T71 y168 x5_1).f0)) := hcc12 0 _ rfl; have hx12_1 : w26.cell? ⟨go6, (x5_1 : Int).toNat * 7 + 1, none⟩ = some (.int .i64 ((rd_T71 y168 x5_1).f1)) := hcc12 1 _ rfl; have hx12_2 : w26.cell? ⟨go6, (x5_1 : Int).toNat * 7 + 2, none⟩ = some (.int .i64 ((rd_T71 y168 x5_1).f2)) := hcc12 2 _ rfl; have hx12_3 : w26.cell? ⟨go6, (x5_1 : Int).toNat * 7 + 3, none⟩ = some (.int .i64 ((rd_T71 y168 x5_1).f3)) := hcc12 3 _ rfl; have hx12_4 : w26.cell? ⟨go6, (x5_1 : Int).toNat * 7 + 4, none⟩ = some (.int .i64 ((rd_T71 y168 x5_1).f4.f0)) := hcc12 4 _ rfl; have hx12_5 : w26.cell? ⟨go6, (x5_1 : Int).toNat * 7 + 5, none⟩ = some (.int .i64 ((rd_T71 y168 x5_1).f4.f1)) := hcc12 5 _ rfl; have hx12_6 : w26.cell? ⟨go6, (x5_1 : Int).toNat * 7 + 6, none⟩ = some (.int .i64 ((rd_T71 y168 x5_1).f4.f2)) := hcc12 6 _ rfl; have hf12_0 : w26.frozen? ⟨go6, (x5_1 : Int).toNat * 7, none⟩ = false := hfr12 0; have hf12_1 : w26.frozen? ⟨go6, (x5_1 : Int).toNat * 7 + 1, none⟩ = false := hfr12 1; have hf12_2 : w26.frozen? ⟨go6, (x5_1 : Int).toNat * 7 + 2, none⟩ = false := hfr12 2; have hf12_3 : w26.frozen? ⟨go6, (x5_1 : Int).toNat * 7 + 3, none⟩ = false := hfr12 3; have hf12_4 : w26.frozen? ⟨go6, (x5_1 : Int).toNat * 7 + 4, none⟩ = false := hfr12 4; have hf12_5 : w26.frozen? ⟨go6, (x5_1 : Int).toNat * 7 + 5, none⟩ = false := hfr12 5; have hf12_6 : w26.frozen? ⟨go6, (x5_1 : Int).toNat * 7 + 6, none⟩ = false := hfr12 6; clear hcl12 hcc12 hfr12; (try clear hM12); replace p12 := eq_true p12; replace q12 := eq_true q12; have HX27 := Aside0.mk (show Kd.R k71 71 w26 w0.heap.size (fun k_ => (P0_ k_ ∨ w.heap.size ≤ k_)) (.slice (some ⟨go6, 0, none⟩) x0_1.length co13) y168 from (rl HO_0.out)); obtain ⟨ce27, hcl27, hM27, hcc27, hfr27⟩ := Kd.R_elem HX27.out z71 (x5_1 : Int) (of_decide_eq_true (by first | (with_reducible assumption) | assumption)) (by have h_ : (x5_1 : Int) < ((x0_1.length : Int) : Int) := of_decide_eq_true (by first | (with_reducible assumption) | assumption); first | exact h_ | (have e_ := (Kd.R_reads' HO_0.out).1; omega) | simpa using h_); obtain rfl := k71_openM hM27; have HP27 := Kd.R_seg HX27.out (x5_1 : Int) (of_decide_eq_true (by first | (with_reducible assumption) | assumption)) (by have h_ : (x5_1 : Int) < ((x0_1.length : Int) : Int) := of_decide_eq_true (by first | (with_reducible assumption) | assumption); first | exact h_ | (have e_ := (Kd.R_reads' HO_0.out).1; omega) | simpa using h_) (seg := [.int .i64 (wrap64 ((wrap64 ((wrap64 ((wrap64 ((wrap64 ((wrap64 (x1_1 + 1)) + 1)) + 1)) + 1)) + 1)) + 1))]) (j := 6) hcl27 hcc27 (show 7 ≤ 7 from by decide) (x' := (⟨(rd_T71 y168 x5_1).f0, (rd_T71 y168 x5_1).f1, (rd_T71 y168 x5_1).f2, (rd_T71 y168 x5_1).f3, (⟨(rd_T71 y168 x5_1).f4.f0, (rd_T71 y168 x5_1).f4.f1, wrap64 ((wrap64 ((wrap64 ((wrap64 ((wrap64 ((wrap64 (x1_1 + 1)) + 1)) + 1)) + 1)) + 1)) + 1)⟩ : S31)⟩ : S71)) (k71_mkM _ _ _ (⟨(rd_T71 y168 x5_1).f0, (rd_T71 y168 x5_1).f1, (rd_T71 y168 x5_1).f2, (rd_T71 y168 x5_1).f3, (⟨(rd_T71 y168 x5_1).f4.f0, (rd_T71 y168 x5_1).f4.f1, wrap64 ((wrap64 ((wrap64 ((wrap64 ((wrap64 ((wrap64 (x1_1 + 1)) + 1)) + 1)) + 1)) + 1)) + 1)⟩ : S31)⟩ : S71) ) (fun _ hk => hk); have hx27_6 := hcc27 6 _ rfl; (try simp only [show (k71).sz = 7 from rfl, Nat.mul_one, Nat.add_zero] at hx27_6); have hf27_6 := hfr27 6; (try simp only [show (k71).sz = 7 from rfl, Nat.mul_one, Nat.add_zero] at hf27_6); clear hcl27 hcc27 hfr27; (try clear hM27)) | ((with_reducible refine gate_store (t := 3) (p := 62) rfl ?_); refine store_event (t := 3) (p := 62) (v := ?vo_w28) (w1 := (w26.setCell ⟨go6, (x5_1 : Int).toNat * 7 + 6, none⟩ (.int .i64 (wrap64 ((wrap64 ((wrap64 ((wrap64 ((wrap64 ((wrap64 (x1_1 + 1)) + 1)) + 1)) + 1)) + 1)) + 1))))) ?hg ?ho ?hn ?hr ?_; (case ho => rfl); (case hg => rfl); (case hn => rfl); (case hr => first | (go_simp; done) | (go_simp; rfl)); intro w28 hw; have hg : w26.grownBy w28 (some go6) := (by rw [hw]; exact HP27.2); have hp_ : Kd.R k71 71 w28 w0.heap.size (fun k_ => (P0_ k_ ∨ w.heap.size ≤ k_)) (.slice (some ⟨go6, 0, none⟩) x0_1.length co13) y169 := (by rw [hw, Ny169.out]; exact HP27.1); clear HP27; have n0_ := Aside0.mk (hp_); have n1_ := Aside0.mk ((by rw [hw]; exact below_set (HB.out) GB6.out : Below w0.heap.size w0 w28)); have n2_ := Aside0.mk (Kept.of_grown (S := (fun k_ => P0_ k_)) hg (by repeat (first | (with_reducible first | exact HK.out | apply Kept.alloc | apply Kept.drewN | apply Kept.drew) | exact HK.out)) (fun k_ e_ => (HO_0.out.1 k_ e_))); clear HO_0; clear HB; clear HK; have HO_0 := n0_; have HB := n1_; have HK := n2_; clear n0_ n1_ n2_; clear hg hw hp_))
     go_roundg k1
     case measure => have := HK1.out; omega
     case rel => exact ⟨(y169), (wrap64 ((wrap64 ((wrap64 ((wrap64 ((wrap64 ((wrap64 ((wrap64 (x1_1 + 1)) + 1)) + 1)) + 1)) + 1)) + 1)) + 1)), (wrap64 (x5_1 + 1)), (by first | rfl | (simp; done) | (simp [*]; done)), (by first | rfl | (simp; done) | (simp [*]; done)), H', ⟨by have := HK1.out; omega⟩, ⟨rl HO_0.out⟩, ⟨by repeat (first | (with_reducible first | exact HK.out | apply Kept.alloc | apply Kept.drewN | apply Kept.drew) | exact HK.out)⟩, ⟨bl HB.out⟩⟩
    ·
     rw [if_neg c5] at H
     exact absurd H (by simp)
   ·
    rw [if_neg c3] at H
    have c3b0 : decide (x5_1 < (x0_1.length : Int)) = false := decide_eq_false c3
    clear c3
    simp only [Option.some.injEq, Prod.mk.injEq] at H
    obtain ⟨rfl, rfl⟩ := H
    obtain ⟨Ao29, co29, eo29⟩ := Kd.R_slice HO_0.out
    subst eo29
    go_wp2
    go_ret
    exact ⟨by first | rfl | (simp [errW_none, errW_some] <;> rfl) | (simp [*, errW_none, errW_some] <;> rfl), by (repeat apply rl1); exact HO_0.out, bl HB.out, by repeat (first | (with_reducible first | exact HK.out | apply Kept.alloc | apply Kept.drewN | apply Kept.drew) | exact HK.out)⟩

/-! ### laws_markCarryS: function 59 -/
def laws_markCarryS.l0 : Nat → List (S73) → Int → Int → Option (Int × (List (S73)))
 | 0, _, _, _ => none
 | k + 1, x0, x1, x5 => if x5 < (x0.length : Int) then ((laws_markText.f k x1).bind fun t170 => (if 0 ≤ x5 then ((some (x0.set (x5 : Int).toNat (⟨t170, (rd_T73 x0 x5).f1, (rd_T73 x0 x5).f2⟩ : S73) : List (S73))).bind fun y171 => ((some (y171.set (x5 : Int).toNat (⟨(rd_T73 y171 x5).f0, wrap64 (x1 + 1), (rd_T73 y171 x5).f2⟩ : S73) : List (S73))).bind fun y172 => (laws_markCarryS.l0 k (y172.set (x5 : Int).toNat (⟨(rd_T73 y172 x5).f0, (rd_T73 y172 x5).f1, wrap64 ((wrap64 (x1 + 1)) + 1)⟩ : S73)) (wrap64 ((wrap64 ((wrap64 (x1 + 1)) + 1)) + 1)) (wrap64 (x5 + 1))))) else (none))) else (some (x1, x0))
def laws_markCarryS.f (k : Nat) (l0 : List (S73)) (a1 : Int) : Option (Int × (List (S73))) := laws_markCarryS.l0 k l0 a1 0
theorem laws_markCarryS.mono_l : ∀ k, (∀ y0 y1 y2, LeO (laws_markCarryS.l0 k y0 y1 y2) (laws_markCarryS.l0 (k + 1) y0 y1 y2))
 | 0 => fun _ _ _ r h => by simp [laws_markCarryS.l0] at h
 | k + 1 => by
  have ih0 := laws_markCarryS.mono_l k
  ·
   intro y0 y1 y2
   unfold laws_markCarryS.l0
   repeat' first
   | (with_reducible exact ih0 _ _ _)
   | (with_reducible exact laws_markText.mono _ _)
   | (with_reducible exact LeO.refl _)
   | (with_reducible exact LeO.none _)
   | (with_reducible refine LeO.ite ?_ ?_)
   | (with_reducible refine LeO.bind ?_ (fun _ => ?_))
   | exact ih0 _ _ _
   | exact laws_markText.mono _ _
   | exact LeO.none _
   | refine LeO.ite ?_ ?_
   | refine LeO.bind ?_ (fun _ => ?_)
theorem laws_markCarryS.mono : ∀ a0 a1 k, LeO (laws_markCarryS.f k a0 a1) (laws_markCarryS.f (k + 1) a0 a1) := by
 intro a0 a1 k
 have ih0 := laws_markCarryS.mono_l k
 unfold laws_markCarryS.f
 repeat' first
   | (with_reducible exact ih0 _ _ _)
   | (with_reducible exact laws_markText.mono _ _)
   | (with_reducible exact LeO.refl _)
   | (with_reducible exact LeO.none _)
   | (with_reducible refine LeO.ite ?_ ?_)
   | (with_reducible refine LeO.bind ?_ (fun _ => ?_))
   | exact ih0 _ _ _
   | exact laws_markText.mono _ _
   | exact LeO.none _
   | refine LeO.ite ?_ ?_
   | refine LeO.bind ?_ (fun _ => ?_)
set_option maxHeartbeats 8000000 in
set_option maxRecDepth 100000 in
theorem laws_markCarryS.calls (k : Nat) (P0_ : Nat → Prop) (u9000_ : Value) (l0 : List (S73)) (a1 : Int) (r1 : Int) (r2 : List (S73)) (w0 w : World) (hB : Below w0.heap.size w0 w) (ho0 : Kd.R k73 73 w w0.heap.size P0_ u9000_ l0) (h : laws_markCarryS.f k l0 a1 = some (r1, r2)) :
  Calls Try.prog 59 #[u9000_, .int .i64 a1] w fun e w' => e = .returned (.int .i64 r1) ∧ Kd.R k73 73 w' w0.heap.size (fun k_ => (P0_ k_ ∨ w.heap.size ≤ k_)) u9000_ r2 ∧ Below w0.heap.size w0 w' ∧ Kept w w' (fun k_ => P0_ k_) := by
 have HO0 := Aside0.mk (show Kd.R k73 73 w w0.heap.size (fun k_ => (P0_ k_ ∨ w.heap.size ≤ k_)) u9000_ l0 from Kd.R_mono ho0 (fun k_ hk => (.inl hk)))
 have HK := Aside0.mk (Kept.refl w (fun k_ => P0_ k_))
 have HW0 := Aside0.mk hB.size
 have HB := Aside0.mk hB
 clear hB
 have H : (laws_markCarryS.l0 k l0 a1 0) = some (r1, r2) := h
 clear h
 have H' := Aside0.mk H
 clear H
 go_enter Try.func59, Try.ntmps59
 go_wp2
 go_loopg [1, 5] k (fun kq v1 v5 w' => ∃ (x0_1 : List (S73)) (x1_1 : Int) (x5_1 : Int), v1 = .int .i64 x1_1 ∧ v5 = .int .i64 x5_1 ∧ Aside0 (laws_markCarryS.l0 kq x0_1 x1_1 x5_1 = some (r1, r2)) ∧ Aside0 (kq ≤ k) ∧ Aside0 (Kd.R k73 73 w' w0.heap.size (fun k_ => (P0_ k_ ∨ w.heap.size ≤ k_)) u9000_ x0_1) ∧ Aside0 (Kept w w' (fun k_ => P0_ k_)) ∧ Aside0 (Below w0.heap.size w0 w'))
 case atStart => exact ⟨(l0), (a1), (0), (by first | rfl | (simp; done) | (simp [*]; done)), (by first | rfl | (simp; done) | (simp [*]; done)), H', ⟨Nat.le_refl _⟩, ⟨rl HO0.out⟩, ⟨by repeat (first | (with_reducible first | exact HK.out | apply Kept.alloc | apply Kept.drewN | apply Kept.drew) | exact HK.out)⟩, ⟨bl HB.out⟩⟩
 case round =>
  clear H'
  try clear p2
  obtain ⟨x0_1, x1_1, x5_1, rfl, rfl, HA, HK1, HO_0, HK, HB⟩ := hrel
  cases gk with
  | zero => exact absurd HA.out (by simp [laws_markCarryS.l0])
  | succ k1 =>
   have H := HA.out
   clear HA
   simp only [laws_markCarryS.l0] at H
   by_cases c3 : x5_1 < (x0_1.length : Int)
   ·
    rw [if_pos c3] at H
    have c3b0 : decide (x5_1 < (x0_1.length : Int)) = true := decide_eq_true c3
    clear c3
    replace H := Option.bind_eq_some_iff.mp H
    obtain ⟨t170, A40, H⟩ := H
    replace H : (if 0 ≤ x5_1 then ((some (x0_1.set (x5_1 : Int).toNat (⟨t170, (rd_T73 x0_1 x5_1).f1, (rd_T73 x0_1 x5_1).f2⟩ : S73) : List (S73))).bind fun y171 => ((some (y171.set (x5_1 : Int).toNat (⟨(rd_T73 y171 x5_1).f0, wrap64 (x1_1 + 1), (rd_T73 y171 x5_1).f2⟩ : S73) : List (S73))).bind fun y172 => (laws_markCarryS.l0 k1 (y172.set (x5_1 : Int).toNat (⟨(rd_T73 y172 x5_1).f0, (rd_T73 y172 x5_1).f1, wrap64 ((wrap64 (x1_1 + 1)) + 1)⟩ : S73)) (wrap64 ((wrap64 ((wrap64 (x1_1 + 1)) + 1)) + 1)) (wrap64 (x5_1 + 1))))) else (none)) = some (r1, r2) := H
    have A4 := Aside0.mk A40
    clear A40
    by_cases c5 : 0 ≤ x5_1
    ·
     rw [if_pos c5] at H
     have c5b0 : decide (0 ≤ x5_1) = true := decide_eq_true c5
     clear c5
     obtain ⟨y171, hy171⟩ : ∃ y_ : List (S73), y_ = (x0_1.set (x5_1 : Int).toNat (⟨t170, (rd_T73 x0_1 x5_1).f1, (rd_T73 x0_1 x5_1).f2⟩ : S73)) := ⟨_, rfl⟩
     replace H : ((some (y171.set (x5_1 : Int).toNat (⟨(rd_T73 y171 x5_1).f0, wrap64 (x1_1 + 1), (rd_T73 y171 x5_1).f2⟩ : S73) : List (S73))).bind fun y172 => (laws_markCarryS.l0 k1 (y172.set (x5_1 : Int).toNat (⟨(rd_T73 y172 x5_1).f0, (rd_T73 y172 x5_1).f1, wrap64 ((wrap64 (x1_1 + 1)) + 1)⟩ : S73)) (wrap64 ((wrap64 ((wrap64 (x1_1 + 1)) + 1)) + 1)) (wrap64 (x5_1 + 1)))) = some (r1, r2) := by first | (rw [hy171]; with_reducible exact H) | (have H2_ := (Option.bind_some _ _).symm.trans H; rw [hy171]; with_reducible exact H2_) | (have H2_ := (Option.bind_some _ _).symm.trans H; with_reducible exact H2_) | with_reducible exact H | (rw [hy171]; exact H) | exact H
     have Ny171 := Aside0.mk hy171
     clear hy171
     obtain ⟨y172, hy172⟩ : ∃ y_ : List (S73), y_ = (y171.set (x5_1 : Int).toNat (⟨(rd_T73 y171 x5_1).f0, wrap64 (x1_1 + 1), (rd_T73 y171 x5_1).f2⟩ : S73)) := ⟨_, rfl⟩
     replace H : (laws_markCarryS.l0 k1 (y172.set (x5_1 : Int).toNat (⟨(rd_T73 y172 x5_1).f0, (rd_T73 y172 x5_1).f1, wrap64 ((wrap64 (x1_1 + 1)) + 1)⟩ : S73)) (wrap64 ((wrap64 ((wrap64 (x1_1 + 1)) + 1)) + 1)) (wrap64 (x5_1 + 1))) = some (r1, r2) := by first | (rw [hy172]; with_reducible exact H) | (have H2_ := (Option.bind_some _ _).symm.trans H; rw [hy172]; with_reducible exact H2_) | (have H2_ := (Option.bind_some _ _).symm.trans H; with_reducible exact H2_) | with_reducible exact H | (rw [hy172]; exact H) | exact H
     have Ny172 := Aside0.mk hy172
     clear hy172
     obtain ⟨y173, hy173⟩ : ∃ y_ : List (S73), y_ = (y172.set (x5_1 : Int).toNat (⟨(rd_T73 y172 x5_1).f0, (rd_T73 y172 x5_1).f1, wrap64 ((wrap64 (x1_1 + 1)) + 1)⟩ : S73)) := ⟨_, rfl⟩
     replace H : (laws_markCarryS.l0 k1 y173 (wrap64 ((wrap64 ((wrap64 (x1_1 + 1)) + 1)) + 1)) (wrap64 (x5_1 + 1))) = some (r1, r2) := by first | (rw [hy173]; with_reducible exact H) | (have H2_ := (Option.bind_some _ _).symm.trans H; rw [hy173]; with_reducible exact H2_) | (have H2_ := (Option.bind_some _ _).symm.trans H; with_reducible exact H2_) | with_reducible exact H | (rw [hy173]; exact H) | exact H
     have Ny173 := Aside0.mk hy173
     clear hy173
     have H' := Aside0.mk H
     clear H
     obtain ⟨Ao9, co9, eo9⟩ := Kd.R_slice HO_0.out
     subst eo9
     go_wp2_with (first | ((with_reducible refine gate_callee (f := 102) rfl ?_); refine goesL_ (some 15) rfl rfl Try.func102 (by kernel_rfl) rfl #[.int .i64 x1_1] rfl (by (try simp only [am_]); first | done | rfl) ?_; (with_reducible refine (laws_markText.calls k1 x1_1 t170 _ A4.out).mono ?_); rintro e w10 ⟨rfl, hb⟩; refine ⟨_, rfl, ?_⟩; have n0_ := Aside0.mk (Kd.R_below (rl HO_0.out) hb); have n1_ := Aside0.mk (Kept.below (S := (fun k_ => P0_ k_)) (by repeat (first | (with_reducible first | exact HK.out | apply Kept.alloc | apply Kept.drewN | apply Kept.drew) | exact HK.out)) hb); have n2_ := Aside0.mk (below_step (bl HB.out) hb); clear HO_0; clear HK; clear HB; have HO_0 := n0_; have HK := n1_; have HB := n2_; clear n0_ n1_ n2_; (try clear hb); (try clear hb2); (try clear hk); (try clear hi); have p6 : 0 ≤ (x5_1 : Int) := of_decide_eq_true (by first | (with_reducible assumption) | assumption); have q6 : (x5_1 : Int) < ((x0_1.length : Int) : Int) := of_decide_eq_true (by first | (with_reducible assumption) | assumption); obtain ⟨go6, co6, eo6, gb6, gl6, cl6, HG6⟩ := Kd.R_form HO_0.out (by omega); (first | cases eo6 | (injection eo6 with ea_ en_ ec_; (first | subst ea_ | (injection ea_ with ea_; subst ea_)); subst ec_; clear en_)); have GB6 := Aside0.mk gb6; have GG6 := Aside0.mk HG6; clear gb6 gl6 HG6; have HMgo6 := Aside0.mk (show (P0_ go6 ∨ w.heap.size ≤ go6) from (HO_0.out.1 _ rfl)); obtain ⟨ce6, hcl6, hM6, hcc6, hfr6⟩ := Kd.R_elem HO_0.out z73 (x5_1 : Int) p6 q6; obtain rfl := k73_openM hM6; have hx6_0 : w10.cell? ⟨go6, (x5_1 : Int).toNat * 3, none⟩ = some (.string ((rd_T73 x0_1 x5_1).f0)) := hcc6 0 _ rfl; have hx6_1 : w10.cell? ⟨go6, (x5_1 : Int).toNat * 3 + 1, none⟩ = some (.int .i64 ((rd_T73 x0_1 x5_1).f1)) := hcc6 1 _ rfl; have hx6_2 : w10.cell? ⟨go6, (x5_1 : Int).toNat * 3 + 2, none⟩ = some (.int .i64 ((rd_T73 x0_1 x5_1).f2)) := hcc6 2 _ rfl; have hf6_0 : w10.frozen? ⟨go6, (x5_1 : Int).toNat * 3, none⟩ = false := hfr6 0; have hf6_1 : w10.frozen? ⟨go6, (x5_1 : Int).toNat * 3 + 1, none⟩ = false := hfr6 1; have hf6_2 : w10.frozen? ⟨go6, (x5_1 : Int).toNat * 3 + 2, none⟩ = false := hfr6 2; clear hcl6 hcc6 hfr6; (try clear hM6); replace p6 := eq_true p6; replace q6 := eq_true q6; have HX11 := Aside0.mk (show Kd.R k73 73 w10 w0.heap.size (fun k_ => (P0_ k_ ∨ w.heap.size ≤ k_)) (.slice (some ⟨go6, 0, none⟩) x0_1.length co9) x0_1 from (rl HO_0.out)); obtain ⟨ce11, hcl11, hM11, hcc11, hfr11⟩ := Kd.R_elem HX11.out z73 (x5_1 : Int) (of_decide_eq_true (by first | (with_reducible assumption) | assumption)) (by have h_ : (x5_1 : Int) < ((x0_1.length : Int) : Int) := of_decide_eq_true (by first | (with_reducible assumption) | assumption); first | exact h_ | (have e_ := (Kd.R_reads' HO_0.out).1; omega) | simpa using h_); obtain rfl := k73_openM hM11; have HP11 := Kd.R_seg HX11.out (x5_1 : Int) (of_decide_eq_true (by first | (with_reducible assumption) | assumption)) (by have h_ : (x5_1 : Int) < ((x0_1.length : Int) : Int) := of_decide_eq_true (by first | (with_reducible assumption) | assumption); first | exact h_ | (have e_ := (Kd.R_reads' HO_0.out).1; omega) | simpa using h_) (seg := [.string t170]) (j := 0) hcl11 hcc11 (show 1 ≤ 3 from by decide) (x' := (⟨t170, (rd_T73 x0_1 x5_1).f1, (rd_T73 x0_1 x5_1).f2⟩ : S73)) (k73_mkM _ _ _ (⟨t170, (rd_T73 x0_1 x5_1).f1, (rd_T73 x0_1 x5_1).f2⟩ : S73) ) (fun _ hk => hk); have hx11_0 := hcc11 0 _ rfl; (try simp only [show (k73).sz = 3 from rfl, Nat.mul_one, Nat.add_zero] at hx11_0); have hf11_0 := hfr11 0; (try simp only [show (k73).sz = 3 from rfl, Nat.mul_one, Nat.add_zero] at hf11_0); clear hcl11 hcc11 hfr11; (try clear hM11)) | ((with_reducible refine gate_store (t := 9) (p := 17) rfl ?_); refine store_event (t := 9) (p := 17) (v := ?vo_w12) (w1 := (w10.setCell ⟨go6, (x5_1 : Int).toNat * 3, none⟩ (.string t170))) ?hg ?ho ?hn ?hr ?_; (case ho => rfl); (case hg => rfl); (case hn => rfl); (case hr => first | (go_simp; done) | (go_simp; rfl)); intro w12 hw; have hg : w10.grownBy w12 (some go6) := (by rw [hw]; exact HP11.2); have hp_ : Kd.R k73 73 w12 w0.heap.size (fun k_ => (P0_ k_ ∨ w.heap.size ≤ k_)) (.slice (some ⟨go6, 0, none⟩) x0_1.length co9) y171 := (by rw [hw, Ny171.out]; exact HP11.1); clear HP11; have n0_ := Aside0.mk (hp_); have n1_ := Aside0.mk ((by rw [hw]; exact below_set (HB.out) GB6.out : Below w0.heap.size w0 w12)); have n2_ := Aside0.mk (Kept.of_grown (S := (fun k_ => P0_ k_)) hg (by repeat (first | (with_reducible first | exact HK.out | apply Kept.alloc | apply Kept.drewN | apply Kept.drew) | exact HK.out)) (fun k_ e_ => (HO_0.out.1 k_ e_))); clear HO_0; clear HB; clear HK; have HO_0 := n0_; have HB := n1_; have HK := n2_; clear n0_ n1_ n2_; clear hg hw hp_; have p7 : 0 ≤ (x5_1 : Int) := of_decide_eq_true (by first | (with_reducible assumption) | assumption); have q7 : (x5_1 : Int) < ((x0_1.length : Int) : Int) := of_decide_eq_true (by first | (with_reducible assumption) | assumption); obtain ⟨ce7, hcl7, hM7, hcc7, hfr7⟩ := Kd.R_elem HO_0.out z73 (x5_1 : Int) p7 q7; obtain rfl := k73_openM hM7; have hx7_0 : w12.cell? ⟨go6, (x5_1 : Int).toNat * 3, none⟩ = some (.string ((rd_T73 y171 x5_1).f0)) := hcc7 0 _ rfl; have hx7_1 : w12.cell? ⟨go6, (x5_1 : Int).toNat * 3 + 1, none⟩ = some (.int .i64 ((rd_T73 y171 x5_1).f1)) := hcc7 1 _ rfl; have hx7_2 : w12.cell? ⟨go6, (x5_1 : Int).toNat * 3 + 2, none⟩ = some (.int .i64 ((rd_T73 y171 x5_1).f2)) := hcc7 2 _ rfl; have hf7_0 : w12.frozen? ⟨go6, (x5_1 : Int).toNat * 3, none⟩ = false := hfr7 0; have hf7_1 : w12.frozen? ⟨go6, (x5_1 : Int).toNat * 3 + 1, none⟩ = false := hfr7 1; have hf7_2 : w12.frozen? ⟨go6, (x5_1 : Int).toNat * 3 + 2, none⟩ = false := hfr7 2; clear hcl7 hcc7 hfr7; (try clear hM7); replace p7 := eq_true p7; replace q7 := eq_true q7; have HX13 := Aside0.mk (show Kd.R k73 73 w12 w0.heap.size (fun k_ => (P0_ k_ ∨ w.heap.size ≤ k_)) (.slice (some ⟨go6, 0, none⟩) x0_1.length co9) y171 from (rl HO_0.out)); obtain ⟨ce13, hcl13, hM13, hcc13, hfr13⟩ := Kd.R_elem HX13.out z73 (x5_1 : Int) (of_decide_eq_true (by first | (with_reducible assumption) | assumption)) (by have h_ : (x5_1 : Int) < ((x0_1.length : Int) : Int) := of_decide_eq_true (by first | (with_reducible assumption) | assumption); first | exact h_ | (have e_ := (Kd.R_reads' HO_0.out).1; omega) | simpa using h_); obtain rfl := k73_openM hM13; have HP13 := Kd.R_seg HX13.out (x5_1 : Int) (of_decide_eq_true (by first | (with_reducible assumption) | assumption)) (by have h_ : (x5_1 : Int) < ((x0_1.length : Int) : Int) := of_decide_eq_true (by first | (with_reducible assumption) | assumption); first | exact h_ | (have e_ := (Kd.R_reads' HO_0.out).1; omega) | simpa using h_) (seg := [.int .i64 (wrap64 (x1_1 + 1))]) (j := 1) hcl13 hcc13 (show 2 ≤ 3 from by decide) (x' := (⟨(rd_T73 y171 x5_1).f0, wrap64 (x1_1 + 1), (rd_T73 y171 x5_1).f2⟩ : S73)) (k73_mkM _ _ _ (⟨(rd_T73 y171 x5_1).f0, wrap64 (x1_1 + 1), (rd_T73 y171 x5_1).f2⟩ : S73) ) (fun _ hk => hk); have hx13_1 := hcc13 1 _ rfl; (try simp only [show (k73).sz = 3 from rfl, Nat.mul_one, Nat.add_zero] at hx13_1); have hf13_1 := hfr13 1; (try simp only [show (k73).sz = 3 from rfl, Nat.mul_one, Nat.add_zero] at hf13_1); clear hcl13 hcc13 hfr13; (try clear hM13)) | ((with_reducible refine gate_store (t := 3) (p := 24) rfl ?_); refine store_event (t := 3) (p := 24) (v := ?vo_w14) (w1 := (w12.setCell ⟨go6, (x5_1 : Int).toNat * 3 + 1, none⟩ (.int .i64 (wrap64 (x1_1 + 1))))) ?hg ?ho ?hn ?hr ?_; (case ho => rfl); (case hg => rfl); (case hn => rfl); (case hr => first | (go_simp; done) | (go_simp; rfl)); intro w14 hw; have hg : w12.grownBy w14 (some go6) := (by rw [hw]; exact HP13.2); have hp_ : Kd.R k73 73 w14 w0.heap.size (fun k_ => (P0_ k_ ∨ w.heap.size ≤ k_)) (.slice (some ⟨go6, 0, none⟩) x0_1.length co9) y172 := (by rw [hw, Ny172.out]; exact HP13.1); clear HP13; have n0_ := Aside0.mk (hp_); have n1_ := Aside0.mk ((by rw [hw]; exact below_set (HB.out) GB6.out : Below w0.heap.size w0 w14)); have n2_ := Aside0.mk (Kept.of_grown (S := (fun k_ => P0_ k_)) hg (by repeat (first | (with_reducible first | exact HK.out | apply Kept.alloc | apply Kept.drewN | apply Kept.drew) | exact HK.out)) (fun k_ e_ => (HO_0.out.1 k_ e_))); clear HO_0; clear HB; clear HK; have HO_0 := n0_; have HB := n1_; have HK := n2_; clear n0_ n1_ n2_; clear hg hw hp_; have p8 : 0 ≤ (x5_1 : Int) := of_decide_eq_true (by first | (with_reducible assumption) | assumption); have q8 : (x5_1 : Int) < ((x0_1.length : Int) : Int) := of_decide_eq_true (by first | (with_reducible assumption) | assumption); obtain ⟨ce8, hcl8, hM8, hcc8, hfr8⟩ := Kd.R_elem HO_0.out z73 (x5_1 : Int) p8 q8; obtain rfl := k73_openM hM8; have hx8_0 : w14.cell? ⟨go6, (x5_1 : Int).toNat * 3, none⟩ = some (.string ((rd_T73 y172 x5_1).f0)) := hcc8 0 _ rfl; have hx8_1 : w14.cell? ⟨go6, (x5_1 : Int).toNat * 3 + 1, none⟩ = some (.int .i64 ((rd_T73 y172 x5_1).f1)) := hcc8 1 _ rfl; have hx8_2 : w14.cell? ⟨go6, (x5_1 : Int).toNat * 3 + 2, none⟩ = some (.int .i64 ((rd_T73 y172 x5_1).f2)) := hcc8 2 _ rfl; have hf8_0 : w14.frozen? ⟨go6, (x5_1 : Int).toNat * 3, none⟩ = false := hfr8 0; have hf8_1 : w14.frozen? ⟨go6, (x5_1 : Int).toNat * 3 + 1, none⟩ = false := hfr8 1; have hf8_2 : w14.frozen? ⟨go6, (x5_1 : Int).toNat * 3 + 2, none⟩ = false := hfr8 2; clear hcl8 hcc8 hfr8; (try clear hM8); replace p8 := eq_true p8; replace q8 := eq_true q8; have HX15 := Aside0.mk (show Kd.R k73 73 w14 w0.heap.size (fun k_ => (P0_ k_ ∨ w.heap.size ≤ k_)) (.slice (some ⟨go6, 0, none⟩) x0_1.length co9) y172 from (rl HO_0.out)); obtain ⟨ce15, hcl15, hM15, hcc15, hfr15⟩ := Kd.R_elem HX15.out z73 (x5_1 : Int) (of_decide_eq_true (by first | (with_reducible assumption) | assumption)) (by have h_ : (x5_1 : Int) < ((x0_1.length : Int) : Int) := of_decide_eq_true (by first | (with_reducible assumption) | assumption); first | exact h_ | (have e_ := (Kd.R_reads' HO_0.out).1; omega) | simpa using h_); obtain rfl := k73_openM hM15; have HP15 := Kd.R_seg HX15.out (x5_1 : Int) (of_decide_eq_true (by first | (with_reducible assumption) | assumption)) (by have h_ : (x5_1 : Int) < ((x0_1.length : Int) : Int) := of_decide_eq_true (by first | (with_reducible assumption) | assumption); first | exact h_ | (have e_ := (Kd.R_reads' HO_0.out).1; omega) | simpa using h_) (seg := [.int .i64 (wrap64 ((wrap64 (x1_1 + 1)) + 1))]) (j := 2) hcl15 hcc15 (show 3 ≤ 3 from by decide) (x' := (⟨(rd_T73 y172 x5_1).f0, (rd_T73 y172 x5_1).f1, wrap64 ((wrap64 (x1_1 + 1)) + 1)⟩ : S73)) (k73_mkM _ _ _ (⟨(rd_T73 y172 x5_1).f0, (rd_T73 y172 x5_1).f1, wrap64 ((wrap64 (x1_1 + 1)) + 1)⟩ : S73) ) (fun _ hk => hk); have hx15_2 := hcc15 2 _ rfl; (try simp only [show (k73).sz = 3 from rfl, Nat.mul_one, Nat.add_zero] at hx15_2); have hf15_2 := hfr15 2; (try simp only [show (k73).sz = 3 from rfl, Nat.mul_one, Nat.add_zero] at hf15_2); clear hcl15 hcc15 hfr15; (try clear hM15)) | ((with_reducible refine gate_store (t := 3) (p := 31) rfl ?_); refine store_event (t := 3) (p := 31) (v := ?vo_w16) (w1 := (w14.setCell ⟨go6, (x5_1 : Int).toNat * 3 + 2, none⟩ (.int .i64 (wrap64 ((wrap64 (x1_1 + 1)) + 1))))) ?hg ?ho ?hn ?hr ?_; (case ho => rfl); (case hg => rfl); (case hn => rfl); (case hr => first | (go_simp; done) | (go_simp; rfl)); intro w16 hw; have hg : w14.grownBy w16 (some go6) := (by rw [hw]; exact HP15.2); have hp_ : Kd.R k73 73 w16 w0.heap.size (fun k_ => (P0_ k_ ∨ w.heap.size ≤ k_)) (.slice (some ⟨go6, 0, none⟩) x0_1.length co9) y173 := (by rw [hw, Ny173.out]; exact HP15.1); clear HP15; have n0_ := Aside0.mk (hp_); have n1_ := Aside0.mk ((by rw [hw]; exact below_set (HB.out) GB6.out : Below w0.heap.size w0 w16)); have n2_ := Aside0.mk (Kept.of_grown (S := (fun k_ => P0_ k_)) hg (by repeat (first | (with_reducible first | exact HK.out | apply Kept.alloc | apply Kept.drewN | apply Kept.drew) | exact HK.out)) (fun k_ e_ => (HO_0.out.1 k_ e_))); clear HO_0; clear HB; clear HK; have HO_0 := n0_; have HB := n1_; have HK := n2_; clear n0_ n1_ n2_; clear hg hw hp_))
     go_roundg k1
     case measure => have := HK1.out; omega
     case rel => exact ⟨(y173), (wrap64 ((wrap64 ((wrap64 (x1_1 + 1)) + 1)) + 1)), (wrap64 (x5_1 + 1)), (by first | rfl | (simp; done) | (simp [*]; done)), (by first | rfl | (simp; done) | (simp [*]; done)), H', ⟨by have := HK1.out; omega⟩, ⟨rl HO_0.out⟩, ⟨by repeat (first | (with_reducible first | exact HK.out | apply Kept.alloc | apply Kept.drewN | apply Kept.drew) | exact HK.out)⟩, ⟨bl HB.out⟩⟩
    ·
     rw [if_neg c5] at H
     exact absurd H (by simp)
   ·
    rw [if_neg c3] at H
    have c3b0 : decide (x5_1 < (x0_1.length : Int)) = false := decide_eq_false c3
    clear c3
    simp only [Option.some.injEq, Prod.mk.injEq] at H
    obtain ⟨rfl, rfl⟩ := H
    obtain ⟨Ao17, co17, eo17⟩ := Kd.R_slice HO_0.out
    subst eo17
    go_wp2
    go_ret
    exact ⟨by first | rfl | (simp [errW_none, errW_some] <;> rfl) | (simp [*, errW_none, errW_some] <;> rfl), by (repeat apply rl1); exact HO_0.out, bl HB.out, by repeat (first | (with_reducible first | exact HK.out | apply Kept.alloc | apply Kept.drewN | apply Kept.drew) | exact HK.out)⟩

/-! ### laws_markDefectS: function 60 -/
def laws_markDefectS.l0 : Nat → List (S66) → Int → Int → Option (Int × (List (S66)))
 | 0, _, _, _ => none
 | k + 1, x0, x1, x5 => if x5 < (x0.length : Int) then ((laws_markText.f k x1).bind fun t174 => (if 0 ≤ x5 then ((some (x0.set (x5 : Int).toNat (⟨t174, (rd_T66 x0 x5).f1, (rd_T66 x0 x5).f2⟩ : S66) : List (S66))).bind fun y175 => ((some (y175.set (x5 : Int).toNat (⟨(rd_T66 y175 x5).f0, wrap64 (x1 + 1), (rd_T66 y175 x5).f2⟩ : S66) : List (S66))).bind fun y176 => (laws_markDefectS.l0 k (y176.set (x5 : Int).toNat (⟨(rd_T66 y176 x5).f0, (rd_T66 y176 x5).f1, wrap64 ((wrap64 (x1 + 1)) + 1)⟩ : S66)) (wrap64 ((wrap64 ((wrap64 (x1 + 1)) + 1)) + 1)) (wrap64 (x5 + 1))))) else (none))) else (some (x1, x0))
def laws_markDefectS.f (k : Nat) (l0 : List (S66)) (a1 : Int) : Option (Int × (List (S66))) := laws_markDefectS.l0 k l0 a1 0
theorem laws_markDefectS.mono_l : ∀ k, (∀ y0 y1 y2, LeO (laws_markDefectS.l0 k y0 y1 y2) (laws_markDefectS.l0 (k + 1) y0 y1 y2))
 | 0 => fun _ _ _ r h => by simp [laws_markDefectS.l0] at h
 | k + 1 => by
  have ih0 := laws_markDefectS.mono_l k
  ·
   intro y0 y1 y2
   unfold laws_markDefectS.l0
   repeat' first
   | (with_reducible exact ih0 _ _ _)
   | (with_reducible exact laws_markText.mono _ _)
   | (with_reducible exact LeO.refl _)
   | (with_reducible exact LeO.none _)
   | (with_reducible refine LeO.ite ?_ ?_)
   | (with_reducible refine LeO.bind ?_ (fun _ => ?_))
   | exact ih0 _ _ _
   | exact laws_markText.mono _ _
   | exact LeO.none _
   | refine LeO.ite ?_ ?_
   | refine LeO.bind ?_ (fun _ => ?_)
theorem laws_markDefectS.mono : ∀ a0 a1 k, LeO (laws_markDefectS.f k a0 a1) (laws_markDefectS.f (k + 1) a0 a1) := by
 intro a0 a1 k
 have ih0 := laws_markDefectS.mono_l k
 unfold laws_markDefectS.f
 repeat' first
   | (with_reducible exact ih0 _ _ _)
   | (with_reducible exact laws_markText.mono _ _)
   | (with_reducible exact LeO.refl _)
   | (with_reducible exact LeO.none _)
   | (with_reducible refine LeO.ite ?_ ?_)
   | (with_reducible refine LeO.bind ?_ (fun _ => ?_))
   | exact ih0 _ _ _
   | exact laws_markText.mono _ _
   | exact LeO.none _
   | refine LeO.ite ?_ ?_
   | refine LeO.bind ?_ (fun _ => ?_)
set_option maxHeartbeats 8000000 in
set_option maxRecDepth 100000 in
theorem laws_markDefectS.calls (k : Nat) (P0_ : Nat → Prop) (u9000_ : Value) (l0 : List (S66)) (a1 : Int) (r1 : Int) (r2 : List (S66)) (w0 w : World) (hB : Below w0.heap.size w0 w) (ho0 : Kd.R k66 66 w w0.heap.size P0_ u9000_ l0) (h : laws_markDefectS.f k l0 a1 = some (r1, r2)) :
  Calls Try.prog 60 #[u9000_, .int .i64 a1] w fun e w' => e = .returned (.int .i64 r1) ∧ Kd.R k66 66 w' w0.heap.size (fun k_ => (P0_ k_ ∨ w.heap.size ≤ k_)) u9000_ r2 ∧ Below w0.heap.size w0 w' ∧ Kept w w' (fun k_ => P0_ k_) := by
 have HO0 := Aside0.mk (show Kd.R k66 66 w w0.heap.size (fun k_ => (P0_ k_ ∨ w.heap.size ≤ k_)) u9000_ l0 from Kd.R_mono ho0 (fun k_ hk => (.inl hk)))
 have HK := Aside0.mk (Kept.refl w (fun k_ => P0_ k_))
 have HW0 := Aside0.mk hB.size
 have HB := Aside0.mk hB
 clear hB
 have H : (laws_markDefectS.l0 k l0 a1 0) = some (r1, r2) := h
 clear h
 have H' := Aside0.mk H
 clear H
 go_enter Try.func60, Try.ntmps60
 go_wp2
 go_loopg [1, 5] k (fun kq v1 v5 w' => ∃ (x0_1 : List (S66)) (x1_1 : Int) (x5_1 : Int), v1 = .int .i64 x1_1 ∧ v5 = .int .i64 x5_1 ∧ Aside0 (laws_markDefectS.l0 kq x0_1 x1_1 x5_1 = some (r1, r2)) ∧ Aside0 (kq ≤ k) ∧ Aside0 (Kd.R k66 66 w' w0.heap.size (fun k_ => (P0_ k_ ∨ w.heap.size ≤ k_)) u9000_ x0_1) ∧ Aside0 (Kept w w' (fun k_ => P0_ k_)) ∧ Aside0 (Below w0.heap.size w0 w'))
 case atStart => exact ⟨(l0), (a1), (0), (by first | rfl | (simp; done) | (simp [*]; done)), (by first | rfl | (simp; done) | (simp [*]; done)), H', ⟨Nat.le_refl _⟩, ⟨rl HO0.out⟩, ⟨by repeat (first | (with_reducible first | exact HK.out | apply Kept.alloc | apply Kept.drewN | apply Kept.drew) | exact HK.out)⟩, ⟨bl HB.out⟩⟩
 case round =>
  clear H'
  try clear p2
  obtain ⟨x0_1, x1_1, x5_1, rfl, rfl, HA, HK1, HO_0, HK, HB⟩ := hrel
  cases gk with
  | zero => exact absurd HA.out (by simp [laws_markDefectS.l0])
  | succ k1 =>
   have H := HA.out
   clear HA
   simp only [laws_markDefectS.l0] at H
   by_cases c3 : x5_1 < (x0_1.length : Int)
   ·
    rw [if_pos c3] at H
    have c3b0 : decide (x5_1 < (x0_1.length : Int)) = true := decide_eq_true c3
    clear c3
    replace H := Option.bind_eq_some_iff.mp H
    obtain ⟨t174, A40, H⟩ := H
    replace H : (if 0 ≤ x5_1 then ((some (x0_1.set (x5_1 : Int).toNat (⟨t174, (rd_T66 x0_1 x5_1).f1, (rd_T66 x0_1 x5_1).f2⟩ : S66) : List (S66))).bind fun y175 => ((some (y175.set (x5_1 : Int).toNat (⟨(rd_T66 y175 x5_1).f0, wrap64 (x1_1 + 1), (rd_T66 y175 x5_1).f2⟩ : S66) : List (S66))).bind fun y176 => (laws_markDefectS.l0 k1 (y176.set (x5_1 : Int).toNat (⟨(rd_T66 y176 x5_1).f0, (rd_T66 y176 x5_1).f1, wrap64 ((wrap64 (x1_1 + 1)) + 1)⟩ : S66)) (wrap64 ((wrap64 ((wrap64 (x1_1 + 1)) + 1)) + 1)) (wrap64 (x5_1 + 1))))) else (none)) = some (r1, r2) := H
    have A4 := Aside0.mk A40
    clear A40
    by_cases c5 : 0 ≤ x5_1
    ·
     rw [if_pos c5] at H
     have c5b0 : decide (0 ≤ x5_1) = true := decide_eq_true c5
     clear c5
     obtain ⟨y175, hy175⟩ : ∃ y_ : List (S66), y_ = (x0_1.set (x5_1 : Int).toNat (⟨t174, (rd_T66 x0_1 x5_1).f1, (rd_T66 x0_1 x5_1).f2⟩ : S66)) := ⟨_, rfl⟩
     replace H : ((some (y175.set (x5_1 : Int).toNat (⟨(rd_T66 y175 x5_1).f0, wrap64 (x1_1 + 1), (rd_T66 y175 x5_1).f2⟩ : S66) : List (S66))).bind fun y176 => (laws_markDefectS.l0 k1 (y176.set (x5_1 : Int).toNat (⟨(rd_T66 y176 x5_1).f0, (rd_T66 y176 x5_1).f1, wrap64 ((wrap64 (x1_1 + 1)) + 1)⟩ : S66)) (wrap64 ((wrap64 ((wrap64 (x1_1 + 1)) + 1)) + 1)) (wrap64 (x5_1 + 1)))) = some (r1, r2) := by first | (rw [hy175]; with_reducible exact H) | (have H2_ := (Option.bind_some _ _).symm.trans H; rw [hy175]; with_reducible exact H2_) | (have H2_ := (Option.bind_some _ _).symm.trans H; with_reducible exact H2_) | with_reducible exact H | (rw [hy175]; exact H) | exact H
     have Ny175 := Aside0.mk hy175
     clear hy175
     obtain ⟨y176, hy176⟩ : ∃ y_ : List (S66), y_ = (y175.set (x5_1 : Int).toNat (⟨(rd_T66 y175 x5_1).f0, wrap64 (x1_1 + 1), (rd_T66 y175 x5_1).f2⟩ : S66)) := ⟨_, rfl⟩
     replace H : (laws_markDefectS.l0 k1 (y176.set (x5_1 : Int).toNat (⟨(rd_T66 y176 x5_1).f0, (rd_T66 y176 x5_1).f1, wrap64 ((wrap64 (x1_1 + 1)) + 1)⟩ : S66)) (wrap64 ((wrap64 ((wrap64 (x1_1 + 1)) + 1)) + 1)) (wrap64 (x5_1 + 1))) = some (r1, r2) := by first | (rw [hy176]; with_reducible exact H) | (have H2_ := (Option.bind_some _ _).symm.trans H; rw [hy176]; with_reducible exact H2_) | (have H2_ := (Option.bind_some _ _).symm.trans H; with_reducible exact H2_) | with_reducible exact H | (rw [hy176]; exact H) | exact H
     have Ny176 := Aside0.mk hy176
     clear hy176
     obtain ⟨y177, hy177⟩ : ∃ y_ : List (S66), y_ = (y176.set (x5_1 : Int).toNat (⟨(rd_T66 y176 x5_1).f0, (rd_T66 y176 x5_1).f1, wrap64 ((wrap64 (x1_1 + 1)) + 1)⟩ : S66)) := ⟨_, rfl⟩
     replace H : (laws_markDefectS.l0 k1 y177 (wrap64 ((wrap64 ((wrap64 (x1_1 + 1)) + 1)) + 1)) (wrap64 (x5_1 + 1))) = some (r1, r2) := by first | (rw [hy177]; with_reducible exact H) | (have H2_ := (Option.bind_some _ _).symm.trans H; rw [hy177]; with_reducible exact H2_) | (have H2_ := (Option.bind_some _ _).symm.trans H; with_reducible exact H2_) | with_reducible exact H | (rw [hy177]; exact H) | exact H
     have Ny177 := Aside0.mk hy177
     clear hy177
     have H' := Aside0.mk H
     clear H
     obtain ⟨Ao9, co9, eo9⟩ := Kd.R_slice HO_0.out
     subst eo9
     go_wp2_with (first | ((with_reducible refine gate_callee (f := 102) rfl ?_); refine goesL_ (some 15) rfl rfl Try.func102 (by kernel_rfl) rfl #[.int .i64 x1_1] rfl (by (try simp only [am_]); first | done | rfl) ?_; (with_reducible refine (laws_markText.calls k1 x1_1 t174 _ A4.out).mono ?_); rintro e w10 ⟨rfl, hb⟩; refine ⟨_, rfl, ?_⟩; have n0_ := Aside0.mk (Kd.R_below (rl HO_0.out) hb); have n1_ := Aside0.mk (Kept.below (S := (fun k_ => P0_ k_)) (by repeat (first | (with_reducible first | exact HK.out | apply Kept.alloc | apply Kept.drewN | apply Kept.drew) | exact HK.out)) hb); have n2_ := Aside0.mk (below_step (bl HB.out) hb); clear HO_0; clear HK; clear HB; have HO_0 := n0_; have HK := n1_; have HB := n2_; clear n0_ n1_ n2_; (try clear hb); (try clear hb2); (try clear hk); (try clear hi); have p6 : 0 ≤ (x5_1 : Int) := of_decide_eq_true (by first | (with_reducible assumption) | assumption); have q6 : (x5_1 : Int) < ((x0_1.length : Int) : Int) := of_decide_eq_true (by first | (with_reducible assumption) | assumption); obtain ⟨go6, co6, eo6, gb6, gl6, cl6, HG6⟩ := Kd.R_form HO_0.out (by omega); (first | cases eo6 | (injection eo6 with ea_ en_ ec_; (first | subst ea_ | (injection ea_ with ea_; subst ea_)); subst ec_; clear en_)); have GB6 := Aside0.mk gb6; have GG6 := Aside0.mk HG6; clear gb6 gl6 HG6; have HMgo6 := Aside0.mk (show (P0_ go6 ∨ w.heap.size ≤ go6) from (HO_0.out.1 _ rfl)); obtain ⟨ce6, hcl6, hM6, hcc6, hfr6⟩ := Kd.R_elem HO_0.out z66 (x5_1 : Int) p6 q6; obtain rfl := k66_openM hM6; have hx6_0 : w10.cell? ⟨go6, (x5_1 : Int).toNat * 3, none⟩ = some (.string ((rd_T66 x0_1 x5_1).f0)) := hcc6 0 _ rfl; have hx6_1 : w10.cell? ⟨go6, (x5_1 : Int).toNat * 3 + 1, none⟩ = some (.int .i64 ((rd_T66 x0_1 x5_1).f1)) := hcc6 1 _ rfl; have hx6_2 : w10.cell? ⟨go6, (x5_1 : Int).toNat * 3 + 2, none⟩ = some (.int .i64 ((rd_T66 x0_1 x5_1).f2)) := hcc6 2 _ rfl; have hf6_0 : w10.frozen? ⟨go6, (x5_1 : Int).toNat * 3, none⟩ = false := hfr6 0; have hf6_1 : w10.frozen? ⟨go6, (x5_1 : Int).toNat * 3 + 1, none⟩ = false := hfr6 1; have hf6_2 : w10.frozen? ⟨go6, (x5_1 : Int).toNat * 3 + 2, none⟩ = false := hfr6 2; clear hcl6 hcc6 hfr6; (try clear hM6); replace p6 := eq_true p6; replace q6 := eq_true q6; have HX11 := Aside0.mk (show Kd.R k66 66 w10 w0.heap.size (fun k_ => (P0_ k_ ∨ w.heap.size ≤ k_)) (.slice (some ⟨go6, 0, none⟩) x0_1.length co9) x0_1 from (rl HO_0.out)); obtain ⟨ce11, hcl11, hM11, hcc11, hfr11⟩ := Kd.R_elem HX11.out z66 (x5_1 : Int) (of_decide_eq_true (by first | (with_reducible assumption) | assumption)) (by have h_ : (x5_1 : Int) < ((x0_1.length : Int) : Int) := of_decide_eq_true (by first | (with_reducible assumption) | assumption); first | exact h_ | (have e_ := (Kd.R_reads' HO_0.out).1; omega) | simpa using h_); obtain rfl := k66_openM hM11; have HP11 := Kd.R_seg HX11.out (x5_1 : Int) (of_decide_eq_true (by first | (with_reducible assumption) | assumption)) (by have h_ : (x5_1 : Int) < ((x0_1.length : Int) : Int) := of_decide_eq_true (by first | (with_reducible assumption) | assumption); first | exact h_ | (have e_ := (Kd.R_reads' HO_0.out).1; omega) | simpa using h_) (seg := [.string t174]) (j := 0) hcl11 hcc11 (show 1 ≤ 3 from by decide) (x' := (⟨t174, (rd_T66 x0_1 x5_1).f1, (rd_T66 x0_1 x5_1).f2⟩ : S66)) (k66_mkM _ _ _ (⟨t174, (rd_T66 x0_1 x5_1).f1, (rd_T66 x0_1 x5_1).f2⟩ : S66) ) (fun _ hk => hk); have hx11_0 := hcc11 0 _ rfl; (try simp only [show (k66).sz = 3 from rfl, Nat.mul_one, Nat.add_zero] at hx11_0); have hf11_0 := hfr11 0; (try simp only [show (k66).sz = 3 from rfl, Nat.mul_one, Nat.add_zero] at hf11_0); clear hcl11 hcc11 hfr11; (try clear hM11)) | ((with_reducible refine gate_store (t := 9) (p := 17) rfl ?_); refine store_event (t := 9) (p := 17) (v := ?vo_w12) (w1 := (w10.setCell ⟨go6, (x5_1 : Int).toNat * 3, none⟩ (.string t174))) ?hg ?ho ?hn ?hr ?_; (case ho => rfl); (case hg => rfl); (case hn => rfl); (case hr => first | (go_simp; done) | (go_simp; rfl)); intro w12 hw; have hg : w10.grownBy w12 (some go6) := (by rw [hw]; exact HP11.2); have hp_ : Kd.R k66 66 w12 w0.heap.size (fun k_ => (P0_ k_ ∨ w.heap.size ≤ k_)) (.slice (some ⟨go6, 0, none⟩) x0_1.length co9) y175 := (by rw [hw, Ny175.out]; exact HP11.1); clear HP11; have n0_ := Aside0.mk (hp_); have n1_ := Aside0.mk ((by rw [hw]; exact below_set (HB.out) GB6.out : Below w0.heap.size w0 w12)); have n2_ := Aside0.mk (Kept.of_grown (S := (fun k_ => P0_ k_)) hg (by repeat (first | (with_reducible first | exact HK.out | apply Kept.alloc | apply Kept.drewN | apply Kept.drew) | exact HK.out)) (fun k_ e_ => (HO_0.out.1 k_ e_))); clear HO_0; clear HB; clear HK; have HO_0 := n0_; have HB := n1_; have HK := n2_; clear n0_ n1_ n2_; clear hg hw hp_; have p7 : 0 ≤ (x5_1 : Int) := of_decide_eq_true (by first | (with_reducible assumption) | assumption); have q7 : (x5_1 : Int) < ((x0_1.length : Int) : Int) := of_decide_eq_true (by first | (with_reducible assumption) | assumption); obtain ⟨ce7, hcl7, hM7, hcc7, hfr7⟩ := Kd.R_elem HO_0.out z66 (x5_1 : Int) p7 q7; obtain rfl := k66_openM hM7; have hx7_0 : w12.cell? ⟨go6, (x5_1 : Int).toNat * 3, none⟩ = some (.string ((rd_T66 y175 x5_1).f0)) := hcc7 0 _ rfl; have hx7_1 : w12.cell? ⟨go6, (x5_1 : Int).toNat * 3 + 1, none⟩ = some (.int .i64 ((rd_T66 y175 x5_1).f1)) := hcc7 1 _ rfl; have hx7_2 : w12.cell? ⟨go6, (x5_1 : Int).toNat * 3 + 2, none⟩ = some (.int .i64 ((rd_T66 y175 x5_1).f2)) := hcc7 2 _ rfl; have hf7_0 : w12.frozen? ⟨go6, (x5_1 : Int).toNat * 3, none⟩ = false := hfr7 0; have hf7_1 : w12.frozen? ⟨go6, (x5_1 : Int).toNat * 3 + 1, none⟩ = false := hfr7 1; have hf7_2 : w12.frozen? ⟨go6, (x5_1 : Int).toNat * 3 + 2, none⟩ = false := hfr7 2; clear hcl7 hcc7 hfr7; (try clear hM7); replace p7 := eq_true p7; replace q7 := eq_true q7; have HX13 := Aside0.mk (show Kd.R k66 66 w12 w0.heap.size (fun k_ => (P0_ k_ ∨ w.heap.size ≤ k_)) (.slice (some ⟨go6, 0, none⟩) x0_1.length co9) y175 from (rl HO_0.out)); obtain ⟨ce13, hcl13, hM13, hcc13, hfr13⟩ := Kd.R_elem HX13.out z66 (x5_1 : Int) (of_decide_eq_true (by first | (with_reducible assumption) | assumption)) (by have h_ : (x5_1 : Int) < ((x0_1.length : Int) : Int) := of_decide_eq_true (by first | (with_reducible assumption) | assumption); first | exact h_ | (have e_ := (Kd.R_reads' HO_0.out).1; omega) | simpa using h_); obtain rfl := k66_openM hM13; have HP13 := Kd.R_seg HX13.out (x5_1 : Int) (of_decide_eq_true (by first | (with_reducible assumption) | assumption)) (by have h_ : (x5_1 : Int) < ((x0_1.length : Int) : Int) := of_decide_eq_true (by first | (with_reducible assumption) | assumption); first | exact h_ | (have e_ := (Kd.R_reads' HO_0.out).1; omega) | simpa using h_) (seg := [.int .i64 (wrap64 (x1_1 + 1))]) (j := 1) hcl13 hcc13 (show 2 ≤ 3 from by decide) (x' := (⟨(rd_T66 y175 x5_1).f0, wrap64 (x1_1 + 1), (rd_T66 y175 x5_1).f2⟩ : S66)) (k66_mkM _ _ _ (⟨(rd_T66 y175 x5_1).f0, wrap64 (x1_1 + 1), (rd_T66 y175 x5_1).f2⟩ : S66) ) (fun _ hk => hk); have hx13_1 := hcc13 1 _ rfl; (try simp only [show (k66).sz = 3 from rfl, Nat.mul_one, Nat.add_zero] at hx13_1); have hf13_1 := hfr13 1; (try simp only [show (k66).sz = 3 from rfl, Nat.mul_one, Nat.add_zero] at hf13_1); clear hcl13 hcc13 hfr13; (try clear hM13)) | ((with_reducible refine gate_store (t := 3) (p := 24) rfl ?_); refine store_event (t := 3) (p := 24) (v := ?vo_w14) (w1 := (w12.setCell ⟨go6, (x5_1 : Int).toNat * 3 + 1, none⟩ (.int .i64 (wrap64 (x1_1 + 1))))) ?hg ?ho ?hn ?hr ?_; (case ho => rfl); (case hg => rfl); (case hn => rfl); (case hr => first | (go_simp; done) | (go_simp; rfl)); intro w14 hw; have hg : w12.grownBy w14 (some go6) := (by rw [hw]; exact HP13.2); have hp_ : Kd.R k66 66 w14 w0.heap.size (fun k_ => (P0_ k_ ∨ w.heap.size ≤ k_)) (.slice (some ⟨go6, 0, none⟩) x0_1.length co9) y176 := (by rw [hw, Ny176.out]; exact HP13.1); clear HP13; have n0_ := Aside0.mk (hp_); have n1_ := Aside0.mk ((by rw [hw]; exact below_set (HB.out) GB6.out : Below w0.heap.size w0 w14)); have n2_ := Aside0.mk (Kept.of_grown (S := (fun k_ => P0_ k_)) hg (by repeat (first | (with_reducible first | exact HK.out | apply Kept.alloc | apply Kept.drewN | apply Kept.drew) | exact HK.out)) (fun k_ e_ => (HO_0.out.1 k_ e_))); clear HO_0; clear HB; clear HK; have HO_0 := n0_; have HB := n1_; have HK := n2_; clear n0_ n1_ n2_; clear hg hw hp_; have p8 : 0 ≤ (x5_1 : Int) := of_decide_eq_true (by first | (with_reducible assumption) | assumption); have q8 : (x5_1 : Int) < ((x0_1.length : Int) : Int) := of_decide_eq_true (by first | (with_reducible assumption) | assumption); obtain ⟨ce8, hcl8, hM8, hcc8, hfr8⟩ := Kd.R_elem HO_0.out z66 (x5_1 : Int) p8 q8; obtain rfl := k66_openM hM8; have hx8_0 : w14.cell? ⟨go6, (x5_1 : Int).toNat * 3, none⟩ = some (.string ((rd_T66 y176 x5_1).f0)) := hcc8 0 _ rfl; have hx8_1 : w14.cell? ⟨go6, (x5_1 : Int).toNat * 3 + 1, none⟩ = some (.int .i64 ((rd_T66 y176 x5_1).f1)) := hcc8 1 _ rfl; have hx8_2 : w14.cell? ⟨go6, (x5_1 : Int).toNat * 3 + 2, none⟩ = some (.int .i64 ((rd_T66 y176 x5_1).f2)) := hcc8 2 _ rfl; have hf8_0 : w14.frozen? ⟨go6, (x5_1 : Int).toNat * 3, none⟩ = false := hfr8 0; have hf8_1 : w14.frozen? ⟨go6, (x5_1 : Int).toNat * 3 + 1, none⟩ = false := hfr8 1; have hf8_2 : w14.frozen? ⟨go6, (x5_1 : Int).toNat * 3 + 2, none⟩ = false := hfr8 2; clear hcl8 hcc8 hfr8; (try clear hM8); replace p8 := eq_true p8; replace q8 := eq_true q8; have HX15 := Aside0.mk (show Kd.R k66 66 w14 w0.heap.size (fun k_ => (P0_ k_ ∨ w.heap.size ≤ k_)) (.slice (some ⟨go6, 0, none⟩) x0_1.length co9) y176 from (rl HO_0.out)); obtain ⟨ce15, hcl15, hM15, hcc15, hfr15⟩ := Kd.R_elem HX15.out z66 (x5_1 : Int) (of_decide_eq_true (by first | (with_reducible assumption) | assumption)) (by have h_ : (x5_1 : Int) < ((x0_1.length : Int) : Int) := of_decide_eq_true (by first | (with_reducible assumption) | assumption); first | exact h_ | (have e_ := (Kd.R_reads' HO_0.out).1; omega) | simpa using h_); obtain rfl := k66_openM hM15; have HP15 := Kd.R_seg HX15.out (x5_1 : Int) (of_decide_eq_true (by first | (with_reducible assumption) | assumption)) (by have h_ : (x5_1 : Int) < ((x0_1.length : Int) : Int) := of_decide_eq_true (by first | (with_reducible assumption) | assumption); first | exact h_ | (have e_ := (Kd.R_reads' HO_0.out).1; omega) | simpa using h_) (seg := [.int .i64 (wrap64 ((wrap64 (x1_1 + 1)) + 1))]) (j := 2) hcl15 hcc15 (show 3 ≤ 3 from by decide) (x' := (⟨(rd_T66 y176 x5_1).f0, (rd_T66 y176 x5_1).f1, wrap64 ((wrap64 (x1_1 + 1)) + 1)⟩ : S66)) (k66_mkM _ _ _ (⟨(rd_T66 y176 x5_1).f0, (rd_T66 y176 x5_1).f1, wrap64 ((wrap64 (x1_1 + 1)) + 1)⟩ : S66) ) (fun _ hk => hk); have hx15_2 := hcc15 2 _ rfl; (try simp only [show (k66).sz = 3 from rfl, Nat.mul_one, Nat.add_zero] at hx15_2); have hf15_2 := hfr15 2; (try simp only [show (k66).sz = 3 from rfl, Nat.mul_one, Nat.add_zero] at hf15_2); clear hcl15 hcc15 hfr15; (try clear hM15)) | ((with_reducible refine gate_store (t := 3) (p := 31) rfl ?_); refine store_event (t := 3) (p := 31) (v := ?vo_w16) (w1 := (w14.setCell ⟨go6, (x5_1 : Int).toNat * 3 + 2, none⟩ (.int .i64 (wrap64 ((wrap64 (x1_1 + 1)) + 1))))) ?hg ?ho ?hn ?hr ?_; (case ho => rfl); (case hg => rfl); (case hn => rfl); (case hr => first | (go_simp; done) | (go_simp; rfl)); intro w16 hw; have hg : w14.grownBy w16 (some go6) := (by rw [hw]; exact HP15.2); have hp_ : Kd.R k66 66 w16 w0.heap.size (fun k_ => (P0_ k_ ∨ w.heap.size ≤ k_)) (.slice (some ⟨go6, 0, none⟩) x0_1.length co9) y177 := (by rw [hw, Ny177.out]; exact HP15.1); clear HP15; have n0_ := Aside0.mk (hp_); have n1_ := Aside0.mk ((by rw [hw]; exact below_set (HB.out) GB6.out : Below w0.heap.size w0 w16)); have n2_ := Aside0.mk (Kept.of_grown (S := (fun k_ => P0_ k_)) hg (by repeat (first | (with_reducible first | exact HK.out | apply Kept.alloc | apply Kept.drewN | apply Kept.drew) | exact HK.out)) (fun k_ e_ => (HO_0.out.1 k_ e_))); clear HO_0; clear HB; clear HK; have HO_0 := n0_; have HB := n1_; have HK := n2_; clear n0_ n1_ n2_; clear hg hw hp_))
     go_roundg k1
     case measure => have := HK1.out; omega
     case rel => exact ⟨(y177), (wrap64 ((wrap64 ((wrap64 (x1_1 + 1)) + 1)) + 1)), (wrap64 (x5_1 + 1)), (by first | rfl | (simp; done) | (simp [*]; done)), (by first | rfl | (simp; done) | (simp [*]; done)), H', ⟨by have := HK1.out; omega⟩, ⟨rl HO_0.out⟩, ⟨by repeat (first | (with_reducible first | exact HK.out | apply Kept.alloc | apply Kept.drewN | apply Kept.drew) | exact HK.out)⟩, ⟨bl HB.out⟩⟩
    ·
     rw [if_neg c5] at H
     exact absurd H (by simp)
   ·
    rw [if_neg c3] at H
    have c3b0 : decide (x5_1 < (x0_1.length : Int)) = false := decide_eq_false c3
    clear c3
    simp only [Option.some.injEq, Prod.mk.injEq] at H
    obtain ⟨rfl, rfl⟩ := H
    obtain ⟨Ao17, co17, eo17⟩ := Kd.R_slice HO_0.out
    subst eo17
    go_wp2
    go_ret
    exact ⟨by first | rfl | (simp [errW_none, errW_some] <;> rfl) | (simp [*, errW_none, errW_some] <;> rfl), by (repeat apply rl1); exact HO_0.out, bl HB.out, by repeat (first | (with_reducible first | exact HK.out | apply Kept.alloc | apply Kept.drewN | apply Kept.drew) | exact HK.out)⟩

/-! ### laws_markFleet: function 25 -/
def laws_markFleet.f (k : Nat) (l0_0 : List (S71)) (l0_1 : List (S73)) (l0_2 : List (S66)) (a0_3 : Int) (a0_4 : Int) (a0_5 : Int) (a1 : Int) : Option (Int × (List (S71)) × (List (S73)) × (List (S66))) := (laws_markTaskS.f k l0_0 a1).bind fun bt179 => ((laws_markCarryS.f k l0_1 bt179.1).bind fun bt181 => ((laws_markDefectS.f k l0_2 bt181.1).bind fun bt183 => (some (bt183.1, bt179.2, bt181.2, bt183.2))))
theorem laws_markFleet.mono : ∀ a0 a1 a2 a3 a4 a5 a6 k, LeO (laws_markFleet.f k a0 a1 a2 a3 a4 a5 a6) (laws_markFleet.f (k + 1) a0 a1 a2 a3 a4 a5 a6) := by
 intro a0 a1 a2 a3 a4 a5 a6 k
 unfold laws_markFleet.f
 repeat' first
   | (with_reducible exact laws_markCarryS.mono _ _ _)
   | (with_reducible exact laws_markDefectS.mono _ _ _)
   | (with_reducible exact laws_markTaskS.mono _ _ _)
   | (with_reducible exact LeO.refl _)
   | (with_reducible exact LeO.none _)
   | (with_reducible refine LeO.ite ?_ ?_)
   | (with_reducible refine LeO.bind ?_ (fun _ => ?_))
   | exact laws_markCarryS.mono _ _ _
   | exact laws_markDefectS.mono _ _ _
   | exact laws_markTaskS.mono _ _ _
   | exact LeO.none _
   | refine LeO.ite ?_ ?_
   | refine LeO.bind ?_ (fun _ => ?_)
set_option maxHeartbeats 8000000 in
set_option maxRecDepth 100000 in
theorem laws_markFleet.calls (k : Nat) (P0_0_ : Nat → Prop) (u9000_ : Value) (l0_0 : List (S71)) (P0_1_ : Nat → Prop) (u9001_ : Value) (l0_1 : List (S73)) (P0_2_ : Nat → Prop) (u9002_ : Value) (l0_2 : List (S66)) (a0_3 : Int) (a0_4 : Int) (a0_5 : Int) (a1 : Int) (r1 : Int) (r2 : List (S71)) (r3 : List (S73)) (r4 : List (S66)) (w0 w : World) (hB : Below w0.heap.size w0 w) (ho0_0 : Kd.R k71 71 w w0.heap.size P0_0_ u9000_ l0_0) (ho0_1 : Kd.R k73 73 w w0.heap.size P0_1_ u9001_ l0_1) (ho0_2 : Kd.R k66 66 w w0.heap.size P0_2_ u9002_ l0_2) (h : laws_markFleet.f k l0_0 l0_1 l0_2 a0_3 a0_4 a0_5 a1 = some (r1, r2, r3, r4)) :
  Calls Try.prog 25 #[.agg #[u9000_, u9001_, u9002_, .int .i64 a0_3, .int .i64 a0_4, .int .i64 a0_5], .int .i64 a1] w fun e w' => e = .returned (.int .i64 r1) ∧ Kd.R k71 71 w' w0.heap.size (fun k_ => ((P0_0_ k_ ∨ P0_1_ k_ ∨ P0_2_ k_) ∨ w.heap.size ≤ k_)) u9000_ r2 ∧ Kd.R k73 73 w' w0.heap.size (fun k_ => ((P0_0_ k_ ∨ P0_1_ k_ ∨ P0_2_ k_) ∨ w.heap.size ≤ k_)) u9001_ r3 ∧ Kd.R k66 66 w' w0.heap.size (fun k_ => ((P0_0_ k_ ∨ P0_1_ k_ ∨ P0_2_ k_) ∨ w.heap.size ≤ k_)) u9002_ r4 ∧ Below w0.heap.size w0 w' ∧ Kept w w' (fun k_ => P0_0_ k_ ∨ P0_1_ k_ ∨ P0_2_ k_) := by
 have hu33 := Try.underlying33
 have HO0_0 := Aside0.mk (show Kd.R k71 71 w w0.heap.size (fun k_ => ((P0_0_ k_ ∨ P0_1_ k_ ∨ P0_2_ k_) ∨ w.heap.size ≤ k_)) u9000_ l0_0 from Kd.R_mono ho0_0 (fun k_ hk => (.inl (.inl hk))))
 have HO0_1 := Aside0.mk (show Kd.R k73 73 w w0.heap.size (fun k_ => ((P0_0_ k_ ∨ P0_1_ k_ ∨ P0_2_ k_) ∨ w.heap.size ≤ k_)) u9001_ l0_1 from Kd.R_mono ho0_1 (fun k_ hk => (.inl (.inr (.inl hk)))))
 have HO0_2 := Aside0.mk (show Kd.R k66 66 w w0.heap.size (fun k_ => ((P0_0_ k_ ∨ P0_1_ k_ ∨ P0_2_ k_) ∨ w.heap.size ≤ k_)) u9002_ l0_2 from Kd.R_mono ho0_2 (fun k_ hk => (.inl (.inr (.inr hk)))))
 have HK := Aside0.mk (Kept.refl w (fun k_ => P0_0_ k_ ∨ P0_1_ k_ ∨ P0_2_ k_))
 have HW0 := Aside0.mk hB.size
 have HB := Aside0.mk hB
 clear hB
 have H : ((laws_markTaskS.f k l0_0 a1).bind fun bt179 => ((laws_markCarryS.f k l0_1 bt179.1).bind fun bt181 => ((laws_markDefectS.f k l0_2 bt181.1).bind fun bt183 => (some (bt183.1, bt179.2, bt181.2, bt183.2))))) = some (r1, r2, r3, r4) := h
 clear h
 replace H := Option.bind_eq_some_iff.mp H
 obtain ⟨⟨t179, t180⟩, A30, H⟩ := H
 replace H : ((laws_markCarryS.f k l0_1 t179).bind fun bt181 => ((laws_markDefectS.f k l0_2 bt181.1).bind fun bt183 => (some (bt183.1, t180, bt181.2, bt183.2)))) = some (r1, r2, r3, r4) := H
 have A3 := Aside0.mk A30
 clear A30
 replace H := Option.bind_eq_some_iff.mp H
 obtain ⟨⟨t181, t182⟩, A40, H⟩ := H
 replace H : ((laws_markDefectS.f k l0_2 t181).bind fun bt183 => (some (bt183.1, t180, t182, bt183.2))) = some (r1, r2, r3, r4) := H
 have A4 := Aside0.mk A40
 clear A40
 replace H := Option.bind_eq_some_iff.mp H
 obtain ⟨⟨t183, t184⟩, A50, H⟩ := H
 replace H : (some (t183, t180, t182, t184)) = some (r1, r2, r3, r4) := H
 have A5 := Aside0.mk A50
 clear A50
 simp only [Option.some.injEq, Prod.mk.injEq] at H
 obtain ⟨rfl, rfl, rfl, rfl⟩ := H
 obtain ⟨Ao6, co6, eo6⟩ := Kd.R_slice HO0_0.out
 subst eo6
 obtain ⟨Ao7, co7, eo7⟩ := Kd.R_slice HO0_1.out
 subst eo7
 obtain ⟨Ao8, co8, eo8⟩ := Kd.R_slice HO0_2.out
 subst eo8
 go_enter Try.func25, Try.ntmps25
 go_wp2_with (first | ((with_reducible refine gate_dst (N := 2) rfl ?_); refine box_event ?hg (N := 2) ?hd (cs := #[.slice Ao6 l0_0.length co6, .slice Ao7 l0_1.length co7, .slice Ao8 l0_2.length co8, .int .i64 a0_3, .int .i64 a0_4, .int .i64 a0_5]) (t := 33) ?hr ?_; (case hd => rfl); (case hg => rfl); (case hr => first | (go_simp; done) | (go_simp; rfl)); intro gb178 hg w9 hbox hb; have n0_ := Aside0.mk (Kd.R_below (rl HO0_0.out) hb); have n1_ := Aside0.mk (Kd.R_below (rl HO0_1.out) hb); have n2_ := Aside0.mk (Kd.R_below (rl HO0_2.out) hb); have n3_ := Aside0.mk (Kept.below (S := (fun k_ => P0_0_ k_ ∨ P0_1_ k_ ∨ P0_2_ k_)) (by repeat (first | (with_reducible first | exact HK.out | apply Kept.alloc | apply Kept.drewN | apply Kept.drew) | exact HK.out)) hb); have n4_ := Aside0.mk (below_step (bl HB.out) hb); have n5_ := Aside0.mk (hbox); have n6_ := Aside0.mk ((by rw [hg]; exact (by first | exact HK.out.1 | exact (show Kept w _ (fun k_ => P0_0_ k_ ∨ P0_1_ k_ ∨ P0_2_ k_) from by repeat (first | (with_reducible first | exact HK.out | apply Kept.alloc | apply Kept.drewN | apply Kept.drew) | exact HK.out)).1) : w.heap.size ≤ gb178)); have n7_ := Aside0.mk ((by rw [hg]; exact (below_size (bl HB.out)) : w0.heap.size ≤ gb178)); clear HO0_0; clear HO0_1; clear HO0_2; clear HK; clear HB; have HO0_0 := n0_; have HO0_1 := n1_; have HO0_2 := n2_; have HK := n3_; have HB := n4_; have BK178 := n5_; have GW178 := n6_; have GE178 := n7_; clear n0_ n1_ n2_ n3_ n4_ n5_ n6_ n7_; clear hb hbox hg; have hcz10_0 := ck (v := .slice Ao6 l0_0.length co6) BK178.out 0 rfl; have hcz10_1 := ck (v := .slice Ao7 l0_1.length co7) BK178.out 1 rfl; have hcz10_2 := ck (v := .slice Ao8 l0_2.length co8) BK178.out 2 rfl; have hcz10_3 := ck (v := .int .i64 a0_3) BK178.out 3 rfl; have hcz10_4 := ck (v := .int .i64 a0_4) BK178.out 4 rfl; have hcz10_5 := ck (v := .int .i64 a0_5) BK178.out 5 rfl; have hfz10_0 := blk_frozen BK178.out 0; have hfz10_1 := blk_frozen BK178.out 1; have hfz10_2 := blk_frozen BK178.out 2; have hfz10_3 := blk_frozen BK178.out 3; have hfz10_4 := blk_frozen BK178.out 4; have hfz10_5 := blk_frozen BK178.out 5) | ((with_reducible refine gate_callee (f := 58) rfl ?_); refine goesL_ (some 8) rfl rfl Try.func58 (by kernel_rfl) rfl #[.slice Ao6 l0_0.length co6, .int .i64 a1] rfl (by (try simp only [am_]); first | done | rfl) ?_; (with_reducible refine (laws_markTaskS.calls k (fun k_ => some k_ = (.slice Ao6 l0_0.length co6 : Value).ownBlock) (.slice Ao6 l0_0.length co6) l0_0 a1 t179 t180 w0 _ ?side1 ?side2 A3.out).mono ?_); (case side1 => repeat (first | (with_reducible first | exact HB.out | apply below_alloc | apply pw_below_drewN | apply below_drew1 | refine below_set ?_ GE178.out) | exact HB.out)); (case side2 => exact Kd.R_tight rfl HO0_0.out); rintro e w11 ⟨rfl, hy0, hb, hkp⟩; refine ⟨_, rfl, ?_⟩; have n0_ := Aside0.mk (Kd.R_reok rfl hy0 (fun k_ e_ => HO0_0.out.1 k_ e_)); have n1_ := Aside0.mk (Kd.R_mono (ok' := fun k_ => ((P0_0_ k_ ∨ P0_1_ k_ ∨ P0_2_ k_) ∨ w.heap.size ≤ k_)) (Kd.R_keptB ((Kd.R_apart' HO0_1.out (Kd.R_typed HO0_0.out) (by decide))) hkp (fun k_ hk_ hs_ => (hk_.2) hs_)) (fun k_ hk_ => hk_.1.1)); have n2_ := Aside0.mk (Kd.R_mono (ok' := fun k_ => ((P0_0_ k_ ∨ P0_1_ k_ ∨ P0_2_ k_) ∨ w.heap.size ≤ k_)) (Kd.R_keptB ((Kd.R_apart' HO0_2.out (Kd.R_typed HO0_0.out) (by decide))) hkp (fun k_ hk_ hs_ => (hk_.2) hs_)) (fun k_ hk_ => hk_.1.1)); have n3_ := Aside0.mk (blk_kept (bk BK178.out) hkp (fun hs_ => (fun e_ => (Kd.R_ne HO0_0.out BK178.out (by decide)) e_) hs_)); have n4_ := Aside0.mk (Kept.then_ (S := (fun k_ => P0_0_ k_ ∨ P0_1_ k_ ∨ P0_2_ k_)) (by repeat (first | (with_reducible first | exact HK.out | apply Kept.alloc | apply Kept.drewN | apply Kept.drew | refine Kept.setCell ?_ (.inr GW178.out) _) | exact HK.out)) hkp (fun k_ hs_ => (fun e_ => (HO0_0.out.1 k_ e_.symm)) hs_)); have n5_ := Aside0.mk (hb); clear HO0_0; clear HO0_1; clear HO0_2; clear BK178; clear HK; clear HB; have HO0_0 := n0_; have HO0_1 := n1_; have HO0_2 := n2_; have BK178 := n3_; have HK := n4_; have HB := n5_; clear n0_ n1_ n2_ n3_ n4_ n5_; (try clear hb); (try clear hkp); (try clear hy0); have hcz12_0 := ck (v := .slice Ao6 l0_0.length co6) BK178.out 0 rfl; have hcz12_1 := ck (v := .slice Ao7 l0_1.length co7) BK178.out 1 rfl; have hcz12_2 := ck (v := .slice Ao8 l0_2.length co8) BK178.out 2 rfl; have hcz12_3 := ck (v := .int .i64 a0_3) BK178.out 3 rfl; have hcz12_4 := ck (v := .int .i64 a0_4) BK178.out 4 rfl; have hcz12_5 := ck (v := .int .i64 a0_5) BK178.out 5 rfl; have hfz12_0 := blk_frozen BK178.out 0; have hfz12_1 := blk_frozen BK178.out 1; have hfz12_2 := blk_frozen BK178.out 2; have hfz12_3 := blk_frozen BK178.out 3; have hfz12_4 := blk_frozen BK178.out 4; have hfz12_5 := blk_frozen BK178.out 5) | ((with_reducible refine gate_callee (f := 59) rfl ?_); refine goesL_ (some 12) rfl rfl Try.func59 (by kernel_rfl) rfl #[.slice Ao7 l0_1.length co7, .int .i64 t179] rfl (by (try simp only [am_]); first | done | rfl) ?_; (with_reducible refine (laws_markCarryS.calls k (fun k_ => some k_ = (.slice Ao7 l0_1.length co7 : Value).ownBlock) (.slice Ao7 l0_1.length co7) l0_1 t179 t181 t182 w0 _ ?side1 ?side2 A4.out).mono ?_); (case side1 => repeat (first | (with_reducible first | exact HB.out | apply below_alloc | apply pw_below_drewN | apply below_drew1 | refine below_set ?_ GE178.out) | exact HB.out)); (case side2 => exact Kd.R_tight rfl HO0_1.out); rintro e w13 ⟨rfl, hy0, hb, hkp⟩; refine ⟨_, rfl, ?_⟩; have n0_ := Aside0.mk (Kd.R_mono (ok' := fun k_ => ((P0_0_ k_ ∨ P0_1_ k_ ∨ P0_2_ k_) ∨ w.heap.size ≤ k_)) (Kd.R_keptB ((Kd.R_apart' HO0_0.out (Kd.R_typed HO0_1.out) (by decide))) hkp (fun k_ hk_ hs_ => (hk_.2) hs_)) (fun k_ hk_ => hk_.1.1)); have n1_ := Aside0.mk (Kd.R_reok rfl hy0 (fun k_ e_ => HO0_1.out.1 k_ e_)); have n2_ := Aside0.mk (Kd.R_mono (ok' := fun k_ => ((P0_0_ k_ ∨ P0_1_ k_ ∨ P0_2_ k_) ∨ w.heap.size ≤ k_)) (Kd.R_keptB ((Kd.R_apart' HO0_2.out (Kd.R_typed HO0_1.out) (by decide))) hkp (fun k_ hk_ hs_ => (hk_.2) hs_)) (fun k_ hk_ => hk_.1.1)); have n3_ := Aside0.mk (blk_kept (bk BK178.out) hkp (fun hs_ => (fun e_ => (Kd.R_ne HO0_1.out BK178.out (by decide)) e_) hs_)); have n4_ := Aside0.mk (Kept.then_ (S := (fun k_ => P0_0_ k_ ∨ P0_1_ k_ ∨ P0_2_ k_)) (by repeat (first | (with_reducible first | exact HK.out | apply Kept.alloc | apply Kept.drewN | apply Kept.drew | refine Kept.setCell ?_ (.inr GW178.out) _) | exact HK.out)) hkp (fun k_ hs_ => (fun e_ => (HO0_1.out.1 k_ e_.symm)) hs_)); have n5_ := Aside0.mk (hb); clear HO0_0; clear HO0_1; clear HO0_2; clear BK178; clear HK; clear HB; have HO0_0 := n0_; have HO0_1 := n1_; have HO0_2 := n2_; have BK178 := n3_; have HK := n4_; have HB := n5_; clear n0_ n1_ n2_ n3_ n4_ n5_; (try clear hb); (try clear hkp); (try clear hy0); have hcz14_0 := ck (v := .slice Ao6 l0_0.length co6) BK178.out 0 rfl; have hcz14_1 := ck (v := .slice Ao7 l0_1.length co7) BK178.out 1 rfl; have hcz14_2 := ck (v := .slice Ao8 l0_2.length co8) BK178.out 2 rfl; have hcz14_3 := ck (v := .int .i64 a0_3) BK178.out 3 rfl; have hcz14_4 := ck (v := .int .i64 a0_4) BK178.out 4 rfl; have hcz14_5 := ck (v := .int .i64 a0_5) BK178.out 5 rfl; have hfz14_0 := blk_frozen BK178.out 0; have hfz14_1 := blk_frozen BK178.out 1; have hfz14_2 := blk_frozen BK178.out 2; have hfz14_3 := blk_frozen BK178.out 3; have hfz14_4 := blk_frozen BK178.out 4; have hfz14_5 := blk_frozen BK178.out 5) | ((with_reducible refine gate_callee (f := 60) rfl ?_); refine goesL_ (some 16) rfl rfl Try.func60 (by kernel_rfl) rfl #[.slice Ao8 l0_2.length co8, .int .i64 t181] rfl (by (try simp only [am_]); first | done | rfl) ?_; (with_reducible refine (laws_markDefectS.calls k (fun k_ => some k_ = (.slice Ao8 l0_2.length co8 : Value).ownBlock) (.slice Ao8 l0_2.length co8) l0_2 t181 t183 t184 w0 _ ?side1 ?side2 A5.out).mono ?_); (case side1 => repeat (first | (with_reducible first | exact HB.out | apply below_alloc | apply pw_below_drewN | apply below_drew1 | refine below_set ?_ GE178.out) | exact HB.out)); (case side2 => exact Kd.R_tight rfl HO0_2.out); rintro e w15 ⟨rfl, hy0, hb, hkp⟩; refine ⟨_, rfl, ?_⟩; have n0_ := Aside0.mk (Kd.R_mono (ok' := fun k_ => ((P0_0_ k_ ∨ P0_1_ k_ ∨ P0_2_ k_) ∨ w.heap.size ≤ k_)) (Kd.R_keptB ((Kd.R_apart' HO0_0.out (Kd.R_typed HO0_2.out) (by decide))) hkp (fun k_ hk_ hs_ => (hk_.2) hs_)) (fun k_ hk_ => hk_.1.1)); have n1_ := Aside0.mk (Kd.R_mono (ok' := fun k_ => ((P0_0_ k_ ∨ P0_1_ k_ ∨ P0_2_ k_) ∨ w.heap.size ≤ k_)) (Kd.R_keptB ((Kd.R_apart' HO0_1.out (Kd.R_typed HO0_2.out) (by decide))) hkp (fun k_ hk_ hs_ => (hk_.2) hs_)) (fun k_ hk_ => hk_.1.1)); have n2_ := Aside0.mk (Kd.R_reok rfl hy0 (fun k_ e_ => HO0_2.out.1 k_ e_)); have n3_ := Aside0.mk (blk_kept (bk BK178.out) hkp (fun hs_ => (fun e_ => (Kd.R_ne HO0_2.out BK178.out (by decide)) e_) hs_)); have n4_ := Aside0.mk (Kept.then_ (S := (fun k_ => P0_0_ k_ ∨ P0_1_ k_ ∨ P0_2_ k_)) (by repeat (first | (with_reducible first | exact HK.out | apply Kept.alloc | apply Kept.drewN | apply Kept.drew | refine Kept.setCell ?_ (.inr GW178.out) _) | exact HK.out)) hkp (fun k_ hs_ => (fun e_ => (HO0_2.out.1 k_ e_.symm)) hs_)); have n5_ := Aside0.mk (hb); clear HO0_0; clear HO0_1; clear HO0_2; clear BK178; clear HK; clear HB; have HO0_0 := n0_; have HO0_1 := n1_; have HO0_2 := n2_; have BK178 := n3_; have HK := n4_; have HB := n5_; clear n0_ n1_ n2_ n3_ n4_ n5_; (try clear hb); (try clear hkp); (try clear hy0)))
 go_ret
 exact ⟨by first | rfl | (simp [errW_none, errW_some] <;> rfl) | (simp [*, errW_none, errW_some] <;> rfl), by (repeat apply rl1); exact HO0_0.out, by (repeat apply rl1); exact HO0_1.out, by (repeat apply rl1); exact HO0_2.out, by repeat with_reducible first | exact bl HB.out | refine below_set ?_ GE178.out | refine bq ?_, by repeat (first | (with_reducible first | exact HK.out | apply Kept.alloc | apply Kept.drewN | apply Kept.drew | refine Kept.setCell ?_ (.inr GW178.out) _) | exact HK.out)⟩

/-! ### laws_markDesk: function 9 -/
def laws_markDesk.f (k : Nat) (a0_0 : Int) (a0_1 : Int) (a0_2 : Int) (a0_3 : Int) (a0_4 : Int) (l0_5 : List (S84)) (a0_6 : Int) (a0_7 : Int) (a0_8 : Int) (a0_9 : Int) (a0_10 : Int) (a0_11 : Int) (a0_12 : Int) (a0_13 : Int) (a0_14 : Bool) (l0_15 : List (S71)) (l0_16 : List (S73)) (l0_17 : List (S66)) (a0_18 : Int) (a0_19 : Int) (a0_20 : Int) (a1 : Int) : Option (Int × (List (S84)) × (List (S71)) × (List (S73)) × (List (S66))) := (laws_markLegS.f k l0_5 a1).bind fun bt186 => ((laws_markFleet.f k l0_15 l0_16 l0_17 a0_18 a0_19 a0_20 bt186.1).bind fun bt188 => (some (bt188.1, bt186.2, bt188.2.1, bt188.2.2.1, bt188.2.2.2)))
theorem laws_markDesk.mono : ∀ a0 a1 a2 a3 a4 a5 a6 a7 a8 a9 a10 a11 a12 a13 a14 a15 a16 a17 a18 a19 a20 a21 k, LeO (laws_markDesk.f k a0 a1 a2 a3 a4 a5 a6 a7 a8 a9 a10 a11 a12 a13 a14 a15 a16 a17 a18 a19 a20 a21) (laws_markDesk.f (k + 1) a0 a1 a2 a3 a4 a5 a6 a7 a8 a9 a10 a11 a12 a13 a14 a15 a16 a17 a18 a19 a20 a21) := by
 intro a0 a1 a2 a3 a4 a5 a6 a7 a8 a9 a10 a11 a12 a13 a14 a15 a16 a17 a18 a19 a20 a21 k
 unfold laws_markDesk.f
 repeat' first
   | (with_reducible exact laws_markFleet.mono _ _ _ _ _ _ _ _)
   | (with_reducible exact laws_markLegS.mono _ _ _)
   | (with_reducible exact LeO.refl _)
   | (with_reducible exact LeO.none _)
   | (with_reducible refine LeO.ite ?_ ?_)
   | (with_reducible refine LeO.bind ?_ (fun _ => ?_))
   | exact laws_markFleet.mono _ _ _ _ _ _ _ _
   | exact laws_markLegS.mono _ _ _
   | exact LeO.none _
   | refine LeO.ite ?_ ?_
   | refine LeO.bind ?_ (fun _ => ?_)
set_option maxHeartbeats 8000000 in
set_option maxRecDepth 100000 in
theorem laws_markDesk.calls (k : Nat) (a0_0 : Int) (a0_1 : Int) (a0_2 : Int) (a0_3 : Int) (a0_4 : Int) (P0_5_ : Nat → Prop) (u9000_ : Value) (l0_5 : List (S84)) (a0_6 : Int) (a0_7 : Int) (a0_8 : Int) (a0_9 : Int) (a0_10 : Int) (a0_11 : Int) (a0_12 : Int) (a0_13 : Int) (a0_14 : Bool) (P0_15_ : Nat → Prop) (u9001_ : Value) (l0_15 : List (S71)) (P0_16_ : Nat → Prop) (u9002_ : Value) (l0_16 : List (S73)) (P0_17_ : Nat → Prop) (u9003_ : Value) (l0_17 : List (S66)) (a0_18 : Int) (a0_19 : Int) (a0_20 : Int) (a1 : Int) (r1 : Int) (r2 : List (S84)) (r3 : List (S71)) (r4 : List (S73)) (r5 : List (S66)) (w0 w : World) (hB : Below w0.heap.size w0 w) (ho0_5 : Kd.R k84 84 w w0.heap.size P0_5_ u9000_ l0_5) (ho0_15 : Kd.R k71 71 w w0.heap.size P0_15_ u9001_ l0_15) (ho0_16 : Kd.R k73 73 w w0.heap.size P0_16_ u9002_ l0_16) (ho0_17 : Kd.R k66 66 w w0.heap.size P0_17_ u9003_ l0_17) (h : laws_markDesk.f k a0_0 a0_1 a0_2 a0_3 a0_4 l0_5 a0_6 a0_7 a0_8 a0_9 a0_10 a0_11 a0_12 a0_13 a0_14 l0_15 l0_16 l0_17 a0_18 a0_19 a0_20 a1 = some (r1, r2, r3, r4, r5)) :
  Calls Try.prog 9 #[.agg #[.int .i64 a0_0, .int .i64 a0_1, .int .i64 a0_2, .int .i64 a0_3, .int .i64 a0_4, u9000_, .int .i64 a0_6, .int .i64 a0_7, .int .i64 a0_8, .int .i64 a0_9, .int .i64 a0_10, .int .i64 a0_11, .int .i64 a0_12, .int .i64 a0_13, .bool a0_14, u9001_, u9002_, u9003_, .int .i64 a0_18, .int .i64 a0_19, .int .i64 a0_20], .int .i64 a1] w fun e w' => e = .returned (.int .i64 r1) ∧ Kd.R k84 84 w' w0.heap.size (fun k_ => ((P0_5_ k_ ∨ P0_15_ k_ ∨ P0_16_ k_ ∨ P0_17_ k_) ∨ w.heap.size ≤ k_)) u9000_ r2 ∧ Kd.R k71 71 w' w0.heap.size (fun k_ => ((P0_5_ k_ ∨ P0_15_ k_ ∨ P0_16_ k_ ∨ P0_17_ k_) ∨ w.heap.size ≤ k_)) u9001_ r3 ∧ Kd.R k73 73 w' w0.heap.size (fun k_ => ((P0_5_ k_ ∨ P0_15_ k_ ∨ P0_16_ k_ ∨ P0_17_ k_) ∨ w.heap.size ≤ k_)) u9002_ r4 ∧ Kd.R k66 66 w' w0.heap.size (fun k_ => ((P0_5_ k_ ∨ P0_15_ k_ ∨ P0_16_ k_ ∨ P0_17_ k_) ∨ w.heap.size ≤ k_)) u9003_ r5 ∧ Below w0.heap.size w0 w' ∧ Kept w w' (fun k_ => P0_5_ k_ ∨ P0_15_ k_ ∨ P0_16_ k_ ∨ P0_17_ k_) := by
 have hu35 := Try.underlying35
 have hu33 := Try.underlying33
 have HO0_5 := Aside0.mk (show Kd.R k84 84 w w0.heap.size (fun k_ => ((P0_5_ k_ ∨ P0_15_ k_ ∨ P0_16_ k_ ∨ P0_17_ k_) ∨ w.heap.size ≤ k_)) u9000_ l0_5 from Kd.R_mono ho0_5 (fun k_ hk => (.inl (.inl hk))))
 have HO0_15 := Aside0.mk (show Kd.R k71 71 w w0.heap.size (fun k_ => ((P0_5_ k_ ∨ P0_15_ k_ ∨ P0_16_ k_ ∨ P0_17_ k_) ∨ w.heap.size ≤ k_)) u9001_ l0_15 from Kd.R_mono ho0_15 (fun k_ hk => (.inl (.inr (.inl hk)))))
 have HO0_16 := Aside0.mk (show Kd.R k73 73 w w0.heap.size (fun k_ => ((P0_5_ k_ ∨ P0_15_ k_ ∨ P0_16_ k_ ∨ P0_17_ k_) ∨ w.heap.size ≤ k_)) u9002_ l0_16 from Kd.R_mono ho0_16 (fun k_ hk => (.inl (.inr (.inr (.inl hk))))))
 have HO0_17 := Aside0.mk (show Kd.R k66 66 w w0.heap.size (fun k_ => ((P0_5_ k_ ∨ P0_15_ k_ ∨ P0_16_ k_ ∨ P0_17_ k_) ∨ w.heap.size ≤ k_)) u9003_ l0_17 from Kd.R_mono ho0_17 (fun k_ hk => (.inl (.inr (.inr (.inr hk))))))
 have HK := Aside0.mk (Kept.refl w (fun k_ => P0_5_ k_ ∨ P0_15_ k_ ∨ P0_16_ k_ ∨ P0_17_ k_))
 have HW0 := Aside0.mk hB.size
 have HB := Aside0.mk hB
 clear hB
 have H : ((laws_markLegS.f k l0_5 a1).bind fun bt186 => ((laws_markFleet.f k l0_15 l0_16 l0_17 a0_18 a0_19 a0_20 bt186.1).bind fun bt188 => (some (bt188.1, bt186.2, bt188.2.1, bt188.2.2.1, bt188.2.2.2)))) = some (r1, r2, r3, r4, r5) := h
 clear h
 replace H := Option.bind_eq_some_iff.mp H
 obtain ⟨⟨t186, t187⟩, A30, H⟩ := H
 replace H : ((laws_markFleet.f k l0_15 l0_16 l0_17 a0_18 a0_19 a0_20 t186).bind fun bt188 => (some (bt188.1, t187, bt188.2.1, bt188.2.2.1, bt188.2.2.2))) = some (r1, r2, r3, r4, r5) := H
 have A3 := Aside0.mk A30
 clear A30
 replace H := Option.bind_eq_some_iff.mp H
 obtain ⟨⟨t188, t189, t190, t191⟩, A40, H⟩ := H
 replace H : (some (t188, t187, t189, t190, t191)) = some (r1, r2, r3, r4, r5) := H
 have A4 := Aside0.mk A40
 clear A40
 simp only [Option.some.injEq, Prod.mk.injEq] at H
 obtain ⟨rfl, rfl, rfl, rfl, rfl⟩ := H
 obtain ⟨Ao5, co5, eo5⟩ := Kd.R_slice HO0_5.out
 subst eo5
 obtain ⟨Ao6, co6, eo6⟩ := Kd.R_slice HO0_15.out
 subst eo6
 obtain ⟨Ao7, co7, eo7⟩ := Kd.R_slice HO0_16.out
 subst eo7
 obtain ⟨Ao8, co8, eo8⟩ := Kd.R_slice HO0_17.out
 subst eo8
 go_enter Try.func9, Try.ntmps9
 go_wp2_with (first | ((with_reducible refine gate_dst (N := 2) rfl ?_); refine box_event ?hg (N := 2) ?hd (cs := #[.int .i64 a0_0, .int .i64 a0_1, .int .i64 a0_2, .int .i64 a0_3, .int .i64 a0_4, .slice Ao5 l0_5.length co5, .int .i64 a0_6, .int .i64 a0_7, .int .i64 a0_8, .int .i64 a0_9, .int .i64 a0_10, .int .i64 a0_11, .int .i64 a0_12, .int .i64 a0_13, .bool a0_14, .slice Ao6 l0_15.length co6, .slice Ao7 l0_16.length co7, .slice Ao8 l0_17.length co8, .int .i64 a0_18, .int .i64 a0_19, .int .i64 a0_20]) (t := 35) ?hr ?_; (case hd => rfl); (case hg => rfl); (case hr => first | (go_simp; done) | (go_simp; rfl)); intro gb185 hg w9 hbox hb; have n0_ := Aside0.mk (Kd.R_below (rl HO0_5.out) hb); have n1_ := Aside0.mk (Kd.R_below (rl HO0_15.out) hb); have n2_ := Aside0.mk (Kd.R_below (rl HO0_16.out) hb); have n3_ := Aside0.mk (Kd.R_below (rl HO0_17.out) hb); have n4_ := Aside0.mk (Kept.below (S := (fun k_ => P0_5_ k_ ∨ P0_15_ k_ ∨ P0_16_ k_ ∨ P0_17_ k_)) (by repeat (first | (with_reducible first | exact HK.out | apply Kept.alloc | apply Kept.drewN | apply Kept.drew) | exact HK.out)) hb); have n5_ := Aside0.mk (below_step (bl HB.out) hb); have n6_ := Aside0.mk (hbox); have n7_ := Aside0.mk ((by rw [hg]; exact (by first | exact HK.out.1 | exact (show Kept w _ (fun k_ => P0_5_ k_ ∨ P0_15_ k_ ∨ P0_16_ k_ ∨ P0_17_ k_) from by repeat (first | (with_reducible first | exact HK.out | apply Kept.alloc | apply Kept.drewN | apply Kept.drew) | exact HK.out)).1) : w.heap.size ≤ gb185)); have n8_ := Aside0.mk ((by rw [hg]; exact (below_size (bl HB.out)) : w0.heap.size ≤ gb185)); clear HO0_5; clear HO0_15; clear HO0_16; clear HO0_17; clear HK; clear HB; have HO0_5 := n0_; have HO0_15 := n1_; have HO0_16 := n2_; have HO0_17 := n3_; have HK := n4_; have HB := n5_; have BK185 := n6_; have GW185 := n7_; have GE185 := n8_; clear n0_ n1_ n2_ n3_ n4_ n5_ n6_ n7_ n8_; clear hb hbox hg; have hcz10_0 := ck (v := .int .i64 a0_0) BK185.out 0 rfl; have hcz10_1 := ck (v := .int .i64 a0_1) BK185.out 1 rfl; have hcz10_2 := ck (v := .int .i64 a0_2) BK185.out 2 rfl; have hcz10_3 := ck (v := .int .i64 a0_3) BK185.out 3 rfl; have hcz10_4 := ck (v := .int .i64 a0_4) BK185.out 4 rfl; have hcz10_5 := ck (v := .slice Ao5 l0_5.length co5) BK185.out 5 rfl; have hcz10_6 := ck (v := .int .i64 a0_6) BK185.out 6 rfl; have hcz10_7 := ck (v := .int .i64 a0_7) BK185.out 7 rfl; have hcz10_8 := ck (v := .int .i64 a0_8) BK185.out 8 rfl; have hcz10_9 := ck (v := .int .i64 a0_9) BK185.out 9 rfl; have hcz10_10 := ck (v := .int .i64 a0_10) BK185.out 10 rfl; have hcz10_11 := ck (v := .int .i64 a0_11) BK185.out 11 rfl; have hcz10_12 := ck (v := .int .i64 a0_12) BK185.out 12 rfl; have hcz10_13 := ck (v := .int .i64 a0_13) BK185.out 13 rfl; have hcz10_14 := ck (v := .bool a0_14) BK185.out 14 rfl; have hcz10_15 := ck (v := .slice Ao6 l0_15.length co6) BK185.out 15 rfl; have hcz10_16 := ck (v := .slice Ao7 l0_16.length co7) BK185.out 16 rfl; have hcz10_17 := ck (v := .slice Ao8 l0_17.length co8) BK185.out 17 rfl; have hcz10_18 := ck (v := .int .i64 a0_18) BK185.out 18 rfl; have hcz10_19 := ck (v := .int .i64 a0_19) BK185.out 19 rfl; have hcz10_20 := ck (v := .int .i64 a0_20) BK185.out 20 rfl; have hfz10_0 := blk_frozen BK185.out 0; have hfz10_1 := blk_frozen BK185.out 1; have hfz10_2 := blk_frozen BK185.out 2; have hfz10_3 := blk_frozen BK185.out 3; have hfz10_4 := blk_frozen BK185.out 4; have hfz10_5 := blk_frozen BK185.out 5; have hfz10_6 := blk_frozen BK185.out 6; have hfz10_7 := blk_frozen BK185.out 7; have hfz10_8 := blk_frozen BK185.out 8; have hfz10_9 := blk_frozen BK185.out 9; have hfz10_10 := blk_frozen BK185.out 10; have hfz10_11 := blk_frozen BK185.out 11; have hfz10_12 := blk_frozen BK185.out 12; have hfz10_13 := blk_frozen BK185.out 13; have hfz10_14 := blk_frozen BK185.out 14; have hfz10_15 := blk_frozen BK185.out 15; have hfz10_16 := blk_frozen BK185.out 16; have hfz10_17 := blk_frozen BK185.out 17; have hfz10_18 := blk_frozen BK185.out 18; have hfz10_19 := blk_frozen BK185.out 19; have hfz10_20 := blk_frozen BK185.out 20) | ((with_reducible refine gate_callee (f := 24) rfl ?_); refine goesL_ (some 8) rfl rfl Try.func24 (by kernel_rfl) rfl #[.slice Ao5 l0_5.length co5, .int .i64 a1] rfl (by (try simp only [am_]); first | done | rfl) ?_; (with_reducible refine (laws_markLegS.calls k (fun k_ => some k_ = (.slice Ao5 l0_5.length co5 : Value).ownBlock) (.slice Ao5 l0_5.length co5) l0_5 a1 t186 t187 w0 _ ?side1 ?side2 A3.out).mono ?_); (case side1 => repeat (first | (with_reducible first | exact HB.out | apply below_alloc | apply pw_below_drewN | apply below_drew1 | refine below_set ?_ GE185.out) | exact HB.out)); (case side2 => exact Kd.R_tight rfl HO0_5.out); rintro e w11 ⟨rfl, hy0, hb, hkp⟩; refine ⟨_, rfl, ?_⟩; have n0_ := Aside0.mk (Kd.R_reok rfl hy0 (fun k_ e_ => HO0_5.out.1 k_ e_)); have n1_ := Aside0.mk (Kd.R_mono (ok' := fun k_ => ((P0_5_ k_ ∨ P0_15_ k_ ∨ P0_16_ k_ ∨ P0_17_ k_) ∨ w.heap.size ≤ k_)) (Kd.R_keptB ((Kd.R_apart' HO0_15.out (Kd.R_typed HO0_5.out) (by decide))) hkp (fun k_ hk_ hs_ => (hk_.2) hs_)) (fun k_ hk_ => hk_.1.1)); have n2_ := Aside0.mk (Kd.R_mono (ok' := fun k_ => ((P0_5_ k_ ∨ P0_15_ k_ ∨ P0_16_ k_ ∨ P0_17_ k_) ∨ w.heap.size ≤ k_)) (Kd.R_keptB ((Kd.R_apart' HO0_16.out (Kd.R_typed HO0_5.out) (by decide))) hkp (fun k_ hk_ hs_ => (hk_.2) hs_)) (fun k_ hk_ => hk_.1.1)); have n3_ := Aside0.mk (Kd.R_mono (ok' := fun k_ => ((P0_5_ k_ ∨ P0_15_ k_ ∨ P0_16_ k_ ∨ P0_17_ k_) ∨ w.heap.size ≤ k_)) (Kd.R_keptB ((Kd.R_apart' HO0_17.out (Kd.R_typed HO0_5.out) (by decide))) hkp (fun k_ hk_ hs_ => (hk_.2) hs_)) (fun k_ hk_ => hk_.1.1)); have n4_ := Aside0.mk (blk_kept (bk BK185.out) hkp (fun hs_ => (fun e_ => (Kd.R_ne HO0_5.out BK185.out (by decide)) e_) hs_)); have n5_ := Aside0.mk (Kept.then_ (S := (fun k_ => P0_5_ k_ ∨ P0_15_ k_ ∨ P0_16_ k_ ∨ P0_17_ k_)) (by repeat (first | (with_reducible first | exact HK.out | apply Kept.alloc | apply Kept.drewN | apply Kept.drew | refine Kept.setCell ?_ (.inr GW185.out) _) | exact HK.out)) hkp (fun k_ hs_ => (fun e_ => (HO0_5.out.1 k_ e_.symm)) hs_)); have n6_ := Aside0.mk (hb); clear HO0_5; clear HO0_15; clear HO0_16; clear HO0_17; clear BK185; clear HK; clear HB; have HO0_5 := n0_; have HO0_15 := n1_; have HO0_16 := n2_; have HO0_17 := n3_; have BK185 := n4_; have HK := n5_; have HB := n6_; clear n0_ n1_ n2_ n3_ n4_ n5_ n6_; (try clear hb); (try clear hkp); (try clear hy0); have hcz12_0 := ck (v := .int .i64 a0_0) BK185.out 0 rfl; have hcz12_1 := ck (v := .int .i64 a0_1) BK185.out 1 rfl; have hcz12_2 := ck (v := .int .i64 a0_2) BK185.out 2 rfl; have hcz12_3 := ck (v := .int .i64 a0_3) BK185.out 3 rfl; have hcz12_4 := ck (v := .int .i64 a0_4) BK185.out 4 rfl; have hcz12_5 := ck (v := .slice Ao5 l0_5.length co5) BK185.out 5 rfl; have hcz12_6 := ck (v := .int .i64 a0_6) BK185.out 6 rfl; have hcz12_7 := ck (v := .int .i64 a0_7) BK185.out 7 rfl; have hcz12_8 := ck (v := .int .i64 a0_8) BK185.out 8 rfl; have hcz12_9 := ck (v := .int .i64 a0_9) BK185.out 9 rfl; have hcz12_10 := ck (v := .int .i64 a0_10) BK185.out 10 rfl; have hcz12_11 := ck (v := .int .i64 a0_11) BK185.out 11 rfl; have hcz12_12 := ck (v := .int .i64 a0_12) BK185.out 12 rfl; have hcz12_13 := ck (v := .int .i64 a0_13) BK185.out 13 rfl; have hcz12_14 := ck (v := .bool a0_14) BK185.out 14 rfl; have hcz12_15 := ck (v := .slice Ao6 l0_15.length co6) BK185.out 15 rfl; have hcz12_16 := ck (v := .slice Ao7 l0_16.length co7) BK185.out 16 rfl; have hcz12_17 := ck (v := .slice Ao8 l0_17.length co8) BK185.out 17 rfl; have hcz12_18 := ck (v := .int .i64 a0_18) BK185.out 18 rfl; have hcz12_19 := ck (v := .int .i64 a0_19) BK185.out 19 rfl; have hcz12_20 := ck (v := .int .i64 a0_20) BK185.out 20 rfl; have hfz12_0 := blk_frozen BK185.out 0; have hfz12_1 := blk_frozen BK185.out 1; have hfz12_2 := blk_frozen BK185.out 2; have hfz12_3 := blk_frozen BK185.out 3; have hfz12_4 := blk_frozen BK185.out 4; have hfz12_5 := blk_frozen BK185.out 5; have hfz12_6 := blk_frozen BK185.out 6; have hfz12_7 := blk_frozen BK185.out 7; have hfz12_8 := blk_frozen BK185.out 8; have hfz12_9 := blk_frozen BK185.out 9; have hfz12_10 := blk_frozen BK185.out 10; have hfz12_11 := blk_frozen BK185.out 11; have hfz12_12 := blk_frozen BK185.out 12; have hfz12_13 := blk_frozen BK185.out 13; have hfz12_14 := blk_frozen BK185.out 14; have hfz12_15 := blk_frozen BK185.out 15; have hfz12_16 := blk_frozen BK185.out 16; have hfz12_17 := blk_frozen BK185.out 17; have hfz12_18 := blk_frozen BK185.out 18; have hfz12_19 := blk_frozen BK185.out 19; have hfz12_20 := blk_frozen BK185.out 20) | ((with_reducible refine gate_callee (f := 25) rfl ?_); refine goesL_ (some 12) rfl rfl Try.func25 (by kernel_rfl) rfl #[.agg #[.slice Ao6 l0_15.length co6, .slice Ao7 l0_16.length co7, .slice Ao8 l0_17.length co8, .int .i64 a0_18, .int .i64 a0_19, .int .i64 a0_20], .int .i64 t186] rfl (by (try simp only [am_]); first | done | rfl) ?_; (with_reducible refine (laws_markFleet.calls k (fun k_ => some k_ = (.slice Ao6 l0_15.length co6 : Value).ownBlock) (.slice Ao6 l0_15.length co6) l0_15 (fun k_ => some k_ = (.slice Ao7 l0_16.length co7 : Value).ownBlock) (.slice Ao7 l0_16.length co7) l0_16 (fun k_ => some k_ = (.slice Ao8 l0_17.length co8 : Value).ownBlock) (.slice Ao8 l0_17.length co8) l0_17 a0_18 a0_19 a0_20 t186 t188 t189 t190 t191 w0 _ ?side1 ?side2 ?side3 ?side4 A4.out).mono ?_); (case side1 => repeat (first | (with_reducible first | exact HB.out | apply below_alloc | apply pw_below_drewN | apply below_drew1 | refine below_set ?_ GE185.out) | exact HB.out)); (case side2 => exact Kd.R_tight rfl HO0_15.out); (case side3 => exact Kd.R_tight rfl HO0_16.out); (case side4 => exact Kd.R_tight rfl HO0_17.out); rintro e w13 ⟨rfl, hy0, hy1, hy2, hb, hkp⟩; refine ⟨_, rfl, ?_⟩; have n0_ := Aside0.mk (Kd.R_mono (ok' := fun k_ => ((P0_5_ k_ ∨ P0_15_ k_ ∨ P0_16_ k_ ∨ P0_17_ k_) ∨ w.heap.size ≤ k_)) (Kd.R_keptB ((Kd.R_apart' (Kd.R_apart' (Kd.R_apart' HO0_5.out (Kd.R_typed HO0_15.out) (by decide)) (Kd.R_typed HO0_16.out) (by decide)) (Kd.R_typed HO0_17.out) (by decide))) hkp (fun k_ hk_ hs_ => Or.elim hs_ (fun e_ => (hk_.1.1.2) e_) (fun e_ => Or.elim e_ (fun e_ => (hk_.1.2) e_) (fun e_ => (hk_.2) e_)))) (fun k_ hk_ => hk_.1.1.1.1)); have n1_ := Aside0.mk (Kd.R_reok rfl hy0 (fun k_ e_ => HO0_15.out.1 k_ e_)); have n2_ := Aside0.mk (Kd.R_reok rfl hy1 (fun k_ e_ => HO0_16.out.1 k_ e_)); have n3_ := Aside0.mk (Kd.R_reok rfl hy2 (fun k_ e_ => HO0_17.out.1 k_ e_)); have n4_ := Aside0.mk (blk_kept (bk BK185.out) hkp (fun hs_ => Or.elim hs_ (fun e_ => (fun e_ => (Kd.R_ne HO0_15.out BK185.out (by decide)) e_) e_) (fun e_ => Or.elim e_ (fun e_ => (fun e_ => (Kd.R_ne HO0_16.out BK185.out (by decide)) e_) e_) (fun e_ => (fun e_ => (Kd.R_ne HO0_17.out BK185.out (by decide)) e_) e_)))); have n5_ := Aside0.mk (Kept.then_ (S := (fun k_ => P0_5_ k_ ∨ P0_15_ k_ ∨ P0_16_ k_ ∨ P0_17_ k_)) (by repeat (first | (with_reducible first | exact HK.out | apply Kept.alloc | apply Kept.drewN | apply Kept.drew | refine Kept.setCell ?_ (.inr GW185.out) _) | exact HK.out)) hkp (fun k_ hs_ => Or.elim hs_ (fun e_ => (fun e_ => (HO0_15.out.1 k_ e_.symm)) e_) (fun e_ => Or.elim e_ (fun e_ => (fun e_ => (HO0_16.out.1 k_ e_.symm)) e_) (fun e_ => (fun e_ => (HO0_17.out.1 k_ e_.symm)) e_)))); have n6_ := Aside0.mk (hb); clear HO0_5; clear HO0_15; clear HO0_16; clear HO0_17; clear BK185; clear HK; clear HB; have HO0_5 := n0_; have HO0_15 := n1_; have HO0_16 := n2_; have HO0_17 := n3_; have BK185 := n4_; have HK := n5_; have HB := n6_; clear n0_ n1_ n2_ n3_ n4_ n5_ n6_; (try clear hb); (try clear hkp); (try clear hy0); (try clear hy1); (try clear hy2)))
 go_ret
 exact ⟨by first | rfl | (simp [errW_none, errW_some] <;> rfl) | (simp [*, errW_none, errW_some] <;> rfl), by (repeat apply rl1); exact HO0_5.out, by (repeat apply rl1); exact HO0_15.out, by (repeat apply rl1); exact HO0_16.out, by (repeat apply rl1); exact HO0_17.out, by repeat with_reducible first | exact bl HB.out | refine below_set ?_ GE185.out | refine bq ?_, by repeat (first | (with_reducible first | exact HK.out | apply Kept.alloc | apply Kept.drewN | apply Kept.drew | refine Kept.setCell ?_ (.inr GW185.out) _) | exact HK.out)⟩

/-! ### laws_heldLegS: function 26 -/
def laws_heldLegS.l0 : Nat → List (S84) → Int → Int → Option (Int)
 | 0, _, _, _ => none
 | k + 1, x0, x1, x5 => if x5 < (x0.length : Int) then (if 0 ≤ x5 then (if ((rd_T84 x0 x5).f0) = x1 then (if ((rd_T84 x0 x5).f1) = (wrap64 (x1 + 1)) then (if ((rd_T84 x0 x5).f2) = (wrap64 ((wrap64 (x1 + 1)) + 1)) then (if ((rd_T84 x0 x5).f3) = (wrap64 ((wrap64 ((wrap64 (x1 + 1)) + 1)) + 1)) then (laws_heldLegS.l0 k x0 (wrap64 ((wrap64 ((wrap64 ((wrap64 (x1 + 1)) + 1)) + 1)) + 1)) (wrap64 (x5 + 1))) else (some (-1))) else (some (-1))) else (some (-1))) else (some (-1))) else (none)) else (some x1)
def laws_heldLegS.f (k : Nat) (l0 : List (S84)) (a1 : Int) : Option (Int) := laws_heldLegS.l0 k l0 a1 0
theorem laws_heldLegS.mono_l : ∀ k, (∀ y0 y1 y2, LeO (laws_heldLegS.l0 k y0 y1 y2) (laws_heldLegS.l0 (k + 1) y0 y1 y2))
 | 0 => fun _ _ _ r h => by simp [laws_heldLegS.l0] at h
 | k + 1 => by
  have ih0 := laws_heldLegS.mono_l k
  ·
   intro y0 y1 y2
   unfold laws_heldLegS.l0
   repeat' first
   | (with_reducible exact ih0 _ _ _)
   | (with_reducible exact LeO.refl _)
   | (with_reducible exact LeO.none _)
   | (with_reducible refine LeO.ite ?_ ?_)
   | (with_reducible refine LeO.bind ?_ (fun _ => ?_))
   | exact ih0 _ _ _
   | exact LeO.none _
   | refine LeO.ite ?_ ?_
   | refine LeO.bind ?_ (fun _ => ?_)
theorem laws_heldLegS.mono : ∀ a0 a1 k, LeO (laws_heldLegS.f k a0 a1) (laws_heldLegS.f (k + 1) a0 a1) := by
 intro a0 a1 k
 have ih0 := laws_heldLegS.mono_l k
 unfold laws_heldLegS.f
 repeat' first
   | (with_reducible exact ih0 _ _ _)
   | (with_reducible exact LeO.refl _)
   | (with_reducible exact LeO.none _)
   | (with_reducible refine LeO.ite ?_ ?_)
   | (with_reducible refine LeO.bind ?_ (fun _ => ?_))
   | exact ih0 _ _ _
   | exact LeO.none _
   | refine LeO.ite ?_ ?_
   | refine LeO.bind ?_ (fun _ => ?_)
set_option maxHeartbeats 8000000 in
set_option maxRecDepth 100000 in
theorem laws_heldLegS.calls (k : Nat) (A0 : Option Addr) (c0 : Nat) (l0 : List (S84)) (a1 : Int) (r : Int) (w : World) (hr0 : Kd.C k84 w A0 l0.length l0) (hc0 : l0.length ≤ c0) (h : laws_heldLegS.f k l0 a1 = some r) :
  Calls Try.prog 26 #[.slice A0 l0.length c0, .int .i64 a1] w fun e w' => e = .returned (.int .i64 r) ∧ Drawn0 w w' := by
 have HR0 := Aside0.mk hr0
 have HC0 := Aside0.mk hc0
 clear hr0 hc0
 have H : (laws_heldLegS.l0 k l0 a1 0) = some r := h
 clear h
 have H' := Aside0.mk H
 clear H
 go_enter Try.func26, Try.ntmps26
 go_wp2
 go_loopg [1, 5] k (fun kq v1 v5 w' => ∃ (x1_1 : Int) (x5_1 : Int), v1 = .int .i64 x1_1 ∧ v5 = .int .i64 x5_1 ∧ Aside0 (laws_heldLegS.l0 kq l0 x1_1 x5_1 = some r) ∧ Aside0 (kq ≤ k) ∧ Drawn0 w w')
 case atStart => exact ⟨(a1), (0), (by first | rfl | (simp; done) | (simp [*]; done)), (by first | rfl | (simp; done) | (simp [*]; done)), H', ⟨Nat.le_refl _⟩, by repeat (first | exact Drawn0.refl _ | apply Drawn0.step)⟩
 case round =>
  clear H'
  try clear c2
  try clear p2
  obtain ⟨x1_1, x5_1, rfl, rfl, HA, HK1, ⟨m1, rfl⟩⟩ := hrel
  cases gk with
  | zero => exact absurd HA.out (by simp [laws_heldLegS.l0])
  | succ k1 =>
   have H := HA.out
   clear HA
   simp only [laws_heldLegS.l0] at H
   by_cases c3 : x5_1 < (l0.length : Int)
   ·
    rw [if_pos c3] at H
    have c3b0 : decide (x5_1 < (l0.length : Int)) = true := decide_eq_true c3
    clear c3
    by_cases c4 : 0 ≤ x5_1
    ·
     rw [if_pos c4] at H
     have c4b0 : decide (0 ≤ x5_1) = true := decide_eq_true c4
     clear c4
     by_cases c5 : ((rd_T84 l0 x5_1).f0) = x1_1
     ·
      rw [if_pos c5] at H
      have c5b0 : (((rd_T84 l0 x5_1).f0) == x1_1) = true := beq_iff_eq.mpr c5
      have c5b1 : (((rd_T84 l0 x5_1).f0) != x1_1) = false := bne_eq_false_iff_eq.mpr c5
      clear c5
      by_cases c6 : ((rd_T84 l0 x5_1).f1) = (wrap64 (x1_1 + 1))
      ·
       rw [if_pos c6] at H
       have c6b0 : (((rd_T84 l0 x5_1).f1) == (wrap64 (x1_1 + 1))) = true := beq_iff_eq.mpr c6
       have c6b1 : (((rd_T84 l0 x5_1).f1) != (wrap64 (x1_1 + 1))) = false := bne_eq_false_iff_eq.mpr c6
       clear c6
       by_cases c7 : ((rd_T84 l0 x5_1).f2) = (wrap64 ((wrap64 (x1_1 + 1)) + 1))
       ·
        rw [if_pos c7] at H
        have c7b0 : (((rd_T84 l0 x5_1).f2) == (wrap64 ((wrap64 (x1_1 + 1)) + 1))) = true := beq_iff_eq.mpr c7
        have c7b1 : (((rd_T84 l0 x5_1).f2) != (wrap64 ((wrap64 (x1_1 + 1)) + 1))) = false := bne_eq_false_iff_eq.mpr c7
        clear c7
        by_cases c8 : ((rd_T84 l0 x5_1).f3) = (wrap64 ((wrap64 ((wrap64 (x1_1 + 1)) + 1)) + 1))
        ·
         rw [if_pos c8] at H
         have c8b0 : (((rd_T84 l0 x5_1).f3) == (wrap64 ((wrap64 ((wrap64 (x1_1 + 1)) + 1)) + 1))) = true := beq_iff_eq.mpr c8
         have c8b1 : (((rd_T84 l0 x5_1).f3) != (wrap64 ((wrap64 ((wrap64 (x1_1 + 1)) + 1)) + 1))) = false := bne_eq_false_iff_eq.mpr c8
         clear c8
         have H' := Aside0.mk H
         clear H
         have p192 : 0 ≤ (x5_1 : Int) := of_decide_eq_true (by first | (with_reducible assumption) | assumption)
         have q192 : x5_1 < (l0.length : Int) := of_decide_eq_true (by first | (with_reducible assumption) | assumption)
         obtain ⟨ad192, e192, hx192_0, hx192_1, hx192_2, hx192_3⟩ := at_T84 HR0.out x5_1 p192 q192
         cases e192
         replace p192 := eq_true p192
         replace q192 := eq_true q192
         have p193 : 0 ≤ (x5_1 : Int) := of_decide_eq_true (by first | (with_reducible assumption) | assumption)
         have q193 : x5_1 < (l0.length : Int) := of_decide_eq_true (by first | (with_reducible assumption) | assumption)
         obtain ⟨ad193, e193, hx193_0, hx193_1, hx193_2, hx193_3⟩ := at_T84 HR0.out x5_1 p193 q193
         obtain rfl : ad192 = ad193 := (by injection e193)
         replace p193 := eq_true p193
         replace q193 := eq_true q193
         have p194 : 0 ≤ (x5_1 : Int) := of_decide_eq_true (by first | (with_reducible assumption) | assumption)
         have q194 : x5_1 < (l0.length : Int) := of_decide_eq_true (by first | (with_reducible assumption) | assumption)
         obtain ⟨ad194, e194, hx194_0, hx194_1, hx194_2, hx194_3⟩ := at_T84 HR0.out x5_1 p194 q194
         obtain rfl : ad192 = ad194 := (by injection e194)
         replace p194 := eq_true p194
         replace q194 := eq_true q194
         have p195 : 0 ≤ (x5_1 : Int) := of_decide_eq_true (by first | (with_reducible assumption) | assumption)
         have q195 : x5_1 < (l0.length : Int) := of_decide_eq_true (by first | (with_reducible assumption) | assumption)
         obtain ⟨ad195, e195, hx195_0, hx195_1, hx195_2, hx195_3⟩ := at_T84 HR0.out x5_1 p195 q195
         obtain rfl : ad192 = ad195 := (by injection e195)
         replace p195 := eq_true p195
         replace q195 := eq_true q195
         go_wp2
         go_roundg k1
         case measure => have := HK1.out; omega
         case rel => exact ⟨(wrap64 ((wrap64 ((wrap64 ((wrap64 (x1_1 + 1)) + 1)) + 1)) + 1)), (wrap64 (x5_1 + 1)), (by first | rfl | (simp; done) | (simp [*]; done)), (by first | rfl | (simp; done) | (simp [*]; done)), H', ⟨by have := HK1.out; omega⟩, by repeat (first | exact Drawn0.refl _ | apply Drawn0.step)⟩
        ·
         rw [if_neg c8] at H
         have c8b0 : (((rd_T84 l0 x5_1).f3) == (wrap64 ((wrap64 ((wrap64 (x1_1 + 1)) + 1)) + 1))) = false := beq_eq_false_iff_ne.mpr c8
         have c8b1 : (((rd_T84 l0 x5_1).f3) != (wrap64 ((wrap64 ((wrap64 (x1_1 + 1)) + 1)) + 1))) = true := bne_iff_ne.mpr c8
         obtain rfl := Option.some.inj H
         have p192 : 0 ≤ (x5_1 : Int) := of_decide_eq_true (by first | (with_reducible assumption) | assumption)
         have q192 : x5_1 < (l0.length : Int) := of_decide_eq_true (by first | (with_reducible assumption) | assumption)
         obtain ⟨ad192, e192, hx192_0, hx192_1, hx192_2, hx192_3⟩ := at_T84 HR0.out x5_1 p192 q192
         cases e192
         replace p192 := eq_true p192
         replace q192 := eq_true q192
         have p193 : 0 ≤ (x5_1 : Int) := of_decide_eq_true (by first | (with_reducible assumption) | assumption)
         have q193 : x5_1 < (l0.length : Int) := of_decide_eq_true (by first | (with_reducible assumption) | assumption)
         obtain ⟨ad193, e193, hx193_0, hx193_1, hx193_2, hx193_3⟩ := at_T84 HR0.out x5_1 p193 q193
         obtain rfl : ad192 = ad193 := (by injection e193)
         replace p193 := eq_true p193
         replace q193 := eq_true q193
         have p194 : 0 ≤ (x5_1 : Int) := of_decide_eq_true (by first | (with_reducible assumption) | assumption)
         have q194 : x5_1 < (l0.length : Int) := of_decide_eq_true (by first | (with_reducible assumption) | assumption)
         obtain ⟨ad194, e194, hx194_0, hx194_1, hx194_2, hx194_3⟩ := at_T84 HR0.out x5_1 p194 q194
         obtain rfl : ad192 = ad194 := (by injection e194)
         replace p194 := eq_true p194
         replace q194 := eq_true q194
         have p195 : 0 ≤ (x5_1 : Int) := of_decide_eq_true (by first | (with_reducible assumption) | assumption)
         have q195 : x5_1 < (l0.length : Int) := of_decide_eq_true (by first | (with_reducible assumption) | assumption)
         obtain ⟨ad195, e195, hx195_0, hx195_1, hx195_2, hx195_3⟩ := at_T84 HR0.out x5_1 p195 q195
         obtain rfl : ad192 = ad195 := (by injection e195)
         replace p195 := eq_true p195
         replace q195 := eq_true q195
         go_wp2
         go_ret
         exact ⟨by first | rfl | (simp; done) | (simp [*]; done), by repeat (first | exact Drawn0.refl _ | apply Drawn0.step)⟩
       ·
        rw [if_neg c7] at H
        have c7b0 : (((rd_T84 l0 x5_1).f2) == (wrap64 ((wrap64 (x1_1 + 1)) + 1))) = false := beq_eq_false_iff_ne.mpr c7
        have c7b1 : (((rd_T84 l0 x5_1).f2) != (wrap64 ((wrap64 (x1_1 + 1)) + 1))) = true := bne_iff_ne.mpr c7
        obtain rfl := Option.some.inj H
        have p192 : 0 ≤ (x5_1 : Int) := of_decide_eq_true (by first | (with_reducible assumption) | assumption)
        have q192 : x5_1 < (l0.length : Int) := of_decide_eq_true (by first | (with_reducible assumption) | assumption)
        obtain ⟨ad192, e192, hx192_0, hx192_1, hx192_2, hx192_3⟩ := at_T84 HR0.out x5_1 p192 q192
        cases e192
        replace p192 := eq_true p192
        replace q192 := eq_true q192
        have p193 : 0 ≤ (x5_1 : Int) := of_decide_eq_true (by first | (with_reducible assumption) | assumption)
        have q193 : x5_1 < (l0.length : Int) := of_decide_eq_true (by first | (with_reducible assumption) | assumption)
        obtain ⟨ad193, e193, hx193_0, hx193_1, hx193_2, hx193_3⟩ := at_T84 HR0.out x5_1 p193 q193
        obtain rfl : ad192 = ad193 := (by injection e193)
        replace p193 := eq_true p193
        replace q193 := eq_true q193
        have p194 : 0 ≤ (x5_1 : Int) := of_decide_eq_true (by first | (with_reducible assumption) | assumption)
        have q194 : x5_1 < (l0.length : Int) := of_decide_eq_true (by first | (with_reducible assumption) | assumption)
        obtain ⟨ad194, e194, hx194_0, hx194_1, hx194_2, hx194_3⟩ := at_T84 HR0.out x5_1 p194 q194
        obtain rfl : ad192 = ad194 := (by injection e194)
        replace p194 := eq_true p194
        replace q194 := eq_true q194
        go_wp2
        go_ret
        exact ⟨by first | rfl | (simp; done) | (simp [*]; done), by repeat (first | exact Drawn0.refl _ | apply Drawn0.step)⟩
      ·
       rw [if_neg c6] at H
       have c6b0 : (((rd_T84 l0 x5_1).f1) == (wrap64 (x1_1 + 1))) = false := beq_eq_false_iff_ne.mpr c6
       have c6b1 : (((rd_T84 l0 x5_1).f1) != (wrap64 (x1_1 + 1))) = true := bne_iff_ne.mpr c6
       obtain rfl := Option.some.inj H
       have p192 : 0 ≤ (x5_1 : Int) := of_decide_eq_true (by first | (with_reducible assumption) | assumption)
       have q192 : x5_1 < (l0.length : Int) := of_decide_eq_true (by first | (with_reducible assumption) | assumption)
       obtain ⟨ad192, e192, hx192_0, hx192_1, hx192_2, hx192_3⟩ := at_T84 HR0.out x5_1 p192 q192
       cases e192
       replace p192 := eq_true p192
       replace q192 := eq_true q192
       have p193 : 0 ≤ (x5_1 : Int) := of_decide_eq_true (by first | (with_reducible assumption) | assumption)
       have q193 : x5_1 < (l0.length : Int) := of_decide_eq_true (by first | (with_reducible assumption) | assumption)
       obtain ⟨ad193, e193, hx193_0, hx193_1, hx193_2, hx193_3⟩ := at_T84 HR0.out x5_1 p193 q193
       obtain rfl : ad192 = ad193 := (by injection e193)
       replace p193 := eq_true p193
       replace q193 := eq_true q193
       go_wp2
       go_ret
       exact ⟨by first | rfl | (simp; done) | (simp [*]; done), by repeat (first | exact Drawn0.refl _ | apply Drawn0.step)⟩
     ·
      rw [if_neg c5] at H
      have c5b0 : (((rd_T84 l0 x5_1).f0) == x1_1) = false := beq_eq_false_iff_ne.mpr c5
      have c5b1 : (((rd_T84 l0 x5_1).f0) != x1_1) = true := bne_iff_ne.mpr c5
      obtain rfl := Option.some.inj H
      have p192 : 0 ≤ (x5_1 : Int) := of_decide_eq_true (by first | (with_reducible assumption) | assumption)
      have q192 : x5_1 < (l0.length : Int) := of_decide_eq_true (by first | (with_reducible assumption) | assumption)
      obtain ⟨ad192, e192, hx192_0, hx192_1, hx192_2, hx192_3⟩ := at_T84 HR0.out x5_1 p192 q192
      cases e192
      replace p192 := eq_true p192
      replace q192 := eq_true q192
      go_wp2
      go_ret
      exact ⟨by first | rfl | (simp; done) | (simp [*]; done), by repeat (first | exact Drawn0.refl _ | apply Drawn0.step)⟩
    ·
     rw [if_neg c4] at H
     exact absurd H (by simp)
   ·
    rw [if_neg c3] at H
    have c3b0 : decide (x5_1 < (l0.length : Int)) = false := decide_eq_false c3
    clear c3
    obtain rfl := Option.some.inj H
    go_wp2
    go_ret
    exact ⟨by first | rfl | (simp; done) | (simp [*]; done), by repeat (first | exact Drawn0.refl _ | apply Drawn0.step)⟩

end Go.Proofs.Ytaeoiofdbjfdlaa.PFnExactNewDesk
