-- Written by a program of this session (wip/xprint.py) out of the translation; Lean checks it.
import Derived.Test.YtcdniegjefejcaaPFnExactBoth16x0
import Derived.Test.YtcdniegjefejcaaPFnExactBoth16x3
import Derived.Test.YtcdniegjefejcaaPFnExactBoth16x4
namespace Go.Proofs.Ytcdniegjefejcaa.PFnExactBoth16
open Go.RowKit Go.Proofs.YtcdniegjefejcaaW.PrintWords Go.Proofs.YtcdniegjefejcaaW.PrintLast Go.Proofs.YtcdniegjefejcaaW.PrintMore Go.Proofs.Ytcdniegjefejcaa.Sq
attribute [local go_sem] max2_int min2_int max_two min_two max_three min_three max_four min_four   -- for this text's walks alone
set_option linter.unusedVariables false
set_option linter.unusedSimpArgs false

/-! ### spec_Both16: function 47 -/
mutual
def spec_Both16.j0 : Nat → List (List Int) → List (List Int) → List (S41) → Int → Bool → Int → Int → Int → Option ((List (S41)) × Int × Int × Int × Int)
 | 0, _, _, _, _, _, _, _, _ => none
 | k + 1, x1, x2, x9, x10, x27, x170000, x170001, x170002 => if x27 = true then (some (x9, 0, x170000, x170001, x170002)) else (spec_Both16.l0 k x1 x2 x9 x10 0 x170000 x170001 x170002)
def spec_Both16.l0 : Nat → List (List Int) → List (List Int) → List (S41) → Int → Int → Int → Int → Int → Option ((List (S41)) × Int × Int × Int × Int)
 | 0, _, _, _, _, _, _, _, _ => none
 | k + 1, x1, x2, x9, x10, x11, x170000, x170001, x170002 => if x11 < (x1.length : Int) then (spec_Both16.j2 k x1 x2 x9 x10 x11 true x170000 x170001 x170002) else (spec_Both16.j2 k x1 x2 x9 x10 x11 (decide (x11 < (x2.length : Int))) x170000 x170001 x170002)
def spec_Both16.j2 : Nat → List (List Int) → List (List Int) → List (S41) → Int → Int → Bool → Int → Int → Int → Option ((List (S41)) × Int × Int × Int × Int)
 | 0, _, _, _, _, _, _, _, _, _ => none
 | k + 1, x1, x2, x9, x10, x11, x39, x170000, x170001, x170002 => if x39 = true then (spec_Both16.l1 k x1 x2 x9 x10 x11 0 x170000 x170001 x170002) else (some (x9, x10, x170000, x170001, x170002))
def spec_Both16.l1 : Nat → List (List Int) → List (List Int) → List (S41) → Int → Int → Int → Int → Int → Int → Option ((List (S41)) × Int × Int × Int × Int)
 | 0, _, _, _, _, _, _, _, _, _ => none
 | k + 1, x1, x2, x9, x10, x11, x12, x170000, x170001, x170002 => if x12 < 2 then (if x12 = 1 then (spec_Both16.j4 k x1 x2 x9 x10 x11 x12 x2 x170000 x170001 x170002) else (spec_Both16.j4 k x1 x2 x9 x10 x11 x12 x1 x170000 x170001 x170002)) else (spec_Both16.l0 k x1 x2 x9 x10 (wrap64 (x11 + 1)) x170000 x170001 x170002)
def spec_Both16.j4 : Nat → List (List Int) → List (List Int) → List (S41) → Int → Int → Int → List (List Int) → Int → Int → Int → Option ((List (S41)) × Int × Int × Int × Int)
 | 0, _, _, _, _, _, _, _, _, _, _ => none
 | k + 1, x1, x2, x9, x10, x11, x12, x13, x170000, x170001, x170002 => if x11 ≥ (x13.length : Int) then (spec_Both16.l1 k x1 x2 x9 x10 x11 (wrap64 (x12 + 1)) x170000 x170001 x170002) else (if 0 ≤ x11 then (if x11 < (x13.length : Int) then ((spec_Get16.f k (rd_L1 x13 x11)).bind fun bt175 => (if bt175.2.2.2 = 0 then ((spec_Accept.f k x170000 x170001 x170002 bt175.1 bt175.2.1 bt175.2.2.1).bind fun bt182 => (if bt182.2.2.2.1 = true then (if x9.length < 3518437208883 then (spec_Both16.l1 k x1 x2 (x9 ++ [(⟨bt175.1, bt175.2.1, bt175.2.2.1⟩ : S41)]) (wrap64 (x10 + bt182.2.2.2.2)) x11 (wrap64 (x12 + 1)) bt182.1 bt182.2.1 bt182.2.2.1) else (none)) else (spec_Both16.l1 k x1 x2 x9 x10 x11 (wrap64 (x12 + 1)) x170000 x170001 x170002))) else (spec_Both16.l1 k x1 x2 x9 x10 x11 (wrap64 (x12 + 1)) x170000 x170001 x170002))) else (none)) else (none))
end
def spec_Both16.f (k : Nat) (a0_0 : Int) (a0_1 : Int) (a0_2 : Int) (l1 : List (List Int)) (l2 : List (List Int)) : Option ((List (S41)) × Int × Int × Int × Int) := (some (([] : List (S41)) : List (S41))).bind fun y171 => (if (l1.length : Int) > 200 then (spec_Both16.j0 k l1 l2 y171 0 true a0_0 a0_1 a0_2) else (spec_Both16.j0 k l1 l2 y171 0 (decide ((l2.length : Int) > 200)) a0_0 a0_1 a0_2))
theorem spec_Both16.mono_l : ∀ k, (∀ y0 y1 y2 y3 y4 y5 y6 y7, LeO (spec_Both16.j0 k y0 y1 y2 y3 y4 y5 y6 y7) (spec_Both16.j0 (k + 1) y0 y1 y2 y3 y4 y5 y6 y7)) ∧ (∀ y0 y1 y2 y3 y4 y5 y6 y7, LeO (spec_Both16.l0 k y0 y1 y2 y3 y4 y5 y6 y7) (spec_Both16.l0 (k + 1) y0 y1 y2 y3 y4 y5 y6 y7)) ∧ (∀ y0 y1 y2 y3 y4 y5 y6 y7 y8, LeO (spec_Both16.j2 k y0 y1 y2 y3 y4 y5 y6 y7 y8) (spec_Both16.j2 (k + 1) y0 y1 y2 y3 y4 y5 y6 y7 y8)) ∧ (∀ y0 y1 y2 y3 y4 y5 y6 y7 y8, LeO (spec_Both16.l1 k y0 y1 y2 y3 y4 y5 y6 y7 y8) (spec_Both16.l1 (k + 1) y0 y1 y2 y3 y4 y5 y6 y7 y8)) ∧ (∀ y0 y1 y2 y3 y4 y5 y6 y7 y8 y9, LeO (spec_Both16.j4 k y0 y1 y2 y3 y4 y5 y6 y7 y8 y9) (spec_Both16.j4 (k + 1) y0 y1 y2 y3 y4 y5 y6 y7 y8 y9))
 | 0 => ⟨fun _ _ _ _ _ _ _ _ r h => by simp [spec_Both16.j0] at h, fun _ _ _ _ _ _ _ _ r h => by simp [spec_Both16.l0] at h, fun _ _ _ _ _ _ _ _ _ r h => by simp [spec_Both16.j2] at h, fun _ _ _ _ _ _ _ _ _ r h => by simp [spec_Both16.l1] at h, fun _ _ _ _ _ _ _ _ _ _ r h => by simp [spec_Both16.j4] at h⟩
 | k + 1 => by
  obtain ⟨ih0, ih1, ih2, ih3, ih4⟩ := spec_Both16.mono_l k
  refine ⟨?_, ?_, ?_, ?_, ?_⟩
  ·
   intro y0 y1 y2 y3 y4 y5 y6 y7
   unfold spec_Both16.j0
   repeat' first
   | (with_reducible exact ih0 _ _ _ _ _ _ _ _)
   | (with_reducible exact ih1 _ _ _ _ _ _ _ _)
   | (with_reducible exact ih2 _ _ _ _ _ _ _ _ _)
   | (with_reducible exact ih3 _ _ _ _ _ _ _ _ _)
   | (with_reducible exact ih4 _ _ _ _ _ _ _ _ _ _)
   | (with_reducible exact spec_Accept.mono _ _ _ _ _ _ _)
   | (with_reducible exact spec_Get16.mono _ _)
   | (with_reducible exact LeO.refl _)
   | (with_reducible exact LeO.none _)
   | (with_reducible refine LeO.ite ?_ ?_)
   | (with_reducible refine LeO.bind ?_ (fun _ => ?_))
   | exact ih0 _ _ _ _ _ _ _ _
   | exact ih1 _ _ _ _ _ _ _ _
   | exact ih2 _ _ _ _ _ _ _ _ _
   | exact ih3 _ _ _ _ _ _ _ _ _
   | exact ih4 _ _ _ _ _ _ _ _ _ _
   | exact spec_Accept.mono _ _ _ _ _ _ _
   | exact spec_Get16.mono _ _
   | exact LeO.none _
   | refine LeO.ite ?_ ?_
   | refine LeO.bind ?_ (fun _ => ?_)
  ·
   intro y0 y1 y2 y3 y4 y5 y6 y7
   unfold spec_Both16.l0
   repeat' first
   | (with_reducible exact ih0 _ _ _ _ _ _ _ _)
   | (with_reducible exact ih1 _ _ _ _ _ _ _ _)
   | (with_reducible exact ih2 _ _ _ _ _ _ _ _ _)
   | (with_reducible exact ih3 _ _ _ _ _ _ _ _ _)
   | (with_reducible exact ih4 _ _ _ _ _ _ _ _ _ _)
   | (with_reducible exact spec_Accept.mono _ _ _ _ _ _ _)
   | (with_reducible exact spec_Get16.mono _ _)
   | (with_reducible exact LeO.refl _)
   | (with_reducible exact LeO.none _)
   | (with_reducible refine LeO.ite ?_ ?_)
   | (with_reducible refine LeO.bind ?_ (fun _ => ?_))
   | exact ih0 _ _ _ _ _ _ _ _
   | exact ih1 _ _ _ _ _ _ _ _
   | exact ih2 _ _ _ _ _ _ _ _ _
   | exact ih3 _ _ _ _ _ _ _ _ _
   | exact ih4 _ _ _ _ _ _ _ _ _ _
   | exact spec_Accept.mono _ _ _ _ _ _ _
   | exact spec_Get16.mono _ _
   | exact LeO.none _
   | refine LeO.ite ?_ ?_
   | refine LeO.bind ?_ (fun _ => ?_)
  ·
   intro y0 y1 y2 y3 y4 y5 y6 y7 y8
   unfold spec_Both16.j2
   repeat' first
   | (with_reducible exact ih0 _ _ _ _ _ _ _ _)
   | (with_reducible exact ih1 _ _ _ _ _ _ _ _)
   | (with_reducible exact ih2 _ _ _ _ _ _ _ _ _)
   | (with_reducible exact ih3 _ _ _ _ _ _ _ _ _)
   | (with_reducible exact ih4 _ _ _ _ _ _ _ _ _ _)
   | (with_reducible exact spec_Accept.mono _ _ _ _ _ _ _)
   | (with_reducible exact spec_Get16.mono _ _)
   | (with_reducible exact LeO.refl _)
   | (with_reducible exact LeO.none _)
   | (with_reducible refine LeO.ite ?_ ?_)
   | (with_reducible refine LeO.bind ?_ (fun _ => ?_))
   | exact ih0 _ _ _ _ _ _ _ _
   | exact ih1 _ _ _ _ _ _ _ _
   | exact ih2 _ _ _ _ _ _ _ _ _
   | exact ih3 _ _ _ _ _ _ _ _ _
   | exact ih4 _ _ _ _ _ _ _ _ _ _
   | exact spec_Accept.mono _ _ _ _ _ _ _
   | exact spec_Get16.mono _ _
   | exact LeO.none _
   | refine LeO.ite ?_ ?_
   | refine LeO.bind ?_ (fun _ => ?_)
  ·
   intro y0 y1 y2 y3 y4 y5 y6 y7 y8
   unfold spec_Both16.l1
   repeat' first
   | (with_reducible exact ih0 _ _ _ _ _ _ _ _)
   | (with_reducible exact ih1 _ _ _ _ _ _ _ _)
   | (with_reducible exact ih2 _ _ _ _ _ _ _ _ _)
   | (with_reducible exact ih3 _ _ _ _ _ _ _ _ _)
   | (with_reducible exact ih4 _ _ _ _ _ _ _ _ _ _)
   | (with_reducible exact spec_Accept.mono _ _ _ _ _ _ _)
   | (with_reducible exact spec_Get16.mono _ _)
   | (with_reducible exact LeO.refl _)
   | (with_reducible exact LeO.none _)
   | (with_reducible refine LeO.ite ?_ ?_)
   | (with_reducible refine LeO.bind ?_ (fun _ => ?_))
   | exact ih0 _ _ _ _ _ _ _ _
   | exact ih1 _ _ _ _ _ _ _ _
   | exact ih2 _ _ _ _ _ _ _ _ _
   | exact ih3 _ _ _ _ _ _ _ _ _
   | exact ih4 _ _ _ _ _ _ _ _ _ _
   | exact spec_Accept.mono _ _ _ _ _ _ _
   | exact spec_Get16.mono _ _
   | exact LeO.none _
   | refine LeO.ite ?_ ?_
   | refine LeO.bind ?_ (fun _ => ?_)
  ·
   intro y0 y1 y2 y3 y4 y5 y6 y7 y8 y9
   unfold spec_Both16.j4
   repeat' first
   | (with_reducible exact ih0 _ _ _ _ _ _ _ _)
   | (with_reducible exact ih1 _ _ _ _ _ _ _ _)
   | (with_reducible exact ih2 _ _ _ _ _ _ _ _ _)
   | (with_reducible exact ih3 _ _ _ _ _ _ _ _ _)
   | (with_reducible exact ih4 _ _ _ _ _ _ _ _ _ _)
   | (with_reducible exact spec_Accept.mono _ _ _ _ _ _ _)
   | (with_reducible exact spec_Get16.mono _ _)
   | (with_reducible exact LeO.refl _)
   | (with_reducible exact LeO.none _)
   | (with_reducible refine LeO.ite ?_ ?_)
   | (with_reducible refine LeO.bind ?_ (fun _ => ?_))
   | exact ih0 _ _ _ _ _ _ _ _
   | exact ih1 _ _ _ _ _ _ _ _
   | exact ih2 _ _ _ _ _ _ _ _ _
   | exact ih3 _ _ _ _ _ _ _ _ _
   | exact ih4 _ _ _ _ _ _ _ _ _ _
   | exact spec_Accept.mono _ _ _ _ _ _ _
   | exact spec_Get16.mono _ _
   | exact LeO.none _
   | refine LeO.ite ?_ ?_
   | refine LeO.bind ?_ (fun _ => ?_)
theorem spec_Both16.mono : ∀ a0 a1 a2 a3 a4 k, LeO (spec_Both16.f k a0 a1 a2 a3 a4) (spec_Both16.f (k + 1) a0 a1 a2 a3 a4) := by
 intro a0 a1 a2 a3 a4 k
 obtain ⟨ih0, ih1, ih2, ih3, ih4⟩ := spec_Both16.mono_l k
 unfold spec_Both16.f
 repeat' first
   | (with_reducible exact ih0 _ _ _ _ _ _ _ _)
   | (with_reducible exact ih1 _ _ _ _ _ _ _ _)
   | (with_reducible exact ih2 _ _ _ _ _ _ _ _ _)
   | (with_reducible exact ih3 _ _ _ _ _ _ _ _ _)
   | (with_reducible exact ih4 _ _ _ _ _ _ _ _ _ _)
   | (with_reducible exact spec_Accept.mono _ _ _ _ _ _ _)
   | (with_reducible exact spec_Get16.mono _ _)
   | (with_reducible exact LeO.refl _)
   | (with_reducible exact LeO.none _)
   | (with_reducible refine LeO.ite ?_ ?_)
   | (with_reducible refine LeO.bind ?_ (fun _ => ?_))
   | exact ih0 _ _ _ _ _ _ _ _
   | exact ih1 _ _ _ _ _ _ _ _
   | exact ih2 _ _ _ _ _ _ _ _ _
   | exact ih3 _ _ _ _ _ _ _ _ _
   | exact ih4 _ _ _ _ _ _ _ _ _ _
   | exact spec_Accept.mono _ _ _ _ _ _ _
   | exact spec_Get16.mono _ _
   | exact LeO.none _
   | refine LeO.ite ?_ ?_
   | refine LeO.bind ?_ (fun _ => ?_)
set_option maxHeartbeats 8000000 in
set_option maxRecDepth 100000 in
theorem spec_Both16.calls (k : Nat) (a0_0 : Int) (a0_1 : Int) (a0_2 : Int) (P1_ : Nat → Prop) (A1 : Option Addr) (c1 : Nat) (l1 : List (List Int)) (P2_ : Nat → Prop) (A2 : Option Addr) (c2 : Nat) (l2 : List (List Int)) (r1 : List (S41)) (r2 : Int) (r3 : Int) (r4 : Int) (r5 : Int) (w : World) (hs1 : Kd.V (Kd.slice 5 (Kd.int .u8)) 28 w w.heap.size (fun k_ => P1_ k_) (.slice A1 l1.length c1) l1) (hs2 : Kd.V (Kd.slice 5 (Kd.int .u8)) 28 w w.heap.size (fun k_ => P2_ k_) (.slice A2 l2.length c2) l2) (h : spec_Both16.f k a0_0 a0_1 a0_2 l1 l2 = some (r1, r2, r3, r4, r5)) :
  Calls Try.prog 47 #[.agg #[.int .i64 a0_0, .int .i64 a0_1, .int .i64 a0_2], .slice A1 l1.length c1, .slice A2 l2.length c2] w fun e w' => ∃ v0_ : Value, e = .returned (.tuple #[v0_, .int .i64 r2, .agg #[.int .i64 r3, .int .i64 r4, .int .i64 r5]]) ∧ Kd.S k41 41 w' w.heap.size (fun k_ => (w.heap.size ≤ k_)) v0_ r1 ∧ Below w.heap.size w w' := by
 have hu25 := Try.underlying25
 have hu41 := Try.underlying41
 have HO1 := Aside0.mk (show Kd.V (Kd.slice 5 (Kd.int .u8)) 28 w w.heap.size (fun k_ => ((P1_ k_ ∨ P2_ k_) ∨ w.heap.size ≤ k_)) (.slice A1 l1.length c1) l1 from Kd.V_mono hs1 (fun k_ hk => .inl (.inl hk)))
 have HO2 := Aside0.mk (show Kd.V (Kd.slice 5 (Kd.int .u8)) 28 w w.heap.size (fun k_ => ((P1_ k_ ∨ P2_ k_) ∨ w.heap.size ≤ k_)) (.slice A2 l2.length c2) l2 from Kd.V_mono hs2 (fun k_ hk => .inl (.inr hk)))
 have HB := Aside0.mk (Below.refl w.heap.size w)
 have H : ((some (([] : List (S41)) : List (S41))).bind fun y171 => (if (l1.length : Int) > 200 then (spec_Both16.j0 k l1 l2 y171 0 true a0_0 a0_1 a0_2) else (spec_Both16.j0 k l1 l2 y171 0 (decide ((l2.length : Int) > 200)) a0_0 a0_1 a0_2))) = some (r1, r2, r3, r4, r5) := h
 clear h
 obtain ⟨y171, hy171⟩ : ∃ y_ : List (S41), y_ = (([] : List (S41))) := ⟨_, rfl⟩
 replace H : (if (l1.length : Int) > 200 then (spec_Both16.j0 k l1 l2 y171 0 true a0_0 a0_1 a0_2) else (spec_Both16.j0 k l1 l2 y171 0 (decide ((l2.length : Int) > 200)) a0_0 a0_1 a0_2)) = some (r1, r2, r3, r4, r5) := by first | (rw [hy171]; with_reducible exact H) | (have H2_ := (Option.bind_some _ _).symm.trans H; rw [hy171]; with_reducible exact H2_) | (have H2_ := (Option.bind_some _ _).symm.trans H; with_reducible exact H2_) | with_reducible exact H | (rw [hy171]; exact H) | exact H
 have Ny171 := Aside0.mk hy171
 clear hy171
 have HC4 := Aside0.mk H
 clear H
 go_enter Try.func47, Try.ntmps47
 go_upto_region 3 with (first | ((with_reducible refine gate_dst (N := 3) rfl ?_); (try (refine gate_guard (by rfl) ?_; dsimp only)); refine box_event ?hg (N := 3) ?hd (cs := #[.int .i64 a0_0, .int .i64 a0_1, .int .i64 a0_2]) (t := 25) ?hr ?_; (case hd => rfl); (case hg => rfl); (case hr => first | (go_simp; done) | (go_simp; rfl)); intro gb169 hg w5 hbox hb; replace HO1 := Aside0.mk (Kd.V_below (Kd.V_elderB (by (with_reducible repeat (first | apply Kd.V_alloc | apply Kd.V_drewN | apply Kd.V_drew)); exact HO1.out) gb169 (Nat.le_of_eq hg.symm)) hb); replace HO2 := Aside0.mk (Kd.V_below (Kd.V_elderB (by (with_reducible repeat (first | apply Kd.V_alloc | apply Kd.V_drewN | apply Kd.V_drew)); exact HO2.out) gb169 (Nat.le_of_eq hg.symm)) hb); have BK169 := Aside0.mk (hbox); have GW169 := Aside0.mk ((by rw [hg]; exact (below_size (bl HB.out)) : w.heap.size ≤ gb169)); have GE169 := GW169; replace HB := Aside0.mk (below_step (bl HB.out) hb); clear hb hbox hg) | ((with_reducible refine gate_dst (N := 8) rfl ?_); (try (refine gate_guard (by rfl) ?_; dsimp only)); refine box_event ?hg (N := 8) ?hd (cs := #[.int .i64 0, .int .i64 0, .int .i64 0]) (t := 25) ?hr ?_; (case hd => rfl); (case hg => rfl); (case hr => first | (go_simp; done) | (go_simp; rfl)); intro gb170 hg w6 hbox hb; replace HO1 := Aside0.mk (Kd.V_below (Kd.V_elderB (by (with_reducible repeat (first | apply Kd.V_alloc | apply Kd.V_drewN | apply Kd.V_drew)); exact HO1.out) gb170 (Nat.le_of_eq hg.symm)) hb); replace HO2 := Aside0.mk (Kd.V_below (Kd.V_elderB (by (with_reducible repeat (first | apply Kd.V_alloc | apply Kd.V_drewN | apply Kd.V_drew)); exact HO2.out) gb170 (Nat.le_of_eq hg.symm)) hb); have BK170 := Aside0.mk (hbox); have GW170 := Aside0.mk ((by rw [hg]; exact (below_size (by repeat with_reducible first | exact bl HB.out | refine below_set ?_ GE169.out | refine bq ?_)) : w.heap.size ≤ gb170)); have GE170 := GW170; replace HB := Aside0.mk (below_step (by repeat with_reducible first | exact bl HB.out | refine below_set ?_ GE169.out | refine bq ?_) hb); have NB169_170 := nb_ hg BK169.out; have NB170_169 := Aside0.mk NB169_170.out.symm; replace BK169 := Aside0.mk (blk_below (bk BK169.out) hb); clear hb hbox hg) | ((with_reducible refine gate_dst (N := 19) rfl ?_); (try (refine gate_guard (by rfl) ?_; dsimp only)); refine Kd.S_lit k41 _ 41 ?hg (N := 19) ?hd (xs := ([] : List (S41))) (inner := []) (ok := fun _ => True) (okp := fun _ => True) ?hr ?hp (fun _ hk => hk) trivial (Below.refl _ _) (Nat.le_refl _) (by simp) ?_; (case hd => rfl); (case hg => rfl); (case hr => first | (go_simp; done) | (go_simp; rfl)); (case hp => exact (Reps.none _ _)); intro v172 w7 ho8 hb hg_ hnew_; clear hg_ hnew_; (first | rw [← Ny171.out] at ho8 | (simp only [Int.reduceToNat] at ho8; rw [← Ny171.out] at ho8)); replace HO1 := Aside0.mk (Kd.V_elder' (by (with_reducible repeat (first | apply Kd.V_alloc | apply Kd.V_drewN | apply Kd.V_drew)); exact HO1.out) (Kd.S_base ho8) hb); replace HO2 := Aside0.mk (Kd.V_elder' (by (with_reducible repeat (first | apply Kd.V_alloc | apply Kd.V_drewN | apply Kd.V_drew)); exact HO2.out) (Kd.S_base ho8) hb); have HO173 := Aside0.mk (Kd.S_lower (Kd.S_newM (M := fun k_ => (w.heap.size ≤ k_)) ho8 (below_size (by repeat with_reducible first | exact bl HB.out | refine below_set ?_ GE169.out | refine below_set ?_ GE170.out | refine bq ?_)) (fun k_ h_ => h_)) (below_size (by repeat with_reducible first | exact bl HB.out | refine below_set ?_ GE169.out | refine below_set ?_ GE170.out | refine bq ?_))); replace BK169 := Aside0.mk (blk_below (bk BK169.out) hb); replace BK170 := Aside0.mk (blk_below (bk BK170.out) hb); replace HB := Aside0.mk (below_step (by repeat with_reducible first | exact bl HB.out | refine below_set ?_ GE169.out | refine below_set ?_ GE170.out | refine bq ?_) hb); clear hb ho8))
 (try simp only [Act.put, List.setIfInBounds_toArray, List.set_cons_zero, List.set_cons_succ])
 go_cut [27] (fun v27 wc => ∃ (kq : Nat) (x27_3 : Bool), v27 = .bool x27_3 ∧ Aside0 (spec_Both16.j0 kq l1 l2 y171 0 x27_3 a0_0 a0_1 a0_2 = some (r1, r2, r3, r4, r5)) ∧ Aside0 (kq ≤ k) ∧ Aside0 (Kd.V (Kd.slice 5 (Kd.int .u8)) 28 wc w.heap.size (fun k_ => ((P1_ k_ ∨ P2_ k_) ∨ w.heap.size ≤ k_) ∧ some k_ ≠ (v172 : Value).ownBlock ∧ k_ ≠ gb169 ∧ k_ ≠ gb170) (.slice A1 l1.length c1) l1) ∧ Aside0 (Kd.V (Kd.slice 5 (Kd.int .u8)) 28 wc w.heap.size (fun k_ => ((P1_ k_ ∨ P2_ k_) ∨ w.heap.size ≤ k_) ∧ some k_ ≠ (v172 : Value).ownBlock ∧ k_ ≠ gb169 ∧ k_ ≠ gb170) (.slice A2 l2.length c2) l2) ∧ Aside0 (Kd.S k41 41 wc w.heap.size (fun k_ => (w.heap.size ≤ k_)) v172 y171) ∧ Aside0 (wc.heap[gb169]? = some (.cells #[.int .i64 a0_0, .int .i64 a0_1, .int .i64 a0_2] 25 (0, 0))) ∧ Aside0 (wc.heap[gb170]? = some (.cells #[.int .i64 0, .int .i64 0, .int .i64 0] 25 (0, 0))) ∧ Aside0 (Below w.heap.size w wc))
 case first =>
  have H := HC4.out
  clear HC4
  by_cases c9 : (l1.length : Int) > 200
  ·
   rw [if_pos c9] at H
   have c9b0 : decide (200 < (l1.length : Int)) = true := decide_eq_true c9
   have c9b1 : decide (200 < l1.length) = true := decide_eq_true (by omega)
   clear c9
   (first | rw [c9b0] | (simp only [i64_w, i32_w]; rw [c9b0]) | rw [c9b1] | skip)
   have H' := Aside0.mk H
   clear H
   go_wp2
   go_meet
   case rel => exact ⟨_, (true), (by first | rfl | (simp; done) | (simp [*]; done)), H', ⟨by first | omega | exact Nat.le_refl _⟩, ⟨by (with_reducible repeat (first | apply Kd.V_alloc | apply Kd.V_drewN | apply Kd.V_drew)); exact Kd.V_mono HO1.out (fun _ hk => ⟨hk.1.1.1, ⟨hk.2, ⟨hk.1.1.2, hk.1.2⟩⟩⟩)⟩, ⟨by (with_reducible repeat (first | apply Kd.V_alloc | apply Kd.V_drewN | apply Kd.V_drew)); exact Kd.V_mono HO2.out (fun _ hk => ⟨hk.1.1.1, ⟨hk.2, ⟨hk.1.1.2, hk.1.2⟩⟩⟩)⟩, ⟨by (repeat apply sl1); exact Kd.S_mono HO173.out (fun _ hk => hk.1)⟩, ⟨bk BK169.out⟩, ⟨bk BK170.out⟩, ⟨by repeat with_reducible first | exact bl HB.out | refine below_set ?_ GE169.out | refine below_set ?_ GE170.out | refine bq ?_⟩⟩
  ·
   rw [if_neg c9] at H
   have c9b0 : decide (200 < (l1.length : Int)) = false := decide_eq_false c9
   have c9b1 : decide (200 < l1.length) = false := decide_eq_false (by omega)
   clear c9
   (first | rw [c9b0] | (simp only [i64_w, i32_w]; rw [c9b0]) | rw [c9b1] | skip)
   have H' := Aside0.mk H
   clear H
   go_wp2
   go_meet
   case rel => exact ⟨_, (decide ((l2.length : Int) > 200)), (by first | rfl | (simp; done) | (simp [*]; done)), H', ⟨by first | omega | exact Nat.le_refl _⟩, ⟨by (with_reducible repeat (first | apply Kd.V_alloc | apply Kd.V_drewN | apply Kd.V_drew)); exact Kd.V_mono HO1.out (fun _ hk => ⟨hk.1.1.1, ⟨hk.2, ⟨hk.1.1.2, hk.1.2⟩⟩⟩)⟩, ⟨by (with_reducible repeat (first | apply Kd.V_alloc | apply Kd.V_drewN | apply Kd.V_drew)); exact Kd.V_mono HO2.out (fun _ hk => ⟨hk.1.1.1, ⟨hk.2, ⟨hk.1.1.2, hk.1.2⟩⟩⟩)⟩, ⟨by (repeat apply sl1); exact Kd.S_mono HO173.out (fun _ hk => hk.1)⟩, ⟨bk BK169.out⟩, ⟨bk BK170.out⟩, ⟨by repeat with_reducible first | exact bl HB.out | refine below_set ?_ GE169.out | refine below_set ?_ GE170.out | refine bq ?_⟩⟩
 case rest =>
  clear HC4
  try clear c1
  try clear c2
  try clear p2
  try clear c4
  try clear c9
  try clear c9b0
  try clear c9b1
  obtain ⟨kq, x27_3, rfl, HA, HJ3, HO_1, HO_2, HO_9, BK169, BK170, HB⟩ := hcut
  cases kq with
  | zero => exact absurd HA.out (by simp [spec_Both16.j0])
  | succ kj3 =>
   have H := HA.out
   clear HA
   simp only [spec_Both16.j0] at H
   by_cases c10 : x27_3 = true
   ·
    subst c10
    have H1 : (some (y171, 0, a0_0, a0_1, a0_2)) = some (r1, r2, r3, r4, r5) := by rw [if_pos rfl] at H; exact H
    clear H
    have H := H1
    clear H1
    simp only [Option.some.injEq, Prod.mk.injEq] at H
    obtain ⟨rfl, rfl, rfl, rfl, rfl⟩ := H
    try go_wp2
    have n0_ := Aside0.mk (Kd.V_drew HO_1.out)
    have n1_ := Aside0.mk (Kd.V_drew HO_2.out)
    have n2_ := Aside0.mk (Kd.S_drew HO_9.out)
    have n3_ := Aside0.mk (blk_drew BK169.out)
    have n4_ := Aside0.mk (blk_drew BK170.out)
    have n5_ := Aside0.mk (below_drew1 HB.out)
    clear HO_1
    clear HO_2
    clear HO_9
    clear BK169
    clear BK170
    clear HB
    have HO_1 := n0_
    have HO_2 := n1_
    have HO_9 := n2_
    have BK169 := n3_
    have BK170 := n4_
    have HB := n5_
    clear n0_ n1_ n2_ n3_ n4_ n5_
    refine start_ (n := 5) (S := fun w' => w'.cell? ⟨gb169, 0, none⟩ = some (.int .i64 a0_0) ∧ w'.cell? ⟨gb169, 1, none⟩ = some (.int .i64 a0_1) ∧ w'.cell? ⟨gb169, 2, none⟩ = some (.int .i64 a0_2)) (ds := []) m0_5 (by kernel_rfl) rfl rfl ⟨ck BK169.out 0 rfl, ck BK169.out 1 rfl, ck BK169.out 2 rfl⟩ (fun hHeld => ?_)
    generalize wc.drew = w11 at HO_1 HO_2 HO_9 BK169 BK170 HB hHeld ⊢
    refine pure_ (i := 0) (N := some 28) (v := ?_) (a' := ?_) m1_5 rfl rfl (by kernel_rfl) (fun _ _ _ h => h) (Or.inl ⟨by rfl, ?_⟩) ?_ ?_
    rotate_left
    ·
     intro w'
     go_simp
     with_reducible rfl
    rotate_left
    ·
     simp only [sp_]
     rfl
    refine pure_ (i := 2) (N := some 6) (v := ?_) (a' := ?_) n85 rfl rfl (by kernel_rfl) (fun _ _ _ h => h) (Or.inl ⟨by rfl, ?_⟩) ?_ ?_
    rotate_left
    ·
     intro w'
     go_simp
     with_reducible rfl
    rotate_left
    ·
     simp only [sp_]
     rfl
    refine pure_ (i := 3) (N := some 7) (v := ?_) (a' := ?_) n86 rfl rfl (by kernel_rfl) (fun _ _ _ h => h) (Or.inl ⟨by rfl, ?_⟩) ?_ ?_
    rotate_left
    ·
     intro w'
     go_simp
     with_reducible rfl
    rotate_left
    ·
     simp only [sp_]
     rfl
    refine take_ (i := 1) (N := some 29) (v := ?_) (a' := ?_) m4_5 rfl rfl (by kernel_rfl) (fun _ _ _ h => h) (Or.inl ⟨by rfl, ?_⟩) hHeld ?_ ?_
    rotate_left
    ·
     rintro w' ⟨s0, s1, s2⟩
     go_simp
     with_reducible rfl
    rotate_left
    ·
     simp only [sp_]
     rfl
    refine one_ (i := 4) (N := none) m5_5 rfl rfl (by kernel_rfl) (by decide) (fun K hK => ?_)
    have hs12 : w11.cell? ⟨gb170, 0, none⟩ = some (.int .i64 0) := ck BK170.out 0 rfl
    have hfs12 := blk_frozen BK170.out 0
    have hns12_0 := NB169_170.out
    have hms12_0 := NB170_169.out
    have hs13 : w11.cell? ⟨gb170, 1, none⟩ = some (.int .i64 0) := ck BK170.out 1 rfl
    have hfs13 := blk_frozen BK170.out 1
    have hns13_0 := NB169_170.out
    have hms13_0 := NB170_169.out
    have hs14 : w11.cell? ⟨gb170, 2, none⟩ = some (.int .i64 0) := ck BK170.out 2 rfl
    have hfs14 := blk_frozen BK170.out 2
    have hns14_0 := NB169_170.out
    have hms14_0 := NB170_169.out
    refine skip_ (w1 := ?_) (by rfl) rfl ?_ ?_
    rotate_left
    ·
     go_simp
     rfl
    refine hK.out _ _ ⟨((cell_far (p := ⟨gb170, _, none⟩) NB169_170.out _).trans (((cell_far (p := ⟨gb170, _, none⟩) NB169_170.out _).trans (((cell_far (p := ⟨gb170, _, none⟩) NB169_170.out _).trans (hHeld.1)))))), ((cell_far (p := ⟨gb170, _, none⟩) NB169_170.out _).trans (((cell_far (p := ⟨gb170, _, none⟩) NB169_170.out _).trans (((cell_far (p := ⟨gb170, _, none⟩) NB169_170.out _).trans (hHeld.2.1)))))), ((cell_far (p := ⟨gb170, _, none⟩) NB169_170.out _).trans (((cell_far (p := ⟨gb170, _, none⟩) NB169_170.out _).trans (((cell_far (p := ⟨gb170, _, none⟩) NB169_170.out _).trans (hHeld.2.2))))))⟩ (fun hHeld => ?_)
    clear hK K
    refine done_ (by kernel_rfl) ?_
    try go_wp2
    refine bodyPost_ret (results_list (rs := [.tmp 6, .tmp 7, .cell 8 25]) rfl (by simp) (.tmp (.tmp (.cell gb170 25 #[.int .i64 a0_0, .int .i64 a0_1, .int .i64 a0_2] (0, 0) _ rfl (by (repeat refine bk1 ?_); refine blk_put (cs := #[.int .i64 a0_0, .int .i64 a0_1, .int .i64 0]) ?_ 2 _ rfl; (repeat refine bk1 ?_); refine blk_put (cs := #[.int .i64 a0_0, .int .i64 0, .int .i64 0]) ?_ 1 _ rfl; (repeat refine bk1 ?_); refine blk_put (cs := #[.int .i64 0, .int .i64 0, .int .i64 0]) ?_ 0 _ rfl; (repeat refine bk1 ?_); exact BK170.out) Try.underlying25 rfl (by kernel_rfl) .nil)))) rfl ?_
    exact ⟨_, by first | rfl | (simp [errW_none, errW_some] <;> rfl) | (simp [*, errW_none, errW_some] <;> rfl), by (repeat apply sl1); exact Kd.S_mono (Kd.S_far (p := ⟨gb170, 2, none⟩) (Kd.S_far (p := ⟨gb170, 1, none⟩) (Kd.S_far (p := ⟨gb170, 0, none⟩) (Kd.S_types HO_9.out BK170.out (by decide)) (fun _ hk => hk.2) (.int .i64 a0_0)) (fun _ hk => hk.2) (.int .i64 a0_1)) (fun _ hk => hk.2) (.int .i64 a0_2)) (fun _ hk => hk.1), by repeat with_reducible first | exact bl HB.out | refine below_set ?_ GE169.out | refine below_set ?_ GE170.out | refine bq ?_⟩
   ·
    replace c10 := Bool.eq_false_iff.mpr c10
    subst c10
    have H1 : (spec_Both16.l0 kj3 l1 l2 y171 0 0 a0_0 a0_1 a0_2) = some (r1, r2, r3, r4, r5) := by rw [if_neg (show ¬ (false = true) by decide)] at H; exact H
    clear H
    have H := H1
    clear H1
    have H' := Aside0.mk H
    clear H
    go_wp2
    go_loopg [9, 10, 11] kj3 (fun kq v9 v10 v11 w' => ∃ (x9_2 : List (S41)) (x10_2 : Int) (x11_2 : Int) (x170000_2 : Int) (x170001_2 : Int) (x170002_2 : Int), v10 = .int .i64 x10_2 ∧ v11 = .int .i64 x11_2 ∧ Aside0 (spec_Both16.l0 kq l1 l2 x9_2 x10_2 x11_2 x170000_2 x170001_2 x170002_2 = some (r1, r2, r3, r4, r5)) ∧ Aside0 (kq ≤ kj3) ∧ Aside0 (Kd.V (Kd.slice 5 (Kd.int .u8)) 28 w' w.heap.size (fun k_ => ((P1_ k_ ∨ P2_ k_) ∨ w.heap.size ≤ k_) ∧ some k_ ≠ (v9 : Value).ownBlock ∧ k_ ≠ gb169 ∧ k_ ≠ gb170) (.slice A1 l1.length c1) l1) ∧ Aside0 (Kd.V (Kd.slice 5 (Kd.int .u8)) 28 w' w.heap.size (fun k_ => ((P1_ k_ ∨ P2_ k_) ∨ w.heap.size ≤ k_) ∧ some k_ ≠ (v9 : Value).ownBlock ∧ k_ ≠ gb169 ∧ k_ ≠ gb170) (.slice A2 l2.length c2) l2) ∧ Aside0 (Kd.S k41 41 w' w.heap.size (fun k_ => (w.heap.size ≤ k_)) v9 x9_2) ∧ Aside0 (w'.heap[gb169]? = some (.cells #[.int .i64 x170000_2, .int .i64 x170001_2, .int .i64 x170002_2] 25 (0, 0))) ∧ Aside0 (w'.heap[gb170]? = some (.cells #[.int .i64 0, .int .i64 0, .int .i64 0] 25 (0, 0))) ∧ Aside0 (Below w.heap.size w w'))
    case atStart => exact ⟨(y171), (0), (0), (a0_0), (a0_1), (a0_2), (by first | rfl | (simp; done) | (simp [*]; done)), (by first | rfl | (simp; done) | (simp [*]; done)), H', ⟨Nat.le_refl _⟩, ⟨by (with_reducible repeat (first | apply Kd.V_alloc | apply Kd.V_drewN | apply Kd.V_drew)); exact HO_1.out⟩, ⟨by (with_reducible repeat (first | apply Kd.V_alloc | apply Kd.V_drewN | apply Kd.V_drew)); exact HO_2.out⟩, ⟨sl HO_9.out⟩, ⟨bk BK169.out⟩, ⟨bk BK170.out⟩, ⟨by repeat with_reducible first | exact bl HB.out | refine below_set ?_ GE169.out | refine below_set ?_ GE170.out | refine bq ?_⟩⟩
    case round =>
     clear H'
     try clear c1
     try clear c2
     try clear p2
     try clear c4
     try clear c9
     try clear c9b0
     try clear c9b1
     try clear c10
     try clear p2
     obtain ⟨x9_2, x10_2, x11_2, x170000_2, x170001_2, x170002_2, rfl, rfl, HA, HK2, HO_1, HO_2, HO_9, BK169, BK170, HB⟩ := hrel
     cases gk with
     | zero => exact absurd HA.out (by simp [spec_Both16.l0])
     | succ k2 =>
      have H := HA.out
      clear HA
      simp only [spec_Both16.l0] at H
      have HC15 := Aside0.mk H
      clear H
      go_upto_region 6 with (fail)
      go_cut [39] (fun v39 wc => ∃ (kq : Nat) (x39_14 : Bool), v39 = .bool x39_14 ∧ Aside0 (spec_Both16.j2 kq l1 l2 x9_2 x10_2 x11_2 x39_14 x170000_2 x170001_2 x170002_2 = some (r1, r2, r3, r4, r5)) ∧ Aside0 (kq ≤ k2) ∧ Aside0 (Kd.V (Kd.slice 5 (Kd.int .u8)) 28 wc w.heap.size (fun k_ => ((P1_ k_ ∨ P2_ k_) ∨ w.heap.size ≤ k_) ∧ some k_ ≠ (u9 : Value).ownBlock ∧ k_ ≠ gb169 ∧ k_ ≠ gb170) (.slice A1 l1.length c1) l1) ∧ Aside0 (Kd.V (Kd.slice 5 (Kd.int .u8)) 28 wc w.heap.size (fun k_ => ((P1_ k_ ∨ P2_ k_) ∨ w.heap.size ≤ k_) ∧ some k_ ≠ (u9 : Value).ownBlock ∧ k_ ≠ gb169 ∧ k_ ≠ gb170) (.slice A2 l2.length c2) l2) ∧ Aside0 (Kd.S k41 41 wc w.heap.size (fun k_ => (w.heap.size ≤ k_)) u9 x9_2) ∧ Aside0 (wc.heap[gb169]? = some (.cells #[.int .i64 x170000_2, .int .i64 x170001_2, .int .i64 x170002_2] 25 (0, 0))) ∧ Aside0 (wc.heap[gb170]? = some (.cells #[.int .i64 0, .int .i64 0, .int .i64 0] 25 (0, 0))) ∧ Aside0 (Below w.heap.size w wc))
      case first =>
       have H := HC15.out
       clear HC15
       by_cases c16 : x11_2 < (l1.length : Int)
       ·
        rw [if_pos c16] at H
        have c16b0 : decide (x11_2 < (l1.length : Int)) = true := decide_eq_true c16
        clear c16
        (first | rw [c16b0] | (simp only [i64_w, i32_w]; rw [c16b0]) | skip)
        have H' := Aside0.mk H
        clear H
        go_wp2
        go_meet
        case rel => exact ⟨_, (true), (by first | rfl | (simp; done) | (simp [*]; done)), H', ⟨by have := HJ3.out; have := HK2.out; first | omega | exact Nat.le_refl _⟩, ⟨by (with_reducible repeat (first | apply Kd.V_alloc | apply Kd.V_drewN | apply Kd.V_drew)); exact HO_1.out⟩, ⟨by (with_reducible repeat (first | apply Kd.V_alloc | apply Kd.V_drewN | apply Kd.V_drew)); exact HO_2.out⟩, ⟨sl HO_9.out⟩, ⟨bk BK169.out⟩, ⟨bk BK170.out⟩, ⟨by repeat with_reducible first | exact bl HB.out | refine below_set ?_ GE169.out | refine below_set ?_ GE170.out | refine bq ?_⟩⟩
       ·
        rw [if_neg c16] at H
        have c16b0 : decide (x11_2 < (l1.length : Int)) = false := decide_eq_false c16
        clear c16
        (first | rw [c16b0] | (simp only [i64_w, i32_w]; rw [c16b0]) | skip)
        have H' := Aside0.mk H
        clear H
        go_wp2
        go_meet
        case rel => exact ⟨_, (decide (x11_2 < (l2.length : Int))), (by first | rfl | (simp; done) | (simp [*]; done)), H', ⟨by have := HJ3.out; have := HK2.out; first | omega | exact Nat.le_refl _⟩, ⟨by (with_reducible repeat (first | apply Kd.V_alloc | apply Kd.V_drewN | apply Kd.V_drew)); exact HO_1.out⟩, ⟨by (with_reducible repeat (first | apply Kd.V_alloc | apply Kd.V_drewN | apply Kd.V_drew)); exact HO_2.out⟩, ⟨sl HO_9.out⟩, ⟨bk BK169.out⟩, ⟨bk BK170.out⟩, ⟨by repeat with_reducible first | exact bl HB.out | refine below_set ?_ GE169.out | refine below_set ?_ GE170.out | refine bq ?_⟩⟩
      case rest =>
       clear HC15
       try clear c1
       try clear c2
       try clear p2
       try clear c4
       try clear c9
       try clear c9b0
       try clear c9b1
       try clear c10
       try clear c16
       try clear c16b0
       try clear p2
       obtain ⟨kq, x39_14, rfl, HA, HJ14, HO_1, HO_2, HO_9, BK169, BK170, HB⟩ := hcut
       cases kq with
       | zero => exact absurd HA.out (by simp [spec_Both16.j2])
       | succ kj14 =>
        have H := HA.out
        clear HA
        simp only [spec_Both16.j2] at H
        by_cases c17 : x39_14 = true
        ·
         subst c17
         have H1 : (spec_Both16.l1 kj14 l1 l2 x9_2 x10_2 x11_2 0 x170000_2 x170001_2 x170002_2) = some (r1, r2, r3, r4, r5) := by rw [if_pos rfl] at H; exact H
         clear H
         have H := H1
         clear H1
         have H' := Aside0.mk H
         clear H
         go_wp2
         go_loopg [9, 10, 12] kj14 (fun kq v9 v10 v12 w' => ∃ (x9_4 : List (S41)) (x10_4 : Int) (x12_4 : Int) (x170000_4 : Int) (x170001_4 : Int) (x170002_4 : Int), v10 = .int .i64 x10_4 ∧ v12 = .int .i64 x12_4 ∧ Aside0 (spec_Both16.l1 kq l1 l2 x9_4 x10_4 x11_2 x12_4 x170000_4 x170001_4 x170002_4 = some (r1, r2, r3, r4, r5)) ∧ Aside0 (kq ≤ kj14) ∧ Aside0 (Kd.V (Kd.slice 5 (Kd.int .u8)) 28 w' w.heap.size (fun k_ => ((P1_ k_ ∨ P2_ k_) ∨ w.heap.size ≤ k_) ∧ some k_ ≠ (v9 : Value).ownBlock ∧ k_ ≠ gb169 ∧ k_ ≠ gb170) (.slice A1 l1.length c1) l1) ∧ Aside0 (Kd.V (Kd.slice 5 (Kd.int .u8)) 28 w' w.heap.size (fun k_ => ((P1_ k_ ∨ P2_ k_) ∨ w.heap.size ≤ k_) ∧ some k_ ≠ (v9 : Value).ownBlock ∧ k_ ≠ gb169 ∧ k_ ≠ gb170) (.slice A2 l2.length c2) l2) ∧ Aside0 (Kd.S k41 41 w' w.heap.size (fun k_ => (w.heap.size ≤ k_)) v9 x9_4) ∧ Aside0 (w'.heap[gb169]? = some (.cells #[.int .i64 x170000_4, .int .i64 x170001_4, .int .i64 x170002_4] 25 (0, 0))) ∧ Aside0 (w'.heap[gb170]? = some (.cells #[.int .i64 0, .int .i64 0, .int .i64 0] 25 (0, 0))) ∧ Aside0 (Below w.heap.size w w'))
         case atStart => exact ⟨(x9_2), (x10_2), (0), (x170000_2), (x170001_2), (x170002_2), (by first | rfl | (simp; done) | (simp [*]; done)), (by first | rfl | (simp; done) | (simp [*]; done)), H', ⟨Nat.le_refl _⟩, ⟨by (with_reducible repeat (first | apply Kd.V_alloc | apply Kd.V_drewN | apply Kd.V_drew)); exact HO_1.out⟩, ⟨by (with_reducible repeat (first | apply Kd.V_alloc | apply Kd.V_drewN | apply Kd.V_drew)); exact HO_2.out⟩, ⟨sl HO_9.out⟩, ⟨bk BK169.out⟩, ⟨bk BK170.out⟩, ⟨by repeat with_reducible first | exact bl HB.out | refine below_set ?_ GE169.out | refine below_set ?_ GE170.out | refine bq ?_⟩⟩
         case round =>
          clear H'
          try clear c1
          try clear c2
          try clear p2
          try clear c4
          try clear c9
          try clear c9b0
          try clear c9b1
          try clear c10
          try clear c16
          try clear c16b0
          try clear c17
          try clear p2
          obtain ⟨x9_4, x10_4, x12_4, x170000_4, x170001_4, x170002_4, rfl, rfl, HA, HK4, HO_1, HO_2, HO_9, BK169, BK170, HB⟩ := hrel
          cases gk with
          | zero => exact absurd HA.out (by simp [spec_Both16.l1])
          | succ k4 =>
           have H := HA.out
           clear HA
           simp only [spec_Both16.l1] at H
           by_cases c18 : x12_4 < 2
           ·
            rw [if_pos c18] at H
            have c18b0 : decide (x12_4 < 2) = true := decide_eq_true c18
            clear c18
            have HC19 := Aside0.mk H
            clear H
            go_upto_if 48 with (fail)
            go_cut [13] (fun v13 wc => ∃ (kq : Nat) (x13_18 : List (List Int)), Aside0 (spec_Both16.j4 kq l1 l2 x9_4 x10_4 x11_2 x12_4 x13_18 x170000_4 x170001_4 x170002_4 = some (r1, r2, r3, r4, r5)) ∧ Aside0 (kq ≤ k4) ∧ Aside0 (Kd.V (Kd.slice 5 (Kd.int .u8)) 28 wc w.heap.size (fun k_ => ((P1_ k_ ∨ P2_ k_) ∨ w.heap.size ≤ k_) ∧ some k_ ≠ (u9 : Value).ownBlock ∧ k_ ≠ gb169 ∧ k_ ≠ gb170) (.slice A1 l1.length c1) l1) ∧ Aside0 (Kd.V (Kd.slice 5 (Kd.int .u8)) 28 wc w.heap.size (fun k_ => ((P1_ k_ ∨ P2_ k_) ∨ w.heap.size ≤ k_) ∧ some k_ ≠ (u9 : Value).ownBlock ∧ k_ ≠ gb169 ∧ k_ ≠ gb170) (.slice A2 l2.length c2) l2) ∧ Aside0 (Kd.S k41 41 wc w.heap.size (fun k_ => (w.heap.size ≤ k_)) u9 x9_4) ∧ Aside0 (Kd.V (Kd.slice 5 (Kd.int .u8)) 28 wc w.heap.size (fun k_ => ((P1_ k_ ∨ P2_ k_) ∨ w.heap.size ≤ k_) ∧ some k_ ≠ (u9 : Value).ownBlock ∧ k_ ≠ gb169 ∧ k_ ≠ gb170) v13 x13_18) ∧ Aside0 (wc.heap[gb169]? = some (.cells #[.int .i64 x170000_4, .int .i64 x170001_4, .int .i64 x170002_4] 25 (0, 0))) ∧ Aside0 (wc.heap[gb170]? = some (.cells #[.int .i64 0, .int .i64 0, .int .i64 0] 25 (0, 0))) ∧ Aside0 (Below w.heap.size w wc))
            case first =>
             have H := HC19.out
             clear HC19
             by_cases c20 : x12_4 = 1
             ·
              rw [if_pos c20] at H
              have c20b0 : (x12_4 == 1) = true := beq_iff_eq.mpr c20
              have c20b1 : (x12_4 != 1) = false := bne_eq_false_iff_eq.mpr c20
              clear c20
              (first | rw [c20b0] | (simp only [i64_w, i32_w]; rw [c20b0]) | skip)
              have H' := Aside0.mk H
              clear H
              go_wp2
              go_meet
              case rel => exact ⟨_, (l2), H', ⟨by have := HJ3.out; have := HK2.out; have := HJ14.out; have := HK4.out; first | omega | exact Nat.le_refl _⟩, ⟨by (with_reducible repeat (first | apply Kd.V_alloc | apply Kd.V_drewN | apply Kd.V_drew)); exact HO_1.out⟩, ⟨by (with_reducible repeat (first | apply Kd.V_alloc | apply Kd.V_drewN | apply Kd.V_drew)); exact HO_2.out⟩, ⟨sl HO_9.out⟩, ⟨by (with_reducible repeat (first | apply Kd.V_alloc | apply Kd.V_drewN | apply Kd.V_drew)); exact HO_2.out⟩, ⟨bk BK169.out⟩, ⟨bk BK170.out⟩, ⟨by repeat with_reducible first | exact bl HB.out | refine below_set ?_ GE169.out | refine below_set ?_ GE170.out | refine bq ?_⟩⟩
             ·
              rw [if_neg c20] at H
              have c20b0 : (x12_4 == 1) = false := beq_eq_false_iff_ne.mpr c20
              have c20b1 : (x12_4 != 1) = true := bne_iff_ne.mpr c20
              (first | rw [c20b0] | (simp only [i64_w, i32_w]; rw [c20b0]) | skip)
              have H' := Aside0.mk H
              clear H
              go_wp2
              go_meet
              case rel => exact ⟨_, (l1), H', ⟨by have := HJ3.out; have := HK2.out; have := HJ14.out; have := HK4.out; first | omega | exact Nat.le_refl _⟩, ⟨by (with_reducible repeat (first | apply Kd.V_alloc | apply Kd.V_drewN | apply Kd.V_drew)); exact HO_1.out⟩, ⟨by (with_reducible repeat (first | apply Kd.V_alloc | apply Kd.V_drewN | apply Kd.V_drew)); exact HO_2.out⟩, ⟨sl HO_9.out⟩, ⟨by (with_reducible repeat (first | apply Kd.V_alloc | apply Kd.V_drewN | apply Kd.V_drew)); exact HO_1.out⟩, ⟨bk BK169.out⟩, ⟨bk BK170.out⟩, ⟨by repeat with_reducible first | exact bl HB.out | refine below_set ?_ GE169.out | refine below_set ?_ GE170.out | refine bq ?_⟩⟩
            case rest =>
             clear HC19
             try clear c1
             try clear c2
             try clear p2
             try clear c4
             try clear c9
             try clear c9b0
             try clear c9b1
             try clear c10
             try clear c16
             try clear c16b0
             try clear c17
             try clear c18
             try clear c18b0
             try clear c20
             try clear c20b0
             try clear c20b1
             try clear p2
             obtain ⟨kq, x13_18, HA, HJ18, HO_1, HO_2, HO_9, HO_13, BK169, BK170, HB⟩ := hcut
             cases kq with
             | zero => exact absurd HA.out (by simp [spec_Both16.j4])
             | succ kj18 =>
              have H := HA.out
              clear HA
              simp only [spec_Both16.j4] at H
              by_cases c21 : x11_2 ≥ (x13_18.length : Int)
              ·
               rw [if_pos c21] at H
               have c21b0 : decide ((x13_18.length : Int) ≤ x11_2) = true := decide_eq_true c21
               clear c21
               have H' := Aside0.mk H
               clear H
               obtain ⟨Ao22, co22, eo22⟩ := Kd.V_slice HO_13.out
               subst eo22
               go_wp2
               go_roundg kj18
               case measure => have := HJ3.out; have := HK2.out; have := HJ14.out; have := HK4.out; have := HJ18.out; omega
               case rel => exact ⟨(x9_4), (x10_4), (wrap64 (x12_4 + 1)), (x170000_4), (x170001_4), (x170002_4), (by first | rfl | (simp; done) | (simp [*]; done)), (by first | rfl | (simp; done) | (simp [*]; done)), H', ⟨by have := HJ3.out; have := HK2.out; have := HJ14.out; have := HK4.out; have := HJ18.out; omega⟩, ⟨by (with_reducible repeat (first | apply Kd.V_alloc | apply Kd.V_drewN | apply Kd.V_drew)); exact HO_1.out⟩, ⟨by (with_reducible repeat (first | apply Kd.V_alloc | apply Kd.V_drewN | apply Kd.V_drew)); exact HO_2.out⟩, ⟨sl HO_9.out⟩, ⟨bk BK169.out⟩, ⟨bk BK170.out⟩, ⟨by repeat with_reducible first | exact bl HB.out | refine below_set ?_ GE169.out | refine below_set ?_ GE170.out | refine bq ?_⟩⟩
              ·
               rw [if_neg c21] at H
               have c21b0 : decide ((x13_18.length : Int) ≤ x11_2) = false := decide_eq_false c21
               clear c21
               by_cases c23 : 0 ≤ x11_2
               ·
                rw [if_pos c23] at H
                have c23b0 : decide (0 ≤ x11_2) = true := decide_eq_true c23
                clear c23
                by_cases c24 : x11_2 < (x13_18.length : Int)
                ·
                 rw [if_pos c24] at H
                 have c24b0 : decide (x11_2 < (x13_18.length : Int)) = true := decide_eq_true c24
                 clear c24
                 replace H := Option.bind_eq_some_iff.mp H
                 obtain ⟨⟨t175, t176, t177, t180⟩, A250, H⟩ := H
                 replace H : (if t180 = 0 then ((spec_Accept.f kj18 x170000_4 x170001_4 x170002_4 t175 t176 t177).bind fun bt182 => (if bt182.2.2.2.1 = true then (if x9_4.length < 3518437208883 then (spec_Both16.l1 kj18 l1 l2 (x9_4 ++ [(⟨t175, t176, t177⟩ : S41)]) (wrap64 (x10_4 + bt182.2.2.2.2)) x11_2 (wrap64 (x12_4 + 1)) bt182.1 bt182.2.1 bt182.2.2.1) else (none)) else (spec_Both16.l1 kj18 l1 l2 x9_4 x10_4 x11_2 (wrap64 (x12_4 + 1)) x170000_4 x170001_4 x170002_4))) else (spec_Both16.l1 kj18 l1 l2 x9_4 x10_4 x11_2 (wrap64 (x12_4 + 1)) x170000_4 x170001_4 x170002_4)) = some (r1, r2, r3, r4, r5) := H
                 have A25 := Aside0.mk A250
                 clear A250
                 by_cases c26 : t180 = 0
                 ·
                  rw [if_pos c26] at H
                  have c26b0 : (t180 == 0) = true := beq_iff_eq.mpr c26
                  have c26b1 : (t180 != 0) = false := bne_eq_false_iff_eq.mpr c26
                  clear c26
                  replace H := Option.bind_eq_some_iff.mp H
                  obtain ⟨⟨t182, t183, t184, t185, t186⟩, A270, H⟩ := H
                  replace H : (if t185 = true then (if x9_4.length < 3518437208883 then (spec_Both16.l1 kj18 l1 l2 (x9_4 ++ [(⟨t175, t176, t177⟩ : S41)]) (wrap64 (x10_4 + t186)) x11_2 (wrap64 (x12_4 + 1)) t182 t183 t184) else (none)) else (spec_Both16.l1 kj18 l1 l2 x9_4 x10_4 x11_2 (wrap64 (x12_4 + 1)) x170000_4 x170001_4 x170002_4)) = some (r1, r2, r3, r4, r5) := H
                  have A27 := Aside0.mk A270
                  clear A270
                  by_cases c28 : t185 = true
                  ·
                   subst c28
                   have H1 : (if x9_4.length < 3518437208883 then (spec_Both16.l1 kj18 l1 l2 (x9_4 ++ [(⟨t175, t176, t177⟩ : S41)]) (wrap64 (x10_4 + t186)) x11_2 (wrap64 (x12_4 + 1)) t182 t183 t184) else (none)) = some (r1, r2, r3, r4, r5) := by rw [if_pos rfl] at H; exact H
                   clear H
                   have H := H1
                   clear H1
                   by_cases c29 : x9_4.length < 3518437208883
                   ·
                    rw [if_pos c29] at H
                    have LMc29 := Aside0.mk c29
                    clear c29
                    obtain ⟨y188, hy188⟩ : ∃ y_ : List (S41), y_ = (x9_4 ++ [(⟨t175, t176, t177⟩ : S41)]) := ⟨_, rfl⟩
                    replace H : (spec_Both16.l1 kj18 l1 l2 y188 (wrap64 (x10_4 + t186)) x11_2 (wrap64 (x12_4 + 1)) t182 t183 t184) = some (r1, r2, r3, r4, r5) := by first | (rw [hy188]; with_reducible exact H) | (have H2_ := (Option.bind_some _ _).symm.trans H; rw [hy188]; with_reducible exact H2_) | (have H2_ := (Option.bind_some _ _).symm.trans H; with_reducible exact H2_) | with_reducible exact H | (rw [hy188]; exact H) | exact H
                    have Ny188 := Aside0.mk hy188
                    clear hy188
                    have H' := Aside0.mk H
                    clear H
                    obtain ⟨Ao30, co30, eo30⟩ := Kd.V_slice HO_13.out
                    subst eo30
                    have p174 : 0 ≤ (x11_2 : Int) := of_decide_eq_true (by first | (with_reducible assumption) | assumption)
                    have q174 : x11_2 < (x13_18.length : Int) := of_decide_eq_true (by first | (with_reducible assumption) | assumption)
                    obtain ⟨ad174, A174_0, c174_0, e174, hx174_0, hl174_0, hi174_0⟩ := at_L1 (Kd.V_reads' HO_13.out).2.2 x11_2 p174 q174
                    cases e174
                    obtain ⟨ce174, hce174, hMe174, hcc174⟩ := Kd.V_get HO_13.out [] x11_2 p174 (by first | exact q174 | exact of_decide_eq_true (by first | (with_reducible assumption) | assumption) | (have e_ := (Kd.V_reads' HO_13.out).1; omega))
                    obtain ⟨ua174_0, uc174_0, rfl, ul174_0, ge174_0⟩ := Kd.FK_slice_open hMe174
                    have hv174_0 := hcc174 0 _ rfl
                    rw [Nat.add_zero, show ((Kd.slice 5 (Kd.int .u8))).sz = 1 from rfl, Nat.mul_one] at hv174_0
                    replace hv174_0 := Option.some.inj (hv174_0.symm.trans hx174_0)
                    injection hv174_0 with hva_ hvn_ hvc_
                    rw [hva_] at ge174_0
                    rw [hvc_] at ul174_0
                    have HL174_0 := Aside0.mk (show Kd.V (Kd.int .u8) 5 _ w.heap.size _ _ (rd_L1 x13_18 x11_2) from Kd.V_mk ul174_0 ge174_0)
                    clear hva_ hvn_ hvc_ ge174_0 ul174_0
                    clear hcc174 hce174
                    have HR174_0 := Aside0.mk hi174_0
                    have HC174_0 := Aside0.mk hl174_0
                    clear hi174_0 hl174_0
                    replace p174 := eq_true p174
                    replace q174 := eq_true q174
                    go_wp2_with (first | ((with_reducible refine gate_callee (f := 43) rfl ?_); refine goesL_ (some 59) rfl rfl Try.func43 (by kernel_rfl) rfl #[.slice A174_0 (rd_L1 x13_18 x11_2).length c174_0] rfl (by (try simp only [am_]); first | done | rfl) ?_; (with_reducible refine (spec_Get16.calls kj18 _ _ (rd_L1 x13_18 x11_2) t175 t176 t177 t180 _ ?side1 ?side2 A25.out).mono ?_); (case side1 => repeat (first | exact (by repeat (first | (with_reducible exact HR174_0.out) | (with_reducible refine Kd.C_alloc ?_ _) | (with_reducible refine Kd.C_drewN ?_ _) | (with_reducible refine Kd.C_drew ?_) | exact HR174_0.out)) | (with_reducible refine Kd.C_alloc ?_ _) | (with_reducible refine Kd.C_drewN ?_ _) | (with_reducible refine Kd.C_drew ?_))); (case side2 => exact HC174_0.out); rintro e w31 ⟨v178, rfl, ho0, hb⟩; refine ⟨_, rfl, ?_⟩; replace HO_1 := Aside0.mk (Kd.V_elder' (by (with_reducible repeat (first | apply Kd.V_alloc | apply Kd.V_drewN | apply Kd.V_drew)); exact HO_1.out) (Kd.R_base ho0) hb); replace HO_2 := Aside0.mk (Kd.V_elder' (by (with_reducible repeat (first | apply Kd.V_alloc | apply Kd.V_drewN | apply Kd.V_drew)); exact HO_2.out) (Kd.R_base ho0) hb); replace HO_9 := Aside0.mk (Kd.S_elder' (sl HO_9.out) (Kd.R_base ho0) hb); replace HO_13 := Aside0.mk (Kd.V_elder' (by (with_reducible repeat (first | apply Kd.V_alloc | apply Kd.V_drewN | apply Kd.V_drew)); exact HO_13.out) (Kd.R_base ho0) hb); replace HL174_0 := Aside0.mk (Kd.V_elder' (by (with_reducible repeat (first | apply Kd.V_alloc | apply Kd.V_drewN | apply Kd.V_drew)); exact HL174_0.out) (Kd.R_base ho0) hb); have HO179 := Aside0.mk (Kd.R_lower (Kd.R_newM (M := fun k_ => (w.heap.size ≤ k_)) ho0 (below_size (by repeat with_reducible first | exact bl HB.out | refine below_set ?_ GE169.out | refine below_set ?_ GE170.out | refine bq ?_)) (fun k_ h_ => h_)) (below_size (by repeat with_reducible first | exact bl HB.out | refine below_set ?_ GE169.out | refine below_set ?_ GE170.out | refine bq ?_))); replace BK169 := Aside0.mk (blk_below (bk BK169.out) hb); replace BK170 := Aside0.mk (blk_below (bk BK170.out) hb); replace HR174_0 := Aside0.mk (Kd.C_below (by repeat (first | (with_reducible exact HR174_0.out) | (with_reducible refine Kd.C_alloc ?_ _) | (with_reducible refine Kd.C_drewN ?_ _) | (with_reducible refine Kd.C_drew ?_) | exact HR174_0.out)) hb); replace HB := Aside0.mk (below_step (by repeat with_reducible first | exact bl HB.out | refine below_set ?_ GE169.out | refine below_set ?_ GE170.out | refine bq ?_) hb); (try clear hb); (try clear hb2); (try clear hk); (try clear hi); (try clear ho0)) | ((with_reducible refine gate_dst (N := 14) rfl ?_); (try (refine gate_guard (by rfl) ?_; dsimp only)); refine box_event ?hg (N := 14) ?hd (cs := #[.int .i64 0, .int .i64 0, .slice none 0 0]) (t := 41) ?hr ?_; (case hd => rfl); (case hg => rfl); (case hr => first | (go_simp; done) | (go_simp; rfl)); intro gb181 hg w32 hbox hb; replace HO_1 := Aside0.mk (Kd.V_below (Kd.V_elderB (by (with_reducible repeat (first | apply Kd.V_alloc | apply Kd.V_drewN | apply Kd.V_drew)); exact HO_1.out) gb181 (Nat.le_of_eq hg.symm)) hb); replace HO_2 := Aside0.mk (Kd.V_below (Kd.V_elderB (by (with_reducible repeat (first | apply Kd.V_alloc | apply Kd.V_drewN | apply Kd.V_drew)); exact HO_2.out) gb181 (Nat.le_of_eq hg.symm)) hb); replace HO_9 := Aside0.mk (Kd.S_below (Kd.S_elderB (sl HO_9.out) gb181 (Nat.le_of_eq hg.symm)) hb); replace HO_13 := Aside0.mk (Kd.V_below (Kd.V_elderB (by (with_reducible repeat (first | apply Kd.V_alloc | apply Kd.V_drewN | apply Kd.V_drew)); exact HO_13.out) gb181 (Nat.le_of_eq hg.symm)) hb); replace HL174_0 := Aside0.mk (Kd.V_below (Kd.V_elderB (by (with_reducible repeat (first | apply Kd.V_alloc | apply Kd.V_drewN | apply Kd.V_drew)); exact HL174_0.out) gb181 (Nat.le_of_eq hg.symm)) hb); replace HO179 := Aside0.mk (Kd.R_below (rl HO179.out) hb); replace HR174_0 := Aside0.mk (Kd.C_below (by repeat (first | (with_reducible exact HR174_0.out) | (with_reducible refine Kd.C_alloc ?_ _) | (with_reducible refine Kd.C_drewN ?_ _) | (with_reducible refine Kd.C_drew ?_) | exact HR174_0.out)) hb); have BK181 := Aside0.mk (hbox); have GW181 := Aside0.mk ((by rw [hg]; exact (below_size (by repeat with_reducible first | exact bl HB.out | refine below_set ?_ GE169.out | refine below_set ?_ GE170.out | refine bq ?_)) : w.heap.size ≤ gb181)); have GE181 := GW181; replace HB := Aside0.mk (below_step (by repeat with_reducible first | exact bl HB.out | refine below_set ?_ GE169.out | refine below_set ?_ GE170.out | refine bq ?_) hb); have NB169_181 := nb_ hg BK169.out; have NB181_169 := Aside0.mk NB169_181.out.symm; replace BK169 := Aside0.mk (blk_below (bk BK169.out) hb); have NB170_181 := nb_ hg BK170.out; have NB181_170 := Aside0.mk NB170_181.out.symm; replace BK170 := Aside0.mk (blk_below (bk BK170.out) hb); clear hb hbox hg; have hnb33 := NB181_169.out; have hnc33 := NB169_181.out; have hnb34 := NB181_170.out; have hnc34 := NB170_181.out; obtain ⟨hcz35_0, hcz35_1, hcz35_2⟩ := ck3 BK181.out; obtain ⟨hfz35_0, hfz35_1, hfz35_2⟩ := fz3 BK181.out; obtain ⟨Ao36, co36, eo36⟩ := Kd.R_slice HO179.out; subst eo36; have hnb37 := NB169_170.out; have hnc37 := NB170_169.out; obtain ⟨hcz38_0, hcz38_1, hcz38_2⟩ := ck3 BK169.out; obtain ⟨hfz38_0, hfz38_1, hfz38_2⟩ := fz3 BK169.out) | ((with_reducible refine gate_callee (f := 41) rfl ?_); refine goesL_ (some 67) rfl rfl Try.func41 (by kernel_rfl) rfl #[.agg #[.int .i64 x170000_4, .int .i64 x170001_4, .int .i64 x170002_4], .agg #[.int .i64 t175, .int .i64 t176, .slice Ao36 t177.length co36]] rfl (by (try simp only [am_]); first | done | rfl) ?_; (with_reducible refine (spec_Accept.calls kj18 x170000_4 x170001_4 x170002_4 t175 t176 _ _ t177 t182 t183 t184 true t186 _ ?side1 ?side2 A27.out).mono ?_); (case side1 => refine (Kd.R_reads' (e := 5) (base := w.heap.size) (ok := fun k_ => ((w.heap.size ≤ k_) ∧ True)) (n := t177.length) (c := co36) ?_).2.2; exact (by (repeat apply rl1); exact (Kd.R_mono (Kd.R_far (p := ⟨gb181, 2, none⟩) (Kd.R_far (p := ⟨gb181, 1, none⟩) (Kd.R_far (p := ⟨gb181, 0, none⟩) (Kd.R_types HO179.out BK181.out (by decide)) (fun _ hk => hk.2) (.int .i64 t175)) (fun _ hk => hk.2) (.int .i64 t176)) (fun _ hk => hk.2) (.slice Ao36 t177.length co36)) (fun _ h_ => h_.1)))); (case side2 => exact (Kd.R_reads' HO179.out).2.1); rintro e w39 ⟨rfl, hb⟩; refine ⟨_, rfl, ?_⟩; replace HO_1 := Aside0.mk (Kd.V_below (by (with_reducible repeat (first | apply Kd.V_alloc | apply Kd.V_drewN | apply Kd.V_drew)); exact (Kd.V_mono (Kd.V_far (p := ⟨gb181, 2, none⟩) (Kd.V_far (p := ⟨gb181, 1, none⟩) (Kd.V_far (p := ⟨gb181, 0, none⟩) (Kd.V_mono HO_1.out (fun k_ hk => (⟨hk, hk.2⟩ : _ ∧ k_ ≠ gb181))) (fun _ hk => hk.2) (.int .i64 t175)) (fun _ hk => hk.2) (.int .i64 t176)) (fun _ hk => hk.2) (.slice Ao36 t177.length co36)) (fun _ h_ => h_.1))) hb); replace HO_2 := Aside0.mk (Kd.V_below (by (with_reducible repeat (first | apply Kd.V_alloc | apply Kd.V_drewN | apply Kd.V_drew)); exact (Kd.V_mono (Kd.V_far (p := ⟨gb181, 2, none⟩) (Kd.V_far (p := ⟨gb181, 1, none⟩) (Kd.V_far (p := ⟨gb181, 0, none⟩) (Kd.V_mono HO_2.out (fun k_ hk => (⟨hk, hk.2⟩ : _ ∧ k_ ≠ gb181))) (fun _ hk => hk.2) (.int .i64 t175)) (fun _ hk => hk.2) (.int .i64 t176)) (fun _ hk => hk.2) (.slice Ao36 t177.length co36)) (fun _ h_ => h_.1))) hb); replace HO_9 := Aside0.mk (Kd.S_below (by (repeat apply sl1); exact (Kd.S_mono (Kd.S_far (p := ⟨gb181, 2, none⟩) (Kd.S_far (p := ⟨gb181, 1, none⟩) (Kd.S_far (p := ⟨gb181, 0, none⟩) (Kd.S_mono HO_9.out (fun k_ hk => (⟨hk, hk.2⟩ : _ ∧ k_ ≠ gb181))) (fun _ hk => hk.2) (.int .i64 t175)) (fun _ hk => hk.2) (.int .i64 t176)) (fun _ hk => hk.2) (.slice Ao36 t177.length co36)) (fun _ h_ => h_.1))) hb); replace HO_13 := Aside0.mk (Kd.V_below (by (with_reducible repeat (first | apply Kd.V_alloc | apply Kd.V_drewN | apply Kd.V_drew)); exact (Kd.V_mono (Kd.V_far (p := ⟨gb181, 2, none⟩) (Kd.V_far (p := ⟨gb181, 1, none⟩) (Kd.V_far (p := ⟨gb181, 0, none⟩) (Kd.V_mono HO_13.out (fun k_ hk => (⟨hk, hk.2⟩ : _ ∧ k_ ≠ gb181))) (fun _ hk => hk.2) (.int .i64 t175)) (fun _ hk => hk.2) (.int .i64 t176)) (fun _ hk => hk.2) (.slice Ao36 t177.length co36)) (fun _ h_ => h_.1))) hb); replace HO179 := Aside0.mk (Kd.R_below (by (repeat apply rl1); exact (Kd.R_mono (Kd.R_far (p := ⟨gb181, 2, none⟩) (Kd.R_far (p := ⟨gb181, 1, none⟩) (Kd.R_far (p := ⟨gb181, 0, none⟩) (Kd.R_types HO179.out BK181.out (by decide)) (fun _ hk => hk.2) (.int .i64 t175)) (fun _ hk => hk.2) (.int .i64 t176)) (fun _ hk => hk.2) (.slice Ao36 t177.length co36)) (fun _ h_ => h_.1))) hb); replace BK169 := Aside0.mk (blk_below (g := gb169) (o := .cells #[.int .i64 x170000_4, .int .i64 x170001_4, .int .i64 x170002_4] 25 (0, 0)) (by (repeat refine bk1 ?_); refine blk_far ?_ NB169_181.out _; (repeat refine bk1 ?_); refine blk_far ?_ NB169_181.out _; (repeat refine bk1 ?_); refine blk_far ?_ NB169_181.out _; (repeat refine bk1 ?_); exact BK169.out) hb); replace BK170 := Aside0.mk (blk_below (g := gb170) (o := .cells #[.int .i64 0, .int .i64 0, .int .i64 0] 25 (0, 0)) (by (repeat refine bk1 ?_); refine blk_far ?_ NB170_181.out _; (repeat refine bk1 ?_); refine blk_far ?_ NB170_181.out _; (repeat refine bk1 ?_); refine blk_far ?_ NB170_181.out _; (repeat refine bk1 ?_); exact BK170.out) hb); replace HR174_0 := Aside0.mk (Kd.C_below ((Kd.V_reads' (by (with_reducible repeat (first | apply Kd.V_alloc | apply Kd.V_drewN | apply Kd.V_drew)); exact (Kd.V_mono (Kd.V_far (p := ⟨gb181, 2, none⟩) (Kd.V_far (p := ⟨gb181, 1, none⟩) (Kd.V_far (p := ⟨gb181, 0, none⟩) (Kd.V_mono HL174_0.out (fun k_ hk => (⟨hk, hk.2⟩ : _ ∧ k_ ≠ gb181))) (fun _ hk => hk.2) (.int .i64 t175)) (fun _ hk => hk.2) (.int .i64 t176)) (fun _ hk => hk.2) (.slice Ao36 t177.length co36)) (fun _ h_ => h_.1)))).2.2) hb); replace HL174_0 := Aside0.mk (Kd.V_below (by (with_reducible repeat (first | apply Kd.V_alloc | apply Kd.V_drewN | apply Kd.V_drew)); exact (Kd.V_mono (Kd.V_far (p := ⟨gb181, 2, none⟩) (Kd.V_far (p := ⟨gb181, 1, none⟩) (Kd.V_far (p := ⟨gb181, 0, none⟩) (Kd.V_mono HL174_0.out (fun k_ hk => (⟨hk, hk.2⟩ : _ ∧ k_ ≠ gb181))) (fun _ hk => hk.2) (.int .i64 t175)) (fun _ hk => hk.2) (.int .i64 t176)) (fun _ hk => hk.2) (.slice Ao36 t177.length co36)) (fun _ h_ => h_.1))) hb); replace BK181 := Aside0.mk (blk_below (g := gb181) (o := .cells #[.int .i64 t175, .int .i64 t176, .slice Ao36 t177.length co36] 41 (0, 0)) (by (repeat refine bk1 ?_); refine blk_put (cs := #[.int .i64 t175, .int .i64 t176, .slice none 0 0]) ?_ 2 _ rfl; (repeat refine bk1 ?_); refine blk_put (cs := #[.int .i64 t175, .int .i64 0, .slice none 0 0]) ?_ 1 _ rfl; (repeat refine bk1 ?_); refine blk_put (cs := #[.int .i64 0, .int .i64 0, .slice none 0 0]) ?_ 0 _ rfl; (repeat refine bk1 ?_); exact BK181.out) hb); replace HB := Aside0.mk (below_step (by repeat with_reducible first | exact bl HB.out | refine below_set ?_ GE169.out | refine below_set ?_ GE170.out | refine below_set ?_ GE181.out | refine bq ?_) hb); (try clear hb); (try clear hb2); (try clear hk); (try clear hi)) | ((with_reducible refine gate_dst (N := 16) rfl ?_); (try (refine gate_guard (by rfl) ?_; dsimp only)); refine box_event ?hg (N := 16) ?hd (cs := #[.int .i64 0, .int .i64 0, .int .i64 0]) (t := 25) ?hr ?_; (case hd => rfl); (case hg => rfl); (case hr => first | (go_simp; done) | (go_simp; rfl)); intro gb187 hg w40 hbox hb; replace HO_1 := Aside0.mk (Kd.V_below (Kd.V_elderB (by (with_reducible repeat (first | apply Kd.V_alloc | apply Kd.V_drewN | apply Kd.V_drew)); exact HO_1.out) gb187 (Nat.le_of_eq hg.symm)) hb); replace HO_2 := Aside0.mk (Kd.V_below (Kd.V_elderB (by (with_reducible repeat (first | apply Kd.V_alloc | apply Kd.V_drewN | apply Kd.V_drew)); exact HO_2.out) gb187 (Nat.le_of_eq hg.symm)) hb); replace HO_9 := Aside0.mk (Kd.S_below (sl HO_9.out) hb); replace HO_13 := Aside0.mk (Kd.V_below (Kd.V_elderB (by (with_reducible repeat (first | apply Kd.V_alloc | apply Kd.V_drewN | apply Kd.V_drew)); exact HO_13.out) gb187 (Nat.le_of_eq hg.symm)) hb); replace HL174_0 := Aside0.mk (Kd.V_below (Kd.V_elderB (by (with_reducible repeat (first | apply Kd.V_alloc | apply Kd.V_drewN | apply Kd.V_drew)); exact HL174_0.out) gb187 (Nat.le_of_eq hg.symm)) hb); replace HO179 := Aside0.mk (Kd.R_below (rl HO179.out) hb); replace HR174_0 := Aside0.mk (Kd.C_below (by repeat (first | (with_reducible exact HR174_0.out) | (with_reducible refine Kd.C_alloc ?_ _) | (with_reducible refine Kd.C_drewN ?_ _) | (with_reducible refine Kd.C_drew ?_) | exact HR174_0.out)) hb); have BK187 := Aside0.mk (hbox); have GW187 := Aside0.mk ((by rw [hg]; exact (below_size (by repeat with_reducible first | exact bl HB.out | refine below_set ?_ GE169.out | refine below_set ?_ GE170.out | refine below_set ?_ GE181.out | refine bq ?_)) : w.heap.size ≤ gb187)); have GE187 := GW187; replace HB := Aside0.mk (below_step (by repeat with_reducible first | exact bl HB.out | refine below_set ?_ GE169.out | refine below_set ?_ GE170.out | refine below_set ?_ GE181.out | refine bq ?_) hb); have NB169_187 := nb_ hg BK169.out; have NB187_169 := Aside0.mk NB169_187.out.symm; replace BK169 := Aside0.mk (blk_below (bk BK169.out) hb); have NB170_187 := nb_ hg BK170.out; have NB187_170 := Aside0.mk NB170_187.out.symm; replace BK170 := Aside0.mk (blk_below (bk BK170.out) hb); have NB181_187 := nb_ hg BK181.out; have NB187_181 := Aside0.mk NB181_187.out.symm; replace BK181 := Aside0.mk (blk_below (bk BK181.out) hb); clear hb hbox hg; have hnb41 := NB187_169.out; have hnc41 := NB169_187.out; have hnb42 := NB187_170.out; have hnc42 := NB170_187.out; have hnb43 := NB187_181.out; have hnc43 := NB181_187.out; obtain ⟨hcz44_0, hcz44_1, hcz44_2⟩ := ck3 BK187.out; obtain ⟨hfz44_0, hfz44_1, hfz44_2⟩ := fz3 BK187.out) | ((with_reducible refine gate_store (t := 25) (p := 16) rfl ?_); refine store_event (t := 25) (p := 16) (v := ?vo_w45) (w1 := (((w40.setCell ⟨gb187, 0, none⟩ (.int .i64 t182)).setCell ⟨gb187, 1, none⟩ (.int .i64 t183)).setCell ⟨gb187, 2, none⟩ (.int .i64 t184))) ?hg ?ho ?hn ?hr ?_; (case ho => rfl); (case hg => rfl); (case hn => rfl); (case hr => first | (go_simp; done) | (go_simp; rfl)); intro w45 hw; have n0_ : Aside0 (Kd.V (Kd.slice 5 (Kd.int .u8)) 28 w45 w.heap.size (fun k_ => ((P1_ k_ ∨ P2_ k_) ∨ w.heap.size ≤ k_) ∧ some k_ ≠ (u9 : Value).ownBlock ∧ some k_ ≠ (.slice Ao36 t177.length co36 : Value).ownBlock ∧ k_ ≠ gb169 ∧ k_ ≠ gb170 ∧ k_ ≠ gb181 ∧ k_ ≠ gb187) (.slice A1 l1.length c1) l1) := ⟨(by rw [hw]; exact (by (with_reducible repeat (first | apply Kd.V_alloc | apply Kd.V_drewN | apply Kd.V_drew)); exact Kd.V_mono (Kd.V_far (p := ⟨gb187, 2, none⟩) (Kd.V_far (p := ⟨gb187, 1, none⟩) (Kd.V_far (p := ⟨gb187, 0, none⟩) (Kd.V_mono HO_1.out (fun k_ hk => (⟨hk, hk.2⟩ : _ ∧ k_ ≠ gb187))) (fun _ hk => hk.2) (.int .i64 t182)) (fun _ hk => hk.2) (.int .i64 t183)) (fun _ hk => hk.2) (.int .i64 t184)) (fun _ hk => ⟨hk.1.1.1.1.1, ⟨hk.1.1.1.1.2.1, ⟨hk.1.1.1.2, ⟨hk.1.1.1.1.2.2.1, ⟨hk.1.1.1.1.2.2.2, ⟨hk.1.1.2, hk.1.2⟩⟩⟩⟩⟩⟩)))⟩; have n1_ : Aside0 (Kd.V (Kd.slice 5 (Kd.int .u8)) 28 w45 w.heap.size (fun k_ => ((P1_ k_ ∨ P2_ k_) ∨ w.heap.size ≤ k_) ∧ some k_ ≠ (u9 : Value).ownBlock ∧ some k_ ≠ (.slice Ao36 t177.length co36 : Value).ownBlock ∧ k_ ≠ gb169 ∧ k_ ≠ gb170 ∧ k_ ≠ gb181 ∧ k_ ≠ gb187) (.slice A2 l2.length c2) l2) := ⟨(by rw [hw]; exact (by (with_reducible repeat (first | apply Kd.V_alloc | apply Kd.V_drewN | apply Kd.V_drew)); exact Kd.V_mono (Kd.V_far (p := ⟨gb187, 2, none⟩) (Kd.V_far (p := ⟨gb187, 1, none⟩) (Kd.V_far (p := ⟨gb187, 0, none⟩) (Kd.V_mono HO_2.out (fun k_ hk => (⟨hk, hk.2⟩ : _ ∧ k_ ≠ gb187))) (fun _ hk => hk.2) (.int .i64 t182)) (fun _ hk => hk.2) (.int .i64 t183)) (fun _ hk => hk.2) (.int .i64 t184)) (fun _ hk => ⟨hk.1.1.1.1.1, ⟨hk.1.1.1.1.2.1, ⟨hk.1.1.1.2, ⟨hk.1.1.1.1.2.2.1, ⟨hk.1.1.1.1.2.2.2, ⟨hk.1.1.2, hk.1.2⟩⟩⟩⟩⟩⟩)))⟩; have n2_ : Aside0 (Kd.S k41 41 w45 w.heap.size (fun k_ => (w.heap.size ≤ k_) ∧ some k_ ≠ (.slice Ao36 t177.length co36 : Value).ownBlock ∧ k_ ≠ gb181) u9 x9_4) := ⟨(by rw [hw]; exact (by (repeat apply sl1); exact Kd.S_mono (Kd.S_far (p := ⟨gb187, 2, none⟩) (Kd.S_far (p := ⟨gb187, 1, none⟩) (Kd.S_far (p := ⟨gb187, 0, none⟩) (Kd.S_types HO_9.out BK187.out (by decide)) (fun _ hk => hk.2) (.int .i64 t182)) (fun _ hk => hk.2) (.int .i64 t183)) (fun _ hk => hk.2) (.int .i64 t184)) (fun _ hk => ⟨hk.1.1.1, ⟨hk.1.1.2, hk.1.2⟩⟩)))⟩; have n3_ : Aside0 (Kd.V (Kd.slice 5 (Kd.int .u8)) 28 w45 w.heap.size (fun k_ => ((P1_ k_ ∨ P2_ k_) ∨ w.heap.size ≤ k_) ∧ some k_ ≠ (u9 : Value).ownBlock ∧ some k_ ≠ (.slice Ao36 t177.length co36 : Value).ownBlock ∧ k_ ≠ gb169 ∧ k_ ≠ gb170 ∧ k_ ≠ gb181 ∧ k_ ≠ gb187) (.slice (some ad174) x13_18.length co30) x13_18) := ⟨(by rw [hw]; exact (by (with_reducible repeat (first | apply Kd.V_alloc | apply Kd.V_drewN | apply Kd.V_drew)); exact Kd.V_mono (Kd.V_far (p := ⟨gb187, 2, none⟩) (Kd.V_far (p := ⟨gb187, 1, none⟩) (Kd.V_far (p := ⟨gb187, 0, none⟩) (Kd.V_mono HO_13.out (fun k_ hk => (⟨hk, hk.2⟩ : _ ∧ k_ ≠ gb187))) (fun _ hk => hk.2) (.int .i64 t182)) (fun _ hk => hk.2) (.int .i64 t183)) (fun _ hk => hk.2) (.int .i64 t184)) (fun _ hk => ⟨hk.1.1.1.1.1, ⟨hk.1.1.1.1.2.1, ⟨hk.1.1.1.2, ⟨hk.1.1.1.1.2.2.1, ⟨hk.1.1.1.1.2.2.2, ⟨hk.1.1.2, hk.1.2⟩⟩⟩⟩⟩⟩)))⟩; have n4_ : Aside0 (Kd.V (Kd.int .u8) 5 w45 w.heap.size (fun k_ => ((P1_ k_ ∨ P2_ k_) ∨ w.heap.size ≤ k_) ∧ some k_ ≠ (u9 : Value).ownBlock ∧ some k_ ≠ (.slice Ao36 t177.length co36 : Value).ownBlock ∧ k_ ≠ gb169 ∧ k_ ≠ gb170 ∧ k_ ≠ gb181 ∧ k_ ≠ gb187) (.slice A174_0 (rd_L1 x13_18 x11_2).length c174_0) (rd_L1 x13_18 x11_2)) := ⟨(by rw [hw]; exact (by (with_reducible repeat (first | apply Kd.V_alloc | apply Kd.V_drewN | apply Kd.V_drew)); exact Kd.V_mono (Kd.V_far (p := ⟨gb187, 2, none⟩) (Kd.V_far (p := ⟨gb187, 1, none⟩) (Kd.V_far (p := ⟨gb187, 0, none⟩) (Kd.V_mono HL174_0.out (fun k_ hk => (⟨hk, hk.2⟩ : _ ∧ k_ ≠ gb187))) (fun _ hk => hk.2) (.int .i64 t182)) (fun _ hk => hk.2) (.int .i64 t183)) (fun _ hk => hk.2) (.int .i64 t184)) (fun _ hk => ⟨hk.1.1.1.1.1, ⟨hk.1.1.1.1.2.1, ⟨hk.1.1.1.2, ⟨hk.1.1.1.1.2.2.1, ⟨hk.1.1.1.1.2.2.2, ⟨hk.1.1.2, hk.1.2⟩⟩⟩⟩⟩⟩)))⟩; have n5_ : Aside0 (Kd.R (Kd.int .u8) 5 w45 w.heap.size (fun k_ => (w.heap.size ≤ k_)) (.slice Ao36 t177.length co36) t177) := ⟨(by rw [hw]; exact (by (repeat apply rl1); exact Kd.R_mono (Kd.R_far (p := ⟨gb187, 2, none⟩) (Kd.R_far (p := ⟨gb187, 1, none⟩) (Kd.R_far (p := ⟨gb187, 0, none⟩) (Kd.R_types HO179.out BK187.out (by decide)) (fun _ hk => hk.2) (.int .i64 t182)) (fun _ hk => hk.2) (.int .i64 t183)) (fun _ hk => hk.2) (.int .i64 t184)) (fun _ hk => hk.1.1)))⟩; have n6_ : Aside0 (w45.heap[gb169]? = some (.cells #[.int .i64 x170000_4, .int .i64 x170001_4, .int .i64 x170002_4] 25 (0, 0))) := ⟨(by rw [hw]; exact (by (repeat refine bk1 ?_); refine blk_far ?_ NB169_187.out _; (repeat refine bk1 ?_); refine blk_far ?_ NB169_187.out _; (repeat refine bk1 ?_); refine blk_far ?_ NB169_187.out _; (repeat refine bk1 ?_); exact BK169.out))⟩; have n7_ : Aside0 (w45.heap[gb170]? = some (.cells #[.int .i64 0, .int .i64 0, .int .i64 0] 25 (0, 0))) := ⟨(by rw [hw]; exact (by (repeat refine bk1 ?_); refine blk_far ?_ NB170_187.out _; (repeat refine bk1 ?_); refine blk_far ?_ NB170_187.out _; (repeat refine bk1 ?_); refine blk_far ?_ NB170_187.out _; (repeat refine bk1 ?_); exact BK170.out))⟩; have n8_ : Aside0 (w45.heap[gb181]? = some (.cells #[.int .i64 t175, .int .i64 t176, .slice Ao36 t177.length co36] 41 (0, 0))) := ⟨(by rw [hw]; exact (by (repeat refine bk1 ?_); refine blk_far ?_ NB181_187.out _; (repeat refine bk1 ?_); refine blk_far ?_ NB181_187.out _; (repeat refine bk1 ?_); refine blk_far ?_ NB181_187.out _; (repeat refine bk1 ?_); exact BK181.out))⟩; have n9_ : Aside0 (w45.heap[gb187]? = some (.cells #[.int .i64 t182, .int .i64 t183, .int .i64 t184] 25 (0, 0))) := ⟨(by rw [hw]; exact (by (repeat refine bk1 ?_); refine blk_put (cs := #[.int .i64 t182, .int .i64 t183, .int .i64 0]) ?_ 2 _ rfl; (repeat refine bk1 ?_); refine blk_put (cs := #[.int .i64 t182, .int .i64 0, .int .i64 0]) ?_ 1 _ rfl; (repeat refine bk1 ?_); refine blk_put (cs := #[.int .i64 0, .int .i64 0, .int .i64 0]) ?_ 0 _ rfl; (repeat refine bk1 ?_); exact BK187.out))⟩; have n10_ : Aside0 (Below w.heap.size w w45) := ⟨(by rw [hw]; exact (by repeat with_reducible first | exact bl HB.out | refine below_set ?_ GE169.out | refine below_set ?_ GE170.out | refine below_set ?_ GE181.out | refine below_set ?_ GE187.out | refine bq ?_))⟩; clear hw; clear HO_1; clear HO_2; clear HO_9; clear HO_13; clear HL174_0; clear HO179; clear BK169; clear BK170; clear BK181; clear BK187; clear HB; have HO_1 := n0_; have HO_2 := n1_; have HO_9 := n2_; have HO_13 := n3_; have HL174_0 := n4_; have HO179 := n5_; have BK169 := n6_; have BK170 := n7_; have BK181 := n8_; have BK187 := n9_; have HB := n10_; clear n0_ n1_ n2_ n3_ n4_ n5_ n6_ n7_ n8_ n9_ n10_; obtain ⟨hcz46_0, hcz46_1, hcz46_2⟩ := ck3 BK187.out; obtain ⟨hfz46_0, hfz46_1, hfz46_2⟩ := fz3 BK187.out; obtain ⟨hcz47_0, hcz47_1, hcz47_2⟩ := ck3 BK169.out; obtain ⟨hfz47_0, hfz47_1, hfz47_2⟩ := fz3 BK169.out) | ((with_reducible refine gate_store (t := 25) (p := 3) rfl ?_); refine store_event (t := 25) (p := 3) (v := ?vo_w48) (w1 := (((w45.setCell ⟨gb169, 0, none⟩ (.int .i64 t182)).setCell ⟨gb169, 1, none⟩ (.int .i64 t183)).setCell ⟨gb169, 2, none⟩ (.int .i64 t184))) ?hg ?ho ?hn ?hr ?_; (case ho => rfl); (case hg => rfl); (case hn => rfl); (case hr => first | (go_simp; done) | (go_simp; rfl)); intro w48 hw; have n0_ : Aside0 (Kd.V (Kd.slice 5 (Kd.int .u8)) 28 w48 w.heap.size (fun k_ => ((P1_ k_ ∨ P2_ k_) ∨ w.heap.size ≤ k_) ∧ some k_ ≠ (u9 : Value).ownBlock ∧ some k_ ≠ (.slice Ao36 t177.length co36 : Value).ownBlock ∧ k_ ≠ gb169 ∧ k_ ≠ gb170 ∧ k_ ≠ gb181 ∧ k_ ≠ gb187) (.slice A1 l1.length c1) l1) := ⟨(by rw [hw]; exact (by (with_reducible repeat (first | apply Kd.V_alloc | apply Kd.V_drewN | apply Kd.V_drew)); exact Kd.V_mono (Kd.V_far (p := ⟨gb169, 2, none⟩) (Kd.V_far (p := ⟨gb169, 1, none⟩) (Kd.V_far (p := ⟨gb169, 0, none⟩) (Kd.V_mono HO_1.out (fun k_ hk => (⟨hk, hk.2.2.2.1⟩ : _ ∧ k_ ≠ gb169))) (fun _ hk => hk.2) (.int .i64 t182)) (fun _ hk => hk.2) (.int .i64 t183)) (fun _ hk => hk.2) (.int .i64 t184)) (fun _ hk => ⟨hk.1.1, ⟨hk.1.2.1, ⟨hk.1.2.2.1, ⟨hk.1.2.2.2.1, ⟨hk.1.2.2.2.2.1, ⟨hk.1.2.2.2.2.2.1, hk.1.2.2.2.2.2.2⟩⟩⟩⟩⟩⟩)))⟩; have n1_ : Aside0 (Kd.V (Kd.slice 5 (Kd.int .u8)) 28 w48 w.heap.size (fun k_ => ((P1_ k_ ∨ P2_ k_) ∨ w.heap.size ≤ k_) ∧ some k_ ≠ (u9 : Value).ownBlock ∧ some k_ ≠ (.slice Ao36 t177.length co36 : Value).ownBlock ∧ k_ ≠ gb169 ∧ k_ ≠ gb170 ∧ k_ ≠ gb181 ∧ k_ ≠ gb187) (.slice A2 l2.length c2) l2) := ⟨(by rw [hw]; exact (by (with_reducible repeat (first | apply Kd.V_alloc | apply Kd.V_drewN | apply Kd.V_drew)); exact Kd.V_mono (Kd.V_far (p := ⟨gb169, 2, none⟩) (Kd.V_far (p := ⟨gb169, 1, none⟩) (Kd.V_far (p := ⟨gb169, 0, none⟩) (Kd.V_mono HO_2.out (fun k_ hk => (⟨hk, hk.2.2.2.1⟩ : _ ∧ k_ ≠ gb169))) (fun _ hk => hk.2) (.int .i64 t182)) (fun _ hk => hk.2) (.int .i64 t183)) (fun _ hk => hk.2) (.int .i64 t184)) (fun _ hk => ⟨hk.1.1, ⟨hk.1.2.1, ⟨hk.1.2.2.1, ⟨hk.1.2.2.2.1, ⟨hk.1.2.2.2.2.1, ⟨hk.1.2.2.2.2.2.1, hk.1.2.2.2.2.2.2⟩⟩⟩⟩⟩⟩)))⟩; have n2_ : Aside0 (Kd.S k41 41 w48 w.heap.size (fun k_ => (w.heap.size ≤ k_) ∧ some k_ ≠ (.slice Ao36 t177.length co36 : Value).ownBlock ∧ k_ ≠ gb181) u9 x9_4) := ⟨(by rw [hw]; exact (by (repeat apply sl1); exact Kd.S_mono (Kd.S_far (p := ⟨gb169, 2, none⟩) (Kd.S_far (p := ⟨gb169, 1, none⟩) (Kd.S_far (p := ⟨gb169, 0, none⟩) (Kd.S_types HO_9.out BK169.out (by decide)) (fun _ hk => hk.2) (.int .i64 t182)) (fun _ hk => hk.2) (.int .i64 t183)) (fun _ hk => hk.2) (.int .i64 t184)) (fun _ hk => ⟨hk.1.1, ⟨hk.1.2.1, hk.1.2.2⟩⟩)))⟩; have n3_ : Aside0 (Kd.V (Kd.slice 5 (Kd.int .u8)) 28 w48 w.heap.size (fun k_ => ((P1_ k_ ∨ P2_ k_) ∨ w.heap.size ≤ k_) ∧ some k_ ≠ (u9 : Value).ownBlock ∧ some k_ ≠ (.slice Ao36 t177.length co36 : Value).ownBlock ∧ k_ ≠ gb169 ∧ k_ ≠ gb170 ∧ k_ ≠ gb181 ∧ k_ ≠ gb187) (.slice (some ad174) x13_18.length co30) x13_18) := ⟨(by rw [hw]; exact (by (with_reducible repeat (first | apply Kd.V_alloc | apply Kd.V_drewN | apply Kd.V_drew)); exact Kd.V_mono (Kd.V_far (p := ⟨gb169, 2, none⟩) (Kd.V_far (p := ⟨gb169, 1, none⟩) (Kd.V_far (p := ⟨gb169, 0, none⟩) (Kd.V_mono HO_13.out (fun k_ hk => (⟨hk, hk.2.2.2.1⟩ : _ ∧ k_ ≠ gb169))) (fun _ hk => hk.2) (.int .i64 t182)) (fun _ hk => hk.2) (.int .i64 t183)) (fun _ hk => hk.2) (.int .i64 t184)) (fun _ hk => ⟨hk.1.1, ⟨hk.1.2.1, ⟨hk.1.2.2.1, ⟨hk.1.2.2.2.1, ⟨hk.1.2.2.2.2.1, ⟨hk.1.2.2.2.2.2.1, hk.1.2.2.2.2.2.2⟩⟩⟩⟩⟩⟩)))⟩; have n4_ : Aside0 (Kd.V (Kd.int .u8) 5 w48 w.heap.size (fun k_ => ((P1_ k_ ∨ P2_ k_) ∨ w.heap.size ≤ k_) ∧ some k_ ≠ (u9 : Value).ownBlock ∧ some k_ ≠ (.slice Ao36 t177.length co36 : Value).ownBlock ∧ k_ ≠ gb169 ∧ k_ ≠ gb170 ∧ k_ ≠ gb181 ∧ k_ ≠ gb187) (.slice A174_0 (rd_L1 x13_18 x11_2).length c174_0) (rd_L1 x13_18 x11_2)) := ⟨(by rw [hw]; exact (by (with_reducible repeat (first | apply Kd.V_alloc | apply Kd.V_drewN | apply Kd.V_drew)); exact Kd.V_mono (Kd.V_far (p := ⟨gb169, 2, none⟩) (Kd.V_far (p := ⟨gb169, 1, none⟩) (Kd.V_far (p := ⟨gb169, 0, none⟩) (Kd.V_mono HL174_0.out (fun k_ hk => (⟨hk, hk.2.2.2.1⟩ : _ ∧ k_ ≠ gb169))) (fun _ hk => hk.2) (.int .i64 t182)) (fun _ hk => hk.2) (.int .i64 t183)) (fun _ hk => hk.2) (.int .i64 t184)) (fun _ hk => ⟨hk.1.1, ⟨hk.1.2.1, ⟨hk.1.2.2.1, ⟨hk.1.2.2.2.1, ⟨hk.1.2.2.2.2.1, ⟨hk.1.2.2.2.2.2.1, hk.1.2.2.2.2.2.2⟩⟩⟩⟩⟩⟩)))⟩; have n5_ : Aside0 (Kd.R (Kd.int .u8) 5 w48 w.heap.size (fun k_ => (w.heap.size ≤ k_)) (.slice Ao36 t177.length co36) t177) := ⟨(by rw [hw]; exact (by (repeat apply rl1); exact Kd.R_mono (Kd.R_far (p := ⟨gb169, 2, none⟩) (Kd.R_far (p := ⟨gb169, 1, none⟩) (Kd.R_far (p := ⟨gb169, 0, none⟩) (Kd.R_types HO179.out BK169.out (by decide)) (fun _ hk => hk.2) (.int .i64 t182)) (fun _ hk => hk.2) (.int .i64 t183)) (fun _ hk => hk.2) (.int .i64 t184)) (fun _ hk => hk.1)))⟩; have n6_ : Aside0 (w48.heap[gb169]? = some (.cells #[.int .i64 t182, .int .i64 t183, .int .i64 t184] 25 (0, 0))) := ⟨(by rw [hw]; exact (by (repeat refine bk1 ?_); refine blk_put (cs := #[.int .i64 t182, .int .i64 t183, .int .i64 x170002_4]) ?_ 2 _ rfl; (repeat refine bk1 ?_); refine blk_put (cs := #[.int .i64 t182, .int .i64 x170001_4, .int .i64 x170002_4]) ?_ 1 _ rfl; (repeat refine bk1 ?_); refine blk_put (cs := #[.int .i64 x170000_4, .int .i64 x170001_4, .int .i64 x170002_4]) ?_ 0 _ rfl; (repeat refine bk1 ?_); exact BK169.out))⟩; have n7_ : Aside0 (w48.heap[gb170]? = some (.cells #[.int .i64 0, .int .i64 0, .int .i64 0] 25 (0, 0))) := ⟨(by rw [hw]; exact (by (repeat refine bk1 ?_); refine blk_far ?_ NB170_169.out _; (repeat refine bk1 ?_); refine blk_far ?_ NB170_169.out _; (repeat refine bk1 ?_); refine blk_far ?_ NB170_169.out _; (repeat refine bk1 ?_); exact BK170.out))⟩; have n8_ : Aside0 (w48.heap[gb181]? = some (.cells #[.int .i64 t175, .int .i64 t176, .slice Ao36 t177.length co36] 41 (0, 0))) := ⟨(by rw [hw]; exact (by (repeat refine bk1 ?_); refine blk_far ?_ NB181_169.out _; (repeat refine bk1 ?_); refine blk_far ?_ NB181_169.out _; (repeat refine bk1 ?_); refine blk_far ?_ NB181_169.out _; (repeat refine bk1 ?_); exact BK181.out))⟩; have n9_ : Aside0 (w48.heap[gb187]? = some (.cells #[.int .i64 t182, .int .i64 t183, .int .i64 t184] 25 (0, 0))) := ⟨(by rw [hw]; exact (by (repeat refine bk1 ?_); refine blk_far ?_ NB187_169.out _; (repeat refine bk1 ?_); refine blk_far ?_ NB187_169.out _; (repeat refine bk1 ?_); refine blk_far ?_ NB187_169.out _; (repeat refine bk1 ?_); exact BK187.out))⟩; have n10_ : Aside0 (Below w.heap.size w w48) := ⟨(by rw [hw]; exact (by repeat with_reducible first | exact bl HB.out | refine below_set ?_ GE169.out | refine below_set ?_ GE170.out | refine below_set ?_ GE181.out | refine below_set ?_ GE187.out | refine bq ?_))⟩; clear hw; clear HO_1; clear HO_2; clear HO_9; clear HO_13; clear HL174_0; clear HO179; clear BK169; clear BK170; clear BK181; clear BK187; clear HB; have HO_1 := n0_; have HO_2 := n1_; have HO_9 := n2_; have HO_13 := n3_; have HL174_0 := n4_; have HO179 := n5_; have BK169 := n6_; have BK170 := n7_; have BK181 := n8_; have BK187 := n9_; have HB := n10_; clear n0_ n1_ n2_ n3_ n4_ n5_ n6_ n7_ n8_ n9_ n10_; obtain ⟨hcz49_0, hcz49_1, hcz49_2⟩ := ck3 BK181.out; obtain ⟨hfz49_0, hfz49_1, hfz49_2⟩ := fz3 BK181.out) | ((with_reducible refine gate_builtin (b := .append) (xs := #[.tmp 76, .tmp 78]) rfl ?_); (try (refine gate_guard (by rfl) ?_; dsimp only)); at_builtin; refine Kd.S_append k41 (w0 := w) w.heap.size rfl (.tmp 76) (.tmp 78) 45 41 (.agg #[(.int .i64 0), (.int .i64 0), (.slice none 0 0)]) 40 rfl Try.underlying45 info41 rfl (by decide) (by omega) u9 x9_4 (⟨t175, t176, t177⟩ : S41) [.int .i64 t175, .int .i64 t176, .slice Ao36 t177.length co36] (fun k_ => (w.heap.size ≤ k_) ∧ k_ ≠ gb181) (fun k_ => some k_ = (.slice Ao36 t177.length co36 : Value).ownBlock) rfl rfl ?aP (fun k_ hk_ => ((Kd.R_mono (ok' := fun k_ => ((fun k_ => (w.heap.size ≤ k_) ∧ k_ ≠ gb181)) k_ ∧ some k_ ≠ (u9 : Value).ownBlock) (Kd.R_types (Kd.R_apart' (HO179.out) (Kd.S_typed HO_9.out) (by decide)) BK181.out (by decide)) (fun k_ hk => ⟨⟨hk.1.1, hk.2⟩, hk.1.2⟩))).1 k_ hk_.symm) ?aF ?aO ?aB ?aS ?aL ?_; (case aP => exact k41_mkM _ _ _ (⟨t175, t176, t177⟩ : S41) (Kd.R_mono (Kd.R_tight rfl (Kd.R_mono (ok' := fun k_ => ((fun k_ => (w.heap.size ≤ k_) ∧ k_ ≠ gb181)) k_ ∧ some k_ ≠ (u9 : Value).ownBlock) (Kd.R_types (Kd.R_apart' (HO179.out) (Kd.S_typed HO_9.out) (by decide)) BK181.out (by decide)) (fun k_ hk => ⟨⟨hk.1.1, hk.2⟩, hk.1.2⟩))) (fun _ h_ => h_))); (case aB => exact (by repeat with_reducible first | exact bl HB.out | refine below_set ?_ GE169.out | refine below_set ?_ GE170.out | refine below_set ?_ GE181.out | refine below_set ?_ GE187.out | refine bq ?_)); (case aF => exact (fun k_ hk => ⟨(Nat.le_trans (below_size (by repeat with_reducible first | exact bl HB.out | refine below_set ?_ GE169.out | refine below_set ?_ GE170.out | refine below_set ?_ GE181.out | refine below_set ?_ GE187.out | refine bq ?_)) hk), Kd.freshB (g := gb181) (o := .cells #[.int .i64 t175, .int .i64 t176, .slice Ao36 t177.length co36] 41 (0, 0)) (bk BK181.out) k_ hk⟩)); (case aO => exact (by (repeat apply sl1); exact Kd.S_mono HO_9.out (fun k_ hk => ⟨⟨hk.1, hk.2.2⟩, fun e_ => hk.2.1 e_⟩))); (case aS => exact (below_size (by repeat with_reducible first | exact bl HB.out | refine below_set ?_ GE169.out | refine below_set ?_ GE170.out | refine below_set ?_ GE181.out | refine below_set ?_ GE187.out | refine bq ?_))); (case aL => have := LMc29.out; omega); intro v189 w50 ho hb hg hat; rw [← Ny188.out] at ho; replace HO_1 := Aside0.mk (Kd.V_afterv (ok := (fun k_ => ((P1_ k_ ∨ P2_ k_) ∨ w.heap.size ≤ k_) ∧ some k_ ≠ (.slice Ao36 t177.length co36 : Value).ownBlock ∧ k_ ≠ gb169 ∧ k_ ≠ gb170 ∧ k_ ≠ gb181 ∧ k_ ≠ gb187)) (by (with_reducible repeat (first | apply Kd.V_alloc | apply Kd.V_drewN | apply Kd.V_drew)); exact Kd.V_mono HO_1.out (fun _ hk => ⟨⟨hk.1, ⟨hk.2.2.1, ⟨hk.2.2.2.1, ⟨hk.2.2.2.2.1, ⟨hk.2.2.2.2.2.1, hk.2.2.2.2.2.2⟩⟩⟩⟩⟩, hk.2.1⟩)) hg hat); replace HO_2 := Aside0.mk (Kd.V_afterv (ok := (fun k_ => ((P1_ k_ ∨ P2_ k_) ∨ w.heap.size ≤ k_) ∧ some k_ ≠ (.slice Ao36 t177.length co36 : Value).ownBlock ∧ k_ ≠ gb169 ∧ k_ ≠ gb170 ∧ k_ ≠ gb181 ∧ k_ ≠ gb187)) (by (with_reducible repeat (first | apply Kd.V_alloc | apply Kd.V_drewN | apply Kd.V_drew)); exact Kd.V_mono HO_2.out (fun _ hk => ⟨⟨hk.1, ⟨hk.2.2.1, ⟨hk.2.2.2.1, ⟨hk.2.2.2.2.1, ⟨hk.2.2.2.2.2.1, hk.2.2.2.2.2.2⟩⟩⟩⟩⟩, hk.2.1⟩)) hg hat); replace HO_13 := Aside0.mk (Kd.V_afterv (ok := (fun k_ => ((P1_ k_ ∨ P2_ k_) ∨ w.heap.size ≤ k_) ∧ some k_ ≠ (.slice Ao36 t177.length co36 : Value).ownBlock ∧ k_ ≠ gb169 ∧ k_ ≠ gb170 ∧ k_ ≠ gb181 ∧ k_ ≠ gb187)) (by (with_reducible repeat (first | apply Kd.V_alloc | apply Kd.V_drewN | apply Kd.V_drew)); exact Kd.V_mono HO_13.out (fun _ hk => ⟨⟨hk.1, ⟨hk.2.2.1, ⟨hk.2.2.2.1, ⟨hk.2.2.2.2.1, ⟨hk.2.2.2.2.2.1, hk.2.2.2.2.2.2⟩⟩⟩⟩⟩, hk.2.1⟩)) hg hat); replace BK169 := Aside0.mk (blk_grown (g := gb169) (o := .cells #[.int .i64 t182, .int .i64 t183, .int .i64 t184] 25 (0, 0)) (bk BK169.out) hg (Kd.S_ne HO_9.out BK169.out (by decide))); replace BK170 := Aside0.mk (blk_grown (g := gb170) (o := .cells #[.int .i64 0, .int .i64 0, .int .i64 0] 25 (0, 0)) (bk BK170.out) hg (Kd.S_ne HO_9.out BK170.out (by decide))); replace HL174_0 := Aside0.mk (Kd.V_afterv (ok := (fun k_ => ((P1_ k_ ∨ P2_ k_) ∨ w.heap.size ≤ k_) ∧ some k_ ≠ (.slice Ao36 t177.length co36 : Value).ownBlock ∧ k_ ≠ gb169 ∧ k_ ≠ gb170 ∧ k_ ≠ gb181 ∧ k_ ≠ gb187)) (by (with_reducible repeat (first | apply Kd.V_alloc | apply Kd.V_drewN | apply Kd.V_drew)); exact Kd.V_mono HL174_0.out (fun _ hk => ⟨⟨hk.1, ⟨hk.2.2.1, ⟨hk.2.2.2.1, ⟨hk.2.2.2.2.1, ⟨hk.2.2.2.2.2.1, hk.2.2.2.2.2.2⟩⟩⟩⟩⟩, hk.2.1⟩)) hg hat); replace BK181 := Aside0.mk (blk_grown (g := gb181) (o := .cells #[.int .i64 t175, .int .i64 t176, .slice Ao36 t177.length co36] 41 (0, 0)) (bk BK181.out) hg (Kd.S_away HO_9.out (fun _ hk => hk.2.2))); replace BK187 := Aside0.mk (blk_grown (g := gb187) (o := .cells #[.int .i64 t182, .int .i64 t183, .int .i64 t184] 25 (0, 0)) (bk BK187.out) hg (Kd.S_ne HO_9.out BK187.out (by decide))); replace HB := Aside0.mk (hb); have HO190 := Aside0.mk (ho); clear HO_9 HO179; clear ho hb hg hat))
                    go_roundg kj18
                    case measure => have := HJ3.out; have := HK2.out; have := HJ14.out; have := HK4.out; have := HJ18.out; omega
                    case rel => exact ⟨(y188), (wrap64 (x10_4 + t186)), (wrap64 (x12_4 + 1)), (t182), (t183), (t184), (by first | rfl | (simp; done) | (simp [*]; done)), (by first | rfl | (simp; done) | (simp [*]; done)), H', ⟨by have := HJ3.out; have := HK2.out; have := HJ14.out; have := HK4.out; have := HJ18.out; omega⟩, ⟨by (with_reducible repeat (first | apply Kd.V_alloc | apply Kd.V_drewN | apply Kd.V_drew)); exact Kd.V_mono HO_1.out (fun _ hk => ⟨hk.1.1, ⟨hk.2, ⟨hk.1.2.2.1, hk.1.2.2.2.1⟩⟩⟩)⟩, ⟨by (with_reducible repeat (first | apply Kd.V_alloc | apply Kd.V_drewN | apply Kd.V_drew)); exact Kd.V_mono HO_2.out (fun _ hk => ⟨hk.1.1, ⟨hk.2, ⟨hk.1.2.2.1, hk.1.2.2.2.1⟩⟩⟩)⟩, ⟨by (repeat apply sl1); exact Kd.S_mono HO190.out (fun _ hk => hk.1)⟩, ⟨bk BK169.out⟩, ⟨bk BK170.out⟩, ⟨by repeat with_reducible first | exact bl HB.out | refine below_set ?_ GE169.out | refine below_set ?_ GE170.out | refine below_set ?_ GE181.out | refine below_set ?_ GE187.out | refine bq ?_⟩⟩
                   ·
                    rw [if_neg c29] at H
                    exact absurd H (by simp)
                  ·
                   replace c28 := Bool.eq_false_iff.mpr c28
                   subst c28
                   have H1 : (spec_Both16.l1 kj18 l1 l2 x9_4 x10_4 x11_2 (wrap64 (x12_4 + 1)) x170000_4 x170001_4 x170002_4) = some (r1, r2, r3, r4, r5) := by rw [if_neg (show ¬ (false = true) by decide)] at H; exact H
                   clear H
                   have H := H1
                   clear H1
                   have H' := Aside0.mk H
                   clear H
                   obtain ⟨Ao51, co51, eo51⟩ := Kd.V_slice HO_13.out
                   subst eo51
                   have p174 : 0 ≤ (x11_2 : Int) := of_decide_eq_true (by first | (with_reducible assumption) | assumption)
                   have q174 : x11_2 < (x13_18.length : Int) := of_decide_eq_true (by first | (with_reducible assumption) | assumption)
                   obtain ⟨ad174, A174_0, c174_0, e174, hx174_0, hl174_0, hi174_0⟩ := at_L1 (Kd.V_reads' HO_13.out).2.2 x11_2 p174 q174
                   cases e174
                   obtain ⟨ce174, hce174, hMe174, hcc174⟩ := Kd.V_get HO_13.out [] x11_2 p174 (by first | exact q174 | exact of_decide_eq_true (by first | (with_reducible assumption) | assumption) | (have e_ := (Kd.V_reads' HO_13.out).1; omega))
                   obtain ⟨ua174_0, uc174_0, rfl, ul174_0, ge174_0⟩ := Kd.FK_slice_open hMe174
                   have hv174_0 := hcc174 0 _ rfl
                   rw [Nat.add_zero, show ((Kd.slice 5 (Kd.int .u8))).sz = 1 from rfl, Nat.mul_one] at hv174_0
                   replace hv174_0 := Option.some.inj (hv174_0.symm.trans hx174_0)
                   injection hv174_0 with hva_ hvn_ hvc_
                   rw [hva_] at ge174_0
                   rw [hvc_] at ul174_0
                   have HL174_0 := Aside0.mk (show Kd.V (Kd.int .u8) 5 _ w.heap.size _ _ (rd_L1 x13_18 x11_2) from Kd.V_mk ul174_0 ge174_0)
                   clear hva_ hvn_ hvc_ ge174_0 ul174_0
                   clear hcc174 hce174
                   have HR174_0 := Aside0.mk hi174_0
                   have HC174_0 := Aside0.mk hl174_0
                   clear hi174_0 hl174_0
                   replace p174 := eq_true p174
                   replace q174 := eq_true q174
                   go_wp2_with (first | ((with_reducible refine gate_callee (f := 43) rfl ?_); refine goesL_ (some 59) rfl rfl Try.func43 (by kernel_rfl) rfl #[.slice A174_0 (rd_L1 x13_18 x11_2).length c174_0] rfl (by (try simp only [am_]); first | done | rfl) ?_; (with_reducible refine (spec_Get16.calls kj18 _ _ (rd_L1 x13_18 x11_2) t175 t176 t177 t180 _ ?side1 ?side2 A25.out).mono ?_); (case side1 => repeat (first | exact (by repeat (first | (with_reducible exact HR174_0.out) | (with_reducible refine Kd.C_alloc ?_ _) | (with_reducible refine Kd.C_drewN ?_ _) | (with_reducible refine Kd.C_drew ?_) | exact HR174_0.out)) | (with_reducible refine Kd.C_alloc ?_ _) | (with_reducible refine Kd.C_drewN ?_ _) | (with_reducible refine Kd.C_drew ?_))); (case side2 => exact HC174_0.out); rintro e w52 ⟨v178, rfl, ho0, hb⟩; refine ⟨_, rfl, ?_⟩; replace HO_1 := Aside0.mk (Kd.V_elder' (by (with_reducible repeat (first | apply Kd.V_alloc | apply Kd.V_drewN | apply Kd.V_drew)); exact HO_1.out) (Kd.R_base ho0) hb); replace HO_2 := Aside0.mk (Kd.V_elder' (by (with_reducible repeat (first | apply Kd.V_alloc | apply Kd.V_drewN | apply Kd.V_drew)); exact HO_2.out) (Kd.R_base ho0) hb); replace HO_9 := Aside0.mk (Kd.S_elder' (sl HO_9.out) (Kd.R_base ho0) hb); replace HO_13 := Aside0.mk (Kd.V_elder' (by (with_reducible repeat (first | apply Kd.V_alloc | apply Kd.V_drewN | apply Kd.V_drew)); exact HO_13.out) (Kd.R_base ho0) hb); replace HL174_0 := Aside0.mk (Kd.V_elder' (by (with_reducible repeat (first | apply Kd.V_alloc | apply Kd.V_drewN | apply Kd.V_drew)); exact HL174_0.out) (Kd.R_base ho0) hb); have HO179 := Aside0.mk (Kd.R_lower (Kd.R_newM (M := fun k_ => (w.heap.size ≤ k_)) ho0 (below_size (by repeat with_reducible first | exact bl HB.out | refine below_set ?_ GE169.out | refine below_set ?_ GE170.out | refine bq ?_)) (fun k_ h_ => h_)) (below_size (by repeat with_reducible first | exact bl HB.out | refine below_set ?_ GE169.out | refine below_set ?_ GE170.out | refine bq ?_))); replace BK169 := Aside0.mk (blk_below (bk BK169.out) hb); replace BK170 := Aside0.mk (blk_below (bk BK170.out) hb); replace HR174_0 := Aside0.mk (Kd.C_below (by repeat (first | (with_reducible exact HR174_0.out) | (with_reducible refine Kd.C_alloc ?_ _) | (with_reducible refine Kd.C_drewN ?_ _) | (with_reducible refine Kd.C_drew ?_) | exact HR174_0.out)) hb); replace HB := Aside0.mk (below_step (by repeat with_reducible first | exact bl HB.out | refine below_set ?_ GE169.out | refine below_set ?_ GE170.out | refine bq ?_) hb); (try clear hb); (try clear hb2); (try clear hk); (try clear hi); (try clear ho0)) | ((with_reducible refine gate_dst (N := 14) rfl ?_); (try (refine gate_guard (by rfl) ?_; dsimp only)); refine box_event ?hg (N := 14) ?hd (cs := #[.int .i64 0, .int .i64 0, .slice none 0 0]) (t := 41) ?hr ?_; (case hd => rfl); (case hg => rfl); (case hr => first | (go_simp; done) | (go_simp; rfl)); intro gb181 hg w53 hbox hb; replace HO_1 := Aside0.mk (Kd.V_below (Kd.V_elderB (by (with_reducible repeat (first | apply Kd.V_alloc | apply Kd.V_drewN | apply Kd.V_drew)); exact HO_1.out) gb181 (Nat.le_of_eq hg.symm)) hb); replace HO_2 := Aside0.mk (Kd.V_below (Kd.V_elderB (by (with_reducible repeat (first | apply Kd.V_alloc | apply Kd.V_drewN | apply Kd.V_drew)); exact HO_2.out) gb181 (Nat.le_of_eq hg.symm)) hb); replace HO_9 := Aside0.mk (Kd.S_below (Kd.S_elderB (sl HO_9.out) gb181 (Nat.le_of_eq hg.symm)) hb); replace HO_13 := Aside0.mk (Kd.V_below (Kd.V_elderB (by (with_reducible repeat (first | apply Kd.V_alloc | apply Kd.V_drewN | apply Kd.V_drew)); exact HO_13.out) gb181 (Nat.le_of_eq hg.symm)) hb); replace HL174_0 := Aside0.mk (Kd.V_below (Kd.V_elderB (by (with_reducible repeat (first | apply Kd.V_alloc | apply Kd.V_drewN | apply Kd.V_drew)); exact HL174_0.out) gb181 (Nat.le_of_eq hg.symm)) hb); replace HO179 := Aside0.mk (Kd.R_below (rl HO179.out) hb); replace HR174_0 := Aside0.mk (Kd.C_below (by repeat (first | (with_reducible exact HR174_0.out) | (with_reducible refine Kd.C_alloc ?_ _) | (with_reducible refine Kd.C_drewN ?_ _) | (with_reducible refine Kd.C_drew ?_) | exact HR174_0.out)) hb); have BK181 := Aside0.mk (hbox); have GW181 := Aside0.mk ((by rw [hg]; exact (below_size (by repeat with_reducible first | exact bl HB.out | refine below_set ?_ GE169.out | refine below_set ?_ GE170.out | refine bq ?_)) : w.heap.size ≤ gb181)); have GE181 := GW181; replace HB := Aside0.mk (below_step (by repeat with_reducible first | exact bl HB.out | refine below_set ?_ GE169.out | refine below_set ?_ GE170.out | refine bq ?_) hb); have NB169_181 := nb_ hg BK169.out; have NB181_169 := Aside0.mk NB169_181.out.symm; replace BK169 := Aside0.mk (blk_below (bk BK169.out) hb); have NB170_181 := nb_ hg BK170.out; have NB181_170 := Aside0.mk NB170_181.out.symm; replace BK170 := Aside0.mk (blk_below (bk BK170.out) hb); clear hb hbox hg; have hnb54 := NB181_169.out; have hnc54 := NB169_181.out; have hnb55 := NB181_170.out; have hnc55 := NB170_181.out; obtain ⟨hcz56_0, hcz56_1, hcz56_2⟩ := ck3 BK181.out; obtain ⟨hfz56_0, hfz56_1, hfz56_2⟩ := fz3 BK181.out; obtain ⟨Ao57, co57, eo57⟩ := Kd.R_slice HO179.out; subst eo57; have hnb58 := NB169_170.out; have hnc58 := NB170_169.out; obtain ⟨hcz59_0, hcz59_1, hcz59_2⟩ := ck3 BK169.out; obtain ⟨hfz59_0, hfz59_1, hfz59_2⟩ := fz3 BK169.out) | ((with_reducible refine gate_callee (f := 41) rfl ?_); refine goesL_ (some 67) rfl rfl Try.func41 (by kernel_rfl) rfl #[.agg #[.int .i64 x170000_4, .int .i64 x170001_4, .int .i64 x170002_4], .agg #[.int .i64 t175, .int .i64 t176, .slice Ao57 t177.length co57]] rfl (by (try simp only [am_]); first | done | rfl) ?_; (with_reducible refine (spec_Accept.calls kj18 x170000_4 x170001_4 x170002_4 t175 t176 _ _ t177 t182 t183 t184 false t186 _ ?side1 ?side2 A27.out).mono ?_); (case side1 => refine (Kd.R_reads' (e := 5) (base := w.heap.size) (ok := fun k_ => ((w.heap.size ≤ k_) ∧ True)) (n := t177.length) (c := co57) ?_).2.2; exact (by (repeat apply rl1); exact (Kd.R_mono (Kd.R_far (p := ⟨gb181, 2, none⟩) (Kd.R_far (p := ⟨gb181, 1, none⟩) (Kd.R_far (p := ⟨gb181, 0, none⟩) (Kd.R_types HO179.out BK181.out (by decide)) (fun _ hk => hk.2) (.int .i64 t175)) (fun _ hk => hk.2) (.int .i64 t176)) (fun _ hk => hk.2) (.slice Ao57 t177.length co57)) (fun _ h_ => h_.1)))); (case side2 => exact (Kd.R_reads' HO179.out).2.1); rintro e w60 ⟨rfl, hb⟩; refine ⟨_, rfl, ?_⟩; replace HO_1 := Aside0.mk (Kd.V_below (by (with_reducible repeat (first | apply Kd.V_alloc | apply Kd.V_drewN | apply Kd.V_drew)); exact (Kd.V_mono (Kd.V_far (p := ⟨gb181, 2, none⟩) (Kd.V_far (p := ⟨gb181, 1, none⟩) (Kd.V_far (p := ⟨gb181, 0, none⟩) (Kd.V_mono HO_1.out (fun k_ hk => (⟨hk, hk.2⟩ : _ ∧ k_ ≠ gb181))) (fun _ hk => hk.2) (.int .i64 t175)) (fun _ hk => hk.2) (.int .i64 t176)) (fun _ hk => hk.2) (.slice Ao57 t177.length co57)) (fun _ h_ => h_.1))) hb); replace HO_2 := Aside0.mk (Kd.V_below (by (with_reducible repeat (first | apply Kd.V_alloc | apply Kd.V_drewN | apply Kd.V_drew)); exact (Kd.V_mono (Kd.V_far (p := ⟨gb181, 2, none⟩) (Kd.V_far (p := ⟨gb181, 1, none⟩) (Kd.V_far (p := ⟨gb181, 0, none⟩) (Kd.V_mono HO_2.out (fun k_ hk => (⟨hk, hk.2⟩ : _ ∧ k_ ≠ gb181))) (fun _ hk => hk.2) (.int .i64 t175)) (fun _ hk => hk.2) (.int .i64 t176)) (fun _ hk => hk.2) (.slice Ao57 t177.length co57)) (fun _ h_ => h_.1))) hb); replace HO_9 := Aside0.mk (Kd.S_below (by (repeat apply sl1); exact (Kd.S_mono (Kd.S_far (p := ⟨gb181, 2, none⟩) (Kd.S_far (p := ⟨gb181, 1, none⟩) (Kd.S_far (p := ⟨gb181, 0, none⟩) (Kd.S_mono HO_9.out (fun k_ hk => (⟨hk, hk.2⟩ : _ ∧ k_ ≠ gb181))) (fun _ hk => hk.2) (.int .i64 t175)) (fun _ hk => hk.2) (.int .i64 t176)) (fun _ hk => hk.2) (.slice Ao57 t177.length co57)) (fun _ h_ => h_.1))) hb); replace HO_13 := Aside0.mk (Kd.V_below (by (with_reducible repeat (first | apply Kd.V_alloc | apply Kd.V_drewN | apply Kd.V_drew)); exact (Kd.V_mono (Kd.V_far (p := ⟨gb181, 2, none⟩) (Kd.V_far (p := ⟨gb181, 1, none⟩) (Kd.V_far (p := ⟨gb181, 0, none⟩) (Kd.V_mono HO_13.out (fun k_ hk => (⟨hk, hk.2⟩ : _ ∧ k_ ≠ gb181))) (fun _ hk => hk.2) (.int .i64 t175)) (fun _ hk => hk.2) (.int .i64 t176)) (fun _ hk => hk.2) (.slice Ao57 t177.length co57)) (fun _ h_ => h_.1))) hb); replace HO179 := Aside0.mk (Kd.R_below (by (repeat apply rl1); exact (Kd.R_mono (Kd.R_far (p := ⟨gb181, 2, none⟩) (Kd.R_far (p := ⟨gb181, 1, none⟩) (Kd.R_far (p := ⟨gb181, 0, none⟩) (Kd.R_types HO179.out BK181.out (by decide)) (fun _ hk => hk.2) (.int .i64 t175)) (fun _ hk => hk.2) (.int .i64 t176)) (fun _ hk => hk.2) (.slice Ao57 t177.length co57)) (fun _ h_ => h_.1))) hb); replace BK169 := Aside0.mk (blk_below (g := gb169) (o := .cells #[.int .i64 x170000_4, .int .i64 x170001_4, .int .i64 x170002_4] 25 (0, 0)) (by (repeat refine bk1 ?_); refine blk_far ?_ NB169_181.out _; (repeat refine bk1 ?_); refine blk_far ?_ NB169_181.out _; (repeat refine bk1 ?_); refine blk_far ?_ NB169_181.out _; (repeat refine bk1 ?_); exact BK169.out) hb); replace BK170 := Aside0.mk (blk_below (g := gb170) (o := .cells #[.int .i64 0, .int .i64 0, .int .i64 0] 25 (0, 0)) (by (repeat refine bk1 ?_); refine blk_far ?_ NB170_181.out _; (repeat refine bk1 ?_); refine blk_far ?_ NB170_181.out _; (repeat refine bk1 ?_); refine blk_far ?_ NB170_181.out _; (repeat refine bk1 ?_); exact BK170.out) hb); replace HR174_0 := Aside0.mk (Kd.C_below ((Kd.V_reads' (by (with_reducible repeat (first | apply Kd.V_alloc | apply Kd.V_drewN | apply Kd.V_drew)); exact (Kd.V_mono (Kd.V_far (p := ⟨gb181, 2, none⟩) (Kd.V_far (p := ⟨gb181, 1, none⟩) (Kd.V_far (p := ⟨gb181, 0, none⟩) (Kd.V_mono HL174_0.out (fun k_ hk => (⟨hk, hk.2⟩ : _ ∧ k_ ≠ gb181))) (fun _ hk => hk.2) (.int .i64 t175)) (fun _ hk => hk.2) (.int .i64 t176)) (fun _ hk => hk.2) (.slice Ao57 t177.length co57)) (fun _ h_ => h_.1)))).2.2) hb); replace HL174_0 := Aside0.mk (Kd.V_below (by (with_reducible repeat (first | apply Kd.V_alloc | apply Kd.V_drewN | apply Kd.V_drew)); exact (Kd.V_mono (Kd.V_far (p := ⟨gb181, 2, none⟩) (Kd.V_far (p := ⟨gb181, 1, none⟩) (Kd.V_far (p := ⟨gb181, 0, none⟩) (Kd.V_mono HL174_0.out (fun k_ hk => (⟨hk, hk.2⟩ : _ ∧ k_ ≠ gb181))) (fun _ hk => hk.2) (.int .i64 t175)) (fun _ hk => hk.2) (.int .i64 t176)) (fun _ hk => hk.2) (.slice Ao57 t177.length co57)) (fun _ h_ => h_.1))) hb); replace BK181 := Aside0.mk (blk_below (g := gb181) (o := .cells #[.int .i64 t175, .int .i64 t176, .slice Ao57 t177.length co57] 41 (0, 0)) (by (repeat refine bk1 ?_); refine blk_put (cs := #[.int .i64 t175, .int .i64 t176, .slice none 0 0]) ?_ 2 _ rfl; (repeat refine bk1 ?_); refine blk_put (cs := #[.int .i64 t175, .int .i64 0, .slice none 0 0]) ?_ 1 _ rfl; (repeat refine bk1 ?_); refine blk_put (cs := #[.int .i64 0, .int .i64 0, .slice none 0 0]) ?_ 0 _ rfl; (repeat refine bk1 ?_); exact BK181.out) hb); replace HB := Aside0.mk (below_step (by repeat with_reducible first | exact bl HB.out | refine below_set ?_ GE169.out | refine below_set ?_ GE170.out | refine below_set ?_ GE181.out | refine bq ?_) hb); (try clear hb); (try clear hb2); (try clear hk); (try clear hi)) | ((with_reducible refine gate_dst (N := 16) rfl ?_); (try (refine gate_guard (by rfl) ?_; dsimp only)); refine box_event ?hg (N := 16) ?hd (cs := #[.int .i64 0, .int .i64 0, .int .i64 0]) (t := 25) ?hr ?_; (case hd => rfl); (case hg => rfl); (case hr => first | (go_simp; done) | (go_simp; rfl)); intro gb187 hg w61 hbox hb; replace HO_1 := Aside0.mk (Kd.V_below (Kd.V_elderB (by (with_reducible repeat (first | apply Kd.V_alloc | apply Kd.V_drewN | apply Kd.V_drew)); exact HO_1.out) gb187 (Nat.le_of_eq hg.symm)) hb); replace HO_2 := Aside0.mk (Kd.V_below (Kd.V_elderB (by (with_reducible repeat (first | apply Kd.V_alloc | apply Kd.V_drewN | apply Kd.V_drew)); exact HO_2.out) gb187 (Nat.le_of_eq hg.symm)) hb); replace HO_9 := Aside0.mk (Kd.S_below (sl HO_9.out) hb); replace HO_13 := Aside0.mk (Kd.V_below (Kd.V_elderB (by (with_reducible repeat (first | apply Kd.V_alloc | apply Kd.V_drewN | apply Kd.V_drew)); exact HO_13.out) gb187 (Nat.le_of_eq hg.symm)) hb); replace HL174_0 := Aside0.mk (Kd.V_below (Kd.V_elderB (by (with_reducible repeat (first | apply Kd.V_alloc | apply Kd.V_drewN | apply Kd.V_drew)); exact HL174_0.out) gb187 (Nat.le_of_eq hg.symm)) hb); replace HO179 := Aside0.mk (Kd.R_below (rl HO179.out) hb); replace HR174_0 := Aside0.mk (Kd.C_below (by repeat (first | (with_reducible exact HR174_0.out) | (with_reducible refine Kd.C_alloc ?_ _) | (with_reducible refine Kd.C_drewN ?_ _) | (with_reducible refine Kd.C_drew ?_) | exact HR174_0.out)) hb); have BK187 := Aside0.mk (hbox); have GW187 := Aside0.mk ((by rw [hg]; exact (below_size (by repeat with_reducible first | exact bl HB.out | refine below_set ?_ GE169.out | refine below_set ?_ GE170.out | refine below_set ?_ GE181.out | refine bq ?_)) : w.heap.size ≤ gb187)); have GE187 := GW187; replace HB := Aside0.mk (below_step (by repeat with_reducible first | exact bl HB.out | refine below_set ?_ GE169.out | refine below_set ?_ GE170.out | refine below_set ?_ GE181.out | refine bq ?_) hb); have NB169_187 := nb_ hg BK169.out; have NB187_169 := Aside0.mk NB169_187.out.symm; replace BK169 := Aside0.mk (blk_below (bk BK169.out) hb); have NB170_187 := nb_ hg BK170.out; have NB187_170 := Aside0.mk NB170_187.out.symm; replace BK170 := Aside0.mk (blk_below (bk BK170.out) hb); have NB181_187 := nb_ hg BK181.out; have NB187_181 := Aside0.mk NB181_187.out.symm; replace BK181 := Aside0.mk (blk_below (bk BK181.out) hb); clear hb hbox hg; have hnb62 := NB187_169.out; have hnc62 := NB169_187.out; have hnb63 := NB187_170.out; have hnc63 := NB170_187.out; have hnb64 := NB187_181.out; have hnc64 := NB181_187.out; obtain ⟨hcz65_0, hcz65_1, hcz65_2⟩ := ck3 BK187.out; obtain ⟨hfz65_0, hfz65_1, hfz65_2⟩ := fz3 BK187.out))
                   go_roundg kj18
                   case measure => have := HJ3.out; have := HK2.out; have := HJ14.out; have := HK4.out; have := HJ18.out; omega
                   case rel => exact ⟨(x9_4), (x10_4), (wrap64 (x12_4 + 1)), (x170000_4), (x170001_4), (x170002_4), (by first | rfl | (simp; done) | (simp [*]; done)), (by first | rfl | (simp; done) | (simp [*]; done)), H', ⟨by have := HJ3.out; have := HK2.out; have := HJ14.out; have := HK4.out; have := HJ18.out; omega⟩, ⟨by (with_reducible repeat (first | apply Kd.V_alloc | apply Kd.V_drewN | apply Kd.V_drew)); exact Kd.V_mono (Kd.V_far (p := ⟨gb187, 2, none⟩) (Kd.V_far (p := ⟨gb187, 1, none⟩) (Kd.V_far (p := ⟨gb187, 0, none⟩) (Kd.V_mono HO_1.out (fun k_ hk => (⟨hk, hk.2⟩ : _ ∧ k_ ≠ gb187))) (fun _ hk => hk.2) (.int .i64 t182)) (fun _ hk => hk.2) (.int .i64 t183)) (fun _ hk => hk.2) (.int .i64 t184)) (fun _ hk => ⟨hk.1.1.1.1.1, ⟨hk.1.1.1.1.2.1, ⟨hk.1.1.1.1.2.2.1, hk.1.1.1.1.2.2.2⟩⟩⟩)⟩, ⟨by (with_reducible repeat (first | apply Kd.V_alloc | apply Kd.V_drewN | apply Kd.V_drew)); exact Kd.V_mono (Kd.V_far (p := ⟨gb187, 2, none⟩) (Kd.V_far (p := ⟨gb187, 1, none⟩) (Kd.V_far (p := ⟨gb187, 0, none⟩) (Kd.V_mono HO_2.out (fun k_ hk => (⟨hk, hk.2⟩ : _ ∧ k_ ≠ gb187))) (fun _ hk => hk.2) (.int .i64 t182)) (fun _ hk => hk.2) (.int .i64 t183)) (fun _ hk => hk.2) (.int .i64 t184)) (fun _ hk => ⟨hk.1.1.1.1.1, ⟨hk.1.1.1.1.2.1, ⟨hk.1.1.1.1.2.2.1, hk.1.1.1.1.2.2.2⟩⟩⟩)⟩, ⟨by (repeat apply sl1); exact Kd.S_mono (Kd.S_far (p := ⟨gb187, 2, none⟩) (Kd.S_far (p := ⟨gb187, 1, none⟩) (Kd.S_far (p := ⟨gb187, 0, none⟩) (Kd.S_types HO_9.out BK187.out (by decide)) (fun _ hk => hk.2) (.int .i64 t182)) (fun _ hk => hk.2) (.int .i64 t183)) (fun _ hk => hk.2) (.int .i64 t184)) (fun _ hk => hk.1.1.1)⟩, ⟨by (repeat refine bk1 ?_); refine blk_far ?_ NB169_187.out _; (repeat refine bk1 ?_); refine blk_far ?_ NB169_187.out _; (repeat refine bk1 ?_); refine blk_far ?_ NB169_187.out _; (repeat refine bk1 ?_); exact BK169.out⟩, ⟨by (repeat refine bk1 ?_); refine blk_far ?_ NB170_187.out _; (repeat refine bk1 ?_); refine blk_far ?_ NB170_187.out _; (repeat refine bk1 ?_); refine blk_far ?_ NB170_187.out _; (repeat refine bk1 ?_); exact BK170.out⟩, ⟨by repeat with_reducible first | exact bl HB.out | refine below_set ?_ GE169.out | refine below_set ?_ GE170.out | refine below_set ?_ GE181.out | refine below_set ?_ GE187.out | refine bq ?_⟩⟩
                 ·
                  rw [if_neg c26] at H
                  have c26b0 : (t180 == 0) = false := beq_eq_false_iff_ne.mpr c26
                  have c26b1 : (t180 != 0) = true := bne_iff_ne.mpr c26
                  have H' := Aside0.mk H
                  clear H
                  obtain ⟨Ao66, co66, eo66⟩ := Kd.V_slice HO_13.out
                  subst eo66
                  have p174 : 0 ≤ (x11_2 : Int) := of_decide_eq_true (by first | (with_reducible assumption) | assumption)
                  have q174 : x11_2 < (x13_18.length : Int) := of_decide_eq_true (by first | (with_reducible assumption) | assumption)
                  obtain ⟨ad174, A174_0, c174_0, e174, hx174_0, hl174_0, hi174_0⟩ := at_L1 (Kd.V_reads' HO_13.out).2.2 x11_2 p174 q174
                  cases e174
                  obtain ⟨ce174, hce174, hMe174, hcc174⟩ := Kd.V_get HO_13.out [] x11_2 p174 (by first | exact q174 | exact of_decide_eq_true (by first | (with_reducible assumption) | assumption) | (have e_ := (Kd.V_reads' HO_13.out).1; omega))
                  obtain ⟨ua174_0, uc174_0, rfl, ul174_0, ge174_0⟩ := Kd.FK_slice_open hMe174
                  have hv174_0 := hcc174 0 _ rfl
                  rw [Nat.add_zero, show ((Kd.slice 5 (Kd.int .u8))).sz = 1 from rfl, Nat.mul_one] at hv174_0
                  replace hv174_0 := Option.some.inj (hv174_0.symm.trans hx174_0)
                  injection hv174_0 with hva_ hvn_ hvc_
                  rw [hva_] at ge174_0
                  rw [hvc_] at ul174_0
                  have HL174_0 := Aside0.mk (show Kd.V (Kd.int .u8) 5 _ w.heap.size _ _ (rd_L1 x13_18 x11_2) from Kd.V_mk ul174_0 ge174_0)
                  clear hva_ hvn_ hvc_ ge174_0 ul174_0
                  clear hcc174 hce174
                  have HR174_0 := Aside0.mk hi174_0
                  have HC174_0 := Aside0.mk hl174_0
                  clear hi174_0 hl174_0
                  replace p174 := eq_true p174
                  replace q174 := eq_true q174
                  go_wp2_with (first | ((with_reducible refine gate_callee (f := 43) rfl ?_); refine goesL_ (some 59) rfl rfl Try.func43 (by kernel_rfl) rfl #[.slice A174_0 (rd_L1 x13_18 x11_2).length c174_0] rfl (by (try simp only [am_]); first | done | rfl) ?_; (with_reducible refine (spec_Get16.calls kj18 _ _ (rd_L1 x13_18 x11_2) t175 t176 t177 t180 _ ?side1 ?side2 A25.out).mono ?_); (case side1 => repeat (first | exact (by repeat (first | (with_reducible exact HR174_0.out) | (with_reducible refine Kd.C_alloc ?_ _) | (with_reducible refine Kd.C_drewN ?_ _) | (with_reducible refine Kd.C_drew ?_) | exact HR174_0.out)) | (with_reducible refine Kd.C_alloc ?_ _) | (with_reducible refine Kd.C_drewN ?_ _) | (with_reducible refine Kd.C_drew ?_))); (case side2 => exact HC174_0.out); rintro e w67 ⟨v178, rfl, ho0, hb⟩; refine ⟨_, rfl, ?_⟩; replace HO_1 := Aside0.mk (Kd.V_elder' (by (with_reducible repeat (first | apply Kd.V_alloc | apply Kd.V_drewN | apply Kd.V_drew)); exact HO_1.out) (Kd.R_base ho0) hb); replace HO_2 := Aside0.mk (Kd.V_elder' (by (with_reducible repeat (first | apply Kd.V_alloc | apply Kd.V_drewN | apply Kd.V_drew)); exact HO_2.out) (Kd.R_base ho0) hb); replace HO_9 := Aside0.mk (Kd.S_elder' (sl HO_9.out) (Kd.R_base ho0) hb); replace HO_13 := Aside0.mk (Kd.V_elder' (by (with_reducible repeat (first | apply Kd.V_alloc | apply Kd.V_drewN | apply Kd.V_drew)); exact HO_13.out) (Kd.R_base ho0) hb); replace HL174_0 := Aside0.mk (Kd.V_elder' (by (with_reducible repeat (first | apply Kd.V_alloc | apply Kd.V_drewN | apply Kd.V_drew)); exact HL174_0.out) (Kd.R_base ho0) hb); have HO179 := Aside0.mk (Kd.R_lower (Kd.R_newM (M := fun k_ => (w.heap.size ≤ k_)) ho0 (below_size (by repeat with_reducible first | exact bl HB.out | refine below_set ?_ GE169.out | refine below_set ?_ GE170.out | refine bq ?_)) (fun k_ h_ => h_)) (below_size (by repeat with_reducible first | exact bl HB.out | refine below_set ?_ GE169.out | refine below_set ?_ GE170.out | refine bq ?_))); replace BK169 := Aside0.mk (blk_below (bk BK169.out) hb); replace BK170 := Aside0.mk (blk_below (bk BK170.out) hb); replace HR174_0 := Aside0.mk (Kd.C_below (by repeat (first | (with_reducible exact HR174_0.out) | (with_reducible refine Kd.C_alloc ?_ _) | (with_reducible refine Kd.C_drewN ?_ _) | (with_reducible refine Kd.C_drew ?_) | exact HR174_0.out)) hb); replace HB := Aside0.mk (below_step (by repeat with_reducible first | exact bl HB.out | refine below_set ?_ GE169.out | refine below_set ?_ GE170.out | refine bq ?_) hb); (try clear hb); (try clear hb2); (try clear hk); (try clear hi); (try clear ho0)) | ((with_reducible refine gate_dst (N := 14) rfl ?_); (try (refine gate_guard (by rfl) ?_; dsimp only)); refine box_event ?hg (N := 14) ?hd (cs := #[.int .i64 0, .int .i64 0, .slice none 0 0]) (t := 41) ?hr ?_; (case hd => rfl); (case hg => rfl); (case hr => first | (go_simp; done) | (go_simp; rfl)); intro gb181 hg w68 hbox hb; replace HO_1 := Aside0.mk (Kd.V_below (Kd.V_elderB (by (with_reducible repeat (first | apply Kd.V_alloc | apply Kd.V_drewN | apply Kd.V_drew)); exact HO_1.out) gb181 (Nat.le_of_eq hg.symm)) hb); replace HO_2 := Aside0.mk (Kd.V_below (Kd.V_elderB (by (with_reducible repeat (first | apply Kd.V_alloc | apply Kd.V_drewN | apply Kd.V_drew)); exact HO_2.out) gb181 (Nat.le_of_eq hg.symm)) hb); replace HO_9 := Aside0.mk (Kd.S_below (Kd.S_elderB (sl HO_9.out) gb181 (Nat.le_of_eq hg.symm)) hb); replace HO_13 := Aside0.mk (Kd.V_below (Kd.V_elderB (by (with_reducible repeat (first | apply Kd.V_alloc | apply Kd.V_drewN | apply Kd.V_drew)); exact HO_13.out) gb181 (Nat.le_of_eq hg.symm)) hb); replace HL174_0 := Aside0.mk (Kd.V_below (Kd.V_elderB (by (with_reducible repeat (first | apply Kd.V_alloc | apply Kd.V_drewN | apply Kd.V_drew)); exact HL174_0.out) gb181 (Nat.le_of_eq hg.symm)) hb); replace HO179 := Aside0.mk (Kd.R_below (rl HO179.out) hb); replace HR174_0 := Aside0.mk (Kd.C_below (by repeat (first | (with_reducible exact HR174_0.out) | (with_reducible refine Kd.C_alloc ?_ _) | (with_reducible refine Kd.C_drewN ?_ _) | (with_reducible refine Kd.C_drew ?_) | exact HR174_0.out)) hb); have BK181 := Aside0.mk (hbox); have GW181 := Aside0.mk ((by rw [hg]; exact (below_size (by repeat with_reducible first | exact bl HB.out | refine below_set ?_ GE169.out | refine below_set ?_ GE170.out | refine bq ?_)) : w.heap.size ≤ gb181)); have GE181 := GW181; replace HB := Aside0.mk (below_step (by repeat with_reducible first | exact bl HB.out | refine below_set ?_ GE169.out | refine below_set ?_ GE170.out | refine bq ?_) hb); have NB169_181 := nb_ hg BK169.out; have NB181_169 := Aside0.mk NB169_181.out.symm; replace BK169 := Aside0.mk (blk_below (bk BK169.out) hb); have NB170_181 := nb_ hg BK170.out; have NB181_170 := Aside0.mk NB170_181.out.symm; replace BK170 := Aside0.mk (blk_below (bk BK170.out) hb); clear hb hbox hg; have hnb69 := NB181_169.out; have hnc69 := NB169_181.out; have hnb70 := NB181_170.out; have hnc70 := NB170_181.out; obtain ⟨hcz71_0, hcz71_1, hcz71_2⟩ := ck3 BK181.out; obtain ⟨hfz71_0, hfz71_1, hfz71_2⟩ := fz3 BK181.out; obtain ⟨Ao72, co72, eo72⟩ := Kd.R_slice HO179.out; subst eo72))
                  go_roundg kj18
                  case measure => have := HJ3.out; have := HK2.out; have := HJ14.out; have := HK4.out; have := HJ18.out; omega
                  case rel => exact ⟨(x9_4), (x10_4), (wrap64 (x12_4 + 1)), (x170000_4), (x170001_4), (x170002_4), (by first | rfl | (simp; done) | (simp [*]; done)), (by first | rfl | (simp; done) | (simp [*]; done)), H', ⟨by have := HJ3.out; have := HK2.out; have := HJ14.out; have := HK4.out; have := HJ18.out; omega⟩, ⟨by (with_reducible repeat (first | apply Kd.V_alloc | apply Kd.V_drewN | apply Kd.V_drew)); exact Kd.V_mono (Kd.V_far (p := ⟨gb181, 2, none⟩) (Kd.V_far (p := ⟨gb181, 1, none⟩) (Kd.V_far (p := ⟨gb181, 0, none⟩) (Kd.V_mono HO_1.out (fun k_ hk => (⟨hk, hk.2⟩ : _ ∧ k_ ≠ gb181))) (fun _ hk => hk.2) (.int .i64 t175)) (fun _ hk => hk.2) (.int .i64 t176)) (fun _ hk => hk.2) (.slice Ao72 t177.length co72)) (fun _ hk => ⟨hk.1.1.1.1, ⟨hk.1.1.1.2.1, ⟨hk.1.1.1.2.2.1, hk.1.1.1.2.2.2⟩⟩⟩)⟩, ⟨by (with_reducible repeat (first | apply Kd.V_alloc | apply Kd.V_drewN | apply Kd.V_drew)); exact Kd.V_mono (Kd.V_far (p := ⟨gb181, 2, none⟩) (Kd.V_far (p := ⟨gb181, 1, none⟩) (Kd.V_far (p := ⟨gb181, 0, none⟩) (Kd.V_mono HO_2.out (fun k_ hk => (⟨hk, hk.2⟩ : _ ∧ k_ ≠ gb181))) (fun _ hk => hk.2) (.int .i64 t175)) (fun _ hk => hk.2) (.int .i64 t176)) (fun _ hk => hk.2) (.slice Ao72 t177.length co72)) (fun _ hk => ⟨hk.1.1.1.1, ⟨hk.1.1.1.2.1, ⟨hk.1.1.1.2.2.1, hk.1.1.1.2.2.2⟩⟩⟩)⟩, ⟨by (repeat apply sl1); exact Kd.S_mono (Kd.S_far (p := ⟨gb181, 2, none⟩) (Kd.S_far (p := ⟨gb181, 1, none⟩) (Kd.S_far (p := ⟨gb181, 0, none⟩) (Kd.S_mono HO_9.out (fun k_ hk => (⟨hk, hk.2⟩ : _ ∧ k_ ≠ gb181))) (fun _ hk => hk.2) (.int .i64 t175)) (fun _ hk => hk.2) (.int .i64 t176)) (fun _ hk => hk.2) (.slice Ao72 t177.length co72)) (fun _ hk => hk.1.1.1)⟩, ⟨by (repeat refine bk1 ?_); refine blk_far ?_ NB169_181.out _; (repeat refine bk1 ?_); refine blk_far ?_ NB169_181.out _; (repeat refine bk1 ?_); refine blk_far ?_ NB169_181.out _; (repeat refine bk1 ?_); exact BK169.out⟩, ⟨by (repeat refine bk1 ?_); refine blk_far ?_ NB170_181.out _; (repeat refine bk1 ?_); refine blk_far ?_ NB170_181.out _; (repeat refine bk1 ?_); refine blk_far ?_ NB170_181.out _; (repeat refine bk1 ?_); exact BK170.out⟩, ⟨by repeat with_reducible first | exact bl HB.out | refine below_set ?_ GE169.out | refine below_set ?_ GE170.out | refine below_set ?_ GE181.out | refine bq ?_⟩⟩
                ·
                 rw [if_neg c24] at H
                 exact absurd H (by simp)
               ·
                rw [if_neg c23] at H
                exact absurd H (by simp)
           ·
            rw [if_neg c18] at H
            have c18b0 : decide (x12_4 < 2) = false := decide_eq_false c18
            clear c18
            have H' := Aside0.mk H
            clear H
            go_wp2
            go_roundg k4
            case measure => have := HJ3.out; have := HK2.out; have := HJ14.out; have := HK4.out; omega
            case rel => exact ⟨(x9_4), (x10_4), (wrap64 (x11_2 + 1)), (x170000_4), (x170001_4), (x170002_4), (by first | rfl | (simp; done) | (simp [*]; done)), (by first | rfl | (simp; done) | (simp [*]; done)), H', ⟨by have := HJ3.out; have := HK2.out; have := HJ14.out; have := HK4.out; omega⟩, ⟨by (with_reducible repeat (first | apply Kd.V_alloc | apply Kd.V_drewN | apply Kd.V_drew)); exact HO_1.out⟩, ⟨by (with_reducible repeat (first | apply Kd.V_alloc | apply Kd.V_drewN | apply Kd.V_drew)); exact HO_2.out⟩, ⟨sl HO_9.out⟩, ⟨bk BK169.out⟩, ⟨bk BK170.out⟩, ⟨by repeat with_reducible first | exact bl HB.out | refine below_set ?_ GE169.out | refine below_set ?_ GE170.out | refine bq ?_⟩⟩
        ·
         replace c17 := Bool.eq_false_iff.mpr c17
         subst c17
         have H1 : (some (x9_2, x10_2, x170000_2, x170001_2, x170002_2)) = some (r1, r2, r3, r4, r5) := by rw [if_neg (show ¬ (false = true) by decide)] at H; exact H
         clear H
         have H := H1
         clear H1
         simp only [Option.some.injEq, Prod.mk.injEq] at H
         obtain ⟨rfl, rfl, rfl, rfl, rfl⟩ := H
         try go_wp2
         have n0_ := Aside0.mk (Kd.V_drew HO_1.out)
         have n1_ := Aside0.mk (Kd.V_drew HO_2.out)
         have n2_ := Aside0.mk (Kd.S_drew HO_9.out)
         have n3_ := Aside0.mk (blk_drew BK169.out)
         have n4_ := Aside0.mk (blk_drew BK170.out)
         have n5_ := Aside0.mk (below_drew1 HB.out)
         clear HO_1
         clear HO_2
         clear HO_9
         clear BK169
         clear BK170
         clear HB
         have HO_1 := n0_
         have HO_2 := n1_
         have HO_9 := n2_
         have BK169 := n3_
         have BK170 := n4_
         have HB := n5_
         clear n0_ n1_ n2_ n3_ n4_ n5_
         refine start_ (n := 6) (S := fun w' => w'.cell? ⟨gb169, 0, none⟩ = some (.int .i64 x170000_2) ∧ w'.cell? ⟨gb169, 1, none⟩ = some (.int .i64 x170001_2) ∧ w'.cell? ⟨gb169, 2, none⟩ = some (.int .i64 x170002_2)) (ds := []) m0_6 (by kernel_rfl) rfl rfl ⟨ck BK169.out 0 rfl, ck BK169.out 1 rfl, ck BK169.out 2 rfl⟩ (fun hHeld => ?_)
         generalize wc.drew = w73 at HO_1 HO_2 HO_9 BK169 BK170 HB hHeld ⊢
         refine pure_ (i := 0) (N := some 80) (v := ?_) (a' := ?_) m1_6 rfl rfl (by kernel_rfl) (fun _ _ _ h => h) (Or.inl ⟨by rfl, ?_⟩) ?_ ?_
         rotate_left
         ·
          intro w'
          go_simp
          with_reducible rfl
         rotate_left
         ·
          simp only [sp_]
          rfl
         refine pure_ (i := 1) (N := some 81) (v := ?_) (a' := ?_) m2_6 rfl rfl (by kernel_rfl) (fun _ _ _ h => h) (Or.inl ⟨by rfl, ?_⟩) ?_ ?_
         rotate_left
         ·
          intro w'
          go_simp
          with_reducible rfl
         rotate_left
         ·
          simp only [sp_]
          rfl
         refine pure_ (i := 3) (N := some 6) (v := ?_) (a' := ?_) n89 rfl rfl (by kernel_rfl) (fun _ _ _ h => h) (Or.inl ⟨by rfl, ?_⟩) ?_ ?_
         rotate_left
         ·
          intro w'
          go_simp
          with_reducible rfl
         rotate_left
         ·
          simp only [sp_]
          rfl
         refine pure_ (i := 4) (N := some 7) (v := ?_) (a' := ?_) n90 rfl rfl (by kernel_rfl) (fun _ _ _ h => h) (Or.inl ⟨by rfl, ?_⟩) ?_ ?_
         rotate_left
         ·
          intro w'
          go_simp
          with_reducible rfl
         rotate_left
         ·
          simp only [sp_]
          rfl
         refine take_ (i := 2) (N := some 82) (v := ?_) (a' := ?_) m5_6 rfl rfl (by kernel_rfl) (fun _ _ _ h => h) (Or.inl ⟨by rfl, ?_⟩) hHeld ?_ ?_
         rotate_left
         ·
          rintro w' ⟨s0, s1, s2⟩
          go_simp
          with_reducible rfl
         rotate_left
         ·
          simp only [sp_]
          rfl
         refine one_ (i := 5) (N := none) m6_6 rfl rfl (by kernel_rfl) (by decide) (fun K hK => ?_)
         have hs74 : w73.cell? ⟨gb170, 0, none⟩ = some (.int .i64 0) := ck BK170.out 0 rfl
         have hfs74 := blk_frozen BK170.out 0
         have hns74_0 := NB169_170.out
         have hms74_0 := NB170_169.out
         have hs75 : w73.cell? ⟨gb170, 1, none⟩ = some (.int .i64 0) := ck BK170.out 1 rfl
         have hfs75 := blk_frozen BK170.out 1
         have hns75_0 := NB169_170.out
         have hms75_0 := NB170_169.out
         have hs76 : w73.cell? ⟨gb170, 2, none⟩ = some (.int .i64 0) := ck BK170.out 2 rfl
         have hfs76 := blk_frozen BK170.out 2
         have hns76_0 := NB169_170.out
         have hms76_0 := NB170_169.out
         refine skip_ (w1 := ?_) (by rfl) rfl ?_ ?_
         rotate_left
         ·
          go_simp
          rfl
         refine hK.out _ _ ⟨((cell_far (p := ⟨gb170, _, none⟩) NB169_170.out _).trans (((cell_far (p := ⟨gb170, _, none⟩) NB169_170.out _).trans (((cell_far (p := ⟨gb170, _, none⟩) NB169_170.out _).trans (hHeld.1)))))), ((cell_far (p := ⟨gb170, _, none⟩) NB169_170.out _).trans (((cell_far (p := ⟨gb170, _, none⟩) NB169_170.out _).trans (((cell_far (p := ⟨gb170, _, none⟩) NB169_170.out _).trans (hHeld.2.1)))))), ((cell_far (p := ⟨gb170, _, none⟩) NB169_170.out _).trans (((cell_far (p := ⟨gb170, _, none⟩) NB169_170.out _).trans (((cell_far (p := ⟨gb170, _, none⟩) NB169_170.out _).trans (hHeld.2.2))))))⟩ (fun hHeld => ?_)
         clear hK K
         refine done_ (by kernel_rfl) ?_
         try go_wp2
         refine bodyPost_ret (results_list (rs := [.tmp 6, .tmp 7, .cell 8 25]) rfl (by simp) (.tmp (.tmp (.cell gb170 25 #[.int .i64 x170000_2, .int .i64 x170001_2, .int .i64 x170002_2] (0, 0) _ rfl (by (repeat refine bk1 ?_); refine blk_put (cs := #[.int .i64 x170000_2, .int .i64 x170001_2, .int .i64 0]) ?_ 2 _ rfl; (repeat refine bk1 ?_); refine blk_put (cs := #[.int .i64 x170000_2, .int .i64 0, .int .i64 0]) ?_ 1 _ rfl; (repeat refine bk1 ?_); refine blk_put (cs := #[.int .i64 0, .int .i64 0, .int .i64 0]) ?_ 0 _ rfl; (repeat refine bk1 ?_); exact BK170.out) Try.underlying25 rfl (by kernel_rfl) .nil)))) rfl ?_
         exact ⟨_, by first | rfl | (simp [errW_none, errW_some] <;> rfl) | (simp [*, errW_none, errW_some] <;> rfl), by (repeat apply sl1); exact Kd.S_mono (Kd.S_far (p := ⟨gb170, 2, none⟩) (Kd.S_far (p := ⟨gb170, 1, none⟩) (Kd.S_far (p := ⟨gb170, 0, none⟩) (Kd.S_types HO_9.out BK170.out (by decide)) (fun _ hk => hk.2) (.int .i64 x170000_2)) (fun _ hk => hk.2) (.int .i64 x170001_2)) (fun _ hk => hk.2) (.int .i64 x170002_2)) (fun _ hk => hk.1), by repeat with_reducible first | exact bl HB.out | refine below_set ?_ GE169.out | refine below_set ?_ GE170.out | refine bq ?_⟩

/-! ### laws_toByteS: function 44 -/
def laws_toByteS.l0 : Nat → List Int → List Int → Int → Option (List Int)
 | 0, _, _, _ => none
 | k + 1, x0, x3, x4 => if x4 < (x0.length : Int) then (if 0 ≤ x4 then (if x4 < (x3.length : Int) then (laws_toByteS.l0 k x0 (x3.set (x4 : Int).toNat (rd x0 x4)) (wrap64 (x4 + 1))) else (none)) else (none)) else (some x3)
def laws_toByteS.f (k : Nat) (l0 : List Int) : Option (List Int) := if 0 ≤ (l0.length : Int) then (if ((l0.length : Int) : Int).toNat ≤ 281474976710656 then (laws_toByteS.l0 k l0 (List.replicate ((l0.length : Int) : Int).toNat 0) 0) else (none)) else (none)
theorem laws_toByteS.mono_l : ∀ k, (∀ y0 y1 y2, LeO (laws_toByteS.l0 k y0 y1 y2) (laws_toByteS.l0 (k + 1) y0 y1 y2))
 | 0 => fun _ _ _ r h => by simp [laws_toByteS.l0] at h
 | k + 1 => by
  have ih0 := laws_toByteS.mono_l k
  ·
   intro y0 y1 y2
   unfold laws_toByteS.l0
   repeat' first
   | (with_reducible exact ih0 _ _ _)
   | (with_reducible exact LeO.refl _)
   | (with_reducible exact LeO.none _)
   | (with_reducible refine LeO.ite ?_ ?_)
   | (with_reducible refine LeO.bind ?_ (fun _ => ?_))
   | exact ih0 _ _ _
   | exact LeO.none _
   | refine LeO.ite ?_ ?_
   | refine LeO.bind ?_ (fun _ => ?_)
theorem laws_toByteS.mono : ∀ a0 k, LeO (laws_toByteS.f k a0) (laws_toByteS.f (k + 1) a0) := by
 intro a0 k
 have ih0 := laws_toByteS.mono_l k
 unfold laws_toByteS.f
 repeat' first
   | (with_reducible exact ih0 _ _ _)
   | (with_reducible exact LeO.refl _)
   | (with_reducible exact LeO.none _)
   | (with_reducible refine LeO.ite ?_ ?_)
   | (with_reducible refine LeO.bind ?_ (fun _ => ?_))
   | exact ih0 _ _ _
   | exact LeO.none _
   | refine LeO.ite ?_ ?_
   | refine LeO.bind ?_ (fun _ => ?_)
set_option maxHeartbeats 8000000 in
set_option maxRecDepth 100000 in
theorem laws_toByteS.calls (k : Nat) (A0 : Option Addr) (c0 : Nat) (l0 : List Int) (r : List Int) (w : World) (hr0 : Kd.C (Kd.int .u8) w A0 l0.length l0) (hc0 : l0.length ≤ c0) (h : laws_toByteS.f k l0 = some r) :
  Calls Try.prog 44 #[.slice A0 l0.length c0] w fun e w' => ∃ v0_ : Value, e = .returned (v0_) ∧ Kd.R (Kd.int .u8) 5 w' w.heap.size (fun _ => True) v0_ r ∧ Below w.heap.size w w' := by
 have HR0 := Aside0.mk hr0
 have HC0 := Aside0.mk hc0
 clear hr0 hc0
 have HB := Aside0.mk (Below.refl w.heap.size w)
 have H : (if 0 ≤ (l0.length : Int) then (if ((l0.length : Int) : Int).toNat ≤ 281474976710656 then (laws_toByteS.l0 k l0 (List.replicate ((l0.length : Int) : Int).toNat 0) 0) else (none)) else (none)) = some r := h
 clear h
 by_cases c2 : 0 ≤ (l0.length : Int)
 ·
  rw [if_pos c2] at H
  have c2b0 := eq_true c2
  have c2b1 : decide (0 ≤ (l0.length : Int)) = true := decide_eq_true c2
  clear c2
  by_cases c3 : ((l0.length : Int) : Int).toNat ≤ 281474976710656
  ·
   rw [if_pos c3] at H
   have c3b0 := eq_true c3
   have c3b1 : decide (((l0.length : Int) : Int).toNat ≤ 281474976710656) = true := decide_eq_true c3
   clear c3
   obtain ⟨y191, hy191⟩ : ∃ y_ : List Int, y_ = (List.replicate ((l0.length : Int) : Int).toNat 0) := ⟨_, rfl⟩
   replace H : (laws_toByteS.l0 k l0 y191 0) = some r := by first | (rw [hy191]; with_reducible exact H) | (have H2_ := (Option.bind_some _ _).symm.trans H; rw [hy191]; with_reducible exact H2_) | (have H2_ := (Option.bind_some _ _).symm.trans H; with_reducible exact H2_) | with_reducible exact H | (rw [hy191]; exact H) | exact H
   have Ny191 := Aside0.mk hy191
   clear hy191
   have H' := Aside0.mk H
   clear H
   go_enter Try.func44, Try.ntmps44
   go_wp2_with (first | ((with_reducible refine gate_dst (N := 7) rfl ?_); refine Kd.R_make (Kd.int .u8) _ 5 rfl (N := 7) rfl 28 _ _ rfl (l0.length : Int) rfl rfl Try.underlying28 (.int .u8 0) 1 info5 rfl (by decide) (by omega) 0 (ok := fun _ => True) (okp := fun _ => True) rfl (fun _ hk => hk) trivial (of_decide_eq_true (by first | (with_reducible assumption) | assumption)) (Nat.le_trans (Nat.mul_le_mul_right _ (of_decide_eq_true (by first | (with_reducible assumption) | assumption) : (l0.length : Int).toNat ≤ 281474976710656)) (by omega)) (Below.refl _ _) (Nat.le_refl _) ?_; intro v192 w4 ho5 hb hg_ hnew_; clear hg_ hnew_; (first | rw [← Ny191.out] at ho5 | (simp only [Int.reduceToNat] at ho5; rw [← Ny191.out] at ho5)); have HO193 := Aside0.mk (Kd.R_lower ho5 (below_size (bl HB.out))); replace HB := Aside0.mk (below_step (bl HB.out) hb); clear hb ho5))
   go_loopg [4] k (fun kq v4 w' => ∃ (x3_1 : List Int) (x4_1 : Int), v4 = .int .i64 x4_1 ∧ Aside0 (laws_toByteS.l0 kq l0 x3_1 x4_1 = some r) ∧ Aside0 (kq ≤ k) ∧ Aside0 (Kd.R (Kd.int .u8) 5 w' w.heap.size (fun _ => True) v192 x3_1) ∧ Aside0 (Below w.heap.size w w'))
   case atStart => exact ⟨(y191), (0), (by first | rfl | (simp; done) | (simp [*]; done)), H', ⟨Nat.le_refl _⟩, ⟨rl HO193.out⟩, ⟨bl HB.out⟩⟩
   case round =>
    clear H'
    try clear c2
    try clear c2b0
    try clear c2b1
    try clear p2
    try clear c3
    try clear c3b0
    try clear c3b1
    try clear c4
    obtain ⟨x3_1, x4_1, rfl, HA, HK1, HO_3, HB⟩ := hrel
    cases gk with
    | zero => exact absurd HA.out (by simp [laws_toByteS.l0])
    | succ k1 =>
     have H := HA.out
     clear HA
     simp only [laws_toByteS.l0] at H
     by_cases c6 : x4_1 < (l0.length : Int)
     ·
      rw [if_pos c6] at H
      have c6b0 : decide (x4_1 < (l0.length : Int)) = true := decide_eq_true c6
      clear c6
      by_cases c7 : 0 ≤ x4_1
      ·
       rw [if_pos c7] at H
       have c7b0 : decide (0 ≤ x4_1) = true := decide_eq_true c7
       clear c7
       by_cases c8 : x4_1 < (x3_1.length : Int)
       ·
        rw [if_pos c8] at H
        have c8b0 : decide (x4_1 < (x3_1.length : Int)) = true := decide_eq_true c8
        clear c8
        obtain ⟨y195, hy195⟩ : ∃ y_ : List Int, y_ = (x3_1.set (x4_1 : Int).toNat (rd l0 x4_1)) := ⟨_, rfl⟩
        replace H : (laws_toByteS.l0 k1 l0 y195 (wrap64 (x4_1 + 1))) = some r := by first | (rw [hy195]; with_reducible exact H) | (have H2_ := (Option.bind_some _ _).symm.trans H; rw [hy195]; with_reducible exact H2_) | (have H2_ := (Option.bind_some _ _).symm.trans H; with_reducible exact H2_) | with_reducible exact H | (rw [hy195]; exact H) | exact H
        have Ny195 := Aside0.mk hy195
        clear hy195
        have H' := Aside0.mk H
        clear H
        have p194 : 0 ≤ (x4_1 : Int) := of_decide_eq_true (by first | (with_reducible assumption) | assumption)
        have q194 : x4_1 < (l0.length : Int) := of_decide_eq_true (by first | (with_reducible assumption) | assumption)
        obtain ⟨ad194, e194, hx194_0⟩ := Kd.at_int HR0.out x4_1 p194 q194
        cases e194
        replace hx194_0 := bc HB.out hx194_0
        replace p194 := eq_true p194
        replace q194 := eq_true q194
        have p9 : 0 ≤ (x4_1 : Int) := of_decide_eq_true (by first | (with_reducible assumption) | assumption)
        have q9 : (x4_1 : Int) < ((x3_1.length : Int) : Int) := of_decide_eq_true (by first | (with_reducible assumption) | assumption)
        obtain ⟨go9, co9, eo9, gb9, gl9, cl9, HG9⟩ := Kd.R_form HO_3.out (by omega)
        (first | cases eo9 | (injection eo9 with ea_ en_ ec_; (first | subst ea_ | (injection ea_ with ea_; subst ea_)); subst ec_; clear en_))
        have GB9 := Aside0.mk gb9
        have GG9 := Aside0.mk HG9
        clear gb9 gl9 HG9
        obtain ⟨hx9_0, hf9_0⟩ := Kd.R_celln 0 HO_3.out (x4_1 : Int) p9 q9
        replace p9 := eq_true p9
        replace q9 := eq_true q9
        have HP10 := Kd.R_putg HO_3.out (x4_1 : Int) (rd l0 x4_1)
        go_wp2_with (first | ((with_reducible refine gate_store (t := 5) (p := 20) rfl ?_); refine store_event (t := 5) (p := 20) (v := ?vo_w11) (w1 := (wr.setCell ⟨go9, (x4_1 : Int).toNat, none⟩ (.int .u8 (rd l0 x4_1)))) ?hg ?ho ?hn ?hr ?_; (case ho => rfl); (case hg => rfl); (case hn => rfl); (case hr => first | (go_simp; done) | (go_simp; rfl)); intro w11 hw; have hg : wr.grownBy w11 (some go9) := (by rw [hw]; exact HP10.2); have hp_ : Kd.R (Kd.int .u8) 5 w11 w.heap.size (fun _ => True) (.slice (some ⟨go9, 0, none⟩) x3_1.length co9) y195 := (by rw [hw, Ny195.out]; exact HP10.1); clear HP10; replace HO_3 := Aside0.mk (hp_); replace HB := Aside0.mk ((by rw [hw]; exact below_set (HB.out) GB9.out : Below w.heap.size w w11)); clear hg hw hp_))
        go_roundg k1
        case measure => have := HK1.out; omega
        case rel => exact ⟨(y195), (wrap64 (x4_1 + 1)), (by first | rfl | (simp; done) | (simp [*]; done)), H', ⟨by have := HK1.out; omega⟩, ⟨rl HO_3.out⟩, ⟨bl HB.out⟩⟩
       ·
        rw [if_neg c8] at H
        exact absurd H (by simp)
      ·
       rw [if_neg c7] at H
       exact absurd H (by simp)
     ·
      rw [if_neg c6] at H
      have c6b0 : decide (x4_1 < (l0.length : Int)) = false := decide_eq_false c6
      clear c6
      obtain rfl := Option.some.inj H
      go_wp2
      go_ret
      exact ⟨_, by first | rfl | (simp [errW_none, errW_some] <;> rfl) | (simp [*, errW_none, errW_some] <;> rfl), by (repeat apply rl1); exact HO_3.out, bl HB.out⟩
  ·
   rw [if_neg c3] at H
   exact absurd H (by simp)
 ·
  rw [if_neg c2] at H
  exact absurd H (by simp)

end Go.Proofs.Ytcdniegjefejcaa.PFnExactBoth16
