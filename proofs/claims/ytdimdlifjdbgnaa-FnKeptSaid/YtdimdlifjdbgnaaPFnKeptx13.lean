-- Written by a program of this session (wip/xprint.py) out of the translation; Lean checks it.
import Derived.Test.YtdimdlifjdbgnaaPFnKeptx0
import Derived.Test.YtdimdlifjdbgnaaPFnKeptx1
import Derived.Test.YtdimdlifjdbgnaaPFnKeptx2
import Derived.Test.YtdimdlifjdbgnaaPFnKeptx3
import Derived.Test.YtdimdlifjdbgnaaPFnKeptx4
import Derived.Test.YtdimdlifjdbgnaaPFnKeptx5
import Derived.Test.YtdimdlifjdbgnaaPFnKeptx6
import Derived.Test.YtdimdlifjdbgnaaPFnKeptx7
import Derived.Test.YtdimdlifjdbgnaaPFnKeptx8
import Derived.Test.YtdimdlifjdbgnaaPFnKeptx9
import Derived.Test.YtdimdlifjdbgnaaPFnKeptx10
import Derived.Test.YtdimdlifjdbgnaaPFnKeptx11
import Derived.Test.YtdimdlifjdbgnaaPFnKeptx12
namespace Go.Proofs.Ytdimdlifjdbgnaa.PFnKept
open Go.RowKit Go.Proofs.YtdimdlifjdbgnaaW.PrintWords Go.Proofs.YtdimdlifjdbgnaaW.PrintLast Go.Proofs.YtdimdlifjdbgnaaW.PrintMore Go.Proofs.Ytdimdlifjdbgnaa.Sq
attribute [local go_sem] max2_int min2_int max_two min_two max_three min_three max_four min_four   -- for this text's walks alone
set_option linter.unusedVariables false
set_option linter.unusedSimpArgs false

/-! ### spec_l20Draw: function 41 -/
mutual
def spec_l20Draw.l0 : Nat → Int → List (List Int) → List Int → Int → List Int → Int → Int → Option ((List (List Int)) × Int × Int)
 | 0, _, _, _, _, _, _, _ => none
 | k + 1, x5, x6, x7, x8, x1000, x1001, x1002 => if x8 > 0 then (spec_l20Draw.l1 k x5 x6 x7 x8 (([] : List Int)) 0 x1000 x1001 x1002) else (some (x6, x1001, x1002))
def spec_l20Draw.l1 : Nat → Int → List (List Int) → List Int → Int → List Int → Int → List Int → Int → Int → Option ((List (List Int)) × Int × Int)
 | 0, _, _, _, _, _, _, _, _, _ => none
 | k + 1, x5, x6, x7, x8, x9, x10, x1000, x1001, x1002 => if x10 < x5 then (if 0 ≤ x10 then (if x10 < (x7.length : Int) then ((spec_l1Below.f x1000 x1001 x1002 41).bind fun bt469 => ((spec_l1Once.f x1000 bt469.2.1 bt469.2.2 12).bind fun bt472 => (if bt472.1 = true then ((spec_l1Below.f x1000 bt472.2.1 bt472.2.2 60001).bind fun bt475 => (spec_l20Draw.j2 k x5 x6 x7 x8 x9 x10 (wrap64 (bt475.1 - 30000)) x1000 bt475.2.1 bt475.2.2)) else (spec_l20Draw.j2 k x5 x6 x7 x8 x9 x10 (wrap64 ((wrap64 ((rd x7 x10) + bt469.1)) - 20)) x1000 bt472.2.1 bt472.2.2)))) else (none)) else (none)) else (if x6.length < 5864062014805 then (spec_l20Draw.l0 k x5 (x6 ++ [x9]) x9 (wrap64 (x8 - 1)) x1000 x1001 x1002) else (none))
def spec_l20Draw.j2 : Nat → Int → List (List Int) → List Int → Int → List Int → Int → Int → List Int → Int → Int → Option ((List (List Int)) × Int × Int)
 | 0, _, _, _, _, _, _, _, _, _, _ => none
 | k + 1, x5, x6, x7, x8, x9, x10, x11, x1000, x1001, x1002 => (spec_l1Once.f x1000 x1001 x1002 20).bind fun bt478 => (if bt478.1 = true then (if 0 ≤ x10 then (if x10 < (x7.length : Int) then ((spec_l1PickInt.f x1000 bt478.2.1 bt478.2.2 (([100, (-100), 101, (-101)] : List Int))).bind fun bt485 => (spec_l20Draw.j3 k x5 x6 x7 x8 x9 x10 (wrap64 ((rd x7 x10) + bt485.1)) x1000 bt485.2.1 bt485.2.2)) else (none)) else (none)) else (spec_l20Draw.j3 k x5 x6 x7 x8 x9 x10 x11 x1000 bt478.2.1 bt478.2.2))
def spec_l20Draw.j3 : Nat → Int → List (List Int) → List Int → Int → List Int → Int → Int → List Int → Int → Int → Option ((List (List Int)) × Int × Int)
 | 0, _, _, _, _, _, _, _, _, _, _ => none
 | k + 1, x5, x6, x7, x8, x9, x10, x11, x1000, x1001, x1002 => (spec_l1Min.f 30000 x11).bind fun t488 => ((spec_l1Max.f (-30000) t488).bind fun t489 => (if x9.length < 17592186044416 then (spec_l20Draw.l1 k x5 x6 x7 x8 (x9 ++ [t489]) (wrap64 (x10 + 1)) x1000 x1001 x1002) else (none)))
end
def spec_l20Draw.f (k : Nat) (s0_0 : List Int) (s0_1 : Int) (s0_2 : Int) (l1 : List Int) : Option ((List (List Int)) × Int × Int) := (spec_l1Below.f s0_0 s0_1 s0_2 4).bind fun bt449 => (if 0 ≤ (wrap64 (1 + bt449.1)) then (if (wrap64 (1 + bt449.1) : Int).toNat ≤ 35184372088832 then ((spec_l1Size.f l1 20).bind fun t458 => ((spec_l1Below.f s0_0 bt449.2.1 bt449.2.2 (wrap64 (2 * t458))).bind fun bt459 => (spec_l20Draw.l0 k (wrap64 (1 + bt449.1)) (([] : List (List Int))) (List.replicate (wrap64 (1 + bt449.1) : Int).toNat 0) bt459.1 s0_0 bt459.2.1 bt459.2.2))) else (none)) else (none))
theorem spec_l20Draw.mono_l : ∀ k, (∀ y0 y1 y2 y3 y4 y5 y6, LeO (spec_l20Draw.l0 k y0 y1 y2 y3 y4 y5 y6) (spec_l20Draw.l0 (k + 1) y0 y1 y2 y3 y4 y5 y6)) ∧ (∀ y0 y1 y2 y3 y4 y5 y6 y7 y8, LeO (spec_l20Draw.l1 k y0 y1 y2 y3 y4 y5 y6 y7 y8) (spec_l20Draw.l1 (k + 1) y0 y1 y2 y3 y4 y5 y6 y7 y8)) ∧ (∀ y0 y1 y2 y3 y4 y5 y6 y7 y8 y9, LeO (spec_l20Draw.j2 k y0 y1 y2 y3 y4 y5 y6 y7 y8 y9) (spec_l20Draw.j2 (k + 1) y0 y1 y2 y3 y4 y5 y6 y7 y8 y9)) ∧ (∀ y0 y1 y2 y3 y4 y5 y6 y7 y8 y9, LeO (spec_l20Draw.j3 k y0 y1 y2 y3 y4 y5 y6 y7 y8 y9) (spec_l20Draw.j3 (k + 1) y0 y1 y2 y3 y4 y5 y6 y7 y8 y9))
 | 0 => ⟨fun _ _ _ _ _ _ _ r h => by simp [spec_l20Draw.l0] at h, fun _ _ _ _ _ _ _ _ _ r h => by simp [spec_l20Draw.l1] at h, fun _ _ _ _ _ _ _ _ _ _ r h => by simp [spec_l20Draw.j2] at h, fun _ _ _ _ _ _ _ _ _ _ r h => by simp [spec_l20Draw.j3] at h⟩
 | k + 1 => by
  obtain ⟨ih0, ih1, ih2, ih3⟩ := spec_l20Draw.mono_l k
  refine ⟨?_, ?_, ?_, ?_⟩
  ·
   intro y0 y1 y2 y3 y4 y5 y6
   unfold spec_l20Draw.l0
   repeat' first
   | (with_reducible exact ih0 _ _ _ _ _ _ _)
   | (with_reducible exact ih1 _ _ _ _ _ _ _ _ _)
   | (with_reducible exact ih2 _ _ _ _ _ _ _ _ _ _)
   | (with_reducible exact ih3 _ _ _ _ _ _ _ _ _ _)
   | (with_reducible exact LeO.refl _)
   | (with_reducible exact LeO.none _)
   | (with_reducible refine LeO.ite ?_ ?_)
   | (with_reducible refine LeO.bind ?_ (fun _ => ?_))
   | exact ih0 _ _ _ _ _ _ _
   | exact ih1 _ _ _ _ _ _ _ _ _
   | exact ih2 _ _ _ _ _ _ _ _ _ _
   | exact ih3 _ _ _ _ _ _ _ _ _ _
   | exact LeO.none _
   | refine LeO.ite ?_ ?_
   | refine LeO.bind ?_ (fun _ => ?_)
  ·
   intro y0 y1 y2 y3 y4 y5 y6 y7 y8
   unfold spec_l20Draw.l1
   repeat' first
   | (with_reducible exact ih0 _ _ _ _ _ _ _)
   | (with_reducible exact ih1 _ _ _ _ _ _ _ _ _)
   | (with_reducible exact ih2 _ _ _ _ _ _ _ _ _ _)
   | (with_reducible exact ih3 _ _ _ _ _ _ _ _ _ _)
   | (with_reducible exact LeO.refl _)
   | (with_reducible exact LeO.none _)
   | (with_reducible refine LeO.ite ?_ ?_)
   | (with_reducible refine LeO.bind ?_ (fun _ => ?_))
   | exact ih0 _ _ _ _ _ _ _
   | exact ih1 _ _ _ _ _ _ _ _ _
   | exact ih2 _ _ _ _ _ _ _ _ _ _
   | exact ih3 _ _ _ _ _ _ _ _ _ _
   | exact LeO.none _
   | refine LeO.ite ?_ ?_
   | refine LeO.bind ?_ (fun _ => ?_)
  ·
   intro y0 y1 y2 y3 y4 y5 y6 y7 y8 y9
   unfold spec_l20Draw.j2
   repeat' first
   | (with_reducible exact ih0 _ _ _ _ _ _ _)
   | (with_reducible exact ih1 _ _ _ _ _ _ _ _ _)
   | (with_reducible exact ih2 _ _ _ _ _ _ _ _ _ _)
   | (with_reducible exact ih3 _ _ _ _ _ _ _ _ _ _)
   | (with_reducible exact LeO.refl _)
   | (with_reducible exact LeO.none _)
   | (with_reducible refine LeO.ite ?_ ?_)
   | (with_reducible refine LeO.bind ?_ (fun _ => ?_))
   | exact ih0 _ _ _ _ _ _ _
   | exact ih1 _ _ _ _ _ _ _ _ _
   | exact ih2 _ _ _ _ _ _ _ _ _ _
   | exact ih3 _ _ _ _ _ _ _ _ _ _
   | exact LeO.none _
   | refine LeO.ite ?_ ?_
   | refine LeO.bind ?_ (fun _ => ?_)
  ·
   intro y0 y1 y2 y3 y4 y5 y6 y7 y8 y9
   unfold spec_l20Draw.j3
   repeat' first
   | (with_reducible exact ih0 _ _ _ _ _ _ _)
   | (with_reducible exact ih1 _ _ _ _ _ _ _ _ _)
   | (with_reducible exact ih2 _ _ _ _ _ _ _ _ _ _)
   | (with_reducible exact ih3 _ _ _ _ _ _ _ _ _ _)
   | (with_reducible exact LeO.refl _)
   | (with_reducible exact LeO.none _)
   | (with_reducible refine LeO.ite ?_ ?_)
   | (with_reducible refine LeO.bind ?_ (fun _ => ?_))
   | exact ih0 _ _ _ _ _ _ _
   | exact ih1 _ _ _ _ _ _ _ _ _
   | exact ih2 _ _ _ _ _ _ _ _ _ _
   | exact ih3 _ _ _ _ _ _ _ _ _ _
   | exact LeO.none _
   | refine LeO.ite ?_ ?_
   | refine LeO.bind ?_ (fun _ => ?_)
theorem spec_l20Draw.mono : ∀ a0 a1 a2 a3 k, LeO (spec_l20Draw.f k a0 a1 a2 a3) (spec_l20Draw.f (k + 1) a0 a1 a2 a3) := by
 intro a0 a1 a2 a3 k
 obtain ⟨ih0, ih1, ih2, ih3⟩ := spec_l20Draw.mono_l k
 unfold spec_l20Draw.f
 repeat' first
   | (with_reducible exact ih0 _ _ _ _ _ _ _)
   | (with_reducible exact ih1 _ _ _ _ _ _ _ _ _)
   | (with_reducible exact ih2 _ _ _ _ _ _ _ _ _ _)
   | (with_reducible exact ih3 _ _ _ _ _ _ _ _ _ _)
   | (with_reducible exact LeO.refl _)
   | (with_reducible exact LeO.none _)
   | (with_reducible refine LeO.ite ?_ ?_)
   | (with_reducible refine LeO.bind ?_ (fun _ => ?_))
   | exact ih0 _ _ _ _ _ _ _
   | exact ih1 _ _ _ _ _ _ _ _ _
   | exact ih2 _ _ _ _ _ _ _ _ _ _
   | exact ih3 _ _ _ _ _ _ _ _ _ _
   | exact LeO.none _
   | refine LeO.ite ?_ ?_
   | refine LeO.bind ?_ (fun _ => ?_)
def spec_l20Draw.T11 : Bool × List (List Nat × List Nat) := (true, [([], []), ([], []), ([0, 1], [0, 1]), ([2], [2]), ([], []), ([4], [4]), ([3, 5], [3, 5]), ([6], [6]), ([7, 5, 0, 1, 2, 3, 4, 5, 6, 7], [7])])
def spec_l20Draw.B11 : List Nat := [0, 0, 3, 7, 0, 16, 63, 127, 255]
theorem spec_l20Draw.tab11 : rtab .any (opsOf Try.f41 11) = spec_l20Draw.T11 := by kernel_rfl
theorem spec_l20Draw.bits11 : waitsOk spec_l20Draw.T11.2 spec_l20Draw.B11 = true := by kernel_rfl
def spec_l20Draw.T15 : Bool × List (List Nat × List Nat) := (true, [([], []), ([], []), ([0, 1], [0, 1]), ([2], [2]), ([], []), ([], []), ([4, 5], [4, 5]), ([3, 6], [3, 6]), ([7, 6, 0, 1, 2, 3, 4, 5, 6, 7], [7])])
def spec_l20Draw.B15 : List Nat := [0, 0, 3, 7, 0, 0, 48, 127, 255]
theorem spec_l20Draw.tab15 : rtab .any (opsOf Try.f41 15) = spec_l20Draw.T15 := by kernel_rfl
theorem spec_l20Draw.bits15 : waitsOk spec_l20Draw.T15.2 spec_l20Draw.B15 = true := by kernel_rfl
set_option maxHeartbeats 8000000 in
set_option maxRecDepth 100000 in
theorem spec_l20Draw.calls (k : Nat) (g : Nat) (s0_0 : List Int) (s0_1 : Int) (s0_2 : Int) (A1 : Option Addr) (c1 : Nat) (l1 : List Int) (r1 : List (List Int)) (r2 : Int) (r3 : Int) (w0 w : World) (hI : IsS108 w0 w g s0_0 s0_1 s0_2) (hB : Below w0.heap.size w0 w) (hr1 : Kd.C (Kd.int .u8) w A1 l1.length l1) (hc1 : l1.length ≤ c1) (hf1 : ∀ ad, A1 = some ad → 0 < l1.length → ad.block ≠ g) (h : spec_l20Draw.f k s0_0 s0_1 s0_2 l1 = some (r1, r2, r3)) :
  Calls Try.prog 41 #[.pointer (some ⟨g, 0, none⟩), .slice A1 l1.length c1] w fun e w' => ∃ v0_ : Value, e = .returned (v0_) ∧ Kd.S (Kd.slice 3 (Kd.int .i64)) 53 w' w.heap.size (fun _ => True) v0_ r1 ∧ IsS108 w0 w' g s0_0 r2 r3 ∧ Below w0.heap.size w0 w' ∧ KeepBut w w' g none := by
 have HR1 := Aside0.mk hr1
 have HC1 := Aside0.mk hc1
 clear hr1 hc1
 have HI0 := Aside0.mk hI
 have HK := Aside0.mk (KeepBut.refl w g none)
 have HL := Aside0.mk hB.size
 clear hI
 have HW0 := Aside0.mk hB.size
 have HB := Aside0.mk hB
 clear hB
 have H : ((spec_l1Below.f s0_0 s0_1 s0_2 4).bind fun bt449 => (if 0 ≤ (wrap64 (1 + bt449.1)) then (if (wrap64 (1 + bt449.1) : Int).toNat ≤ 35184372088832 then ((spec_l1Size.f l1 20).bind fun t458 => ((spec_l1Below.f s0_0 bt449.2.1 bt449.2.2 (wrap64 (2 * t458))).bind fun bt459 => (spec_l20Draw.l0 k (wrap64 (1 + bt449.1)) (([] : List (List Int))) (List.replicate (wrap64 (1 + bt449.1) : Int).toNat 0) bt459.1 s0_0 bt459.2.1 bt459.2.2))) else (none)) else (none))) = some (r1, r2, r3) := h
 clear h
 replace H := Option.bind_eq_some_iff.mp H
 obtain ⟨⟨t449, t450, t451⟩, A30, H⟩ := H
 replace H : (if 0 ≤ (wrap64 (1 + t449)) then (if (wrap64 (1 + t449) : Int).toNat ≤ 35184372088832 then ((spec_l1Size.f l1 20).bind fun t458 => ((spec_l1Below.f s0_0 t450 t451 (wrap64 (2 * t458))).bind fun bt459 => (spec_l20Draw.l0 k (wrap64 (1 + t449)) (([] : List (List Int))) (List.replicate (wrap64 (1 + t449) : Int).toNat 0) bt459.1 s0_0 bt459.2.1 bt459.2.2))) else (none)) else (none)) = some (r1, r2, r3) := H
 have A3 := Aside0.mk A30
 clear A30
 obtain ⟨y452, hy452⟩ : ∃ y_ : List (List Int), y_ = (([] : List (List Int))) := ⟨_, rfl⟩
 replace H : (if 0 ≤ (wrap64 (1 + t449)) then (if (wrap64 (1 + t449) : Int).toNat ≤ 35184372088832 then ((spec_l1Size.f l1 20).bind fun t458 => ((spec_l1Below.f s0_0 t450 t451 (wrap64 (2 * t458))).bind fun bt459 => (spec_l20Draw.l0 k (wrap64 (1 + t449)) y452 (List.replicate (wrap64 (1 + t449) : Int).toNat 0) bt459.1 s0_0 bt459.2.1 bt459.2.2))) else (none)) else (none)) = some (r1, r2, r3) := by first | (rw [hy452]; with_reducible exact H) | (have H2_ := (Option.bind_some _ _).symm.trans H; rw [hy452]; with_reducible exact H2_) | (have H2_ := (Option.bind_some _ _).symm.trans H; with_reducible exact H2_) | with_reducible exact H | (rw [hy452]; exact H) | exact H
 have Ny452 := Aside0.mk hy452
 clear hy452
 obtain ⟨ji4, hji4⟩ : ∃ j_ : Int, (wrap64 (1 + t449)) = j_ := ⟨_, rfl⟩
 replace H : (if 0 ≤ (ji4) then (if (ji4 : Int).toNat ≤ 35184372088832 then ((spec_l1Size.f l1 20).bind fun t458 => ((spec_l1Below.f s0_0 t450 t451 (wrap64 (2 * t458))).bind fun bt459 => (spec_l20Draw.l0 k ji4 y452 (List.replicate (ji4 : Int).toNat 0) bt459.1 s0_0 bt459.2.1 bt459.2.2))) else (none)) else (none)) = some (r1, r2, r3) := by first | (rw [hji4] at H; exact H) | (simp only [hji4] at H ⊢; exact H)
 (try rw [hji4] at A3)
 have hji4w : (IntKind.i64.wrap (1 + t449)) = ji4 := (i64_w _).trans hji4
 by_cases c5 : 0 ≤ (ji4)
 ·
  rw [if_pos c5] at H
  have c5b0 := eq_true c5
  have c5b1 : decide (0 ≤ (ji4)) = true := decide_eq_true c5
  clear c5
  by_cases c6 : (ji4 : Int).toNat ≤ 35184372088832
  ·
   rw [if_pos c6] at H
   have c6b0 := eq_true c6
   have c6b1 : decide ((ji4 : Int).toNat ≤ 35184372088832) = true := decide_eq_true c6
   clear c6
   obtain ⟨y455, hy455⟩ : ∃ y_ : List Int, y_ = (List.replicate (ji4 : Int).toNat 0) := ⟨_, rfl⟩
   replace H : ((spec_l1Size.f l1 20).bind fun t458 => ((spec_l1Below.f s0_0 t450 t451 (wrap64 (2 * t458))).bind fun bt459 => (spec_l20Draw.l0 k ji4 y452 y455 bt459.1 s0_0 bt459.2.1 bt459.2.2))) = some (r1, r2, r3) := by first | (rw [hy455]; with_reducible exact H) | (have H2_ := (Option.bind_some _ _).symm.trans H; rw [hy455]; with_reducible exact H2_) | (have H2_ := (Option.bind_some _ _).symm.trans H; with_reducible exact H2_) | with_reducible exact H | (rw [hy455]; exact H) | exact H
   have Ny455 := Aside0.mk hy455
   clear hy455
   replace H := Option.bind_eq_some_iff.mp H
   obtain ⟨t458, A70, H⟩ := H
   replace H : ((spec_l1Below.f s0_0 t450 t451 (wrap64 (2 * t458))).bind fun bt459 => (spec_l20Draw.l0 k ji4 y452 y455 bt459.1 s0_0 bt459.2.1 bt459.2.2)) = some (r1, r2, r3) := H
   have A7 := Aside0.mk A70
   clear A70
   replace H := Option.bind_eq_some_iff.mp H
   obtain ⟨⟨t459, t460, t461⟩, A80, H⟩ := H
   replace H : (spec_l20Draw.l0 k ji4 y452 y455 t459 s0_0 t460 t461) = some (r1, r2, r3) := H
   have A8 := Aside0.mk A80
   clear A80
   have H' := Aside0.mk H
   clear H
   go_enter Try.func41, Try.ntmps41
   go_wp2_with (first | ((with_reducible refine gate_callee (f := 28) rfl ?_); refine goesL_ (some 13) rfl rfl Try.func28 (by kernel_rfl) rfl #[.pointer (some ⟨g, 0, none⟩), .int .i64 4] rfl (by (try simp only [am_]); first | done | rfl) ?_; (with_reducible refine (spec_l1Below.calls g s0_0 s0_1 s0_2 4 t449 t450 t451 w0 _ ?side1 ?side2 A3.out).mono ?_); (case side1 => repeat (first | (with_reducible first | exact HI0.out | apply IsS108.alloc | apply IsS108.drewN | apply IsS108.drew | apply IsS108.set_1 | apply IsS108.set_2) | exact HI0.out)); (case side2 => repeat (first | (with_reducible first | exact HB.out | apply below_alloc | apply pw_below_drewN | apply below_drew1 | refine below_set ?_ (IsS108.ge HI0.out)) | exact HB.out)); rintro e w9 ⟨rfl, hi, hb, hk⟩; refine ⟨_, rfl, ?_⟩; replace HK := Aside0.mk (KeepBut.trans (by repeat (first | (with_reducible first | exact HK.out | apply KeepBut.set_ | apply keep_drewN | apply keep_drew | apply keep_alloc) | exact HK.out)) hk (.inl rfl)); replace HB := Aside0.mk (hb); replace HI0 := Aside0.mk (hi); (try clear hb); (try clear hb2); (try clear hk); (try clear hi)) | ((with_reducible refine gate_dst (N := 15) rfl ?_); refine Kd.S_lit (Kd.slice 3 (Kd.int .i64)) _ 53 ?hg (N := 15) ?hd (xs := ([] : List (List Int))) (inner := []) (ok := fun _ => True) (okp := fun _ => True) ?hr ?hp (fun _ hk => hk) trivial (Below.refl _ _) (Nat.le_refl _) (by simp) ?_; (case hd => rfl); (case hg => rfl); (case hr => first | (go_simp; done) | (go_simp; rfl)); (case hp => exact (Reps.none _ _)); intro v453 w10 ho11 hb hg_ hnew_; clear hg_ hnew_; (first | rw [← Ny452.out] at ho11 | (simp only [Int.reduceToNat] at ho11; rw [← Ny452.out] at ho11)); have HO454 := Aside0.mk (Kd.S_lower ho11 (keep_size (w := w) (g := g) (row := none) (by repeat (first | (with_reducible first | exact HK.out | apply KeepBut.set_ | apply keep_drewN | apply keep_drew | apply keep_alloc) | exact HK.out)))); replace HK := Aside0.mk (KeepBut.trans (by repeat (first | (with_reducible first | exact HK.out | apply KeepBut.set_ | apply keep_drewN | apply keep_drew | apply keep_alloc) | exact HK.out)) (KeepBut.of_below hb g none) (.inl rfl)); replace HB := Aside0.mk (below_step (by repeat (first | (with_reducible first | exact HB.out | apply below_alloc | apply pw_below_drewN | apply below_drew1 | refine below_set ?_ (IsS108.ge HI0.out)) | exact HB.out)) hb); replace HI0 := Aside0.mk (IsS108.below (by repeat (first | (with_reducible first | exact HI0.out | apply IsS108.alloc | apply IsS108.drewN | apply IsS108.drew | apply IsS108.set_1 | apply IsS108.set_2) | exact HI0.out)) hb); clear hb ho11) | ((with_reducible refine gate_dst (N := 17) rfl ?_); refine Kd.R_make (Kd.int .i64) _ 3 rfl (N := 17) rfl 53 _ _ rfl ji4 rfl rfl Try.underlying53 (.int .i64 0) 8 info3 rfl (by decide) (by omega) 0 (ok := fun _ => True) (okp := fun _ => True) rfl (fun _ hk => hk) trivial (of_decide_eq_true (by first | (with_reducible assumption) | assumption)) (Nat.le_trans (Nat.mul_le_mul_right _ (of_decide_eq_true (by first | (with_reducible assumption) | assumption) : ji4.toNat ≤ 35184372088832)) (by omega)) (Below.refl _ _) (Nat.le_refl _) ?_; intro v456 w12 ho13 hb hg_ hnew_; clear hg_ hnew_; (first | rw [← Ny455.out] at ho13 | (simp only [Int.reduceToNat] at ho13; rw [← Ny455.out] at ho13)); replace HO454 := Aside0.mk (Kd.S_elder' (sl HO454.out) (Kd.R_base ho13) hb); have HO457 := Aside0.mk (Kd.R_lower ho13 (keep_size (w := w) (g := g) (row := none) (by repeat (first | (with_reducible first | exact HK.out | apply KeepBut.set_ | apply keep_drewN | apply keep_drew | apply keep_alloc) | exact HK.out)))); replace HK := Aside0.mk (KeepBut.trans (by repeat (first | (with_reducible first | exact HK.out | apply KeepBut.set_ | apply keep_drewN | apply keep_drew | apply keep_alloc) | exact HK.out)) (KeepBut.of_below hb g none) (.inl rfl)); replace HB := Aside0.mk (below_step (by repeat (first | (with_reducible first | exact HB.out | apply below_alloc | apply pw_below_drewN | apply below_drew1 | refine below_set ?_ (IsS108.ge HI0.out)) | exact HB.out)) hb); replace HI0 := Aside0.mk (IsS108.below (by repeat (first | (with_reducible first | exact HI0.out | apply IsS108.alloc | apply IsS108.drewN | apply IsS108.drew | apply IsS108.set_1 | apply IsS108.set_2) | exact HI0.out)) hb); clear hb ho13) | ((with_reducible refine gate_callee (f := 84) rfl ?_); refine goesL_ (some 20) rfl rfl Try.func84 (by kernel_rfl) rfl #[.slice A1 l1.length c1, .int .i64 20] rfl (by (try simp only [am_]); first | done | rfl) ?_; (with_reducible refine (spec_l1Size.calls _ _ l1 20 t458 _ ?side1 ?side2 A7.out).mono ?_); (case side1 => exact Kd.C_keep 0 HR1.out (by repeat (first | (with_reducible first | exact HK.out | apply KeepBut.set_ | apply keep_drewN | apply keep_drew | apply keep_alloc) | exact HK.out)) hf1); (case side2 => exact HC1.out); rintro e w' ⟨rfl, ⟨nd, rfl⟩⟩; refine ⟨_, rfl, ?_⟩) | ((with_reducible refine gate_callee (f := 28) rfl ?_); refine goesL_ (some 22) rfl rfl Try.func28 (by kernel_rfl) rfl #[.pointer (some ⟨g, 0, none⟩), .int .i64 (wrap64 (2 * t458))] rfl (by (try simp only [am_]); first | done | rfl) ?_; (with_reducible refine (spec_l1Below.calls g s0_0 t450 t451 (wrap64 (2 * t458)) t459 t460 t461 w0 _ ?side1 ?side2 A8.out).mono ?_); (case side1 => repeat (first | (with_reducible first | exact HI0.out | apply IsS108.alloc | apply IsS108.drewN | apply IsS108.drew | apply IsS108.set_1 | apply IsS108.set_2) | exact HI0.out)); (case side2 => repeat (first | (with_reducible first | exact HB.out | apply below_alloc | apply pw_below_drewN | apply below_drew1 | refine below_set ?_ (IsS108.ge HI0.out)) | exact HB.out)); rintro e w14 ⟨rfl, hi, hb, hk⟩; refine ⟨_, rfl, ?_⟩; replace HO454 := Aside0.mk (Kd.S_mono (Kd.S_keep (IsS108.apartS (show IsS108 w0 _ g s0_0 t450 t451 from by repeat (first | (with_reducible first | exact HI0.out | apply IsS108.alloc | apply IsS108.drewN | apply IsS108.drew | apply IsS108.set_1 | apply IsS108.set_2) | exact HI0.out)) (sl HO454.out) (by decide)) hk (fun _ h => h.2)) (fun _ h => h.1)); replace HO457 := Aside0.mk (Kd.R_mono (Kd.R_keep (IsS108.apart (show IsS108 w0 _ g s0_0 t450 t451 from by repeat (first | (with_reducible first | exact HI0.out | apply IsS108.alloc | apply IsS108.drewN | apply IsS108.drew | apply IsS108.set_1 | apply IsS108.set_2) | exact HI0.out)) (rl HO457.out) (by decide)) hk (fun _ h => h.2)) (fun _ h => h.1)); replace HK := Aside0.mk (KeepBut.trans (by repeat (first | (with_reducible first | exact HK.out | apply KeepBut.set_ | apply keep_drewN | apply keep_drew | apply keep_alloc) | exact HK.out)) hk (.inl rfl)); replace HB := Aside0.mk (hb); replace HI0 := Aside0.mk (hi); (try clear hb); (try clear hb2); (try clear hk); (try clear hi)))
   go_loopg [6, 7, 8] k (fun kq v6 v7 v8 w' => ∃ (x6_1 : List (List Int)) (x7_1 : List Int) (x8_1 : Int) (x1001_1 : Int) (x1002_1 : Int), v8 = .int .i64 x8_1 ∧ Aside0 (spec_l20Draw.l0 kq ji4 x6_1 x7_1 x8_1 s0_0 x1001_1 x1002_1 = some (r1, r2, r3)) ∧ Aside0 (kq ≤ k) ∧ Aside0 (Kd.S (Kd.slice 3 (Kd.int .i64)) 53 w' w.heap.size (fun _ => True) v6 x6_1) ∧ Aside0 (Kd.R (Kd.int .i64) 3 w' w.heap.size (fun _ => True) v7 x7_1) ∧ Aside0 (IsS108 w0 w' g s0_0 x1001_1 x1002_1) ∧ Aside0 (KeepBut w w' g none) ∧ Aside0 (Below w0.heap.size w0 w'))
   case atStart => exact ⟨(y452), (y455), (t459), (t460), (t461), (by first | rfl | (simp; done) | (simp [*]; done)), H', ⟨Nat.le_refl _⟩, ⟨by (repeat apply sl1); exact Kd.S_mono HO454.out (fun _ hk => trivial)⟩, ⟨rl HO457.out⟩, ⟨by repeat (first | (with_reducible first | exact HI0.out | apply IsS108.alloc | apply IsS108.drewN | apply IsS108.drew | apply IsS108.set_1 | apply IsS108.set_2) | exact HI0.out)⟩, ⟨by repeat (first | (with_reducible first | exact HK.out | apply KeepBut.set_ | apply keep_drewN | apply keep_drew | apply keep_alloc) | exact HK.out)⟩, ⟨by repeat (first | (with_reducible first | exact HB.out | apply below_alloc | apply pw_below_drewN | apply below_drew1 | refine below_set ?_ (IsS108.ge HI0.out)) | exact HB.out)⟩⟩
   case round =>
    clear H'
    try clear c1
    try clear c2
    try clear p2
    try clear c4
    try clear c5
    try clear c5b0
    try clear c5b1
    try clear c6
    try clear c6b0
    try clear c6b1
    try clear p6
    try clear c8
    obtain ⟨x6_1, x7_1, x8_1, x1001_1, x1002_1, rfl, HA, HK1, HO_6, HO_7, HI0, HK, HB⟩ := hrel
    cases gk with
    | zero => exact absurd HA.out (by simp [spec_l20Draw.l0])
    | succ k1 =>
     have H := HA.out
     clear HA
     simp only [spec_l20Draw.l0] at H
     by_cases c15 : x8_1 > 0
     ·
      rw [if_pos c15] at H
      have c15b0 : decide (0 < x8_1) = true := decide_eq_true c15
      clear c15
      obtain ⟨y462, hy462⟩ : ∃ y_ : List Int, y_ = (([] : List Int)) := ⟨_, rfl⟩
      replace H : (spec_l20Draw.l1 k1 ji4 x6_1 x7_1 x8_1 y462 0 s0_0 x1001_1 x1002_1) = some (r1, r2, r3) := by first | (rw [hy462]; with_reducible exact H) | (have H2_ := (Option.bind_some _ _).symm.trans H; rw [hy462]; with_reducible exact H2_) | (have H2_ := (Option.bind_some _ _).symm.trans H; with_reducible exact H2_) | with_reducible exact H | (rw [hy462]; exact H) | exact H
      have Ny462 := Aside0.mk hy462
      clear hy462
      have H' := Aside0.mk H
      clear H
      go_wp2_with (first | ((with_reducible refine gate_dst (N := 27) rfl ?_); refine Kd.R_lit (Kd.int .i64) _ 3 ?hg (N := 27) ?hd (xs := ([] : List Int)) (inner := []) (ok := fun _ => True) (okp := fun _ => True) ?hr ?hp (fun _ hk => hk) trivial (Below.refl _ _) (Nat.le_refl _) (by simp) ?_; (case hd => rfl); (case hg => rfl); (case hr => first | (go_simp; done) | (go_simp; rfl)); (case hp => exact (Reps.none _ _)); intro v463 w16 ho17 hb hg_ hnew_; clear hg_ hnew_; (first | rw [← Ny462.out] at ho17 | (simp only [Int.reduceToNat] at ho17; rw [← Ny462.out] at ho17)); replace HO_6 := Aside0.mk (Kd.S_elder' (sl HO_6.out) (Kd.R_base ho17) hb); have HO464 := Aside0.mk (Kd.R_lower (Kd.R_new' ho17 (Kd.R_lt (by (repeat apply rl1); exact HO_7.out))) (keep_size (w := w) (g := g) (row := none) (by repeat (first | (with_reducible first | exact HK.out | apply KeepBut.set_ | apply keep_drewN | apply keep_drew | apply keep_alloc) | exact HK.out)))); replace HO_7 := Aside0.mk (Kd.R_elder' (rl HO_7.out) (Kd.R_base ho17) hb); replace HK := Aside0.mk (KeepBut.trans (by repeat (first | (with_reducible first | exact HK.out | apply KeepBut.set_ | apply keep_drewN | apply keep_drew | apply keep_alloc) | exact HK.out)) (KeepBut.of_below hb g none) (.inl rfl)); replace HB := Aside0.mk (below_step (by repeat (first | (with_reducible first | exact HB.out | apply below_alloc | apply pw_below_drewN | apply below_drew1 | refine below_set ?_ (IsS108.ge HI0.out)) | exact HB.out)) hb); replace HI0 := Aside0.mk (IsS108.below (by repeat (first | (with_reducible first | exact HI0.out | apply IsS108.alloc | apply IsS108.drewN | apply IsS108.drew | apply IsS108.set_1 | apply IsS108.set_2) | exact HI0.out)) hb); clear hb ho17))
      go_loopg [9, 10] k1 (fun kq v9 v10 w' => ∃ (x9_2 : List Int) (x10_2 : Int) (x1001_2 : Int) (x1002_2 : Int), v10 = .int .i64 x10_2 ∧ Aside0 (spec_l20Draw.l1 kq ji4 x6_1 x7_1 x8_1 x9_2 x10_2 s0_0 x1001_2 x1002_2 = some (r1, r2, r3)) ∧ Aside0 (kq ≤ k1) ∧ Aside0 (Kd.S (Kd.slice 3 (Kd.int .i64)) 53 w' w.heap.size (fun k_ => some k_ ≠ (v9 : Value).ownBlock) u6 x6_1) ∧ Aside0 (Kd.R (Kd.int .i64) 3 w' w.heap.size (fun k_ => some k_ ≠ (v9 : Value).ownBlock) u7 x7_1) ∧ Aside0 (Kd.R (Kd.int .i64) 3 w' w.heap.size (fun k_ => some k_ ≠ (u7 : Value).ownBlock) v9 x9_2) ∧ Aside0 (IsS108 w0 w' g s0_0 x1001_2 x1002_2) ∧ Aside0 (KeepBut w w' g none) ∧ Aside0 (Below w0.heap.size w0 w'))
      case atStart => exact ⟨(y462), (0), (x1001_1), (x1002_1), (by first | rfl | (simp; done) | (simp [*]; done)), H', ⟨Nat.le_refl _⟩, ⟨by (repeat apply sl1); exact Kd.S_mono HO_6.out (fun _ hk => hk.2)⟩, ⟨by (repeat apply rl1); exact Kd.R_mono HO_7.out (fun _ hk => hk.2)⟩, ⟨by (repeat apply rl1); exact Kd.R_mono HO464.out (fun _ hk => hk.2)⟩, ⟨by repeat (first | (with_reducible first | exact HI0.out | apply IsS108.alloc | apply IsS108.drewN | apply IsS108.drew | apply IsS108.set_1 | apply IsS108.set_2) | exact HI0.out)⟩, ⟨by repeat (first | (with_reducible first | exact HK.out | apply KeepBut.set_ | apply keep_drewN | apply keep_drew | apply keep_alloc) | exact HK.out)⟩, ⟨by repeat (first | (with_reducible first | exact HB.out | apply below_alloc | apply pw_below_drewN | apply below_drew1 | refine below_set ?_ (IsS108.ge HI0.out)) | exact HB.out)⟩⟩
      case round =>
       clear H'
       try clear c1
       try clear c2
       try clear p2
       try clear c4
       try clear c5
       try clear c5b0
       try clear c5b1
       try clear c6
       try clear c6b0
       try clear c6b1
       try clear p6
       try clear c8
       try clear c15
       try clear c15b0
       try clear p2
       try clear p6
       obtain ⟨x9_2, x10_2, x1001_2, x1002_2, rfl, HA, HK2, HO_6, HO_7, HO_9, HI0, HK, HB⟩ := hrel
       cases gk with
       | zero => exact absurd HA.out (by simp [spec_l20Draw.l1])
       | succ k2 =>
        have H := HA.out
        clear HA
        simp only [spec_l20Draw.l1] at H
        by_cases c18 : x10_2 < ji4
        ·
         rw [if_pos c18] at H
         have c18b0 : decide (x10_2 < ji4) = true := decide_eq_true c18
         clear c18
         by_cases c19 : 0 ≤ x10_2
         ·
          rw [if_pos c19] at H
          have c19b0 : decide (0 ≤ x10_2) = true := decide_eq_true c19
          clear c19
          by_cases c20 : x10_2 < (x7_1.length : Int)
          ·
           rw [if_pos c20] at H
           have c20b0 : decide (x10_2 < (x7_1.length : Int)) = true := decide_eq_true c20
           clear c20
           replace H := Option.bind_eq_some_iff.mp H
           obtain ⟨⟨t469, t470, t471⟩, A210, H⟩ := H
           replace H : ((spec_l1Once.f s0_0 t470 t471 12).bind fun bt472 => (if bt472.1 = true then ((spec_l1Below.f s0_0 bt472.2.1 bt472.2.2 60001).bind fun bt475 => (spec_l20Draw.j2 k2 ji4 x6_1 x7_1 x8_1 x9_2 x10_2 (wrap64 (bt475.1 - 30000)) s0_0 bt475.2.1 bt475.2.2)) else (spec_l20Draw.j2 k2 ji4 x6_1 x7_1 x8_1 x9_2 x10_2 (wrap64 ((wrap64 ((rd x7_1 x10_2) + t469)) - 20)) s0_0 bt472.2.1 bt472.2.2))) = some (r1, r2, r3) := H
           have A21 := Aside0.mk A210
           clear A210
           replace H := Option.bind_eq_some_iff.mp H
           obtain ⟨⟨t472, t473, t474⟩, A220, H⟩ := H
           replace H : (if t472 = true then ((spec_l1Below.f s0_0 t473 t474 60001).bind fun bt475 => (spec_l20Draw.j2 k2 ji4 x6_1 x7_1 x8_1 x9_2 x10_2 (wrap64 (bt475.1 - 30000)) s0_0 bt475.2.1 bt475.2.2)) else (spec_l20Draw.j2 k2 ji4 x6_1 x7_1 x8_1 x9_2 x10_2 (wrap64 ((wrap64 ((rd x7_1 x10_2) + t469)) - 20)) s0_0 t473 t474)) = some (r1, r2, r3) := H
           have A22 := Aside0.mk A220
           clear A220
           have HC23 := Aside0.mk H
           clear H
           try go_wp2
           have n0_ := Aside0.mk (Kd.S_drew HO_6.out)
           have n1_ := Aside0.mk (Kd.R_drew HO_7.out)
           have n2_ := Aside0.mk (Kd.R_drew HO_9.out)
           have n3_ := Aside0.mk (IsS108.drew HI0.out)
           have n4_ := Aside0.mk (keep_drew HK.out)
           have n5_ := Aside0.mk (below_drew1 HB.out)
           clear HO_6
           clear HO_7
           clear HO_9
           clear HI0
           clear HK
           clear HB
           have HO_6 := n0_
           have HO_7 := n1_
           have HO_9 := n2_
           have HI0 := n3_
           have HK := n4_
           have HB := n5_
           clear n0_ n1_ n2_ n3_ n4_ n5_
           obtain ⟨Ao25, co25, eo25⟩ := Kd.R_slice HO_7.out
           (first | subst eo25 | (injection eo25 with f1_ f2_ f3_; have f4_ := f1_.symm; have f5_ := f3_.symm; clear f1_ f2_ f3_; subst f4_; subst f5_))
           have p468 : 0 ≤ (x10_2 : Int) := of_decide_eq_true (by first | (with_reducible assumption) | assumption)
           have q468 : x10_2 < (x7_1.length : Int) := of_decide_eq_true (by first | (with_reducible assumption) | assumption)
           obtain ⟨ad468, e468, hx468_0⟩ := Kd.at_int (Kd.R_reads' HO_7.out).2.2 x10_2 p468 q468
           cases e468
           replace p468 := eq_true p468
           replace q468 := eq_true q468
           refine start_ (n := 9) (S := fun w' => w'.cell? (ad468.add (x10_2).toNat) = some (.int .i64 (rd x7_1 x10_2))) (ds := []) m0_9 (by kernel_rfl) rfl rfl (hx468_0) (fun hHeld => ?_); refine with_tabW spec_l20Draw.tab11 spec_l20Draw.bits11 (fun HT_ HW_ => ?_)
           generalize wr.drew = w24 at HO_6 HO_7 HO_9 HI0 HK HB hx468_0 hHeld ⊢
           refine pq_ HT_.out 0 33 m1_9 ?_
           refine pq_ HT_.out 1 34 m2_9 ?_
           refine pq_ HT_.out 2 35 m3_9 ?_
           refine pq_ HT_.out 4 37 n78 ?_
           refine tk_ HT_.out HW_.out 3 36 m5_9 rfl rfl (by kernel_rfl) (by rfl) (by intro w' s0; go_simp; with_reducible rfl) hHeld (by simp only [sp_]; rfl) (fun _ _ _ h => h) ?_
           refine one_ (i := 5) (N := some 38) m6_9 rfl rfl (one_of HT_.out (by kernel_rfl)) (by decide) (fun K hK => ?_)
           refine goes_ Try.func28 (by kernel_rfl) rfl #[.pointer (some ⟨g, 0, none⟩), .int .i64 41] (by rfl) rfl rfl (by (try simp only [am_]); first | done | rfl) ?_
           with_reducible refine (spec_l1Below.calls g s0_0 x1001_2 x1002_2 41 t469 t470 t471 w0 _ ?side1 ?side2 A21.out).mono ?_
           (case side1 => repeat (first | (with_reducible first | exact HI0.out | apply IsS108.alloc | apply IsS108.drewN | apply IsS108.drew | apply IsS108.set_1 | apply IsS108.set_2) | exact HI0.out))
           (case side2 => repeat (first | (with_reducible first | exact HB.out | apply below_alloc | apply pw_below_drewN | apply below_drew1 | refine below_set ?_ (IsS108.ge HI0.out)) | exact HB.out))
           rintro e w26 ⟨rfl, hi, hb, hk⟩
           have HS0_ := keep_cell hk (hHeld) (by first | (rw [add_block]; exact Kd.own_blk (IsS108.own_ne HI0.out HO_7.out (by decide))) | (show (Addr.add _ _).block ≠ _; rw [add_block]; exact Kd.own_blk (IsS108.own_ne HI0.out HO_7.out (by decide))) | exact Kd.own_blk (IsS108.own_ne HI0.out HO_7.out (by decide)))
           refine ⟨_, rfl, ?_⟩
           have n0_ := Aside0.mk (Kd.S_mono (Kd.S_keep (IsS108.apartS (show IsS108 w0 _ g s0_0 x1001_2 x1002_2 from by repeat (first | (with_reducible first | exact HI0.out | apply IsS108.alloc | apply IsS108.drewN | apply IsS108.drew | apply IsS108.set_1 | apply IsS108.set_2) | exact HI0.out)) (sl HO_6.out) (by decide)) hk (fun _ h => h.2)) (fun _ h => h.1))
           have n1_ := Aside0.mk (Kd.R_mono (Kd.R_keep (IsS108.apart (show IsS108 w0 _ g s0_0 x1001_2 x1002_2 from by repeat (first | (with_reducible first | exact HI0.out | apply IsS108.alloc | apply IsS108.drewN | apply IsS108.drew | apply IsS108.set_1 | apply IsS108.set_2) | exact HI0.out)) (rl HO_7.out) (by decide)) hk (fun _ h => h.2)) (fun _ h => h.1))
           have n2_ := Aside0.mk (Kd.R_mono (Kd.R_keep (IsS108.apart (show IsS108 w0 _ g s0_0 x1001_2 x1002_2 from by repeat (first | (with_reducible first | exact HI0.out | apply IsS108.alloc | apply IsS108.drewN | apply IsS108.drew | apply IsS108.set_1 | apply IsS108.set_2) | exact HI0.out)) (rl HO_9.out) (by decide)) hk (fun _ h => h.2)) (fun _ h => h.1))
           have n3_ := Aside0.mk (KeepBut.trans (by repeat (first | (with_reducible first | exact HK.out | apply KeepBut.set_ | apply keep_drewN | apply keep_drew | apply keep_alloc) | exact HK.out)) hk (.inl rfl))
           have n4_ := Aside0.mk (hb)
           have n5_ := Aside0.mk (hi)
           clear HO_6
           clear HO_7
           clear HO_9
           clear HK
           clear HB
           clear HI0
           have HO_6 := n0_
           have HO_7 := n1_
           have HO_9 := n2_
           have HK := n3_
           have HB := n4_
           have HI0 := n5_
           clear n0_ n1_ n2_ n3_ n4_ n5_
           (try clear hb)
           (try clear hb2)
           (try clear hk)
           (try clear hi)
           refine hK.out _ _ (HS0_) (fun hHeld => ?_)
           clear hK K
           refine norm_ (a' := ?_) ?_ ?_
           rotate_left
           ·
            show Act.put _ (some 38) _ = _
            simp only [sp_]
            rfl
           refine pq_ HT_.out 6 39 m7_9 ?_
           refine pq_ HT_.out 7 40 m8_9 ?_
           refine pq_ HT_.out 8 11 m9_9 ?_
           refine done_ (done_of HT_.out (by kernel_rfl)) ?_
           go_upto_if 42 with (first | ((with_reducible refine gate_callee (f := 64) rfl ?_); refine goesL_ (some 42) rfl rfl Try.func64 (by kernel_rfl) rfl #[.pointer (some ⟨g, 0, none⟩), .int .i64 12] rfl (by (try simp only [am_]); first | done | rfl) ?_; (with_reducible refine (spec_l1Once.calls g s0_0 t470 t471 12 t472 t473 t474 w0 _ ?side1 ?side2 A22.out).mono ?_); (case side1 => repeat (first | (with_reducible first | exact HI0.out | apply IsS108.alloc | apply IsS108.drewN | apply IsS108.drew | apply IsS108.set_1 | apply IsS108.set_2) | exact HI0.out)); (case side2 => repeat (first | (with_reducible first | exact HB.out | apply below_alloc | apply pw_below_drewN | apply below_drew1 | refine below_set ?_ (IsS108.ge HI0.out)) | exact HB.out)); rintro e w27 ⟨rfl, hi, hb, hk⟩; refine ⟨_, rfl, ?_⟩; replace HO_6 := Aside0.mk (Kd.S_mono (Kd.S_keep (IsS108.apartS (show IsS108 w0 _ g s0_0 t470 t471 from by repeat (first | (with_reducible first | exact HI0.out | apply IsS108.alloc | apply IsS108.drewN | apply IsS108.drew | apply IsS108.set_1 | apply IsS108.set_2) | exact HI0.out)) (sl HO_6.out) (by decide)) hk (fun _ h => h.2)) (fun _ h => h.1)); replace HO_7 := Aside0.mk (Kd.R_mono (Kd.R_keep (IsS108.apart (show IsS108 w0 _ g s0_0 t470 t471 from by repeat (first | (with_reducible first | exact HI0.out | apply IsS108.alloc | apply IsS108.drewN | apply IsS108.drew | apply IsS108.set_1 | apply IsS108.set_2) | exact HI0.out)) (rl HO_7.out) (by decide)) hk (fun _ h => h.2)) (fun _ h => h.1)); replace HO_9 := Aside0.mk (Kd.R_mono (Kd.R_keep (IsS108.apart (show IsS108 w0 _ g s0_0 t470 t471 from by repeat (first | (with_reducible first | exact HI0.out | apply IsS108.alloc | apply IsS108.drewN | apply IsS108.drew | apply IsS108.set_1 | apply IsS108.set_2) | exact HI0.out)) (rl HO_9.out) (by decide)) hk (fun _ h => h.2)) (fun _ h => h.1)); replace HK := Aside0.mk (KeepBut.trans (by repeat (first | (with_reducible first | exact HK.out | apply KeepBut.set_ | apply keep_drewN | apply keep_drew | apply keep_alloc) | exact HK.out)) hk (.inl rfl)); replace HB := Aside0.mk (hb); replace HI0 := Aside0.mk (hi); (try clear hb); (try clear hb2); (try clear hk); (try clear hi)))
           (try simp only [Act.put, List.setIfInBounds_toArray, List.set_cons_zero, List.set_cons_succ])
           go_cut [11] (fun v11 wc => ∃ (kq : Nat) (x11_22 : Int) (x1001_22 : Int) (x1002_22 : Int), v11 = .int .i64 x11_22 ∧ Aside0 (spec_l20Draw.j2 kq ji4 x6_1 x7_1 x8_1 x9_2 x10_2 x11_22 s0_0 x1001_22 x1002_22 = some (r1, r2, r3)) ∧ Aside0 (kq ≤ k2) ∧ Aside0 (Kd.S (Kd.slice 3 (Kd.int .i64)) 53 wc w.heap.size (fun k_ => some k_ ≠ (u9 : Value).ownBlock) u6 x6_1) ∧ Aside0 (Kd.R (Kd.int .i64) 3 wc w.heap.size (fun k_ => some k_ ≠ (u9 : Value).ownBlock) (.slice (some ad468) x7_1.length co25) x7_1) ∧ Aside0 (Kd.R (Kd.int .i64) 3 wc w.heap.size (fun k_ => some k_ ≠ ((.slice (some ad468) x7_1.length co25) : Value).ownBlock) u9 x9_2) ∧ Aside0 (IsS108 w0 wc g s0_0 x1001_22 x1002_22) ∧ Aside0 (KeepBut w wc g none) ∧ Aside0 (Below w0.heap.size w0 wc))
           case first =>
            have H := HC23.out
            clear HC23
            by_cases c28 : t472 = true
            ·
             subst c28
             have H1 : ((spec_l1Below.f s0_0 t473 t474 60001).bind fun bt475 => (spec_l20Draw.j2 k2 ji4 x6_1 x7_1 x8_1 x9_2 x10_2 (wrap64 (bt475.1 - 30000)) s0_0 bt475.2.1 bt475.2.2)) = some (r1, r2, r3) := by rw [if_pos rfl] at H; exact H
             clear H
             have H := H1
             clear H1
             replace H := Option.bind_eq_some_iff.mp H
             obtain ⟨⟨t475, t476, t477⟩, A290, H⟩ := H
             replace H : (spec_l20Draw.j2 k2 ji4 x6_1 x7_1 x8_1 x9_2 x10_2 (wrap64 (t475 - 30000)) s0_0 t476 t477) = some (r1, r2, r3) := H
             have A29 := Aside0.mk A290
             clear A290
             have H' := Aside0.mk H
             clear H
             go_wp2_with (first | ((with_reducible refine gate_callee (f := 28) rfl ?_); refine goesL_ (some 44) rfl rfl Try.func28 (by kernel_rfl) rfl #[.pointer (some ⟨g, 0, none⟩), .int .i64 60001] rfl (by (try simp only [am_]); first | done | rfl) ?_; (with_reducible refine (spec_l1Below.calls g s0_0 t473 t474 60001 t475 t476 t477 w0 _ ?side1 ?side2 A29.out).mono ?_); (case side1 => repeat (first | (with_reducible first | exact HI0.out | apply IsS108.alloc | apply IsS108.drewN | apply IsS108.drew | apply IsS108.set_1 | apply IsS108.set_2) | exact HI0.out)); (case side2 => repeat (first | (with_reducible first | exact HB.out | apply below_alloc | apply pw_below_drewN | apply below_drew1 | refine below_set ?_ (IsS108.ge HI0.out)) | exact HB.out)); rintro e w30 ⟨rfl, hi, hb, hk⟩; refine ⟨_, rfl, ?_⟩; replace HO_6 := Aside0.mk (Kd.S_mono (Kd.S_keep (IsS108.apartS (show IsS108 w0 _ g s0_0 t473 t474 from by repeat (first | (with_reducible first | exact HI0.out | apply IsS108.alloc | apply IsS108.drewN | apply IsS108.drew | apply IsS108.set_1 | apply IsS108.set_2) | exact HI0.out)) (sl HO_6.out) (by decide)) hk (fun _ h => h.2)) (fun _ h => h.1)); replace HO_7 := Aside0.mk (Kd.R_mono (Kd.R_keep (IsS108.apart (show IsS108 w0 _ g s0_0 t473 t474 from by repeat (first | (with_reducible first | exact HI0.out | apply IsS108.alloc | apply IsS108.drewN | apply IsS108.drew | apply IsS108.set_1 | apply IsS108.set_2) | exact HI0.out)) (rl HO_7.out) (by decide)) hk (fun _ h => h.2)) (fun _ h => h.1)); replace HO_9 := Aside0.mk (Kd.R_mono (Kd.R_keep (IsS108.apart (show IsS108 w0 _ g s0_0 t473 t474 from by repeat (first | (with_reducible first | exact HI0.out | apply IsS108.alloc | apply IsS108.drewN | apply IsS108.drew | apply IsS108.set_1 | apply IsS108.set_2) | exact HI0.out)) (rl HO_9.out) (by decide)) hk (fun _ h => h.2)) (fun _ h => h.1)); replace HK := Aside0.mk (KeepBut.trans (by repeat (first | (with_reducible first | exact HK.out | apply KeepBut.set_ | apply keep_drewN | apply keep_drew | apply keep_alloc) | exact HK.out)) hk (.inl rfl)); replace HB := Aside0.mk (hb); replace HI0 := Aside0.mk (hi); (try clear hb); (try clear hb2); (try clear hk); (try clear hi)))
             go_meet
             case rel => exact ⟨_, (wrap64 (t475 - 30000)), (t476), (t477), (by first | rfl | (simp; done) | (simp [*]; done)), H', ⟨by have := HK1.out; have := HK2.out; first | omega | exact Nat.le_refl _⟩, ⟨sl HO_6.out⟩, ⟨rl HO_7.out⟩, ⟨rl HO_9.out⟩, ⟨by repeat (first | (with_reducible first | exact HI0.out | apply IsS108.alloc | apply IsS108.drewN | apply IsS108.drew | apply IsS108.set_1 | apply IsS108.set_2) | exact HI0.out)⟩, ⟨by repeat (first | (with_reducible first | exact HK.out | apply KeepBut.set_ | apply keep_drewN | apply keep_drew | apply keep_alloc) | exact HK.out)⟩, ⟨by repeat (first | (with_reducible first | exact HB.out | apply below_alloc | apply pw_below_drewN | apply below_drew1 | refine below_set ?_ (IsS108.ge HI0.out)) | exact HB.out)⟩⟩
            ·
             replace c28 := Bool.eq_false_iff.mpr c28
             subst c28
             have H1 : (spec_l20Draw.j2 k2 ji4 x6_1 x7_1 x8_1 x9_2 x10_2 (wrap64 ((wrap64 ((rd x7_1 x10_2) + t469)) - 20)) s0_0 t473 t474) = some (r1, r2, r3) := by rw [if_neg (show ¬ (false = true) by decide)] at H; exact H
             clear H
             have H := H1
             clear H1
             have H' := Aside0.mk H
             clear H
             go_wp2
             go_meet
             case rel => exact ⟨_, (wrap64 ((wrap64 ((rd x7_1 x10_2) + t469)) - 20)), (t473), (t474), (by first | rfl | (simp; done) | (simp [*]; done)), H', ⟨by have := HK1.out; have := HK2.out; first | omega | exact Nat.le_refl _⟩, ⟨sl HO_6.out⟩, ⟨rl HO_7.out⟩, ⟨rl HO_9.out⟩, ⟨by repeat (first | (with_reducible first | exact HI0.out | apply IsS108.alloc | apply IsS108.drewN | apply IsS108.drew | apply IsS108.set_1 | apply IsS108.set_2) | exact HI0.out)⟩, ⟨by repeat (first | (with_reducible first | exact HK.out | apply KeepBut.set_ | apply keep_drewN | apply keep_drew | apply keep_alloc) | exact HK.out)⟩, ⟨by repeat (first | (with_reducible first | exact HB.out | apply below_alloc | apply pw_below_drewN | apply below_drew1 | refine below_set ?_ (IsS108.ge HI0.out)) | exact HB.out)⟩⟩
           case rest =>
            clear HC23
            try clear c1
            try clear c2
            try clear p2
            try clear c4
            try clear p4
            try clear q4
            try clear hx4
            try clear c5
            try clear c5b0
            try clear c5b1
            try clear c6
            try clear c6b0
            try clear c6b1
            try clear p6
            try clear c8
            try clear c15
            try clear c15b0
            try clear c18
            try clear c18b0
            try clear c19
            try clear c19b0
            try clear c20
            try clear c20b0
            try clear c28
            try clear hx468_0
            try clear p2
            try clear p468
            try clear p6
            try clear q468
            obtain ⟨kq, x11_22, x1001_22, x1002_22, rfl, HA, HJ22, HO_6, HO_7, HO_9, HI0, HK, HB⟩ := hcut
            cases kq with
            | zero => exact absurd HA.out (by simp [spec_l20Draw.j2])
            | succ kj22 =>
             have H := HA.out
             clear HA
             simp only [spec_l20Draw.j2] at H
             replace H := Option.bind_eq_some_iff.mp H
             obtain ⟨⟨t478, t479, t480⟩, A310, H⟩ := H
             replace H : (if t478 = true then (if 0 ≤ x10_2 then (if x10_2 < (x7_1.length : Int) then ((spec_l1PickInt.f s0_0 t479 t480 (([100, (-100), 101, (-101)] : List Int))).bind fun bt485 => (spec_l20Draw.j3 kj22 ji4 x6_1 x7_1 x8_1 x9_2 x10_2 (wrap64 ((rd x7_1 x10_2) + bt485.1)) s0_0 bt485.2.1 bt485.2.2)) else (none)) else (none)) else (spec_l20Draw.j3 kj22 ji4 x6_1 x7_1 x8_1 x9_2 x10_2 x11_22 s0_0 t479 t480)) = some (r1, r2, r3) := H
             have A31 := Aside0.mk A310
             clear A310
             have HC32 := Aside0.mk H
             clear H
             go_upto_if 47 with (first | ((with_reducible refine gate_callee (f := 64) rfl ?_); refine goesL_ (some 47) rfl rfl Try.func64 (by kernel_rfl) rfl #[.pointer (some ⟨g, 0, none⟩), .int .i64 20] rfl (by (try simp only [am_]); first | done | rfl) ?_; (with_reducible refine (spec_l1Once.calls g s0_0 x1001_22 x1002_22 20 t478 t479 t480 w0 _ ?side1 ?side2 A31.out).mono ?_); (case side1 => repeat (first | (with_reducible first | exact HI0.out | apply IsS108.alloc | apply IsS108.drewN | apply IsS108.drew | apply IsS108.set_1 | apply IsS108.set_2) | exact HI0.out)); (case side2 => repeat (first | (with_reducible first | exact HB.out | apply below_alloc | apply pw_below_drewN | apply below_drew1 | refine below_set ?_ (IsS108.ge HI0.out)) | exact HB.out)); rintro e w33 ⟨rfl, hi, hb, hk⟩; refine ⟨_, rfl, ?_⟩; replace HO_6 := Aside0.mk (Kd.S_mono (Kd.S_keep (IsS108.apartS (show IsS108 w0 _ g s0_0 x1001_22 x1002_22 from by repeat (first | (with_reducible first | exact HI0.out | apply IsS108.alloc | apply IsS108.drewN | apply IsS108.drew | apply IsS108.set_1 | apply IsS108.set_2) | exact HI0.out)) (sl HO_6.out) (by decide)) hk (fun _ h => h.2)) (fun _ h => h.1)); replace HO_7 := Aside0.mk (Kd.R_mono (Kd.R_keep (IsS108.apart (show IsS108 w0 _ g s0_0 x1001_22 x1002_22 from by repeat (first | (with_reducible first | exact HI0.out | apply IsS108.alloc | apply IsS108.drewN | apply IsS108.drew | apply IsS108.set_1 | apply IsS108.set_2) | exact HI0.out)) (rl HO_7.out) (by decide)) hk (fun _ h => h.2)) (fun _ h => h.1)); replace HO_9 := Aside0.mk (Kd.R_mono (Kd.R_keep (IsS108.apart (show IsS108 w0 _ g s0_0 x1001_22 x1002_22 from by repeat (first | (with_reducible first | exact HI0.out | apply IsS108.alloc | apply IsS108.drewN | apply IsS108.drew | apply IsS108.set_1 | apply IsS108.set_2) | exact HI0.out)) (rl HO_9.out) (by decide)) hk (fun _ h => h.2)) (fun _ h => h.1)); replace HK := Aside0.mk (KeepBut.trans (by repeat (first | (with_reducible first | exact HK.out | apply KeepBut.set_ | apply keep_drewN | apply keep_drew | apply keep_alloc) | exact HK.out)) hk (.inl rfl)); replace HB := Aside0.mk (hb); replace HI0 := Aside0.mk (hi); (try clear hb); (try clear hb2); (try clear hk); (try clear hi)))
             (try simp only [Act.put, List.setIfInBounds_toArray, List.set_cons_zero, List.set_cons_succ])
             go_cut [11] (fun v11 wc => ∃ (kq : Nat) (x11_31 : Int) (x1001_31 : Int) (x1002_31 : Int), v11 = .int .i64 x11_31 ∧ Aside0 (spec_l20Draw.j3 kq ji4 x6_1 x7_1 x8_1 x9_2 x10_2 x11_31 s0_0 x1001_31 x1002_31 = some (r1, r2, r3)) ∧ Aside0 (kq ≤ kj22) ∧ Aside0 (Kd.S (Kd.slice 3 (Kd.int .i64)) 53 wc w.heap.size (fun k_ => some k_ ≠ (u9 : Value).ownBlock) u6 x6_1) ∧ Aside0 (Kd.R (Kd.int .i64) 3 wc w.heap.size (fun k_ => some k_ ≠ (u9 : Value).ownBlock) (.slice (some ad468) x7_1.length co25) x7_1) ∧ Aside0 (Kd.R (Kd.int .i64) 3 wc w.heap.size (fun k_ => some k_ ≠ ((.slice (some ad468) x7_1.length co25) : Value).ownBlock) u9 x9_2) ∧ Aside0 (IsS108 w0 wc g s0_0 x1001_31 x1002_31) ∧ Aside0 (KeepBut w wc g none) ∧ Aside0 (Below w0.heap.size w0 wc))
             case first =>
              have H := HC32.out
              clear HC32
              by_cases c34 : t478 = true
              ·
               subst c34
               have H1 : (if 0 ≤ x10_2 then (if x10_2 < (x7_1.length : Int) then ((spec_l1PickInt.f s0_0 t479 t480 (([100, (-100), 101, (-101)] : List Int))).bind fun bt485 => (spec_l20Draw.j3 kj22 ji4 x6_1 x7_1 x8_1 x9_2 x10_2 (wrap64 ((rd x7_1 x10_2) + bt485.1)) s0_0 bt485.2.1 bt485.2.2)) else (none)) else (none)) = some (r1, r2, r3) := by rw [if_pos rfl] at H; exact H
               clear H
               have H := H1
               clear H1
               by_cases c35 : 0 ≤ x10_2
               ·
                rw [if_pos c35] at H
                have c35b0 : decide (0 ≤ x10_2) = true := decide_eq_true c35
                clear c35
                (first | rw [c35b0] | (simp only [i64_w, i32_w]; rw [c35b0]) | skip)
                by_cases c36 : x10_2 < (x7_1.length : Int)
                ·
                 rw [if_pos c36] at H
                 have c36b0 : decide (x10_2 < (x7_1.length : Int)) = true := decide_eq_true c36
                 clear c36
                 obtain ⟨y482, hy482⟩ : ∃ y_ : List Int, y_ = (([100, (-100), 101, (-101)] : List Int)) := ⟨_, rfl⟩
                 replace H : ((spec_l1PickInt.f s0_0 t479 t480 y482).bind fun bt485 => (spec_l20Draw.j3 kj22 ji4 x6_1 x7_1 x8_1 x9_2 x10_2 (wrap64 ((rd x7_1 x10_2) + bt485.1)) s0_0 bt485.2.1 bt485.2.2)) = some (r1, r2, r3) := by first | (rw [hy482]; with_reducible exact H) | (have H2_ := (Option.bind_some _ _).symm.trans H; rw [hy482]; with_reducible exact H2_) | (have H2_ := (Option.bind_some _ _).symm.trans H; with_reducible exact H2_) | with_reducible exact H | (rw [hy482]; exact H) | exact H
                 have Ny482 := Aside0.mk hy482
                 clear hy482
                 replace H := Option.bind_eq_some_iff.mp H
                 obtain ⟨⟨t485, t486, t487⟩, A370, H⟩ := H
                 replace H : (spec_l20Draw.j3 kj22 ji4 x6_1 x7_1 x8_1 x9_2 x10_2 (wrap64 ((rd x7_1 x10_2) + t485)) s0_0 t486 t487) = some (r1, r2, r3) := H
                 have A37 := Aside0.mk A370
                 clear A370
                 have H' := Aside0.mk H
                 clear H
                 try go_wp2
                 have n0_ := Aside0.mk (Kd.S_drew HO_6.out)
                 have n1_ := Aside0.mk (Kd.R_drew HO_7.out)
                 have n2_ := Aside0.mk (Kd.R_drew HO_9.out)
                 have n3_ := Aside0.mk (IsS108.drew HI0.out)
                 have n4_ := Aside0.mk (keep_drew HK.out)
                 have n5_ := Aside0.mk (below_drew1 HB.out)
                 clear HO_6
                 clear HO_7
                 clear HO_9
                 clear HI0
                 clear HK
                 clear HB
                 have HO_6 := n0_
                 have HO_7 := n1_
                 have HO_9 := n2_
                 have HI0 := n3_
                 have HK := n4_
                 have HB := n5_
                 clear n0_ n1_ n2_ n3_ n4_ n5_
                 have p481 : 0 ≤ (x10_2 : Int) := of_decide_eq_true (by first | (with_reducible assumption) | assumption)
                 have q481 : x10_2 < (x7_1.length : Int) := of_decide_eq_true (by first | (with_reducible assumption) | assumption)
                 obtain ⟨ad481, e481, hx481_0⟩ := Kd.at_int (Kd.R_reads' HO_7.out).2.2 x10_2 p481 q481
                 obtain rfl : ad468 = ad481 := (by injection e481)
                 replace p481 := eq_true p481
                 replace q481 := eq_true q481
                 refine start_ (n := 9) (S := fun w' => w'.cell? (ad468.add (x10_2).toNat) = some (.int .i64 (rd x7_1 x10_2))) (ds := []) m0_9 (by kernel_rfl) rfl rfl (hx481_0) (fun hHeld => ?_); refine with_tabW spec_l20Draw.tab15 spec_l20Draw.bits15 (fun HT_ HW_ => ?_)
                 generalize w33.drew = w38 at HO_6 HO_7 HO_9 HI0 HK HB hx481_0 hHeld ⊢
                 refine pq_ HT_.out 0 48 m1_9 ?_
                 refine pq_ HT_.out 1 49 m2_9 ?_
                 refine pq_ HT_.out 2 50 m3_9 ?_
                 refine pq_ HT_.out 4 52 n78 ?_
                 refine tk_ HT_.out HW_.out 3 51 m5_9 rfl rfl (by kernel_rfl) (by rfl) (by intro w' s0; go_simp; with_reducible rfl) hHeld (by simp only [sp_]; rfl) (fun _ _ _ h => h) ?_
                 refine one_ (i := 5) (N := some 53) m6_9 rfl rfl (one_of HT_.out (by kernel_rfl)) (by decide) (fun K hK => ?_)
                 refine Kd.R_lit_step (Kd.int .i64) _ 3 ?hg (N := 53) ?hd (xs := ([100, (-100), 101, (-101)] : List Int)) (inner := [.int .i64 100, .int .i64 (-100), .int .i64 101, .int .i64 (-101)]) (ok := fun _ => True) (okp := fun _ => True) ?hr ?hp (fun _ hk => hk) trivial (Below.refl _ _) (Nat.le_refl _) (by simp) ?_; (case hd => rfl); (case hg => rfl); (case hr => first | (go_simp; done) | (go_simp; rfl)); (case hp => exact (Reps.one (show Kd.M (Kd.int .i64) _ _ _ 100 [.int .i64 100] from rfl) (Reps.one (show Kd.M (Kd.int .i64) _ _ _ (-100) [.int .i64 (-100)] from rfl) (Reps.one (show Kd.M (Kd.int .i64) _ _ _ 101 [.int .i64 101] from rfl) (Reps.one (show Kd.M (Kd.int .i64) _ _ _ (-101) [.int .i64 (-101)] from rfl) (Reps.none _ _))))))
                 intro v483 w39 ho40 hb hg_ hnew_
                 have HS0_ := (hb.cell (World.block_lt_of_cell? _ _ (hHeld))).trans (hHeld)
                 clear hg_ hnew_
                 (first | rw [← Ny482.out] at ho40 | (simp only [Int.reduceToNat] at ho40; rw [← Ny482.out] at ho40))
                 have n0_ := Aside0.mk (Kd.S_elder' (sl HO_6.out) (Kd.R_base ho40) hb)
                 have n1_ := Aside0.mk (Kd.R_elder' (rl HO_7.out) (Kd.R_base ho40) hb)
                 have n2_ := Aside0.mk (Kd.R_elder' (rl HO_9.out) (Kd.R_base ho40) hb)
                 have n3_ := Aside0.mk (Kd.R_lower (Kd.R_new' (Kd.R_new' ho40 (Kd.R_lt (by (repeat apply rl1); exact HO_7.out))) (Kd.R_lt (by (repeat apply rl1); exact HO_9.out))) (keep_size (w := w) (g := g) (row := none) (by repeat (first | (with_reducible first | exact HK.out | apply KeepBut.set_ | apply keep_drewN | apply keep_drew | apply keep_alloc) | exact HK.out))))
                 have n4_ := Aside0.mk (IsS108.below (by repeat (first | (with_reducible first | exact HI0.out | apply IsS108.alloc | apply IsS108.drewN | apply IsS108.drew | apply IsS108.set_1 | apply IsS108.set_2) | exact HI0.out)) hb)
                 have n5_ := Aside0.mk (KeepBut.trans (by repeat (first | (with_reducible first | exact HK.out | apply KeepBut.set_ | apply keep_drewN | apply keep_drew | apply keep_alloc) | exact HK.out)) (KeepBut.of_below hb g none) (.inl rfl))
                 have n6_ := Aside0.mk (below_step (by repeat (first | (with_reducible first | exact HB.out | apply below_alloc | apply pw_below_drewN | apply below_drew1 | refine below_set ?_ (IsS108.ge HI0.out)) | exact HB.out)) hb)
                 clear HO_6
                 clear HO_7
                 clear HO_9
                 clear HI0
                 clear HK
                 clear HB
                 have HO_6 := n0_
                 have HO_7 := n1_
                 have HO_9 := n2_
                 have HO484 := n3_
                 have HI0 := n4_
                 have HK := n5_
                 have HB := n6_
                 clear n0_ n1_ n2_ n3_ n4_ n5_ n6_
                 clear hb ho40
                 obtain ⟨Ao41, co41, eo41⟩ := Kd.R_slice HO484.out
                 (first | subst eo41 | (injection eo41 with f1_ f2_ f3_; have f4_ := f1_.symm; have f5_ := f3_.symm; clear f1_ f2_ f3_; subst f4_; subst f5_))
                 refine hK.out _ _ (HS0_) (fun hHeld => ?_)
                 clear hK K
                 refine norm_ (a' := ?_) ?_ ?_
                 rotate_left
                 ·
                  show Act.put _ (some 53) _ = _
                  simp only [sp_]
                  rfl
                 refine one_ (i := 6) (N := some 54) m7_9 rfl rfl (one_of HT_.out (by kernel_rfl)) (by decide) (fun K hK => ?_)
                 refine goes_ Try.func68 (by kernel_rfl) rfl #[.pointer (some ⟨g, 0, none⟩), .slice Ao41 y482.length co41] (by rfl) rfl rfl (by (try simp only [am_]); first | done | rfl) ?_
                 with_reducible refine (spec_l1PickInt.calls g s0_0 t479 t480 _ _ y482 t485 t486 t487 w0 _ ?side1 ?side2 ?side3 ?side4 ?side5 A37.out).mono ?_
                 (case side1 => repeat (first | (with_reducible first | exact HI0.out | apply IsS108.alloc | apply IsS108.drewN | apply IsS108.drew | apply IsS108.set_1 | apply IsS108.set_2) | exact HI0.out))
                 (case side2 => repeat (first | (with_reducible first | exact HB.out | apply below_alloc | apply pw_below_drewN | apply below_drew1 | refine below_set ?_ (IsS108.ge HI0.out)) | exact HB.out))
                 (case side3 => exact rc (Kd.R_reads' HO484.out).2.2)
                 (case side4 => exact (Kd.R_reads' HO484.out).2.1)
                 (case side5 => exact far_slice (IsS108.own_ne HI0.out HO484.out (by decide)))
                 rintro e w42 ⟨rfl, hi, hb, hk⟩
                 have HS0_ := keep_cell hk (hHeld) (by first | (rw [add_block]; exact Kd.own_blk (IsS108.own_ne HI0.out HO_7.out (by decide))) | (show (Addr.add _ _).block ≠ _; rw [add_block]; exact Kd.own_blk (IsS108.own_ne HI0.out HO_7.out (by decide))) | exact Kd.own_blk (IsS108.own_ne HI0.out HO_7.out (by decide)))
                 refine ⟨_, rfl, ?_⟩
                 have n0_ := Aside0.mk (Kd.S_mono (Kd.S_keep (IsS108.apartS (show IsS108 w0 _ g s0_0 t479 t480 from by repeat (first | (with_reducible first | exact HI0.out | apply IsS108.alloc | apply IsS108.drewN | apply IsS108.drew | apply IsS108.set_1 | apply IsS108.set_2) | exact HI0.out)) (sl HO_6.out) (by decide)) hk (fun _ h => h.2)) (fun _ h => h.1))
                 have n1_ := Aside0.mk (Kd.R_mono (Kd.R_keep (IsS108.apart (show IsS108 w0 _ g s0_0 t479 t480 from by repeat (first | (with_reducible first | exact HI0.out | apply IsS108.alloc | apply IsS108.drewN | apply IsS108.drew | apply IsS108.set_1 | apply IsS108.set_2) | exact HI0.out)) (rl HO_7.out) (by decide)) hk (fun _ h => h.2)) (fun _ h => h.1))
                 have n2_ := Aside0.mk (Kd.R_mono (Kd.R_keep (IsS108.apart (show IsS108 w0 _ g s0_0 t479 t480 from by repeat (first | (with_reducible first | exact HI0.out | apply IsS108.alloc | apply IsS108.drewN | apply IsS108.drew | apply IsS108.set_1 | apply IsS108.set_2) | exact HI0.out)) (rl HO_9.out) (by decide)) hk (fun _ h => h.2)) (fun _ h => h.1))
                 have n3_ := Aside0.mk (Kd.R_mono (Kd.R_keep (IsS108.apart (show IsS108 w0 _ g s0_0 t479 t480 from by repeat (first | (with_reducible first | exact HI0.out | apply IsS108.alloc | apply IsS108.drewN | apply IsS108.drew | apply IsS108.set_1 | apply IsS108.set_2) | exact HI0.out)) (rl HO484.out) (by decide)) hk (fun _ h => h.2)) (fun _ h => h.1))
                 have n4_ := Aside0.mk (KeepBut.trans (by repeat (first | (with_reducible first | exact HK.out | apply KeepBut.set_ | apply keep_drewN | apply keep_drew | apply keep_alloc) | exact HK.out)) hk (.inl rfl))
                 have n5_ := Aside0.mk (hb)
                 have n6_ := Aside0.mk (hi)
                 clear HO_6
                 clear HO_7
                 clear HO_9
                 clear HO484
                 clear HK
                 clear HB
                 clear HI0
                 have HO_6 := n0_
                 have HO_7 := n1_
                 have HO_9 := n2_
                 have HO484 := n3_
                 have HK := n4_
                 have HB := n5_
                 have HI0 := n6_
                 clear n0_ n1_ n2_ n3_ n4_ n5_ n6_
                 (try clear hb)
                 (try clear hb2)
                 (try clear hk)
                 (try clear hi)
                 refine hK.out _ _ (HS0_) (fun hHeld => ?_)
                 clear hK K
                 refine norm_ (a' := ?_) ?_ ?_
                 rotate_left
                 ·
                  show Act.put _ (some 54) _ = _
                  simp only [sp_]
                  rfl
                 refine pq_ HT_.out 7 55 m8_9 ?_
                 refine pq_ HT_.out 8 11 m9_9 ?_
                 refine done_ (done_of HT_.out (by kernel_rfl)) ?_
                 try go_wp2
                 go_meet
                 case rel => exact ⟨_, (wrap64 ((rd x7_1 x10_2) + t485)), (t486), (t487), (by first | rfl | (simp; done) | (simp [*]; done)), H', ⟨by have := HK1.out; have := HK2.out; have := HJ22.out; first | omega | exact Nat.le_refl _⟩, ⟨by (repeat apply sl1); exact Kd.S_mono HO_6.out (fun _ hk => hk.1)⟩, ⟨by (repeat apply rl1); exact Kd.R_mono HO_7.out (fun _ hk => hk.1)⟩, ⟨by (repeat apply rl1); exact Kd.R_mono HO_9.out (fun _ hk => hk.1)⟩, ⟨by repeat (first | (with_reducible first | exact HI0.out | apply IsS108.alloc | apply IsS108.drewN | apply IsS108.drew | apply IsS108.set_1 | apply IsS108.set_2) | exact HI0.out)⟩, ⟨by repeat (first | (with_reducible first | exact HK.out | apply KeepBut.set_ | apply keep_drewN | apply keep_drew | apply keep_alloc) | exact HK.out)⟩, ⟨by repeat (first | (with_reducible first | exact HB.out | apply below_alloc | apply pw_below_drewN | apply below_drew1 | refine below_set ?_ (IsS108.ge HI0.out)) | exact HB.out)⟩⟩
                ·
                 rw [if_neg c36] at H
                 exact absurd H (by simp)
               ·
                rw [if_neg c35] at H
                exact absurd H (by simp)
              ·
               replace c34 := Bool.eq_false_iff.mpr c34
               subst c34
               have H1 : (spec_l20Draw.j3 kj22 ji4 x6_1 x7_1 x8_1 x9_2 x10_2 x11_22 s0_0 t479 t480) = some (r1, r2, r3) := by rw [if_neg (show ¬ (false = true) by decide)] at H; exact H
               clear H
               have H := H1
               clear H1
               have H' := Aside0.mk H
               clear H
               go_wp2
               go_meet
               case rel => exact ⟨_, (x11_22), (t479), (t480), (by first | rfl | (simp; done) | (simp [*]; done)), H', ⟨by have := HK1.out; have := HK2.out; have := HJ22.out; first | omega | exact Nat.le_refl _⟩, ⟨sl HO_6.out⟩, ⟨rl HO_7.out⟩, ⟨rl HO_9.out⟩, ⟨by repeat (first | (with_reducible first | exact HI0.out | apply IsS108.alloc | apply IsS108.drewN | apply IsS108.drew | apply IsS108.set_1 | apply IsS108.set_2) | exact HI0.out)⟩, ⟨by repeat (first | (with_reducible first | exact HK.out | apply KeepBut.set_ | apply keep_drewN | apply keep_drew | apply keep_alloc) | exact HK.out)⟩, ⟨by repeat (first | (with_reducible first | exact HB.out | apply below_alloc | apply pw_below_drewN | apply below_drew1 | refine below_set ?_ (IsS108.ge HI0.out)) | exact HB.out)⟩⟩
             case rest =>
              clear HC32
              try clear c1
              try clear c2
              try clear p2
              try clear c3
              try clear c4
              try clear p4
              try clear q4
              try clear hx4
              try clear c5
              try clear c5b0
              try clear c5b1
              try clear c6
              try clear c6b0
              try clear c6b1
              try clear p6
              try clear c8
              try clear c15
              try clear c15b0
              try clear c18
              try clear c18b0
              try clear c19
              try clear c19b0
              try clear c20
              try clear c20b0
              try clear c28
              try clear c34
              try clear c35
              try clear c35b0
              try clear c36
              try clear c36b0
              try clear c41
              try clear hx468_0
              try clear hx481_0
              try clear p2
              try clear p4
              try clear p468
              try clear p481
              try clear p6
              try clear q4
              try clear q468
              try clear q481
              obtain ⟨kq, x11_31, x1001_31, x1002_31, rfl, HA, HJ31, HO_6, HO_7, HO_9, HI0, HK, HB⟩ := hcut
              cases kq with
              | zero => exact absurd HA.out (by simp [spec_l20Draw.j3])
              | succ kj31 =>
               have H := HA.out
               clear HA
               simp only [spec_l20Draw.j3] at H
               replace H := Option.bind_eq_some_iff.mp H
               obtain ⟨t488, A430, H⟩ := H
               replace H : ((spec_l1Max.f (-30000) t488).bind fun t489 => (if x9_2.length < 17592186044416 then (spec_l20Draw.l1 kj31 ji4 x6_1 x7_1 x8_1 (x9_2 ++ [t489]) (wrap64 (x10_2 + 1)) s0_0 x1001_31 x1002_31) else (none))) = some (r1, r2, r3) := H
               have A43 := Aside0.mk A430
               clear A430
               replace H := Option.bind_eq_some_iff.mp H
               obtain ⟨t489, A440, H⟩ := H
               replace H : (if x9_2.length < 17592186044416 then (spec_l20Draw.l1 kj31 ji4 x6_1 x7_1 x8_1 (x9_2 ++ [t489]) (wrap64 (x10_2 + 1)) s0_0 x1001_31 x1002_31) else (none)) = some (r1, r2, r3) := H
               have A44 := Aside0.mk A440
               clear A440
               by_cases c45 : x9_2.length < 17592186044416
               ·
                rw [if_pos c45] at H
                have LMc45 := Aside0.mk c45
                clear c45
                obtain ⟨y490, hy490⟩ : ∃ y_ : List Int, y_ = (x9_2 ++ [t489]) := ⟨_, rfl⟩
                replace H : (spec_l20Draw.l1 kj31 ji4 x6_1 x7_1 x8_1 y490 (wrap64 (x10_2 + 1)) s0_0 x1001_31 x1002_31) = some (r1, r2, r3) := by first | (rw [hy490]; with_reducible exact H) | (have H2_ := (Option.bind_some _ _).symm.trans H; rw [hy490]; with_reducible exact H2_) | (have H2_ := (Option.bind_some _ _).symm.trans H; with_reducible exact H2_) | with_reducible exact H | (rw [hy490]; exact H) | exact H
                have Ny490 := Aside0.mk hy490
                clear hy490
                have H' := Aside0.mk H
                clear H
                go_wp2_with (first | ((with_reducible refine gate_callee (f := 86) rfl ?_); refine goesL_ (some 58) rfl rfl Try.func86 (by kernel_rfl) rfl #[.int .i64 30000, .int .i64 x11_31] rfl (by (try simp only [am_]); first | done | rfl) ?_; (with_reducible refine (spec_l1Min.calls 30000 x11_31 t488 _ A43.out).mono ?_); rintro e w' ⟨rfl, ⟨nd, rfl⟩⟩; refine ⟨_, rfl, ?_⟩) | ((with_reducible refine gate_callee (f := 85) rfl ?_); refine goesL_ (some 59) rfl rfl Try.func85 (by kernel_rfl) rfl #[.int .i64 (-30000), .int .i64 t488] rfl (by (try simp only [am_]); first | done | rfl) ?_; (with_reducible refine (spec_l1Max.calls (-30000) t488 t489 _ A44.out).mono ?_); rintro e w' ⟨rfl, ⟨nd, rfl⟩⟩; refine ⟨_, rfl, ?_⟩) | ((with_reducible refine gate_builtin (b := .append) (xs := #[.tmp 56, .tmp 60]) rfl ?_); at_builtin; refine Kd.R_append (Kd.int .i64) w.heap.size rfl (.tmp 56) (.tmp 60) 53 3 (.int .i64 0) 8 rfl Try.underlying53 info3 rfl (by decide) (by omega) u9 x9_2 t489 [.int .i64 t489] (fun k_ => some k_ ≠ (.slice (some ad468) x7_1.length co25 : Value).ownBlock) (fun _ => False) rfl rfl ?aP (fun _ hk => hk.elim) ?aF ?aO (Below.refl _ _) ?aS ?aL ?_; (case aP => exact rfl); (case aF => exact (fun k_ hk => Kd.fresh' (Kd.R_lt (by (repeat apply rl1); exact HO_7.out)) k_ hk)); (case aO => exact (rl HO_9.out)); (case aS => exact (keep_size (w := w) (g := g) (row := none) (by repeat (first | (with_reducible first | exact HK.out | apply KeepBut.set_ | apply keep_drewN | apply keep_drew | apply keep_alloc) | exact HK.out)))); (case aL => have := LMc45.out; omega); intro v491 w46 ho hb hg hat; rw [← Ny490.out] at ho; replace HO_6 := Aside0.mk (Kd.S_after (ok := (fun _ => True)) (by (repeat apply sl1); exact Kd.S_mono HO_6.out (fun _ hk => ⟨trivial, hk⟩)) hg hat); replace HO_7 := Aside0.mk (Kd.R_after (ok := (fun _ => True)) (by (repeat apply rl1); exact Kd.R_mono HO_7.out (fun _ hk => ⟨trivial, hk⟩)) hg hat); replace HB := Aside0.mk (below_weaken (by repeat (first | (with_reducible first | exact HB.out | apply below_alloc | apply pw_below_drewN | apply below_drew1 | refine below_set ?_ (IsS108.ge HI0.out)) | exact HB.out)) HL.out hb); replace HI0 := Aside0.mk (IsS108.grown (by repeat (first | (with_reducible first | exact HI0.out | apply IsS108.alloc | apply IsS108.drewN | apply IsS108.drew | apply IsS108.set_1 | apply IsS108.set_2) | exact HI0.out)) hg (IsS108.own_ne HI0.out HO_9.out (by decide))); replace HK := Aside0.mk (KeepBut.trans (by repeat (first | (with_reducible first | exact HK.out | apply KeepBut.set_ | apply keep_drewN | apply keep_drew | apply keep_alloc) | exact HK.out)) (KeepBut.of_grown hg g) (Kd.R_base2 HO_9.out)); have HO492 := Aside0.mk (ho); clear HO_9; clear ho hb hg hat))
                go_roundg kj31
                case measure => have := HK1.out; have := HK2.out; have := HJ22.out; have := HJ31.out; omega
                case rel => exact ⟨(y490), (wrap64 (x10_2 + 1)), (x1001_31), (x1002_31), (by first | rfl | (simp; done) | (simp [*]; done)), H', ⟨by have := HK1.out; have := HK2.out; have := HJ22.out; have := HJ31.out; omega⟩, ⟨by (repeat apply sl1); exact Kd.S_mono HO_6.out (fun _ hk => hk.2)⟩, ⟨by (repeat apply rl1); exact Kd.R_mono HO_7.out (fun _ hk => hk.2)⟩, ⟨rl HO492.out⟩, ⟨by repeat (first | (with_reducible first | exact HI0.out | apply IsS108.alloc | apply IsS108.drewN | apply IsS108.drew | apply IsS108.set_1 | apply IsS108.set_2) | exact HI0.out)⟩, ⟨by repeat (first | (with_reducible first | exact HK.out | apply KeepBut.set_ | apply keep_drewN | apply keep_drew | apply keep_alloc) | exact HK.out)⟩, ⟨by repeat (first | (with_reducible first | exact HB.out | apply below_alloc | apply pw_below_drewN | apply below_drew1 | refine below_set ?_ (IsS108.ge HI0.out)) | exact HB.out)⟩⟩
               ·
                rw [if_neg c45] at H
                exact absurd H (by simp)
          ·
           rw [if_neg c20] at H
           exact absurd H (by simp)
         ·
          rw [if_neg c19] at H
          exact absurd H (by simp)
        ·
         rw [if_neg c18] at H
         have c18b0 : decide (x10_2 < ji4) = false := decide_eq_false c18
         clear c18
         by_cases c47 : x6_1.length < 5864062014805
         ·
          rw [if_pos c47] at H
          have LMc47 := Aside0.mk c47
          clear c47
          obtain ⟨y465, hy465⟩ : ∃ y_ : List (List Int), y_ = (x6_1 ++ [x9_2]) := ⟨_, rfl⟩
          replace H : (spec_l20Draw.l0 k2 ji4 y465 x9_2 (wrap64 (x8_1 - 1)) s0_0 x1001_2 x1002_2) = some (r1, r2, r3) := by first | (rw [hy465]; with_reducible exact H) | (have H2_ := (Option.bind_some _ _).symm.trans H; rw [hy465]; with_reducible exact H2_) | (have H2_ := (Option.bind_some _ _).symm.trans H; with_reducible exact H2_) | with_reducible exact H | (rw [hy465]; exact H) | exact H
          have Ny465 := Aside0.mk hy465
          clear hy465
          have H' := Aside0.mk H
          clear H
          obtain ⟨Ao49, co49, eo49⟩ := Kd.R_slice HO_9.out
          subst eo49
          go_wp2_with (first | ((with_reducible refine gate_builtin (b := .append) (xs := #[.tmp 62, .tmp 64]) rfl ?_); at_builtin; refine Kd.S_append (Kd.slice 3 (Kd.int .i64)) w.heap.size rfl (.tmp 62) (.tmp 64) 51 53 (.slice none 0 0) 24 rfl Try.underlying51 info53 rfl (by decide) (by omega) u6 x6_1 x9_2 [.slice Ao49 x9_2.length co49] (fun _ => True) (fun k_ => some k_ = (.slice Ao49 x9_2.length co49 : Value).ownBlock) rfl rfl ?aP (fun k_ hk_ => ((Kd.R_mono (ok' := fun k_ => ((fun _ => True)) k_ ∧ some k_ ≠ (u6 : Value).ownBlock) (Kd.R_apart' (HO_9.out) (Kd.S_typed HO_6.out) (by decide)) (fun k_ hk => ⟨trivial, hk.2⟩))).1 k_ hk_.symm) ?aF ?aO (Below.refl _ _) ?aS ?aL ?_; (case aP => exact Kd.M_row (Kd.R_mono (Kd.R_tight rfl (Kd.R_mono (ok' := fun k_ => ((fun _ => True)) k_ ∧ some k_ ≠ (u6 : Value).ownBlock) (Kd.R_apart' (HO_9.out) (Kd.S_typed HO_6.out) (by decide)) (fun k_ hk => ⟨trivial, hk.2⟩))) (fun _ h_ => h_))); (case aF => exact (fun _ _ => trivial)); (case aO => exact (by (repeat apply sl1); exact Kd.S_mono HO_6.out (fun k_ hk => ⟨trivial, fun e_ => hk e_⟩))); (case aS => exact (keep_size (w := w) (g := g) (row := none) (by repeat (first | (with_reducible first | exact HK.out | apply KeepBut.set_ | apply keep_drewN | apply keep_drew | apply keep_alloc) | exact HK.out)))); (case aL => have := LMc47.out; omega); intro v466 w48 ho hb hg hat; rw [← Ny465.out] at ho; have n9_ := Aside0.mk (Kd.R_mono (ok' := fun _ => True) (Kd.R_over' (rl HO_9.out) (Kd.S_typed (sl HO_6.out)) (by decide) hg) (fun _ _ => trivial)); have n0_ := Aside0.mk (Kd.R_over' (rl HO_7.out) (Kd.S_typed (sl HO_6.out)) (by decide) hg); have n1_ := Aside0.mk (IsS108.grown (by repeat (first | (with_reducible first | exact HI0.out | apply IsS108.alloc | apply IsS108.drewN | apply IsS108.drew | apply IsS108.set_1 | apply IsS108.set_2) | exact HI0.out)) hg (IsS108.own_neS HI0.out HO_6.out (by decide))); have n2_ := Aside0.mk (below_weaken (by repeat (first | (with_reducible first | exact HB.out | apply below_alloc | apply pw_below_drewN | apply below_drew1 | refine below_set ?_ (IsS108.ge HI0.out)) | exact HB.out)) HL.out hb); have n3_ := Aside0.mk (KeepBut.trans (by repeat (first | (with_reducible first | exact HK.out | apply KeepBut.set_ | apply keep_drewN | apply keep_drew | apply keep_alloc) | exact HK.out)) (KeepBut.of_grown hg g) (Kd.S_base2 HO_6.out)); have n4_ := Aside0.mk (ho); clear HO_7; clear HI0; clear HB; clear HK; clear HO_6; clear HO_9; have HO_9 := n9_; clear n9_; have HO_7 := n0_; have HI0 := n1_; have HB := n2_; have HK := n3_; have HO467 := n4_; clear n0_ n1_ n2_ n3_ n4_; clear ho hb hg hat))
          go_roundg k2
          case measure => have := HK1.out; have := HK2.out; omega
          case rel => exact ⟨(y465), (x9_2), (wrap64 (x8_1 - 1)), (x1001_2), (x1002_2), (by first | rfl | (simp; done) | (simp [*]; done)), H', ⟨by have := HK1.out; have := HK2.out; omega⟩, ⟨sl HO467.out⟩, ⟨rl HO_9.out⟩, ⟨by repeat (first | (with_reducible first | exact HI0.out | apply IsS108.alloc | apply IsS108.drewN | apply IsS108.drew | apply IsS108.set_1 | apply IsS108.set_2) | exact HI0.out)⟩, ⟨by repeat (first | (with_reducible first | exact HK.out | apply KeepBut.set_ | apply keep_drewN | apply keep_drew | apply keep_alloc) | exact HK.out)⟩, ⟨by repeat (first | (with_reducible first | exact HB.out | apply below_alloc | apply pw_below_drewN | apply below_drew1 | refine below_set ?_ (IsS108.ge HI0.out)) | exact HB.out)⟩⟩
         ·
          rw [if_neg c47] at H
          exact absurd H (by simp)
     ·
      rw [if_neg c15] at H
      have c15b0 : decide (0 < x8_1) = false := decide_eq_false c15
      clear c15
      simp only [Option.some.injEq, Prod.mk.injEq] at H
      obtain ⟨rfl, rfl, rfl⟩ := H
      go_wp2
      go_ret
      exact ⟨_, by first | rfl | (simp [errW_none, errW_some] <;> rfl) | (simp only [← hji4]; first | rfl | (simp [errW_none, errW_some] <;> rfl)) | (simp [*, errW_none, errW_some] <;> rfl), by (repeat apply sl1); exact HO_6.out, by repeat (first | (with_reducible first | exact HI0.out | apply IsS108.alloc | apply IsS108.drewN | apply IsS108.drew | apply IsS108.set_1 | apply IsS108.set_2) | exact HI0.out), by repeat (first | (with_reducible first | exact HB.out | apply below_alloc | apply pw_below_drewN | apply below_drew1 | refine below_set ?_ (IsS108.ge HI0.out)) | exact HB.out), by repeat (first | (with_reducible first | exact HK.out | apply KeepBut.set_ | apply keep_drewN | apply keep_drew | apply keep_alloc) | exact HK.out)⟩
  ·
   rw [if_neg c6] at H
   exact absurd H (by simp)
 ·
  rw [if_neg c5] at H
  exact absurd H (by simp)

/-! ### spec_DrawRecord: function 16 -/
def spec_DrawRecord.f (k : Nat) (l0 : List Int) : Option ((List (List Int))) := (spec_l1New.f k l0).bind fun bt493 => ((spec_l20Draw.f k bt493.1 bt493.2.1 bt493.2.2 l0).bind fun bt497 => (some bt497.1))
theorem spec_DrawRecord.mono : ∀ a0 k, LeO (spec_DrawRecord.f k a0) (spec_DrawRecord.f (k + 1) a0) := by
 intro a0 k
 unfold spec_DrawRecord.f
 repeat' first
   | (with_reducible exact spec_l1New.mono _ _)
   | (with_reducible exact spec_l20Draw.mono _ _ _ _ _)
   | (with_reducible exact LeO.refl _)
   | (with_reducible exact LeO.none _)
   | (with_reducible refine LeO.ite ?_ ?_)
   | (with_reducible refine LeO.bind ?_ (fun _ => ?_))
   | exact spec_l1New.mono _ _
   | exact spec_l20Draw.mono _ _ _ _ _
   | exact LeO.none _
   | refine LeO.ite ?_ ?_
   | refine LeO.bind ?_ (fun _ => ?_)
set_option maxHeartbeats 8000000 in
set_option maxRecDepth 100000 in
theorem spec_DrawRecord.calls (k : Nat) (A0 : Option Addr) (c0 : Nat) (l0 : List Int) (r : List (List Int)) (w : World) (hr0 : Kd.C (Kd.int .u8) w A0 l0.length l0) (hc0 : l0.length ≤ c0) (h : spec_DrawRecord.f k l0 = some r) :
  Calls Try.prog 16 #[.slice A0 l0.length c0] w fun e w' => ∃ v0_ : Value, e = .returned (v0_) ∧ Kd.S (Kd.slice 3 (Kd.int .i64)) 53 w' w.heap.size (fun _ => True) v0_ r ∧ Below w.heap.size w w' := by
 have HR0 := Aside0.mk hr0
 have HC0 := Aside0.mk hc0
 clear hr0 hc0
 have HB := Aside0.mk (Below.refl w.heap.size w)
 have H : ((spec_l1New.f k l0).bind fun bt493 => ((spec_l20Draw.f k bt493.1 bt493.2.1 bt493.2.2 l0).bind fun bt497 => (some bt497.1))) = some r := h
 clear h
 replace H := Option.bind_eq_some_iff.mp H
 obtain ⟨⟨t493, t494, t495⟩, A20, H⟩ := H
 replace H : ((spec_l20Draw.f k t493 t494 t495 l0).bind fun bt497 => (some bt497.1)) = some r := H
 have A2 := Aside0.mk A20
 clear A20
 replace H := Option.bind_eq_some_iff.mp H
 obtain ⟨⟨t497, t500, t501⟩, A30, H⟩ := H
 replace H : (some t497) = some r := H
 have A3 := Aside0.mk A30
 clear A30
 obtain rfl := Option.some.inj H
 go_enter Try.func16, Try.ntmps16
 go_wp2_with (first | ((with_reducible refine gate_callee (f := 26) rfl ?_); refine goesL_ (some 4) rfl rfl Try.func26 (by kernel_rfl) rfl #[.slice A0 l0.length c0] rfl (by (try simp only [am_]); first | done | rfl) ?_; (with_reducible refine (spec_l1New.calls k _ _ l0 t493 t494 t495 w _ ?side1 ?side2 ?side3 A2.out).mono ?_); (case side1 => exact bl HB.out); (case side2 => exact HR0.out); (case side3 => exact HC0.out); rintro e w4 ⟨g496, rfl, hi, hb, hb2⟩; refine ⟨_, rfl, ?_⟩; replace HB := Aside0.mk (hb); have HI496 := Aside0.mk (hi); (try clear hb); (try clear hb2); (try clear hk); (try clear hi)) | ((with_reducible refine gate_callee (f := 41) rfl ?_); refine goesL_ (some 6) rfl rfl Try.func41 (by kernel_rfl) rfl #[.pointer (some ⟨g496, 0, none⟩), .slice A0 l0.length c0] rfl (by (try simp only [am_]); first | done | rfl) ?_; (with_reducible refine (spec_l20Draw.calls k g496 t493 t494 t495 _ _ l0 t497 t500 t501 w _ ?side1 ?side2 ?side3 ?side4 ?side5 A3.out).mono ?_); (case side1 => repeat (first | (with_reducible first | exact HI496.out | apply IsS108.alloc | apply IsS108.drewN | apply IsS108.drew | apply IsS108.set_1 | apply IsS108.set_2) | exact HI496.out)); (case side2 => repeat (first | (with_reducible first | exact HB.out | apply below_alloc | apply pw_below_drewN | apply below_drew1 | refine below_set ?_ (IsS108.ge HI496.out)) | exact HB.out)); (case side3 => exact rc (Kd.C_below HR0.out HB.out)); (case side4 => exact HC0.out); (case side5 => exact Kd.far_C 0 HR0.out (IsS108.ge HI496.out)); rintro e w5 ⟨v498, rfl, ho0, hi, hb, hk⟩; refine ⟨_, rfl, ?_⟩; have HO499 := Aside0.mk (Kd.S_lower ho0 (below_size (by repeat (first | (with_reducible first | exact HB.out | apply below_alloc | apply pw_below_drewN | apply below_drew1 | refine below_set ?_ (IsS108.ge HI496.out)) | exact HB.out)))); replace HB := Aside0.mk (hb); replace HI496 := Aside0.mk (hi); (try clear hb); (try clear hb2); (try clear hk); (try clear hi); (try clear ho0)))
 go_ret
 exact ⟨_, by first | rfl | (simp [errW_none, errW_some] <;> rfl) | (simp [*, errW_none, errW_some] <;> rfl), by (repeat apply sl1); exact HO499.out, by repeat (first | (with_reducible first | exact HB.out | apply below_alloc | apply pw_below_drewN | apply below_drew1 | refine below_set ?_ (IsS108.ge HI496.out)) | exact HB.out)⟩

end Go.Proofs.Ytdimdlifjdbgnaa.PFnKept
