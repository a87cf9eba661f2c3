-- Written by a program of this session (wip/xprint.py) out of the translation; Lean checks it.
import Derived.Test.YtaaelkbkmgnciaaPFnColumnsx0
import Derived.Test.YtaaelkbkmgnciaaPFnColumnsx1
namespace Go.Proofs.Ytaaelkbkmgnciaa.PFnColumns
open Go.RowKit Go.Proofs.YtaaelkbkmgnciaaW.PrintWords Go.Proofs.YtaaelkbkmgnciaaW.PrintLast Go.Proofs.YtaaelkbkmgnciaaW.PrintMore Go.Proofs.Ytaaelkbkmgnciaa.Sq
attribute [local go_sem] max2_int min2_int max_two min_two max_three min_three max_four min_four   -- for this text's walks alone
set_option linter.unusedVariables false
set_option linter.unusedSimpArgs false

/-! ### spec_l20Draw: function 46 -/
mutual
def spec_l20Draw.l0 : Nat → Int → List (List Int) → List Int → Int → List Int → Int → Int → Option ((List (List Int)) × Int × Int)
 | 0, _, _, _, _, _, _, _ => none
 | k + 1, x5, x6, x7, x8, x1000, x1001, x1002 => if x8 > 0 then (spec_l20Draw.l1 k x5 x6 x7 x8 (([] : List Int)) 0 x1000 x1001 x1002) else (some (x6, x1001, x1002))
def spec_l20Draw.l1 : Nat → Int → List (List Int) → List Int → Int → List Int → Int → List Int → Int → Int → Option ((List (List Int)) × Int × Int)
 | 0, _, _, _, _, _, _, _, _, _ => none
 | k + 1, x5, x6, x7, x8, x9, x10, x1000, x1001, x1002 => if x10 < x5 then (if 0 ≤ x10 then (if x10 < (x7.length : Int) then ((spec_l1Below.f x1000 x1001 x1002 41).bind fun bt144 => ((spec_l1Once.f x1000 bt144.2.1 bt144.2.2 12).bind fun bt147 => (if bt147.1 = true then ((spec_l1Below.f x1000 bt147.2.1 bt147.2.2 60001).bind fun bt150 => (spec_l20Draw.j2 k x5 x6 x7 x8 x9 x10 (wrap64 (bt150.1 - 30000)) x1000 bt150.2.1 bt150.2.2)) else (spec_l20Draw.j2 k x5 x6 x7 x8 x9 x10 (wrap64 ((wrap64 ((rd x7 x10) + bt144.1)) - 20)) x1000 bt147.2.1 bt147.2.2)))) else (none)) else (none)) else (if x6.length < 5864062014805 then (spec_l20Draw.l0 k x5 (x6 ++ [x9]) x9 (wrap64 (x8 - 1)) x1000 x1001 x1002) else (none))
def spec_l20Draw.j2 : Nat → Int → List (List Int) → List Int → Int → List Int → Int → Int → List Int → Int → Int → Option ((List (List Int)) × Int × Int)
 | 0, _, _, _, _, _, _, _, _, _, _ => none
 | k + 1, x5, x6, x7, x8, x9, x10, x11, x1000, x1001, x1002 => (spec_l1Once.f x1000 x1001 x1002 20).bind fun bt153 => (if bt153.1 = true then (if 0 ≤ x10 then (if x10 < (x7.length : Int) then ((spec_l1PickInt.f x1000 bt153.2.1 bt153.2.2 (([100, (-100), 101, (-101)] : List Int))).bind fun bt160 => ((spec_l1Min.f 30000 (wrap64 ((rd x7 x10) + bt160.1))).bind fun t163 => ((spec_l1Max.f (-30000) t163).bind fun t164 => (if x9.length < 17592186044416 then (spec_l20Draw.l1 k x5 x6 x7 x8 (x9 ++ [t164]) (wrap64 (x10 + 1)) x1000 bt160.2.1 bt160.2.2) else (none))))) else (none)) else (none)) else ((spec_l1Min.f 30000 x11).bind fun t168 => ((spec_l1Max.f (-30000) t168).bind fun t169 => (if x9.length < 17592186044416 then (spec_l20Draw.l1 k x5 x6 x7 x8 (x9 ++ [t169]) (wrap64 (x10 + 1)) x1000 bt153.2.1 bt153.2.2) else (none)))))
end
def spec_l20Draw.f (k : Nat) (s0_0 : List Int) (s0_1 : Int) (s0_2 : Int) (l1 : List Int) : Option ((List (List Int)) × Int × Int) := (spec_l1Below.f s0_0 s0_1 s0_2 4).bind fun bt124 => (if 0 ≤ (wrap64 (1 + bt124.1)) then (if (wrap64 (1 + bt124.1) : Int).toNat ≤ 35184372088832 then ((spec_l1Size.f l1 20).bind fun t133 => ((spec_l1Below.f s0_0 bt124.2.1 bt124.2.2 (wrap64 (2 * t133))).bind fun bt134 => (spec_l20Draw.l0 k (wrap64 (1 + bt124.1)) (([] : List (List Int))) (List.replicate (wrap64 (1 + bt124.1) : Int).toNat 0) bt134.1 s0_0 bt134.2.1 bt134.2.2))) else (none)) else (none))
theorem spec_l20Draw.mono_l : ∀ k, (∀ y0 y1 y2 y3 y4 y5 y6, LeO (spec_l20Draw.l0 k y0 y1 y2 y3 y4 y5 y6) (spec_l20Draw.l0 (k + 1) y0 y1 y2 y3 y4 y5 y6)) ∧ (∀ y0 y1 y2 y3 y4 y5 y6 y7 y8, LeO (spec_l20Draw.l1 k y0 y1 y2 y3 y4 y5 y6 y7 y8) (spec_l20Draw.l1 (k + 1) y0 y1 y2 y3 y4 y5 y6 y7 y8)) ∧ (∀ y0 y1 y2 y3 y4 y5 y6 y7 y8 y9, LeO (spec_l20Draw.j2 k y0 y1 y2 y3 y4 y5 y6 y7 y8 y9) (spec_l20Draw.j2 (k + 1) y0 y1 y2 y3 y4 y5 y6 y7 y8 y9))
 | 0 => ⟨fun _ _ _ _ _ _ _ r h => by simp [spec_l20Draw.l0] at h, fun _ _ _ _ _ _ _ _ _ r h => by simp [spec_l20Draw.l1] at h, fun _ _ _ _ _ _ _ _ _ _ r h => by simp [spec_l20Draw.j2] at h⟩
 | k + 1 => by
  obtain ⟨ih0, ih1, ih2⟩ := spec_l20Draw.mono_l k
  refine ⟨?_, ?_, ?_⟩
  ·
   intro y0 y1 y2 y3 y4 y5 y6
   unfold spec_l20Draw.l0
   repeat' first
   | (with_reducible exact ih0 _ _ _ _ _ _ _)
   | (with_reducible exact ih1 _ _ _ _ _ _ _ _ _)
   | (with_reducible exact ih2 _ _ _ _ _ _ _ _ _ _)
   | (with_reducible exact LeO.refl _)
   | (with_reducible exact LeO.none _)
   | (with_reducible refine LeO.ite ?_ ?_)
   | (with_reducible refine LeO.bind ?_ (fun _ => ?_))
   | exact ih0 _ _ _ _ _ _ _
   | exact ih1 _ _ _ _ _ _ _ _ _
   | exact ih2 _ _ _ _ _ _ _ _ _ _
   | exact LeO.none _
   | refine LeO.ite ?_ ?_
   | refine LeO.bind ?_ (fun _ => ?_)
  ·
   intro y0 y1 y2 y3 y4 y5 y6 y7 y8
   unfold spec_l20Draw.l1
   repeat' first
   | (with_reducible exact ih0 _ _ _ _ _ _ _)
   | (with_reducible exact ih1 _ _ _ _ _ _ _ _ _)
   | (with_reducible exact ih2 _ _ _ _ _ _ _ _ _ _)
   | (with_reducible exact LeO.refl _)
   | (with_reducible exact LeO.none _)
   | (with_reducible refine LeO.ite ?_ ?_)
   | (with_reducible refine LeO.bind ?_ (fun _ => ?_))
   | exact ih0 _ _ _ _ _ _ _
   | exact ih1 _ _ _ _ _ _ _ _ _
   | exact ih2 _ _ _ _ _ _ _ _ _ _
   | exact LeO.none _
   | refine LeO.ite ?_ ?_
   | refine LeO.bind ?_ (fun _ => ?_)
  ·
   intro y0 y1 y2 y3 y4 y5 y6 y7 y8 y9
   unfold spec_l20Draw.j2
   repeat' first
   | (with_reducible exact ih0 _ _ _ _ _ _ _)
   | (with_reducible exact ih1 _ _ _ _ _ _ _ _ _)
   | (with_reducible exact ih2 _ _ _ _ _ _ _ _ _ _)
   | (with_reducible exact LeO.refl _)
   | (with_reducible exact LeO.none _)
   | (with_reducible refine LeO.ite ?_ ?_)
   | (with_reducible refine LeO.bind ?_ (fun _ => ?_))
   | exact ih0 _ _ _ _ _ _ _
   | exact ih1 _ _ _ _ _ _ _ _ _
   | exact ih2 _ _ _ _ _ _ _ _ _ _
   | exact LeO.none _
   | refine LeO.ite ?_ ?_
   | refine LeO.bind ?_ (fun _ => ?_)
theorem spec_l20Draw.mono : ∀ a0 a1 a2 a3 k, LeO (spec_l20Draw.f k a0 a1 a2 a3) (spec_l20Draw.f (k + 1) a0 a1 a2 a3) := by
 intro a0 a1 a2 a3 k
 obtain ⟨ih0, ih1, ih2⟩ := spec_l20Draw.mono_l k
 unfold spec_l20Draw.f
 repeat' first
   | (with_reducible exact ih0 _ _ _ _ _ _ _)
   | (with_reducible exact ih1 _ _ _ _ _ _ _ _ _)
   | (with_reducible exact ih2 _ _ _ _ _ _ _ _ _ _)
   | (with_reducible exact LeO.refl _)
   | (with_reducible exact LeO.none _)
   | (with_reducible refine LeO.ite ?_ ?_)
   | (with_reducible refine LeO.bind ?_ (fun _ => ?_))
   | exact ih0 _ _ _ _ _ _ _
   | exact ih1 _ _ _ _ _ _ _ _ _
   | exact ih2 _ _ _ _ _ _ _ _ _ _
   | exact LeO.none _
   | refine LeO.ite ?_ ?_
   | refine LeO.bind ?_ (fun _ => ?_)
def spec_l20Draw.T11 : Bool × List (List Nat × List Nat) := (true, [([], []), ([], []), ([0, 1], [0, 1]), ([2], [2]), ([], []), ([4], [4]), ([3, 5], [3, 5]), ([6], [6]), ([7, 5, 0, 1, 2, 3, 4, 5, 6, 7], [7])])
def spec_l20Draw.B11 : List Nat := [0, 0, 3, 7, 0, 16, 63, 127, 255]
theorem spec_l20Draw.tab11 : rtab .any (opsOf Try.f46 11) = spec_l20Draw.T11 := by kernel_rfl
theorem spec_l20Draw.bits11 : waitsOk spec_l20Draw.T11.2 spec_l20Draw.B11 = true := by kernel_rfl
def spec_l20Draw.T15 : Bool × List (List Nat × List Nat) := (true, [([], []), ([], []), ([0, 1], [0, 1]), ([2], [2]), ([], []), ([], []), ([4, 5], [4, 5]), ([3, 6], [3, 6]), ([7, 6, 0, 1, 2, 3, 4, 5, 6, 7], [7])])
def spec_l20Draw.B15 : List Nat := [0, 0, 3, 7, 0, 0, 48, 127, 255]
theorem spec_l20Draw.tab15 : rtab .any (opsOf Try.f46 15) = spec_l20Draw.T15 := by kernel_rfl
theorem spec_l20Draw.bits15 : waitsOk spec_l20Draw.T15.2 spec_l20Draw.B15 = true := by kernel_rfl
set_option maxHeartbeats 8000000 in
set_option maxRecDepth 100000 in
theorem spec_l20Draw.calls (k : Nat) (g : Nat) (s0_0 : List Int) (s0_1 : Int) (s0_2 : Int) (A1 : Option Addr) (c1 : Nat) (l1 : List Int) (r1 : List (List Int)) (r2 : Int) (r3 : Int) (w0 w : World) (hI : IsS65 w0 w g s0_0 s0_1 s0_2) (hB : Below w0.heap.size w0 w) (hr1 : Kd.C (Kd.int .u8) w A1 l1.length l1) (hc1 : l1.length ≤ c1) (hf1 : ∀ ad, A1 = some ad → 0 < l1.length → ad.block ≠ g) (h : spec_l20Draw.f k s0_0 s0_1 s0_2 l1 = some (r1, r2, r3)) :
  Calls Try.prog 46 #[.pointer (some ⟨g, 0, none⟩), .slice A1 l1.length c1] w fun e w' => ∃ v0_ : Value, e = .returned (v0_) ∧ Kd.S (Kd.slice 3 (Kd.int .i64)) 32 w' w.heap.size (fun _ => True) v0_ r1 ∧ IsS65 w0 w' g s0_0 r2 r3 ∧ Below w0.heap.size w0 w' ∧ KeepBut w w' g none := by
 have HR1 := Aside0.mk hr1
 have HC1 := Aside0.mk hc1
 clear hr1 hc1
 have HI0 := Aside0.mk hI
 have HK := Aside0.mk (KeepBut.refl w g none)
 have HL := Aside0.mk hB.size
 clear hI
 have HW0 := Aside0.mk hB.size
 have HB := Aside0.mk hB
 clear hB
 have H : ((spec_l1Below.f s0_0 s0_1 s0_2 4).bind fun bt124 => (if 0 ≤ (wrap64 (1 + bt124.1)) then (if (wrap64 (1 + bt124.1) : Int).toNat ≤ 35184372088832 then ((spec_l1Size.f l1 20).bind fun t133 => ((spec_l1Below.f s0_0 bt124.2.1 bt124.2.2 (wrap64 (2 * t133))).bind fun bt134 => (spec_l20Draw.l0 k (wrap64 (1 + bt124.1)) (([] : List (List Int))) (List.replicate (wrap64 (1 + bt124.1) : Int).toNat 0) bt134.1 s0_0 bt134.2.1 bt134.2.2))) else (none)) else (none))) = some (r1, r2, r3) := h
 clear h
 replace H := Option.bind_eq_some_iff.mp H
 obtain ⟨⟨t124, t125, t126⟩, A30, H⟩ := H
 replace H : (if 0 ≤ (wrap64 (1 + t124)) then (if (wrap64 (1 + t124) : Int).toNat ≤ 35184372088832 then ((spec_l1Size.f l1 20).bind fun t133 => ((spec_l1Below.f s0_0 t125 t126 (wrap64 (2 * t133))).bind fun bt134 => (spec_l20Draw.l0 k (wrap64 (1 + t124)) (([] : List (List Int))) (List.replicate (wrap64 (1 + t124) : Int).toNat 0) bt134.1 s0_0 bt134.2.1 bt134.2.2))) else (none)) else (none)) = some (r1, r2, r3) := H
 have A3 := Aside0.mk A30
 clear A30
 obtain ⟨y127, hy127⟩ : ∃ y_ : List (List Int), y_ = (([] : List (List Int))) := ⟨_, rfl⟩
 replace H : (if 0 ≤ (wrap64 (1 + t124)) then (if (wrap64 (1 + t124) : Int).toNat ≤ 35184372088832 then ((spec_l1Size.f l1 20).bind fun t133 => ((spec_l1Below.f s0_0 t125 t126 (wrap64 (2 * t133))).bind fun bt134 => (spec_l20Draw.l0 k (wrap64 (1 + t124)) y127 (List.replicate (wrap64 (1 + t124) : Int).toNat 0) bt134.1 s0_0 bt134.2.1 bt134.2.2))) else (none)) else (none)) = some (r1, r2, r3) := by first | (rw [hy127]; with_reducible exact H) | (have H2_ := (Option.bind_some _ _).symm.trans H; rw [hy127]; with_reducible exact H2_) | (have H2_ := (Option.bind_some _ _).symm.trans H; with_reducible exact H2_) | with_reducible exact H | (rw [hy127]; exact H) | exact H
 have Ny127 := Aside0.mk hy127
 clear hy127
 obtain ⟨ji4, hji4⟩ : ∃ j_ : Int, (wrap64 (1 + t124)) = j_ := ⟨_, rfl⟩
 replace H : (if 0 ≤ (ji4) then (if (ji4 : Int).toNat ≤ 35184372088832 then ((spec_l1Size.f l1 20).bind fun t133 => ((spec_l1Below.f s0_0 t125 t126 (wrap64 (2 * t133))).bind fun bt134 => (spec_l20Draw.l0 k ji4 y127 (List.replicate (ji4 : Int).toNat 0) bt134.1 s0_0 bt134.2.1 bt134.2.2))) else (none)) else (none)) = some (r1, r2, r3) := by first | (rw [hji4] at H; exact H) | (simp only [hji4] at H ⊢; exact H)
 (try rw [hji4] at A3)
 have hji4w : (IntKind.i64.wrap (1 + t124)) = ji4 := (i64_w _).trans hji4
 by_cases c5 : 0 ≤ (ji4)
 ·
  rw [if_pos c5] at H
  have c5b0 := eq_true c5
  have c5b1 : decide (0 ≤ (ji4)) = true := decide_eq_true c5
  clear c5
  by_cases c6 : (ji4 : Int).toNat ≤ 35184372088832
  ·
   rw [if_pos c6] at H
   have c6b0 := eq_true c6
   have c6b1 : decide ((ji4 : Int).toNat ≤ 35184372088832) = true := decide_eq_true c6
   clear c6
   obtain ⟨y130, hy130⟩ : ∃ y_ : List Int, y_ = (List.replicate (ji4 : Int).toNat 0) := ⟨_, rfl⟩
   replace H : ((spec_l1Size.f l1 20).bind fun t133 => ((spec_l1Below.f s0_0 t125 t126 (wrap64 (2 * t133))).bind fun bt134 => (spec_l20Draw.l0 k ji4 y127 y130 bt134.1 s0_0 bt134.2.1 bt134.2.2))) = some (r1, r2, r3) := by first | (rw [hy130]; with_reducible exact H) | (have H2_ := (Option.bind_some _ _).symm.trans H; rw [hy130]; with_reducible exact H2_) | (have H2_ := (Option.bind_some _ _).symm.trans H; with_reducible exact H2_) | with_reducible exact H | (rw [hy130]; exact H) | exact H
   have Ny130 := Aside0.mk hy130
   clear hy130
   replace H := Option.bind_eq_some_iff.mp H
   obtain ⟨t133, A70, H⟩ := H
   replace H : ((spec_l1Below.f s0_0 t125 t126 (wrap64 (2 * t133))).bind fun bt134 => (spec_l20Draw.l0 k ji4 y127 y130 bt134.1 s0_0 bt134.2.1 bt134.2.2)) = some (r1, r2, r3) := H
   have A7 := Aside0.mk A70
   clear A70
   replace H := Option.bind_eq_some_iff.mp H
   obtain ⟨⟨t134, t135, t136⟩, A80, H⟩ := H
   replace H : (spec_l20Draw.l0 k ji4 y127 y130 t134 s0_0 t135 t136) = some (r1, r2, r3) := H
   have A8 := Aside0.mk A80
   clear A80
   have H' := Aside0.mk H
   clear H
   go_enter Try.func46, Try.ntmps46
   go_wp2_with (first | ((with_reducible refine gate_callee (f := 53) rfl ?_); refine goesL_ (some 13) rfl rfl Try.func53 (by kernel_rfl) rfl #[.pointer (some ⟨g, 0, none⟩), .int .i64 4] rfl (by (try simp only [am_]); first | done | rfl) ?_; (with_reducible refine (spec_l1Below.calls g s0_0 s0_1 s0_2 4 t124 t125 t126 w0 _ ?side1 ?side2 A3.out).mono ?_); (case side1 => repeat (first | (with_reducible first | exact HI0.out | apply IsS65.alloc | apply IsS65.drewN | apply IsS65.drew | apply IsS65.set_1 | apply IsS65.set_2) | exact HI0.out)); (case side2 => repeat (first | (with_reducible first | exact HB.out | apply below_alloc | apply pw_below_drewN | apply below_drew1 | refine below_set ?_ (IsS65.ge HI0.out)) | exact HB.out)); rintro e w9 ⟨rfl, hi, hb, hk⟩; refine ⟨_, rfl, ?_⟩; have n0_ := Aside0.mk (KeepBut.trans (by repeat (first | (with_reducible first | exact HK.out | apply KeepBut.set_ | apply keep_drewN | apply keep_drew | apply keep_alloc) | exact HK.out)) hk (.inl rfl)); have n1_ := Aside0.mk (hb); have n2_ := Aside0.mk (hi); clear HK; clear HB; clear HI0; have HK := n0_; have HB := n1_; have HI0 := n2_; clear n0_ n1_ n2_; (try clear hb); (try clear hb2); (try clear hk); (try clear hi)) | ((with_reducible refine gate_dst (N := 15) rfl ?_); refine Kd.S_lit (Kd.slice 3 (Kd.int .i64)) _ 32 ?hg (N := 15) ?hd (xs := ([] : List (List Int))) (inner := []) (ok := fun _ => True) (okp := fun _ => True) ?hr ?hp (fun _ hk => hk) trivial (Below.refl _ _) (Nat.le_refl _) (by simp) ?_; (case hd => rfl); (case hg => rfl); (case hr => first | (go_simp; done) | (go_simp; rfl)); (case hp => exact (Reps.none _ _)); intro v128 w10 ho11 hb hg_ hnew_; clear hg_ hnew_; (first | rw [← Ny127.out] at ho11 | (simp only [Int.reduceToNat] at ho11; rw [← Ny127.out] at ho11)); have n0_ := Aside0.mk (Kd.S_lower ho11 (keep_size (w := w) (g := g) (row := none) (by repeat (first | (with_reducible first | exact HK.out | apply KeepBut.set_ | apply keep_drewN | apply keep_drew | apply keep_alloc) | exact HK.out)))); have n1_ := Aside0.mk (IsS65.below (by repeat (first | (with_reducible first | exact HI0.out | apply IsS65.alloc | apply IsS65.drewN | apply IsS65.drew | apply IsS65.set_1 | apply IsS65.set_2) | exact HI0.out)) hb); have n2_ := Aside0.mk (KeepBut.trans (by repeat (first | (with_reducible first | exact HK.out | apply KeepBut.set_ | apply keep_drewN | apply keep_drew | apply keep_alloc) | exact HK.out)) (KeepBut.of_below hb g none) (.inl rfl)); have n3_ := Aside0.mk (below_step (by repeat (first | (with_reducible first | exact HB.out | apply below_alloc | apply pw_below_drewN | apply below_drew1 | refine below_set ?_ (IsS65.ge HI0.out)) | exact HB.out)) hb); clear HI0; clear HK; clear HB; have HO129 := n0_; have HI0 := n1_; have HK := n2_; have HB := n3_; clear n0_ n1_ n2_ n3_; clear hb ho11) | ((with_reducible refine gate_dst (N := 17) rfl ?_); refine Kd.R_make (Kd.int .i64) _ 3 rfl (N := 17) rfl 32 _ _ rfl ji4 rfl rfl Try.underlying32 (.int .i64 0) 8 info3 rfl (by decide) (by omega) 0 (ok := fun _ => True) (okp := fun _ => True) rfl (fun _ hk => hk) trivial (of_decide_eq_true (by first | (with_reducible assumption) | assumption)) (Nat.le_trans (Nat.mul_le_mul_right _ (of_decide_eq_true (by first | (with_reducible assumption) | assumption) : ji4.toNat ≤ 35184372088832)) (by omega)) (Below.refl _ _) (Nat.le_refl _) ?_; intro v131 w12 ho13 hb hg_ hnew_; clear hg_ hnew_; (first | rw [← Ny130.out] at ho13 | (simp only [Int.reduceToNat] at ho13; rw [← Ny130.out] at ho13)); have n0_ := Aside0.mk (Kd.S_elder' (sl HO129.out) (Kd.R_base ho13) hb); have n1_ := Aside0.mk (Kd.R_lower ho13 (keep_size (w := w) (g := g) (row := none) (by repeat (first | (with_reducible first | exact HK.out | apply KeepBut.set_ | apply keep_drewN | apply keep_drew | apply keep_alloc) | exact HK.out)))); have n2_ := Aside0.mk (IsS65.below (by repeat (first | (with_reducible first | exact HI0.out | apply IsS65.alloc | apply IsS65.drewN | apply IsS65.drew | apply IsS65.set_1 | apply IsS65.set_2) | exact HI0.out)) hb); have n3_ := Aside0.mk (KeepBut.trans (by repeat (first | (with_reducible first | exact HK.out | apply KeepBut.set_ | apply keep_drewN | apply keep_drew | apply keep_alloc) | exact HK.out)) (KeepBut.of_below hb g none) (.inl rfl)); have n4_ := Aside0.mk (below_step (by repeat (first | (with_reducible first | exact HB.out | apply below_alloc | apply pw_below_drewN | apply below_drew1 | refine below_set ?_ (IsS65.ge HI0.out)) | exact HB.out)) hb); clear HO129; clear HI0; clear HK; clear HB; have HO129 := n0_; have HO132 := n1_; have HI0 := n2_; have HK := n3_; have HB := n4_; clear n0_ n1_ n2_ n3_ n4_; clear hb ho13) | ((with_reducible refine gate_callee (f := 56) rfl ?_); refine goesL_ (some 20) rfl rfl Try.func56 (by kernel_rfl) rfl #[.slice A1 l1.length c1, .int .i64 20] rfl (by (try simp only [am_]); first | done | rfl) ?_; (with_reducible refine (spec_l1Size.calls _ _ l1 20 t133 _ ?side1 ?side2 A7.out).mono ?_); (case side1 => exact Kd.C_keep 0 HR1.out (by repeat (first | (with_reducible first | exact HK.out | apply KeepBut.set_ | apply keep_drewN | apply keep_drew | apply keep_alloc) | exact HK.out)) hf1); (case side2 => exact HC1.out); rintro e w' ⟨rfl, ⟨nd, rfl⟩⟩; refine ⟨_, rfl, ?_⟩) | ((with_reducible refine gate_callee (f := 53) rfl ?_); refine goesL_ (some 22) rfl rfl Try.func53 (by kernel_rfl) rfl #[.pointer (some ⟨g, 0, none⟩), .int .i64 (wrap64 (2 * t133))] rfl (by (try simp only [am_]); first | done | rfl) ?_; (with_reducible refine (spec_l1Below.calls g s0_0 t125 t126 (wrap64 (2 * t133)) t134 t135 t136 w0 _ ?side1 ?side2 A8.out).mono ?_); (case side1 => repeat (first | (with_reducible first | exact HI0.out | apply IsS65.alloc | apply IsS65.drewN | apply IsS65.drew | apply IsS65.set_1 | apply IsS65.set_2) | exact HI0.out)); (case side2 => repeat (first | (with_reducible first | exact HB.out | apply below_alloc | apply pw_below_drewN | apply below_drew1 | refine below_set ?_ (IsS65.ge HI0.out)) | exact HB.out)); rintro e w14 ⟨rfl, hi, hb, hk⟩; refine ⟨_, rfl, ?_⟩; have n0_ := Aside0.mk (Kd.S_mono (Kd.S_keep (IsS65.apartS (show IsS65 w0 _ g s0_0 t125 t126 from by repeat (first | (with_reducible first | exact HI0.out | apply IsS65.alloc | apply IsS65.drewN | apply IsS65.drew | apply IsS65.set_1 | apply IsS65.set_2) | exact HI0.out)) (sl HO129.out) (by decide)) hk (fun _ h => h.2)) (fun _ h => h.1)); have n1_ := Aside0.mk (Kd.R_mono (Kd.R_keep (IsS65.apart (show IsS65 w0 _ g s0_0 t125 t126 from by repeat (first | (with_reducible first | exact HI0.out | apply IsS65.alloc | apply IsS65.drewN | apply IsS65.drew | apply IsS65.set_1 | apply IsS65.set_2) | exact HI0.out)) (rl HO132.out) (by decide)) hk (fun _ h => h.2)) (fun _ h => h.1)); have n2_ := Aside0.mk (KeepBut.trans (by repeat (first | (with_reducible first | exact HK.out | apply KeepBut.set_ | apply keep_drewN | apply keep_drew | apply keep_alloc) | exact HK.out)) hk (.inl rfl)); have n3_ := Aside0.mk (hb); have n4_ := Aside0.mk (hi); clear HO129; clear HO132; clear HK; clear HB; clear HI0; have HO129 := n0_; have HO132 := n1_; have HK := n2_; have HB := n3_; have HI0 := n4_; clear n0_ n1_ n2_ n3_ n4_; (try clear hb); (try clear hb2); (try clear hk); (try clear hi)))
   go_loopg [6, 7, 8] k (fun kq v6 v7 v8 w' => ∃ (x6_1 : List (List Int)) (x7_1 : List Int) (x8_1 : Int) (x1001_1 : Int) (x1002_1 : Int), v8 = .int .i64 x8_1 ∧ Aside0 (spec_l20Draw.l0 kq ji4 x6_1 x7_1 x8_1 s0_0 x1001_1 x1002_1 = some (r1, r2, r3)) ∧ Aside0 (kq ≤ k) ∧ Aside0 (Kd.S (Kd.slice 3 (Kd.int .i64)) 32 w' w.heap.size (fun _ => True) v6 x6_1) ∧ Aside0 (Kd.R (Kd.int .i64) 3 w' w.heap.size (fun _ => True) v7 x7_1) ∧ Aside0 (IsS65 w0 w' g s0_0 x1001_1 x1002_1) ∧ Aside0 (KeepBut w w' g none) ∧ Aside0 (Below w0.heap.size w0 w'))
   case atStart => exact ⟨(y127), (y130), (t134), (t135), (t136), (by first | rfl | (simp; done) | (simp [*]; done)), H', ⟨Nat.le_refl _⟩, ⟨by (repeat apply sl1); exact Kd.S_mono HO129.out (fun _ hk => trivial)⟩, ⟨rl HO132.out⟩, ⟨by repeat (first | (with_reducible first | exact HI0.out | apply IsS65.alloc | apply IsS65.drewN | apply IsS65.drew | apply IsS65.set_1 | apply IsS65.set_2) | exact HI0.out)⟩, ⟨by repeat (first | (with_reducible first | exact HK.out | apply KeepBut.set_ | apply keep_drewN | apply keep_drew | apply keep_alloc) | exact HK.out)⟩, ⟨by repeat (first | (with_reducible first | exact HB.out | apply below_alloc | apply pw_below_drewN | apply below_drew1 | refine below_set ?_ (IsS65.ge HI0.out)) | exact HB.out)⟩⟩
   case round =>
    clear H'
    try clear c1
    try clear p2
    try clear c4
    try clear c5
    try clear c5b0
    try clear c5b1
    try clear c6
    try clear c6b0
    try clear c6b1
    try clear p6
    obtain ⟨x6_1, x7_1, x8_1, x1001_1, x1002_1, rfl, HA, HK1, HO_6, HO_7, HI0, HK, HB⟩ := hrel
    cases gk with
    | zero => exact absurd HA.out (by simp [spec_l20Draw.l0])
    | succ k1 =>
     have H := HA.out
     clear HA
     simp only [spec_l20Draw.l0] at H
     by_cases c15 : x8_1 > 0
     ·
      rw [if_pos c15] at H
      have c15b0 : decide (0 < x8_1) = true := decide_eq_true c15
      clear c15
      obtain ⟨y137, hy137⟩ : ∃ y_ : List Int, y_ = (([] : List Int)) := ⟨_, rfl⟩
      replace H : (spec_l20Draw.l1 k1 ji4 x6_1 x7_1 x8_1 y137 0 s0_0 x1001_1 x1002_1) = some (r1, r2, r3) := by first | (rw [hy137]; with_reducible exact H) | (have H2_ := (Option.bind_some _ _).symm.trans H; rw [hy137]; with_reducible exact H2_) | (have H2_ := (Option.bind_some _ _).symm.trans H; with_reducible exact H2_) | with_reducible exact H | (rw [hy137]; exact H) | exact H
      have Ny137 := Aside0.mk hy137
      clear hy137
      have H' := Aside0.mk H
      clear H
      go_wp2_with (first | ((with_reducible refine gate_dst (N := 27) rfl ?_); refine Kd.R_lit (Kd.int .i64) _ 3 ?hg (N := 27) ?hd (xs := ([] : List Int)) (inner := []) (ok := fun _ => True) (okp := fun _ => True) ?hr ?hp (fun _ hk => hk) trivial (Below.refl _ _) (Nat.le_refl _) (by simp) ?_; (case hd => rfl); (case hg => rfl); (case hr => first | (go_simp; done) | (go_simp; rfl)); (case hp => exact (Reps.none _ _)); intro v138 w16 ho17 hb hg_ hnew_; clear hg_ hnew_; (first | rw [← Ny137.out] at ho17 | (simp only [Int.reduceToNat] at ho17; rw [← Ny137.out] at ho17)); have n0_ := Aside0.mk (Kd.S_elder' (sl HO_6.out) (Kd.R_base ho17) hb); have n1_ := Aside0.mk (Kd.R_elder' (rl HO_7.out) (Kd.R_base ho17) hb); have n2_ := Aside0.mk (Kd.R_lower (Kd.R_new' ho17 (Kd.R_lt (by (repeat apply rl1); exact HO_7.out))) (keep_size (w := w) (g := g) (row := none) (by repeat (first | (with_reducible first | exact HK.out | apply KeepBut.set_ | apply keep_drewN | apply keep_drew | apply keep_alloc) | exact HK.out)))); have n3_ := Aside0.mk (IsS65.below (by repeat (first | (with_reducible first | exact HI0.out | apply IsS65.alloc | apply IsS65.drewN | apply IsS65.drew | apply IsS65.set_1 | apply IsS65.set_2) | exact HI0.out)) hb); have n4_ := Aside0.mk (KeepBut.trans (by repeat (first | (with_reducible first | exact HK.out | apply KeepBut.set_ | apply keep_drewN | apply keep_drew | apply keep_alloc) | exact HK.out)) (KeepBut.of_below hb g none) (.inl rfl)); have n5_ := Aside0.mk (below_step (by repeat (first | (with_reducible first | exact HB.out | apply below_alloc | apply pw_below_drewN | apply below_drew1 | refine below_set ?_ (IsS65.ge HI0.out)) | exact HB.out)) hb); clear HO_6; clear HO_7; clear HI0; clear HK; clear HB; have HO_6 := n0_; have HO_7 := n1_; have HO139 := n2_; have HI0 := n3_; have HK := n4_; have HB := n5_; clear n0_ n1_ n2_ n3_ n4_ n5_; clear hb ho17))
      go_loopg [9, 10] k1 (fun kq v9 v10 w' => ∃ (x9_2 : List Int) (x10_2 : Int) (x1001_2 : Int) (x1002_2 : Int), v10 = .int .i64 x10_2 ∧ Aside0 (spec_l20Draw.l1 kq ji4 x6_1 x7_1 x8_1 x9_2 x10_2 s0_0 x1001_2 x1002_2 = some (r1, r2, r3)) ∧ Aside0 (kq ≤ k1) ∧ Aside0 (Kd.S (Kd.slice 3 (Kd.int .i64)) 32 w' w.heap.size (fun k_ => some k_ ≠ (v9 : Value).ownBlock) u6 x6_1) ∧ Aside0 (Kd.R (Kd.int .i64) 3 w' w.heap.size (fun k_ => some k_ ≠ (v9 : Value).ownBlock) u7 x7_1) ∧ Aside0 (Kd.R (Kd.int .i64) 3 w' w.heap.size (fun k_ => some k_ ≠ (u7 : Value).ownBlock) v9 x9_2) ∧ Aside0 (IsS65 w0 w' g s0_0 x1001_2 x1002_2) ∧ Aside0 (KeepBut w w' g none) ∧ Aside0 (Below w0.heap.size w0 w'))
      case atStart => exact ⟨(y137), (0), (x1001_1), (x1002_1), (by first | rfl | (simp; done) | (simp [*]; done)), H', ⟨Nat.le_refl _⟩, ⟨by (repeat apply sl1); exact Kd.S_mono HO_6.out (fun _ hk => hk.2)⟩, ⟨by (repeat apply rl1); exact Kd.R_mono HO_7.out (fun _ hk => hk.2)⟩, ⟨by (repeat apply rl1); exact Kd.R_mono HO139.out (fun _ hk => hk.2)⟩, ⟨by repeat (first | (with_reducible first | exact HI0.out | apply IsS65.alloc | apply IsS65.drewN | apply IsS65.drew | apply IsS65.set_1 | apply IsS65.set_2) | exact HI0.out)⟩, ⟨by repeat (first | (with_reducible first | exact HK.out | apply KeepBut.set_ | apply keep_drewN | apply keep_drew | apply keep_alloc) | exact HK.out)⟩, ⟨by repeat (first | (with_reducible first | exact HB.out | apply below_alloc | apply pw_below_drewN | apply below_drew1 | refine below_set ?_ (IsS65.ge HI0.out)) | exact HB.out)⟩⟩
      case round =>
       clear H'
       try clear c1
       try clear p2
       try clear c4
       try clear c5
       try clear c5b0
       try clear c5b1
       try clear c6
       try clear c6b0
       try clear c6b1
       try clear p6
       try clear c15
       try clear c15b0
       try clear p2
       try clear p6
       obtain ⟨x9_2, x10_2, x1001_2, x1002_2, rfl, HA, HK2, HO_6, HO_7, HO_9, HI0, HK, HB⟩ := hrel
       cases gk with
       | zero => exact absurd HA.out (by simp [spec_l20Draw.l1])
       | succ k2 =>
        have H := HA.out
        clear HA
        simp only [spec_l20Draw.l1] at H
        by_cases c18 : x10_2 < ji4
        ·
         rw [if_pos c18] at H
         have c18b0 : decide (x10_2 < ji4) = true := decide_eq_true c18
         clear c18
         by_cases c19 : 0 ≤ x10_2
         ·
          rw [if_pos c19] at H
          have c19b0 : decide (0 ≤ x10_2) = true := decide_eq_true c19
          clear c19
          by_cases c20 : x10_2 < (x7_1.length : Int)
          ·
           rw [if_pos c20] at H
           have c20b0 : decide (x10_2 < (x7_1.length : Int)) = true := decide_eq_true c20
           clear c20
           replace H := Option.bind_eq_some_iff.mp H
           obtain ⟨⟨t144, t145, t146⟩, A210, H⟩ := H
           replace H : ((spec_l1Once.f s0_0 t145 t146 12).bind fun bt147 => (if bt147.1 = true then ((spec_l1Below.f s0_0 bt147.2.1 bt147.2.2 60001).bind fun bt150 => (spec_l20Draw.j2 k2 ji4 x6_1 x7_1 x8_1 x9_2 x10_2 (wrap64 (bt150.1 - 30000)) s0_0 bt150.2.1 bt150.2.2)) else (spec_l20Draw.j2 k2 ji4 x6_1 x7_1 x8_1 x9_2 x10_2 (wrap64 ((wrap64 ((rd x7_1 x10_2) + t144)) - 20)) s0_0 bt147.2.1 bt147.2.2))) = some (r1, r2, r3) := H
           have A21 := Aside0.mk A210
           clear A210
           replace H := Option.bind_eq_some_iff.mp H
           obtain ⟨⟨t147, t148, t149⟩, A220, H⟩ := H
           replace H : (if t147 = true then ((spec_l1Below.f s0_0 t148 t149 60001).bind fun bt150 => (spec_l20Draw.j2 k2 ji4 x6_1 x7_1 x8_1 x9_2 x10_2 (wrap64 (bt150.1 - 30000)) s0_0 bt150.2.1 bt150.2.2)) else (spec_l20Draw.j2 k2 ji4 x6_1 x7_1 x8_1 x9_2 x10_2 (wrap64 ((wrap64 ((rd x7_1 x10_2) + t144)) - 20)) s0_0 t148 t149)) = some (r1, r2, r3) := H
           have A22 := Aside0.mk A220
           clear A220
           have HC23 := Aside0.mk H
           clear H
           try go_wp2
           have n0_ := Aside0.mk (Kd.S_drew HO_6.out)
           have n1_ := Aside0.mk (Kd.R_drew HO_7.out)
           have n2_ := Aside0.mk (Kd.R_drew HO_9.out)
           have n3_ := Aside0.mk (IsS65.drew HI0.out)
           have n4_ := Aside0.mk (keep_drew HK.out)
           have n5_ := Aside0.mk (below_drew1 HB.out)
           clear HO_6
           clear HO_7
           clear HO_9
           clear HI0
           clear HK
           clear HB
           have HO_6 := n0_
           have HO_7 := n1_
           have HO_9 := n2_
           have HI0 := n3_
           have HK := n4_
           have HB := n5_
           clear n0_ n1_ n2_ n3_ n4_ n5_
           obtain ⟨Ao25, co25, eo25⟩ := Kd.R_slice HO_7.out
           (first | subst eo25 | (injection eo25 with f1_ f2_ f3_; have f4_ := f1_.symm; have f5_ := f3_.symm; clear f1_ f2_ f3_; subst f4_; subst f5_))
           have p143 : 0 ≤ (x10_2 : Int) := of_decide_eq_true (by first | (with_reducible assumption) | assumption)
           have q143 : x10_2 < (x7_1.length : Int) := of_decide_eq_true (by first | (with_reducible assumption) | assumption)
           obtain ⟨ad143, e143, hx143_0⟩ := Kd.at_int (Kd.R_reads' HO_7.out).2.2 x10_2 p143 q143
           cases e143
           replace p143 := eq_true p143
           replace q143 := eq_true q143
           refine start_ (n := 9) (S := fun w' => w'.cell? (ad143.add (x10_2).toNat) = some (.int .i64 (rd x7_1 x10_2))) (ds := []) m0_9 (by kernel_rfl) rfl rfl (hx143_0) (fun hHeld => ?_); refine with_tabW spec_l20Draw.tab11 spec_l20Draw.bits11 (fun HT_ HW_ => ?_)
           generalize wr.drew = w24 at HO_6 HO_7 HO_9 HI0 HK HB hx143_0 hHeld ⊢
           refine pp_ HT_.out 0 33 m1_9 rfl rfl (by kernel_rfl) (by rfl) (by intro w'; go_simp; with_reducible rfl) (by simp only [sp_]; rfl) (fun _ _ _ h => h) ?_
           refine pp_ HT_.out 1 34 m2_9 rfl rfl (by kernel_rfl) (by rfl) (by intro w'; go_simp; with_reducible rfl) (by simp only [sp_]; rfl) (fun _ _ _ h => h) ?_
           refine pp_ HT_.out 2 35 m3_9 rfl rfl (by kernel_rfl) (by rfl) (by intro w'; go_simp; with_reducible rfl) (by simp only [sp_]; rfl) (fun _ _ _ h => h) ?_
           refine pp_ HT_.out 4 37 n3 rfl rfl (by kernel_rfl) (by rfl) (by intro w'; go_simp; with_reducible rfl) (by simp only [sp_]; rfl) (fun _ _ _ h => h) ?_
           refine tk_ HT_.out HW_.out 3 36 m5_9 rfl rfl (by kernel_rfl) (by rfl) (by intro w' s0; go_simp; with_reducible rfl) hHeld (by simp only [sp_]; rfl) (fun _ _ _ h => h) ?_
           refine one_ (i := 5) (N := some 38) m6_9 rfl rfl (one_of HT_.out (by kernel_rfl)) (by decide) (fun K hK => ?_)
           refine goes_ Try.func53 (by kernel_rfl) rfl #[.pointer (some ⟨g, 0, none⟩), .int .i64 41] (by rfl) rfl rfl (by (try simp only [am_]); first | done | rfl) ?_
           with_reducible refine (spec_l1Below.calls g s0_0 x1001_2 x1002_2 41 t144 t145 t146 w0 _ ?side1 ?side2 A21.out).mono ?_
           (case side1 => repeat (first | (with_reducible first | exact HI0.out | apply IsS65.alloc | apply IsS65.drewN | apply IsS65.drew | apply IsS65.set_1 | apply IsS65.set_2) | exact HI0.out))
           (case side2 => repeat (first | (with_reducible first | exact HB.out | apply below_alloc | apply pw_below_drewN | apply below_drew1 | refine below_set ?_ (IsS65.ge HI0.out)) | exact HB.out))
           rintro e w26 ⟨rfl, hi, hb, hk⟩
           have HS0_ := keep_cell hk (hHeld) (by first | (rw [add_block]; exact Kd.own_blk (IsS65.own_ne HI0.out HO_7.out (by decide))) | (show (Addr.add _ _).block ≠ _; rw [add_block]; exact Kd.own_blk (IsS65.own_ne HI0.out HO_7.out (by decide))) | exact Kd.own_blk (IsS65.own_ne HI0.out HO_7.out (by decide)))
           refine ⟨_, rfl, ?_⟩
           have n0_ := Aside0.mk (Kd.S_mono (Kd.S_keep (IsS65.apartS (show IsS65 w0 _ g s0_0 x1001_2 x1002_2 from by repeat (first | (with_reducible first | exact HI0.out | apply IsS65.alloc | apply IsS65.drewN | apply IsS65.drew | apply IsS65.set_1 | apply IsS65.set_2) | exact HI0.out)) (sl HO_6.out) (by decide)) hk (fun _ h => h.2)) (fun _ h => h.1))
           have n1_ := Aside0.mk (Kd.R_mono (Kd.R_keep (IsS65.apart (show IsS65 w0 _ g s0_0 x1001_2 x1002_2 from by repeat (first | (with_reducible first | exact HI0.out | apply IsS65.alloc | apply IsS65.drewN | apply IsS65.drew | apply IsS65.set_1 | apply IsS65.set_2) | exact HI0.out)) (rl HO_7.out) (by decide)) hk (fun _ h => h.2)) (fun _ h => h.1))
           have n2_ := Aside0.mk (Kd.R_mono (Kd.R_keep (IsS65.apart (show IsS65 w0 _ g s0_0 x1001_2 x1002_2 from by repeat (first | (with_reducible first | exact HI0.out | apply IsS65.alloc | apply IsS65.drewN | apply IsS65.drew | apply IsS65.set_1 | apply IsS65.set_2) | exact HI0.out)) (rl HO_9.out) (by decide)) hk (fun _ h => h.2)) (fun _ h => h.1))
           have n3_ := Aside0.mk (KeepBut.trans (by repeat (first | (with_reducible first | exact HK.out | apply KeepBut.set_ | apply keep_drewN | apply keep_drew | apply keep_alloc) | exact HK.out)) hk (.inl rfl))
           have n4_ := Aside0.mk (hb)
           have n5_ := Aside0.mk (hi)
           clear HO_6
           clear HO_7
           clear HO_9
           clear HK
           clear HB
           clear HI0
           have HO_6 := n0_
           have HO_7 := n1_
           have HO_9 := n2_
           have HK := n3_
           have HB := n4_
           have HI0 := n5_
           clear n0_ n1_ n2_ n3_ n4_ n5_
           (try clear hb)
           (try clear hb2)
           (try clear hk)
           (try clear hi)
           refine hK.out _ _ (HS0_) (fun hHeld => ?_)
           clear hK K
           refine norm_ (a' := ?_) ?_ ?_
           rotate_left
           ·
            show Act.put _ (some 38) _ = _
            simp only [sp_]
            rfl
           refine pp_ HT_.out 6 39 m7_9 rfl rfl (by kernel_rfl) (by rfl) (by intro w'; go_simp; with_reducible rfl) (by simp only [sp_]; rfl) (fun _ _ _ h => h) ?_
           refine pp_ HT_.out 7 40 m8_9 rfl rfl (by kernel_rfl) (by rfl) (by intro w'; go_simp; with_reducible rfl) (by simp only [sp_]; rfl) (fun _ _ _ h => h) ?_
           refine pp_ HT_.out 8 11 m9_9 rfl rfl (by kernel_rfl) (by rfl) (by intro w'; go_simp; with_reducible rfl) (by simp only [sp_]; rfl) (fun _ _ _ h => h) ?_
           refine done_ (done_of HT_.out (by kernel_rfl)) ?_
           go_upto_if 42 with (first | ((with_reducible refine gate_callee (f := 57) rfl ?_); refine goesL_ (some 42) rfl rfl Try.func57 (by kernel_rfl) rfl #[.pointer (some ⟨g, 0, none⟩), .int .i64 12] rfl (by (try simp only [am_]); first | done | rfl) ?_; (with_reducible refine (spec_l1Once.calls g s0_0 t145 t146 12 t147 t148 t149 w0 _ ?side1 ?side2 A22.out).mono ?_); (case side1 => repeat (first | (with_reducible first | exact HI0.out | apply IsS65.alloc | apply IsS65.drewN | apply IsS65.drew | apply IsS65.set_1 | apply IsS65.set_2) | exact HI0.out)); (case side2 => repeat (first | (with_reducible first | exact HB.out | apply below_alloc | apply pw_below_drewN | apply below_drew1 | refine below_set ?_ (IsS65.ge HI0.out)) | exact HB.out)); rintro e w27 ⟨rfl, hi, hb, hk⟩; refine ⟨_, rfl, ?_⟩; have n0_ := Aside0.mk (Kd.S_mono (Kd.S_keep (IsS65.apartS (show IsS65 w0 _ g s0_0 t145 t146 from by repeat (first | (with_reducible first | exact HI0.out | apply IsS65.alloc | apply IsS65.drewN | apply IsS65.drew | apply IsS65.set_1 | apply IsS65.set_2) | exact HI0.out)) (sl HO_6.out) (by decide)) hk (fun _ h => h.2)) (fun _ h => h.1)); have n1_ := Aside0.mk (Kd.R_mono (Kd.R_keep (IsS65.apart (show IsS65 w0 _ g s0_0 t145 t146 from by repeat (first | (with_reducible first | exact HI0.out | apply IsS65.alloc | apply IsS65.drewN | apply IsS65.drew | apply IsS65.set_1 | apply IsS65.set_2) | exact HI0.out)) (rl HO_7.out) (by decide)) hk (fun _ h => h.2)) (fun _ h => h.1)); have n2_ := Aside0.mk (Kd.R_mono (Kd.R_keep (IsS65.apart (show IsS65 w0 _ g s0_0 t145 t146 from by repeat (first | (with_reducible first | exact HI0.out | apply IsS65.alloc | apply IsS65.drewN | apply IsS65.drew | apply IsS65.set_1 | apply IsS65.set_2) | exact HI0.out)) (rl HO_9.out) (by decide)) hk (fun _ h => h.2)) (fun _ h => h.1)); have n3_ := Aside0.mk (KeepBut.trans (by repeat (first | (with_reducible first | exact HK.out | apply KeepBut.set_ | apply keep_drewN | apply keep_drew | apply keep_alloc) | exact HK.out)) hk (.inl rfl)); have n4_ := Aside0.mk (hb); have n5_ := Aside0.mk (hi); clear HO_6; clear HO_7; clear HO_9; clear HK; clear HB; clear HI0; have HO_6 := n0_; have HO_7 := n1_; have HO_9 := n2_; have HK := n3_; have HB := n4_; have HI0 := n5_; clear n0_ n1_ n2_ n3_ n4_ n5_; (try clear hb); (try clear hb2); (try clear hk); (try clear hi)))
           (try simp only [Act.put, List.setIfInBounds_toArray, List.set_cons_zero, List.set_cons_succ])
           go_cut [11] (fun v11 wc => ∃ (kq : Nat) (x11_22 : Int) (x1001_22 : Int) (x1002_22 : Int), v11 = .int .i64 x11_22 ∧ Aside0 (spec_l20Draw.j2 kq ji4 x6_1 x7_1 x8_1 x9_2 x10_2 x11_22 s0_0 x1001_22 x1002_22 = some (r1, r2, r3)) ∧ Aside0 (kq ≤ k2) ∧ Aside0 (Kd.S (Kd.slice 3 (Kd.int .i64)) 32 wc w.heap.size (fun k_ => some k_ ≠ (u9 : Value).ownBlock) u6 x6_1) ∧ Aside0 (Kd.R (Kd.int .i64) 3 wc w.heap.size (fun k_ => some k_ ≠ (u9 : Value).ownBlock) (.slice (some ad143) x7_1.length co25) x7_1) ∧ Aside0 (Kd.R (Kd.int .i64) 3 wc w.heap.size (fun k_ => some k_ ≠ ((.slice (some ad143) x7_1.length co25) : Value).ownBlock) u9 x9_2) ∧ Aside0 (IsS65 w0 wc g s0_0 x1001_22 x1002_22) ∧ Aside0 (KeepBut w wc g none) ∧ Aside0 (Below w0.heap.size w0 wc))
           case first =>
            have H := HC23.out
            clear HC23
            by_cases c28 : t147 = true
            ·
             subst c28
             have H1 : ((spec_l1Below.f s0_0 t148 t149 60001).bind fun bt150 => (spec_l20Draw.j2 k2 ji4 x6_1 x7_1 x8_1 x9_2 x10_2 (wrap64 (bt150.1 - 30000)) s0_0 bt150.2.1 bt150.2.2)) = some (r1, r2, r3) := by rw [if_pos rfl] at H; exact H
             clear H
             have H := H1
             clear H1
             replace H := Option.bind_eq_some_iff.mp H
             obtain ⟨⟨t150, t151, t152⟩, A290, H⟩ := H
             replace H : (spec_l20Draw.j2 k2 ji4 x6_1 x7_1 x8_1 x9_2 x10_2 (wrap64 (t150 - 30000)) s0_0 t151 t152) = some (r1, r2, r3) := H
             have A29 := Aside0.mk A290
             clear A290
             have H' := Aside0.mk H
             clear H
             go_wp2_with (first | ((with_reducible refine gate_callee (f := 53) rfl ?_); refine goesL_ (some 44) rfl rfl Try.func53 (by kernel_rfl) rfl #[.pointer (some ⟨g, 0, none⟩), .int .i64 60001] rfl (by (try simp only [am_]); first | done | rfl) ?_; (with_reducible refine (spec_l1Below.calls g s0_0 t148 t149 60001 t150 t151 t152 w0 _ ?side1 ?side2 A29.out).mono ?_); (case side1 => repeat (first | (with_reducible first | exact HI0.out | apply IsS65.alloc | apply IsS65.drewN | apply IsS65.drew | apply IsS65.set_1 | apply IsS65.set_2) | exact HI0.out)); (case side2 => repeat (first | (with_reducible first | exact HB.out | apply below_alloc | apply pw_below_drewN | apply below_drew1 | refine below_set ?_ (IsS65.ge HI0.out)) | exact HB.out)); rintro e w30 ⟨rfl, hi, hb, hk⟩; refine ⟨_, rfl, ?_⟩; have n0_ := Aside0.mk (Kd.S_mono (Kd.S_keep (IsS65.apartS (show IsS65 w0 _ g s0_0 t148 t149 from by repeat (first | (with_reducible first | exact HI0.out | apply IsS65.alloc | apply IsS65.drewN | apply IsS65.drew | apply IsS65.set_1 | apply IsS65.set_2) | exact HI0.out)) (sl HO_6.out) (by decide)) hk (fun _ h => h.2)) (fun _ h => h.1)); have n1_ := Aside0.mk (Kd.R_mono (Kd.R_keep (IsS65.apart (show IsS65 w0 _ g s0_0 t148 t149 from by repeat (first | (with_reducible first | exact HI0.out | apply IsS65.alloc | apply IsS65.drewN | apply IsS65.drew | apply IsS65.set_1 | apply IsS65.set_2) | exact HI0.out)) (rl HO_7.out) (by decide)) hk (fun _ h => h.2)) (fun _ h => h.1)); have n2_ := Aside0.mk (Kd.R_mono (Kd.R_keep (IsS65.apart (show IsS65 w0 _ g s0_0 t148 t149 from by repeat (first | (with_reducible first | exact HI0.out | apply IsS65.alloc | apply IsS65.drewN | apply IsS65.drew | apply IsS65.set_1 | apply IsS65.set_2) | exact HI0.out)) (rl HO_9.out) (by decide)) hk (fun _ h => h.2)) (fun _ h => h.1)); have n3_ := Aside0.mk (KeepBut.trans (by repeat (first | (with_reducible first | exact HK.out | apply KeepBut.set_ | apply keep_drewN | apply keep_drew | apply keep_alloc) | exact HK.out)) hk (.inl rfl)); have n4_ := Aside0.mk (hb); have n5_ := Aside0.mk (hi); clear HO_6; clear HO_7; clear HO_9; clear HK; clear HB; clear HI0; have HO_6 := n0_; have HO_7 := n1_; have HO_9 := n2_; have HK := n3_; have HB := n4_; have HI0 := n5_; clear n0_ n1_ n2_ n3_ n4_ n5_; (try clear hb); (try clear hb2); (try clear hk); (try clear hi)))
             go_meet
             case rel => exact ⟨_, (wrap64 (t150 - 30000)), (t151), (t152), (by first | rfl | (simp; done) | (simp [*]; done)), H', ⟨by have := HK1.out; have := HK2.out; first | omega | exact Nat.le_refl _⟩, ⟨sl HO_6.out⟩, ⟨rl HO_7.out⟩, ⟨rl HO_9.out⟩, ⟨by repeat (first | (with_reducible first | exact HI0.out | apply IsS65.alloc | apply IsS65.drewN | apply IsS65.drew | apply IsS65.set_1 | apply IsS65.set_2) | exact HI0.out)⟩, ⟨by repeat (first | (with_reducible first | exact HK.out | apply KeepBut.set_ | apply keep_drewN | apply keep_drew | apply keep_alloc) | exact HK.out)⟩, ⟨by repeat (first | (with_reducible first | exact HB.out | apply below_alloc | apply pw_below_drewN | apply below_drew1 | refine below_set ?_ (IsS65.ge HI0.out)) | exact HB.out)⟩⟩
            ·
             replace c28 := Bool.eq_false_iff.mpr c28
             subst c28
             have H1 : (spec_l20Draw.j2 k2 ji4 x6_1 x7_1 x8_1 x9_2 x10_2 (wrap64 ((wrap64 ((rd x7_1 x10_2) + t144)) - 20)) s0_0 t148 t149) = some (r1, r2, r3) := by rw [if_neg (show ¬ (false = true) by decide)] at H; exact H
             clear H
             have H := H1
             clear H1
             have H' := Aside0.mk H
             clear H
             go_wp2
             go_meet
             case rel => exact ⟨_, (wrap64 ((wrap64 ((rd x7_1 x10_2) + t144)) - 20)), (t148), (t149), (by first | rfl | (simp; done) | (simp [*]; done)), H', ⟨by have := HK1.out; have := HK2.out; first | omega | exact Nat.le_refl _⟩, ⟨sl HO_6.out⟩, ⟨rl HO_7.out⟩, ⟨rl HO_9.out⟩, ⟨by repeat (first | (with_reducible first | exact HI0.out | apply IsS65.alloc | apply IsS65.drewN | apply IsS65.drew | apply IsS65.set_1 | apply IsS65.set_2) | exact HI0.out)⟩, ⟨by repeat (first | (with_reducible first | exact HK.out | apply KeepBut.set_ | apply keep_drewN | apply keep_drew | apply keep_alloc) | exact HK.out)⟩, ⟨by repeat (first | (with_reducible first | exact HB.out | apply below_alloc | apply pw_below_drewN | apply below_drew1 | refine below_set ?_ (IsS65.ge HI0.out)) | exact HB.out)⟩⟩
           case rest =>
            clear HC23
            try clear c1
            try clear p1
            try clear q1
            try clear hx1
            try clear c2
            try clear p2
            try clear c4
            try clear c5
            try clear c5b0
            try clear c5b1
            try clear c6
            try clear c6b0
            try clear c6b1
            try clear p6
            try clear p14
            try clear q14
            try clear hx14
            try clear c15
            try clear c15b0
            try clear c18
            try clear c18b0
            try clear c19
            try clear c19b0
            try clear c20
            try clear c20b0
            try clear c28
            try clear hx143_0
            try clear p143
            try clear p2
            try clear p6
            try clear q143
            obtain ⟨kq, x11_22, x1001_22, x1002_22, rfl, HA, HJ22, HO_6, HO_7, HO_9, HI0, HK, HB⟩ := hcut
            cases kq with
            | zero => exact absurd HA.out (by simp [spec_l20Draw.j2])
            | succ kj22 =>
             have H := HA.out
             clear HA
             simp only [spec_l20Draw.j2] at H
             replace H := Option.bind_eq_some_iff.mp H
             obtain ⟨⟨t153, t154, t155⟩, A310, H⟩ := H
             replace H : (if t153 = true then (if 0 ≤ x10_2 then (if x10_2 < (x7_1.length : Int) then ((spec_l1PickInt.f s0_0 t154 t155 (([100, (-100), 101, (-101)] : List Int))).bind fun bt160 => ((spec_l1Min.f 30000 (wrap64 ((rd x7_1 x10_2) + bt160.1))).bind fun t163 => ((spec_l1Max.f (-30000) t163).bind fun t164 => (if x9_2.length < 17592186044416 then (spec_l20Draw.l1 kj22 ji4 x6_1 x7_1 x8_1 (x9_2 ++ [t164]) (wrap64 (x10_2 + 1)) s0_0 bt160.2.1 bt160.2.2) else (none))))) else (none)) else (none)) else ((spec_l1Min.f 30000 x11_22).bind fun t168 => ((spec_l1Max.f (-30000) t168).bind fun t169 => (if x9_2.length < 17592186044416 then (spec_l20Draw.l1 kj22 ji4 x6_1 x7_1 x8_1 (x9_2 ++ [t169]) (wrap64 (x10_2 + 1)) s0_0 t154 t155) else (none))))) = some (r1, r2, r3) := H
             have A31 := Aside0.mk A310
             clear A310
             by_cases c32 : t153 = true
             ·
              subst c32
              have H1 : (if 0 ≤ x10_2 then (if x10_2 < (x7_1.length : Int) then ((spec_l1PickInt.f s0_0 t154 t155 (([100, (-100), 101, (-101)] : List Int))).bind fun bt160 => ((spec_l1Min.f 30000 (wrap64 ((rd x7_1 x10_2) + bt160.1))).bind fun t163 => ((spec_l1Max.f (-30000) t163).bind fun t164 => (if x9_2.length < 17592186044416 then (spec_l20Draw.l1 kj22 ji4 x6_1 x7_1 x8_1 (x9_2 ++ [t164]) (wrap64 (x10_2 + 1)) s0_0 bt160.2.1 bt160.2.2) else (none))))) else (none)) else (none)) = some (r1, r2, r3) := by rw [if_pos rfl] at H; exact H
              clear H
              have H := H1
              clear H1
              by_cases c33 : 0 ≤ x10_2
              ·
               rw [if_pos c33] at H
               have c33b0 : decide (0 ≤ x10_2) = true := decide_eq_true c33
               clear c33
               by_cases c34 : x10_2 < (x7_1.length : Int)
               ·
                rw [if_pos c34] at H
                have c34b0 : decide (x10_2 < (x7_1.length : Int)) = true := decide_eq_true c34
                clear c34
                obtain ⟨y157, hy157⟩ : ∃ y_ : List Int, y_ = (([100, (-100), 101, (-101)] : List Int)) := ⟨_, rfl⟩
                replace H : ((spec_l1PickInt.f s0_0 t154 t155 y157).bind fun bt160 => ((spec_l1Min.f 30000 (wrap64 ((rd x7_1 x10_2) + bt160.1))).bind fun t163 => ((spec_l1Max.f (-30000) t163).bind fun t164 => (if x9_2.length < 17592186044416 then (spec_l20Draw.l1 kj22 ji4 x6_1 x7_1 x8_1 (x9_2 ++ [t164]) (wrap64 (x10_2 + 1)) s0_0 bt160.2.1 bt160.2.2) else (none))))) = some (r1, r2, r3) := by first | (rw [hy157]; with_reducible exact H) | (have H2_ := (Option.bind_some _ _).symm.trans H; rw [hy157]; with_reducible exact H2_) | (have H2_ := (Option.bind_some _ _).symm.trans H; with_reducible exact H2_) | with_reducible exact H | (rw [hy157]; exact H) | exact H
                have Ny157 := Aside0.mk hy157
                clear hy157
                replace H := Option.bind_eq_some_iff.mp H
                obtain ⟨⟨t160, t161, t162⟩, A350, H⟩ := H
                replace H : ((spec_l1Min.f 30000 (wrap64 ((rd x7_1 x10_2) + t160))).bind fun t163 => ((spec_l1Max.f (-30000) t163).bind fun t164 => (if x9_2.length < 17592186044416 then (spec_l20Draw.l1 kj22 ji4 x6_1 x7_1 x8_1 (x9_2 ++ [t164]) (wrap64 (x10_2 + 1)) s0_0 t161 t162) else (none)))) = some (r1, r2, r3) := H
                have A35 := Aside0.mk A350
                clear A350
                replace H := Option.bind_eq_some_iff.mp H
                obtain ⟨t163, A360, H⟩ := H
                replace H : ((spec_l1Max.f (-30000) t163).bind fun t164 => (if x9_2.length < 17592186044416 then (spec_l20Draw.l1 kj22 ji4 x6_1 x7_1 x8_1 (x9_2 ++ [t164]) (wrap64 (x10_2 + 1)) s0_0 t161 t162) else (none))) = some (r1, r2, r3) := H
                have A36 := Aside0.mk A360
                clear A360
                replace H := Option.bind_eq_some_iff.mp H
                obtain ⟨t164, A370, H⟩ := H
                replace H : (if x9_2.length < 17592186044416 then (spec_l20Draw.l1 kj22 ji4 x6_1 x7_1 x8_1 (x9_2 ++ [t164]) (wrap64 (x10_2 + 1)) s0_0 t161 t162) else (none)) = some (r1, r2, r3) := H
                have A37 := Aside0.mk A370
                clear A370
                by_cases c38 : x9_2.length < 17592186044416
                ·
                 rw [if_pos c38] at H
                 have LMc38 := Aside0.mk c38
                 clear c38
                 obtain ⟨y165, hy165⟩ : ∃ y_ : List Int, y_ = (x9_2 ++ [t164]) := ⟨_, rfl⟩
                 replace H : (spec_l20Draw.l1 kj22 ji4 x6_1 x7_1 x8_1 y165 (wrap64 (x10_2 + 1)) s0_0 t161 t162) = some (r1, r2, r3) := by first | (rw [hy165]; with_reducible exact H) | (have H2_ := (Option.bind_some _ _).symm.trans H; rw [hy165]; with_reducible exact H2_) | (have H2_ := (Option.bind_some _ _).symm.trans H; with_reducible exact H2_) | with_reducible exact H | (rw [hy165]; exact H) | exact H
                 have Ny165 := Aside0.mk hy165
                 clear hy165
                 have H' := Aside0.mk H
                 clear H
                 try go_wp2_with (first | ((with_reducible refine gate_callee (f := 57) rfl ?_); refine goesL_ (some 47) rfl rfl Try.func57 (by kernel_rfl) rfl #[.pointer (some ⟨g, 0, none⟩), .int .i64 20] rfl (by (try simp only [am_]); first | done | rfl) ?_; (with_reducible refine (spec_l1Once.calls g s0_0 x1001_22 x1002_22 20 true t154 t155 w0 _ ?side1 ?side2 A31.out).mono ?_); (case side1 => repeat (first | (with_reducible first | exact HI0.out | apply IsS65.alloc | apply IsS65.drewN | apply IsS65.drew | apply IsS65.set_1 | apply IsS65.set_2) | exact HI0.out)); (case side2 => repeat (first | (with_reducible first | exact HB.out | apply below_alloc | apply pw_below_drewN | apply below_drew1 | refine below_set ?_ (IsS65.ge HI0.out)) | exact HB.out)); rintro e w39 ⟨rfl, hi, hb, hk⟩; refine ⟨_, rfl, ?_⟩; have n0_ := Aside0.mk (Kd.S_mono (Kd.S_keep (IsS65.apartS (show IsS65 w0 _ g s0_0 x1001_22 x1002_22 from by repeat (first | (with_reducible first | exact HI0.out | apply IsS65.alloc | apply IsS65.drewN | apply IsS65.drew | apply IsS65.set_1 | apply IsS65.set_2) | exact HI0.out)) (sl HO_6.out) (by decide)) hk (fun _ h => h.2)) (fun _ h => h.1)); have n1_ := Aside0.mk (Kd.R_mono (Kd.R_keep (IsS65.apart (show IsS65 w0 _ g s0_0 x1001_22 x1002_22 from by repeat (first | (with_reducible first | exact HI0.out | apply IsS65.alloc | apply IsS65.drewN | apply IsS65.drew | apply IsS65.set_1 | apply IsS65.set_2) | exact HI0.out)) (rl HO_7.out) (by decide)) hk (fun _ h => h.2)) (fun _ h => h.1)); have n2_ := Aside0.mk (Kd.R_mono (Kd.R_keep (IsS65.apart (show IsS65 w0 _ g s0_0 x1001_22 x1002_22 from by repeat (first | (with_reducible first | exact HI0.out | apply IsS65.alloc | apply IsS65.drewN | apply IsS65.drew | apply IsS65.set_1 | apply IsS65.set_2) | exact HI0.out)) (rl HO_9.out) (by decide)) hk (fun _ h => h.2)) (fun _ h => h.1)); have n3_ := Aside0.mk (KeepBut.trans (by repeat (first | (with_reducible first | exact HK.out | apply KeepBut.set_ | apply keep_drewN | apply keep_drew | apply keep_alloc) | exact HK.out)) hk (.inl rfl)); have n4_ := Aside0.mk (hb); have n5_ := Aside0.mk (hi); clear HO_6; clear HO_7; clear HO_9; clear HK; clear HB; clear HI0; have HO_6 := n0_; have HO_7 := n1_; have HO_9 := n2_; have HK := n3_; have HB := n4_; have HI0 := n5_; clear n0_ n1_ n2_ n3_ n4_ n5_; (try clear hb); (try clear hb2); (try clear hk); (try clear hi)))
                 have n0_ := Aside0.mk (Kd.S_drew HO_6.out)
                 have n1_ := Aside0.mk (Kd.R_drew HO_7.out)
                 have n2_ := Aside0.mk (Kd.R_drew HO_9.out)
                 have n3_ := Aside0.mk (IsS65.drew HI0.out)
                 have n4_ := Aside0.mk (keep_drew HK.out)
                 have n5_ := Aside0.mk (below_drew1 HB.out)
                 clear HO_6
                 clear HO_7
                 clear HO_9
                 clear HI0
                 clear HK
                 clear HB
                 have HO_6 := n0_
                 have HO_7 := n1_
                 have HO_9 := n2_
                 have HI0 := n3_
                 have HK := n4_
                 have HB := n5_
                 clear n0_ n1_ n2_ n3_ n4_ n5_
                 have p156 : 0 ≤ (x10_2 : Int) := of_decide_eq_true (by first | (with_reducible assumption) | assumption)
                 have q156 : x10_2 < (x7_1.length : Int) := of_decide_eq_true (by first | (with_reducible assumption) | assumption)
                 obtain ⟨ad156, e156, hx156_0⟩ := Kd.at_int (Kd.R_reads' HO_7.out).2.2 x10_2 p156 q156
                 obtain rfl : ad143 = ad156 := (by injection e156)
                 replace p156 := eq_true p156
                 replace q156 := eq_true q156
                 refine start_ (n := 9) (S := fun w' => w'.cell? (ad143.add (x10_2).toNat) = some (.int .i64 (rd x7_1 x10_2))) (ds := []) m0_9 (by kernel_rfl) rfl rfl (hx156_0) (fun hHeld => ?_); refine with_tabW spec_l20Draw.tab15 spec_l20Draw.bits15 (fun HT_ HW_ => ?_)
                 generalize w39.drew = w40 at HO_6 HO_7 HO_9 HI0 HK HB hx156_0 hHeld ⊢
                 refine pp_ HT_.out 0 48 m1_9 rfl rfl (by kernel_rfl) (by rfl) (by intro w'; go_simp; with_reducible rfl) (by simp only [sp_]; rfl) (fun _ _ _ h => h) ?_
                 refine pp_ HT_.out 1 49 m2_9 rfl rfl (by kernel_rfl) (by rfl) (by intro w'; go_simp; with_reducible rfl) (by simp only [sp_]; rfl) (fun _ _ _ h => h) ?_
                 refine pp_ HT_.out 2 50 m3_9 rfl rfl (by kernel_rfl) (by rfl) (by intro w'; go_simp; with_reducible rfl) (by simp only [sp_]; rfl) (fun _ _ _ h => h) ?_
                 refine pp_ HT_.out 4 52 n3 rfl rfl (by kernel_rfl) (by rfl) (by intro w'; go_simp; with_reducible rfl) (by simp only [sp_]; rfl) (fun _ _ _ h => h) ?_
                 refine tk_ HT_.out HW_.out 3 51 m5_9 rfl rfl (by kernel_rfl) (by rfl) (by intro w' s0; go_simp; with_reducible rfl) hHeld (by simp only [sp_]; rfl) (fun _ _ _ h => h) ?_
                 refine one_ (i := 5) (N := some 53) m6_9 rfl rfl (one_of HT_.out (by kernel_rfl)) (by decide) (fun K hK => ?_)
                 refine Kd.R_lit_step (Kd.int .i64) _ 3 ?hg (N := 53) ?hd (xs := ([100, (-100), 101, (-101)] : List Int)) (inner := [.int .i64 100, .int .i64 (-100), .int .i64 101, .int .i64 (-101)]) (ok := fun _ => True) (okp := fun _ => True) ?hr ?hp (fun _ hk => hk) trivial (Below.refl _ _) (Nat.le_refl _) (by simp) ?_; (case hd => rfl); (case hg => rfl); (case hr => first | (go_simp; done) | (go_simp; rfl)); (case hp => exact (Reps.one (show Kd.M (Kd.int .i64) _ _ _ 100 [.int .i64 100] from rfl) (Reps.one (show Kd.M (Kd.int .i64) _ _ _ (-100) [.int .i64 (-100)] from rfl) (Reps.one (show Kd.M (Kd.int .i64) _ _ _ 101 [.int .i64 101] from rfl) (Reps.one (show Kd.M (Kd.int .i64) _ _ _ (-101) [.int .i64 (-101)] from rfl) (Reps.none _ _))))))
                 intro v158 w41 ho42 hb hg_ hnew_
                 have HS0_ := (hb.cell (World.block_lt_of_cell? _ _ (hHeld))).trans (hHeld)
                 clear hg_ hnew_
                 (first | rw [← Ny157.out] at ho42 | (simp only [Int.reduceToNat] at ho42; rw [← Ny157.out] at ho42))
                 have n0_ := Aside0.mk (Kd.S_elder' (sl HO_6.out) (Kd.R_base ho42) hb)
                 have n1_ := Aside0.mk (Kd.R_elder' (rl HO_7.out) (Kd.R_base ho42) hb)
                 have n2_ := Aside0.mk (Kd.R_elder' (rl HO_9.out) (Kd.R_base ho42) hb)
                 have n3_ := Aside0.mk (Kd.R_lower (Kd.R_new' (Kd.R_new' ho42 (Kd.R_lt (by (repeat apply rl1); exact HO_7.out))) (Kd.R_lt (by (repeat apply rl1); exact HO_9.out))) (keep_size (w := w) (g := g) (row := none) (by repeat (first | (with_reducible first | exact HK.out | apply KeepBut.set_ | apply keep_drewN | apply keep_drew | apply keep_alloc) | exact HK.out))))
                 have n4_ := Aside0.mk (IsS65.below (by repeat (first | (with_reducible first | exact HI0.out | apply IsS65.alloc | apply IsS65.drewN | apply IsS65.drew | apply IsS65.set_1 | apply IsS65.set_2) | exact HI0.out)) hb)
                 have n5_ := Aside0.mk (KeepBut.trans (by repeat (first | (with_reducible first | exact HK.out | apply KeepBut.set_ | apply keep_drewN | apply keep_drew | apply keep_alloc) | exact HK.out)) (KeepBut.of_below hb g none) (.inl rfl))
                 have n6_ := Aside0.mk (below_step (by repeat (first | (with_reducible first | exact HB.out | apply below_alloc | apply pw_below_drewN | apply below_drew1 | refine below_set ?_ (IsS65.ge HI0.out)) | exact HB.out)) hb)
                 clear HO_6
                 clear HO_7
                 clear HO_9
                 clear HI0
                 clear HK
                 clear HB
                 have HO_6 := n0_
                 have HO_7 := n1_
                 have HO_9 := n2_
                 have HO159 := n3_
                 have HI0 := n4_
                 have HK := n5_
                 have HB := n6_
                 clear n0_ n1_ n2_ n3_ n4_ n5_ n6_
                 clear hb ho42
                 obtain ⟨Ao43, co43, eo43⟩ := Kd.R_slice HO159.out
                 (first | subst eo43 | (injection eo43 with f1_ f2_ f3_; have f4_ := f1_.symm; have f5_ := f3_.symm; clear f1_ f2_ f3_; subst f4_; subst f5_))
                 refine hK.out _ _ (HS0_) (fun hHeld => ?_)
                 clear hK K
                 refine norm_ (a' := ?_) ?_ ?_
                 rotate_left
                 ·
                  show Act.put _ (some 53) _ = _
                  simp only [sp_]
                  rfl
                 refine one_ (i := 6) (N := some 54) m7_9 rfl rfl (one_of HT_.out (by kernel_rfl)) (by decide) (fun K hK => ?_)
                 refine goes_ Try.func55 (by kernel_rfl) rfl #[.pointer (some ⟨g, 0, none⟩), .slice Ao43 y157.length co43] (by rfl) rfl rfl (by (try simp only [am_]); first | done | rfl) ?_
                 with_reducible refine (spec_l1PickInt.calls g s0_0 t154 t155 _ _ y157 t160 t161 t162 w0 _ ?side1 ?side2 ?side3 ?side4 ?side5 A35.out).mono ?_
                 (case side1 => repeat (first | (with_reducible first | exact HI0.out | apply IsS65.alloc | apply IsS65.drewN | apply IsS65.drew | apply IsS65.set_1 | apply IsS65.set_2) | exact HI0.out))
                 (case side2 => repeat (first | (with_reducible first | exact HB.out | apply below_alloc | apply pw_below_drewN | apply below_drew1 | refine below_set ?_ (IsS65.ge HI0.out)) | exact HB.out))
                 (case side3 => exact rc (Kd.R_reads' HO159.out).2.2)
                 (case side4 => exact (Kd.R_reads' HO159.out).2.1)
                 (case side5 => exact far_slice (IsS65.own_ne HI0.out HO159.out (by decide)))
                 rintro e w44 ⟨rfl, hi, hb, hk⟩
                 have HS0_ := keep_cell hk (hHeld) (by first | (rw [add_block]; exact Kd.own_blk (IsS65.own_ne HI0.out HO_7.out (by decide))) | (show (Addr.add _ _).block ≠ _; rw [add_block]; exact Kd.own_blk (IsS65.own_ne HI0.out HO_7.out (by decide))) | exact Kd.own_blk (IsS65.own_ne HI0.out HO_7.out (by decide)))
                 refine ⟨_, rfl, ?_⟩
                 have n0_ := Aside0.mk (Kd.S_mono (Kd.S_keep (IsS65.apartS (show IsS65 w0 _ g s0_0 t154 t155 from by repeat (first | (with_reducible first | exact HI0.out | apply IsS65.alloc | apply IsS65.drewN | apply IsS65.drew | apply IsS65.set_1 | apply IsS65.set_2) | exact HI0.out)) (sl HO_6.out) (by decide)) hk (fun _ h => h.2)) (fun _ h => h.1))
                 have n1_ := Aside0.mk (Kd.R_mono (Kd.R_keep (IsS65.apart (show IsS65 w0 _ g s0_0 t154 t155 from by repeat (first | (with_reducible first | exact HI0.out | apply IsS65.alloc | apply IsS65.drewN | apply IsS65.drew | apply IsS65.set_1 | apply IsS65.set_2) | exact HI0.out)) (rl HO_7.out) (by decide)) hk (fun _ h => h.2)) (fun _ h => h.1))
                 have n2_ := Aside0.mk (Kd.R_mono (Kd.R_keep (IsS65.apart (show IsS65 w0 _ g s0_0 t154 t155 from by repeat (first | (with_reducible first | exact HI0.out | apply IsS65.alloc | apply IsS65.drewN | apply IsS65.drew | apply IsS65.set_1 | apply IsS65.set_2) | exact HI0.out)) (rl HO_9.out) (by decide)) hk (fun _ h => h.2)) (fun _ h => h.1))
                 have n3_ := Aside0.mk (Kd.R_mono (Kd.R_keep (IsS65.apart (show IsS65 w0 _ g s0_0 t154 t155 from by repeat (first | (with_reducible first | exact HI0.out | apply IsS65.alloc | apply IsS65.drewN | apply IsS65.drew | apply IsS65.set_1 | apply IsS65.set_2) | exact HI0.out)) (rl HO159.out) (by decide)) hk (fun _ h => h.2)) (fun _ h => h.1))
                 have n4_ := Aside0.mk (KeepBut.trans (by repeat (first | (with_reducible first | exact HK.out | apply KeepBut.set_ | apply keep_drewN | apply keep_drew | apply keep_alloc) | exact HK.out)) hk (.inl rfl))
                 have n5_ := Aside0.mk (hb)
                 have n6_ := Aside0.mk (hi)
                 clear HO_6
                 clear HO_7
                 clear HO_9
                 clear HO159
                 clear HK
                 clear HB
                 clear HI0
                 have HO_6 := n0_
                 have HO_7 := n1_
                 have HO_9 := n2_
                 have HO159 := n3_
                 have HK := n4_
                 have HB := n5_
                 have HI0 := n6_
                 clear n0_ n1_ n2_ n3_ n4_ n5_ n6_
                 (try clear hb)
                 (try clear hb2)
                 (try clear hk)
                 (try clear hi)
                 refine hK.out _ _ (HS0_) (fun hHeld => ?_)
                 clear hK K
                 refine norm_ (a' := ?_) ?_ ?_
                 rotate_left
                 ·
                  show Act.put _ (some 54) _ = _
                  simp only [sp_]
                  rfl
                 refine pp_ HT_.out 7 55 m8_9 rfl rfl (by kernel_rfl) (by rfl) (by intro w'; go_simp; with_reducible rfl) (by simp only [sp_]; rfl) (fun _ _ _ h => h) ?_
                 refine pp_ HT_.out 8 11 m9_9 rfl rfl (by kernel_rfl) (by rfl) (by intro w'; go_simp; with_reducible rfl) (by simp only [sp_]; rfl) (fun _ _ _ h => h) ?_
                 refine done_ (done_of HT_.out (by kernel_rfl)) ?_
                 try go_wp2_with (first | ((with_reducible refine gate_callee (f := 59) rfl ?_); refine goesL_ (some 58) rfl rfl Try.func59 (by kernel_rfl) rfl #[.int .i64 30000, .int .i64 (wrap64 ((rd x7_1 x10_2) + t160))] rfl (by (try simp only [am_]); first | done | rfl) ?_; (with_reducible refine (spec_l1Min.calls 30000 (wrap64 ((rd x7_1 x10_2) + t160)) t163 _ A36.out).mono ?_); rintro e w' ⟨rfl, ⟨nd, rfl⟩⟩; refine ⟨_, rfl, ?_⟩) | ((with_reducible refine gate_callee (f := 58) rfl ?_); refine goesL_ (some 59) rfl rfl Try.func58 (by kernel_rfl) rfl #[.int .i64 (-30000), .int .i64 t163] rfl (by (try simp only [am_]); first | done | rfl) ?_; (with_reducible refine (spec_l1Max.calls (-30000) t163 t164 _ A37.out).mono ?_); rintro e w' ⟨rfl, ⟨nd, rfl⟩⟩; refine ⟨_, rfl, ?_⟩) | ((with_reducible refine gate_builtin (b := .append) (xs := #[.tmp 56, .tmp 60]) rfl ?_); at_builtin; refine Kd.R_append (Kd.int .i64) w.heap.size rfl (.tmp 56) (.tmp 60) 32 3 (.int .i64 0) 8 rfl Try.underlying32 info3 rfl (by decide) (by omega) u9 x9_2 t164 [.int .i64 t164] (fun k_ => some k_ ≠ (.slice (some ad143) x7_1.length co25 : Value).ownBlock ∧ some k_ ≠ (.slice Ao43 y157.length co43 : Value).ownBlock) (fun _ => False) rfl rfl ?aP (fun _ hk => hk.elim) ?aF ?aO (Below.refl _ _) ?aS ?aL ?_; (case aP => exact rfl); (case aF => exact (fun k_ hk => ⟨Kd.fresh' (Kd.R_lt (by (repeat apply rl1); exact HO_7.out)) k_ hk, Kd.fresh' (Kd.R_lt (by (repeat apply rl1); exact HO159.out)) k_ hk⟩)); (case aO => exact (rl HO_9.out)); (case aS => exact (keep_size (w := w) (g := g) (row := none) (by repeat (first | (with_reducible first | exact HK.out | apply KeepBut.set_ | apply keep_drewN | apply keep_drew | apply keep_alloc) | exact HK.out)))); (case aL => have := LMc38.out; omega); intro v166 w45 ho hb hg hat; rw [← Ny165.out] at ho; have n0_ := Aside0.mk (Kd.S_after (ok := (fun k_ => some k_ ≠ (.slice Ao43 y157.length co43 : Value).ownBlock)) (by (repeat apply sl1); exact Kd.S_mono HO_6.out (fun _ hk => ⟨hk.2, hk.1⟩)) hg hat); have n1_ := Aside0.mk (Kd.R_after (ok := (fun k_ => some k_ ≠ (.slice Ao43 y157.length co43 : Value).ownBlock)) (by (repeat apply rl1); exact Kd.R_mono HO_7.out (fun _ hk => ⟨hk.2, hk.1⟩)) hg hat); have n2_ := Aside0.mk (IsS65.grown (by repeat (first | (with_reducible first | exact HI0.out | apply IsS65.alloc | apply IsS65.drewN | apply IsS65.drew | apply IsS65.set_1 | apply IsS65.set_2) | exact HI0.out)) hg (IsS65.own_ne HI0.out HO_9.out (by decide))); have n3_ := Aside0.mk (Kd.R_after (ok := (fun k_ => some k_ ≠ (.slice (some ad143) x7_1.length co25 : Value).ownBlock)) (by (repeat apply rl1); exact Kd.R_mono HO159.out (fun _ hk => ⟨hk.1.2, hk.2⟩)) hg hat); have n4_ := Aside0.mk (below_weaken (by repeat (first | (with_reducible first | exact HB.out | apply below_alloc | apply pw_below_drewN | apply below_drew1 | refine below_set ?_ (IsS65.ge HI0.out)) | exact HB.out)) HL.out hb); have n5_ := Aside0.mk (KeepBut.trans (by repeat (first | (with_reducible first | exact HK.out | apply KeepBut.set_ | apply keep_drewN | apply keep_drew | apply keep_alloc) | exact HK.out)) (KeepBut.of_grown hg g) (Kd.R_base2 HO_9.out)); have n6_ := Aside0.mk (ho); clear HO_6; clear HO_7; clear HI0; clear HO159; clear HB; clear HK; clear HO_9; have HO_6 := n0_; have HO_7 := n1_; have HI0 := n2_; have HO159 := n3_; have HB := n4_; have HK := n5_; have HO167 := n6_; clear n0_ n1_ n2_ n3_ n4_ n5_ n6_; clear ho hb hg hat))
                 go_roundg kj22
                 case measure => have := HK1.out; have := HK2.out; have := HJ22.out; omega
                 case rel => exact ⟨(y165), (wrap64 (x10_2 + 1)), (t161), (t162), (by first | rfl | (simp; done) | (simp [*]; done)), H', ⟨by have := HK1.out; have := HK2.out; have := HJ22.out; omega⟩, ⟨by (repeat apply sl1); exact Kd.S_mono HO_6.out (fun _ hk => hk.2)⟩, ⟨by (repeat apply rl1); exact Kd.R_mono HO_7.out (fun _ hk => hk.2)⟩, ⟨by (repeat apply rl1); exact Kd.R_mono HO167.out (fun _ hk => hk.1)⟩, ⟨by repeat (first | (with_reducible first | exact HI0.out | apply IsS65.alloc | apply IsS65.drewN | apply IsS65.drew | apply IsS65.set_1 | apply IsS65.set_2) | exact HI0.out)⟩, ⟨by repeat (first | (with_reducible first | exact HK.out | apply KeepBut.set_ | apply keep_drewN | apply keep_drew | apply keep_alloc) | exact HK.out)⟩, ⟨by repeat (first | (with_reducible first | exact HB.out | apply below_alloc | apply pw_below_drewN | apply below_drew1 | refine below_set ?_ (IsS65.ge HI0.out)) | exact HB.out)⟩⟩
                ·
                 rw [if_neg c38] at H
                 exact absurd H (by simp)
               ·
                rw [if_neg c34] at H
                exact absurd H (by simp)
              ·
               rw [if_neg c33] at H
               exact absurd H (by simp)
             ·
              replace c32 := Bool.eq_false_iff.mpr c32
              subst c32
              have H1 : ((spec_l1Min.f 30000 x11_22).bind fun t168 => ((spec_l1Max.f (-30000) t168).bind fun t169 => (if x9_2.length < 17592186044416 then (spec_l20Draw.l1 kj22 ji4 x6_1 x7_1 x8_1 (x9_2 ++ [t169]) (wrap64 (x10_2 + 1)) s0_0 t154 t155) else (none)))) = some (r1, r2, r3) := by rw [if_neg (show ¬ (false = true) by decide)] at H; exact H
              clear H
              have H := H1
              clear H1
              replace H := Option.bind_eq_some_iff.mp H
              obtain ⟨t168, A460, H⟩ := H
              replace H : ((spec_l1Max.f (-30000) t168).bind fun t169 => (if x9_2.length < 17592186044416 then (spec_l20Draw.l1 kj22 ji4 x6_1 x7_1 x8_1 (x9_2 ++ [t169]) (wrap64 (x10_2 + 1)) s0_0 t154 t155) else (none))) = some (r1, r2, r3) := H
              have A46 := Aside0.mk A460
              clear A460
              replace H := Option.bind_eq_some_iff.mp H
              obtain ⟨t169, A470, H⟩ := H
              replace H : (if x9_2.length < 17592186044416 then (spec_l20Draw.l1 kj22 ji4 x6_1 x7_1 x8_1 (x9_2 ++ [t169]) (wrap64 (x10_2 + 1)) s0_0 t154 t155) else (none)) = some (r1, r2, r3) := H
              have A47 := Aside0.mk A470
              clear A470
              by_cases c48 : x9_2.length < 17592186044416
              ·
               rw [if_pos c48] at H
               have LMc48 := Aside0.mk c48
               clear c48
               obtain ⟨y170, hy170⟩ : ∃ y_ : List Int, y_ = (x9_2 ++ [t169]) := ⟨_, rfl⟩
               replace H : (spec_l20Draw.l1 kj22 ji4 x6_1 x7_1 x8_1 y170 (wrap64 (x10_2 + 1)) s0_0 t154 t155) = some (r1, r2, r3) := by first | (rw [hy170]; with_reducible exact H) | (have H2_ := (Option.bind_some _ _).symm.trans H; rw [hy170]; with_reducible exact H2_) | (have H2_ := (Option.bind_some _ _).symm.trans H; with_reducible exact H2_) | with_reducible exact H | (rw [hy170]; exact H) | exact H
               have Ny170 := Aside0.mk hy170
               clear hy170
               have H' := Aside0.mk H
               clear H
               go_wp2_with (first | ((with_reducible refine gate_callee (f := 57) rfl ?_); refine goesL_ (some 47) rfl rfl Try.func57 (by kernel_rfl) rfl #[.pointer (some ⟨g, 0, none⟩), .int .i64 20] rfl (by (try simp only [am_]); first | done | rfl) ?_; (with_reducible refine (spec_l1Once.calls g s0_0 x1001_22 x1002_22 20 false t154 t155 w0 _ ?side1 ?side2 A31.out).mono ?_); (case side1 => repeat (first | (with_reducible first | exact HI0.out | apply IsS65.alloc | apply IsS65.drewN | apply IsS65.drew | apply IsS65.set_1 | apply IsS65.set_2) | exact HI0.out)); (case side2 => repeat (first | (with_reducible first | exact HB.out | apply below_alloc | apply pw_below_drewN | apply below_drew1 | refine below_set ?_ (IsS65.ge HI0.out)) | exact HB.out)); rintro e w49 ⟨rfl, hi, hb, hk⟩; refine ⟨_, rfl, ?_⟩; have n0_ := Aside0.mk (Kd.S_mono (Kd.S_keep (IsS65.apartS (show IsS65 w0 _ g s0_0 x1001_22 x1002_22 from by repeat (first | (with_reducible first | exact HI0.out | apply IsS65.alloc | apply IsS65.drewN | apply IsS65.drew | apply IsS65.set_1 | apply IsS65.set_2) | exact HI0.out)) (sl HO_6.out) (by decide)) hk (fun _ h => h.2)) (fun _ h => h.1)); have n1_ := Aside0.mk (Kd.R_mono (Kd.R_keep (IsS65.apart (show IsS65 w0 _ g s0_0 x1001_22 x1002_22 from by repeat (first | (with_reducible first | exact HI0.out | apply IsS65.alloc | apply IsS65.drewN | apply IsS65.drew | apply IsS65.set_1 | apply IsS65.set_2) | exact HI0.out)) (rl HO_7.out) (by decide)) hk (fun _ h => h.2)) (fun _ h => h.1)); have n2_ := Aside0.mk (Kd.R_mono (Kd.R_keep (IsS65.apart (show IsS65 w0 _ g s0_0 x1001_22 x1002_22 from by repeat (first | (with_reducible first | exact HI0.out | apply IsS65.alloc | apply IsS65.drewN | apply IsS65.drew | apply IsS65.set_1 | apply IsS65.set_2) | exact HI0.out)) (rl HO_9.out) (by decide)) hk (fun _ h => h.2)) (fun _ h => h.1)); have n3_ := Aside0.mk (KeepBut.trans (by repeat (first | (with_reducible first | exact HK.out | apply KeepBut.set_ | apply keep_drewN | apply keep_drew | apply keep_alloc) | exact HK.out)) hk (.inl rfl)); have n4_ := Aside0.mk (hb); have n5_ := Aside0.mk (hi); clear HO_6; clear HO_7; clear HO_9; clear HK; clear HB; clear HI0; have HO_6 := n0_; have HO_7 := n1_; have HO_9 := n2_; have HK := n3_; have HB := n4_; have HI0 := n5_; clear n0_ n1_ n2_ n3_ n4_ n5_; (try clear hb); (try clear hb2); (try clear hk); (try clear hi)) | ((with_reducible refine gate_callee (f := 59) rfl ?_); refine goesL_ (some 58) rfl rfl Try.func59 (by kernel_rfl) rfl #[.int .i64 30000, .int .i64 x11_22] rfl (by (try simp only [am_]); first | done | rfl) ?_; (with_reducible refine (spec_l1Min.calls 30000 x11_22 t168 _ A46.out).mono ?_); rintro e w' ⟨rfl, ⟨nd, rfl⟩⟩; refine ⟨_, rfl, ?_⟩) | ((with_reducible refine gate_callee (f := 58) rfl ?_); refine goesL_ (some 59) rfl rfl Try.func58 (by kernel_rfl) rfl #[.int .i64 (-30000), .int .i64 t168] rfl (by (try simp only [am_]); first | done | rfl) ?_; (with_reducible refine (spec_l1Max.calls (-30000) t168 t169 _ A47.out).mono ?_); rintro e w' ⟨rfl, ⟨nd, rfl⟩⟩; refine ⟨_, rfl, ?_⟩) | ((with_reducible refine gate_builtin (b := .append) (xs := #[.tmp 56, .tmp 60]) rfl ?_); at_builtin; refine Kd.R_append (Kd.int .i64) w.heap.size rfl (.tmp 56) (.tmp 60) 32 3 (.int .i64 0) 8 rfl Try.underlying32 info3 rfl (by decide) (by omega) u9 x9_2 t169 [.int .i64 t169] (fun k_ => some k_ ≠ (.slice (some ad143) x7_1.length co25 : Value).ownBlock) (fun _ => False) rfl rfl ?aP (fun _ hk => hk.elim) ?aF ?aO (Below.refl _ _) ?aS ?aL ?_; (case aP => exact rfl); (case aF => exact (fun k_ hk => Kd.fresh' (Kd.R_lt (by (repeat apply rl1); exact HO_7.out)) k_ hk)); (case aO => exact (rl HO_9.out)); (case aS => exact (keep_size (w := w) (g := g) (row := none) (by repeat (first | (with_reducible first | exact HK.out | apply KeepBut.set_ | apply keep_drewN | apply keep_drew | apply keep_alloc) | exact HK.out)))); (case aL => have := LMc48.out; omega); intro v171 w50 ho hb hg hat; rw [← Ny170.out] at ho; have n0_ := Aside0.mk (Kd.S_after (ok := (fun _ => True)) (by (repeat apply sl1); exact Kd.S_mono HO_6.out (fun _ hk => ⟨trivial, hk⟩)) hg hat); have n1_ := Aside0.mk (Kd.R_after (ok := (fun _ => True)) (by (repeat apply rl1); exact Kd.R_mono HO_7.out (fun _ hk => ⟨trivial, hk⟩)) hg hat); have n2_ := Aside0.mk (IsS65.grown (by repeat (first | (with_reducible first | exact HI0.out | apply IsS65.alloc | apply IsS65.drewN | apply IsS65.drew | apply IsS65.set_1 | apply IsS65.set_2) | exact HI0.out)) hg (IsS65.own_ne HI0.out HO_9.out (by decide))); have n3_ := Aside0.mk (below_weaken (by repeat (first | (with_reducible first | exact HB.out | apply below_alloc | apply pw_below_drewN | apply below_drew1 | refine below_set ?_ (IsS65.ge HI0.out)) | exact HB.out)) HL.out hb); have n4_ := Aside0.mk (KeepBut.trans (by repeat (first | (with_reducible first | exact HK.out | apply KeepBut.set_ | apply keep_drewN | apply keep_drew | apply keep_alloc) | exact HK.out)) (KeepBut.of_grown hg g) (Kd.R_base2 HO_9.out)); have n5_ := Aside0.mk (ho); clear HO_6; clear HO_7; clear HI0; clear HB; clear HK; clear HO_9; have HO_6 := n0_; have HO_7 := n1_; have HI0 := n2_; have HB := n3_; have HK := n4_; have HO172 := n5_; clear n0_ n1_ n2_ n3_ n4_ n5_; clear ho hb hg hat))
               go_roundg kj22
               case measure => have := HK1.out; have := HK2.out; have := HJ22.out; omega
               case rel => exact ⟨(y170), (wrap64 (x10_2 + 1)), (t154), (t155), (by first | rfl | (simp; done) | (simp [*]; done)), H', ⟨by have := HK1.out; have := HK2.out; have := HJ22.out; omega⟩, ⟨by (repeat apply sl1); exact Kd.S_mono HO_6.out (fun _ hk => hk.2)⟩, ⟨by (repeat apply rl1); exact Kd.R_mono HO_7.out (fun _ hk => hk.2)⟩, ⟨rl HO172.out⟩, ⟨by repeat (first | (with_reducible first | exact HI0.out | apply IsS65.alloc | apply IsS65.drewN | apply IsS65.drew | apply IsS65.set_1 | apply IsS65.set_2) | exact HI0.out)⟩, ⟨by repeat (first | (with_reducible first | exact HK.out | apply KeepBut.set_ | apply keep_drewN | apply keep_drew | apply keep_alloc) | exact HK.out)⟩, ⟨by repeat (first | (with_reducible first | exact HB.out | apply below_alloc | apply pw_below_drewN | apply below_drew1 | refine below_set ?_ (IsS65.ge HI0.out)) | exact HB.out)⟩⟩
              ·
               rw [if_neg c48] at H
               exact absurd H (by simp)
          ·
           rw [if_neg c20] at H
           exact absurd H (by simp)
         ·
          rw [if_neg c19] at H
          exact absurd H (by simp)
        ·
         rw [if_neg c18] at H
         have c18b0 : decide (x10_2 < ji4) = false := decide_eq_false c18
         clear c18
         by_cases c51 : x6_1.length < 5864062014805
         ·
          rw [if_pos c51] at H
          have LMc51 := Aside0.mk c51
          clear c51
          obtain ⟨y140, hy140⟩ : ∃ y_ : List (List Int), y_ = (x6_1 ++ [x9_2]) := ⟨_, rfl⟩
          replace H : (spec_l20Draw.l0 k2 ji4 y140 x9_2 (wrap64 (x8_1 - 1)) s0_0 x1001_2 x1002_2) = some (r1, r2, r3) := by first | (rw [hy140]; with_reducible exact H) | (have H2_ := (Option.bind_some _ _).symm.trans H; rw [hy140]; with_reducible exact H2_) | (have H2_ := (Option.bind_some _ _).symm.trans H; with_reducible exact H2_) | with_reducible exact H | (rw [hy140]; exact H) | exact H
          have Ny140 := Aside0.mk hy140
          clear hy140
          have H' := Aside0.mk H
          clear H
          obtain ⟨Ao53, co53, eo53⟩ := Kd.R_slice HO_9.out
          subst eo53
          go_wp2_with (first | ((with_reducible refine gate_builtin (b := .append) (xs := #[.tmp 62, .tmp 64]) rfl ?_); at_builtin; refine Kd.S_append (Kd.slice 3 (Kd.int .i64)) w.heap.size rfl (.tmp 62) (.tmp 64) 22 32 (.slice none 0 0) 24 rfl Try.underlying22 info32 rfl (by decide) (by omega) u6 x6_1 x9_2 [.slice Ao53 x9_2.length co53] (fun _ => True) (fun k_ => some k_ = (.slice Ao53 x9_2.length co53 : Value).ownBlock) rfl rfl ?aP (fun k_ hk_ => ((Kd.R_mono (ok' := fun k_ => ((fun _ => True)) k_ ∧ some k_ ≠ (u6 : Value).ownBlock) (Kd.R_apart' (HO_9.out) (Kd.S_typed HO_6.out) (by decide)) (fun k_ hk => ⟨trivial, hk.2⟩))).1 k_ hk_.symm) ?aF ?aO (Below.refl _ _) ?aS ?aL ?_; (case aP => exact Kd.M_row (Kd.R_mono (Kd.R_tight rfl (Kd.R_mono (ok' := fun k_ => ((fun _ => True)) k_ ∧ some k_ ≠ (u6 : Value).ownBlock) (Kd.R_apart' (HO_9.out) (Kd.S_typed HO_6.out) (by decide)) (fun k_ hk => ⟨trivial, hk.2⟩))) (fun _ h_ => h_))); (case aF => exact (fun _ _ => trivial)); (case aO => exact (by (repeat apply sl1); exact Kd.S_mono HO_6.out (fun k_ hk => ⟨trivial, fun e_ => hk e_⟩))); (case aS => exact (keep_size (w := w) (g := g) (row := none) (by repeat (first | (with_reducible first | exact HK.out | apply KeepBut.set_ | apply keep_drewN | apply keep_drew | apply keep_alloc) | exact HK.out)))); (case aL => have := LMc51.out; omega); intro v141 w52 ho hb hg hat; rw [← Ny140.out] at ho; have n9_ := Aside0.mk (Kd.R_mono (ok' := fun _ => True) (Kd.R_over' (rl HO_9.out) (Kd.S_typed (sl HO_6.out)) (by decide) hg) (fun _ _ => trivial)); have n0_ := Aside0.mk (Kd.R_over' (rl HO_7.out) (Kd.S_typed (sl HO_6.out)) (by decide) hg); have n1_ := Aside0.mk (IsS65.grown (by repeat (first | (with_reducible first | exact HI0.out | apply IsS65.alloc | apply IsS65.drewN | apply IsS65.drew | apply IsS65.set_1 | apply IsS65.set_2) | exact HI0.out)) hg (IsS65.own_neS HI0.out HO_6.out (by decide))); have n2_ := Aside0.mk (below_weaken (by repeat (first | (with_reducible first | exact HB.out | apply below_alloc | apply pw_below_drewN | apply below_drew1 | refine below_set ?_ (IsS65.ge HI0.out)) | exact HB.out)) HL.out hb); have n3_ := Aside0.mk (KeepBut.trans (by repeat (first | (with_reducible first | exact HK.out | apply KeepBut.set_ | apply keep_drewN | apply keep_drew | apply keep_alloc) | exact HK.out)) (KeepBut.of_grown hg g) (Kd.S_base2 HO_6.out)); have n4_ := Aside0.mk (ho); clear HO_7; clear HI0; clear HB; clear HK; clear HO_6; clear HO_9; have HO_9 := n9_; clear n9_; have HO_7 := n0_; have HI0 := n1_; have HB := n2_; have HK := n3_; have HO142 := n4_; clear n0_ n1_ n2_ n3_ n4_; clear ho hb hg hat))
          go_roundg k2
          case measure => have := HK1.out; have := HK2.out; omega
          case rel => exact ⟨(y140), (x9_2), (wrap64 (x8_1 - 1)), (x1001_2), (x1002_2), (by first | rfl | (simp; done) | (simp [*]; done)), H', ⟨by have := HK1.out; have := HK2.out; omega⟩, ⟨sl HO142.out⟩, ⟨rl HO_9.out⟩, ⟨by repeat (first | (with_reducible first | exact HI0.out | apply IsS65.alloc | apply IsS65.drewN | apply IsS65.drew | apply IsS65.set_1 | apply IsS65.set_2) | exact HI0.out)⟩, ⟨by repeat (first | (with_reducible first | exact HK.out | apply KeepBut.set_ | apply keep_drewN | apply keep_drew | apply keep_alloc) | exact HK.out)⟩, ⟨by repeat (first | (with_reducible first | exact HB.out | apply below_alloc | apply pw_below_drewN | apply below_drew1 | refine below_set ?_ (IsS65.ge HI0.out)) | exact HB.out)⟩⟩
         ·
          rw [if_neg c51] at H
          exact absurd H (by simp)
     ·
      rw [if_neg c15] at H
      have c15b0 : decide (0 < x8_1) = false := decide_eq_false c15
      clear c15
      simp only [Option.some.injEq, Prod.mk.injEq] at H
      obtain ⟨rfl, rfl, rfl⟩ := H
      go_wp2
      go_ret
      exact ⟨_, by first | rfl | (simp [errW_none, errW_some] <;> rfl) | (simp only [← hji4]; first | rfl | (simp [errW_none, errW_some] <;> rfl)) | (simp [*, errW_none, errW_some] <;> rfl), by (repeat apply sl1); exact HO_6.out, by repeat (first | (with_reducible first | exact HI0.out | apply IsS65.alloc | apply IsS65.drewN | apply IsS65.drew | apply IsS65.set_1 | apply IsS65.set_2) | exact HI0.out), by repeat (first | (with_reducible first | exact HB.out | apply below_alloc | apply pw_below_drewN | apply below_drew1 | refine below_set ?_ (IsS65.ge HI0.out)) | exact HB.out), by repeat (first | (with_reducible first | exact HK.out | apply KeepBut.set_ | apply keep_drewN | apply keep_drew | apply keep_alloc) | exact HK.out)⟩
  ·
   rw [if_neg c6] at H
   exact absurd H (by simp)
 ·
  rw [if_neg c5] at H
  exact absurd H (by simp)

/-! ### spec_l1New: function 47 -/
def spec_l1New.l0 : Nat → List Int → Int → Int → Option (List Int × Int × Int)
 | 0, _, _, _ => none
 | k + 1, x0, x3, x4 => if x4 < (x0.length : Int) then (if x4 < 4000 then (if 0 ≤ x4 then (spec_l1New.l0 k x0 (Go.bits .and .i64 (wrap64 ((wrap64 ((wrap64 (x3 * 131)) + (wrap64 (rd x0 x4)))) + 7)) 1073741823) (wrap64 (x4 + 1))) else (none)) else (some (x0, 0, x3))) else (some (x0, 0, x3))
def spec_l1New.f (k : Nat) (l0 : List Int) : Option (List Int × Int × Int) := spec_l1New.l0 k l0 (wrap64 (63063 + (l0.length : Int))) 0
theorem spec_l1New.mono_l : ∀ k, (∀ y0 y1 y2, LeO (spec_l1New.l0 k y0 y1 y2) (spec_l1New.l0 (k + 1) y0 y1 y2))
 | 0 => fun _ _ _ r h => by simp [spec_l1New.l0] at h
 | k + 1 => by
  have ih0 := spec_l1New.mono_l k
  ·
   intro y0 y1 y2
   unfold spec_l1New.l0
   repeat' first
   | (with_reducible exact ih0 _ _ _)
   | (with_reducible exact LeO.refl _)
   | (with_reducible exact LeO.none _)
   | (with_reducible refine LeO.ite ?_ ?_)
   | (with_reducible refine LeO.bind ?_ (fun _ => ?_))
   | exact ih0 _ _ _
   | exact LeO.none _
   | refine LeO.ite ?_ ?_
   | refine LeO.bind ?_ (fun _ => ?_)
theorem spec_l1New.mono : ∀ a0 k, LeO (spec_l1New.f k a0) (spec_l1New.f (k + 1) a0) := by
 intro a0 k
 have ih0 := spec_l1New.mono_l k
 unfold spec_l1New.f
 repeat' first
   | (with_reducible exact ih0 _ _ _)
   | (with_reducible exact LeO.refl _)
   | (with_reducible exact LeO.none _)
   | (with_reducible refine LeO.ite ?_ ?_)
   | (with_reducible refine LeO.bind ?_ (fun _ => ?_))
   | exact ih0 _ _ _
   | exact LeO.none _
   | refine LeO.ite ?_ ?_
   | refine LeO.bind ?_ (fun _ => ?_)
set_option maxHeartbeats 8000000 in
set_option maxRecDepth 100000 in
theorem spec_l1New.calls (k : Nat) (A0 : Option Addr) (c0 : Nat) (l0 : List Int) (r1 : List Int) (r2 : Int) (r3 : Int) (w0 w : World) (hB : Below w0.heap.size w0 w) (hr0 : Kd.C (Kd.int .u8) w0 A0 l0.length l0) (hc0 : l0.length ≤ c0) (h : spec_l1New.f k l0 = some (r1, r2, r3)) :
  Calls Try.prog 47 #[.slice A0 l0.length c0] w fun e w' => ∃ g_ : Nat, e = .returned (.pointer (some ⟨g_, 0, none⟩)) ∧ IsS65 w0 w' g_ r1 r2 r3 ∧ Below w0.heap.size w0 w' ∧ Below w.heap.size w w' := by
 have hu65 := Try.underlying65
 have HR0 := Aside0.mk hr0
 have HC0 := Aside0.mk hc0
 clear hr0 hc0
 have HBW := Aside0.mk (Below.refl w.heap.size w)
 have HW0 := Aside0.mk hB.size
 have HB := Aside0.mk hB
 clear hB
 have H : (spec_l1New.l0 k l0 (wrap64 (63063 + (l0.length : Int))) 0) = some (r1, r2, r3) := h
 clear h
 have H' := Aside0.mk H
 clear H
 go_enter Try.func47, Try.ntmps47
 go_wp2
 go_loopg [3, 4] k (fun kq v3 v4 w' => ∃ (x3_1 : Int) (x4_1 : Int), v3 = .int .i64 x3_1 ∧ v4 = .int .i64 x4_1 ∧ Aside0 (spec_l1New.l0 kq l0 x3_1 x4_1 = some (r1, r2, r3)) ∧ Aside0 (kq ≤ k) ∧ Aside0 (Below w0.heap.size w0 w') ∧ Aside0 (Below w.heap.size w w'))
 case atStart => exact ⟨(wrap64 (63063 + (l0.length : Int))), (0), (by first | rfl | (simp; done) | (simp [*]; done)), (by first | rfl | (simp; done) | (simp [*]; done)), H', ⟨Nat.le_refl _⟩, ⟨bl HB.out⟩, ⟨by repeat (first | (with_reducible first | exact HBW.out | apply below_alloc | apply pw_below_drewN | apply below_drew1) | exact HBW.out)⟩⟩
 case round =>
  clear H'
  clear HBW
  obtain ⟨x3_1, x4_1, rfl, rfl, HA, HK1, HB, HBW⟩ := hrel
  cases gk with
  | zero => exact absurd HA.out (by simp [spec_l1New.l0])
  | succ k1 =>
   have H := HA.out
   clear HA
   simp only [spec_l1New.l0] at H
   by_cases c2 : x4_1 < (l0.length : Int)
   ·
    rw [if_pos c2] at H
    have c2b0 : decide (x4_1 < (l0.length : Int)) = true := decide_eq_true c2
    clear c2
    by_cases c3 : x4_1 < 4000
    ·
     rw [if_pos c3] at H
     have c3b0 : decide (x4_1 < 4000) = true := decide_eq_true c3
     clear c3
     by_cases c4 : 0 ≤ x4_1
     ·
      rw [if_pos c4] at H
      have c4b0 : decide (0 ≤ x4_1) = true := decide_eq_true c4
      clear c4
      have H' := Aside0.mk H
      clear H
      have p173 : 0 ≤ (x4_1 : Int) := of_decide_eq_true (by first | (with_reducible assumption) | assumption)
      have q173 : x4_1 < (l0.length : Int) := of_decide_eq_true (by first | (with_reducible assumption) | assumption)
      obtain ⟨ad173, e173, hx173_0⟩ := Kd.at_int HR0.out x4_1 p173 q173
      cases e173
      replace hx173_0 := pw_cell_below HB.out hx173_0
      replace p173 := eq_true p173
      replace q173 := eq_true q173
      go_wp2
      go_roundg k1
      case measure => have := HK1.out; omega
      case rel => exact ⟨(Go.bits .and .i64 (wrap64 ((wrap64 ((wrap64 (x3_1 * 131)) + (wrap64 (rd l0 x4_1)))) + 7)) 1073741823), (wrap64 (x4_1 + 1)), (by first | rfl | (simp; done) | (simp [*]; done)), (by first | rfl | (simp; done) | (simp [*]; done)), H', ⟨by have := HK1.out; omega⟩, ⟨bl HB.out⟩, ⟨by repeat (first | (with_reducible first | exact HBW.out | apply below_alloc | apply pw_below_drewN | apply below_drew1) | exact HBW.out)⟩⟩
     ·
      rw [if_neg c4] at H
      exact absurd H (by simp)
    ·
     rw [if_neg c3] at H
     have c3b0 : decide (x4_1 < 4000) = false := decide_eq_false c3
     clear c3
     simp only [Option.some.injEq, Prod.mk.injEq] at H
     obtain ⟨rfl, rfl, rfl⟩ := H
     go_wp2_with (first | ((with_reducible refine gate_dst (N := 31) rfl ?_); refine box_event ?hg (N := 31) ?hd (cs := #[.slice A0 l0.length c0, .int .i64 0, .int .i64 x3_1]) (t := 65) ?hr ?_; (case hd => rfl); (case hg => rfl); (case hr => first | (go_simp; done) | (go_simp; rfl)); intro gb174 hg w5 hbox hb; have n0_ := Aside0.mk (below_step HBW.out hb); have n1_ := Aside0.mk (below_step (bl HB.out) hb); have n2_ := Aside0.mk (hbox); have n3_ := Aside0.mk ((by rw [hg]; exact (below_size (by repeat (first | (with_reducible first | exact HBW.out | apply below_alloc | apply pw_below_drewN | apply below_drew1) | exact HBW.out))) : w.heap.size ≤ gb174)); have n4_ := Aside0.mk ((Nat.le_trans HW0.out (by rw [hg]; exact (below_size (by repeat (first | (with_reducible first | exact HBW.out | apply below_alloc | apply pw_below_drewN | apply below_drew1) | exact HBW.out))) : w.heap.size ≤ gb174) : w0.heap.size ≤ gb174)); clear HBW; clear HB; have HBW := n0_; have HB := n1_; have BK174 := n2_; have GW174 := n3_; have GE174 := n4_; clear n0_ n1_ n2_ n3_ n4_; clear hb hbox hg))
     go_ret
     exact ⟨_, rfl, (show IsS65 w0 _ gb174 l0 0 x3_1 from ⟨_, _, by (repeat refine bk1 ?_); exact BK174.out, GE174.out, HR0.out⟩), by repeat with_reducible first | exact bl HB.out | refine below_set ?_ GE174.out | refine bq ?_, by repeat (first | (with_reducible first | exact HBW.out | apply below_alloc | apply pw_below_drewN | apply below_drew1 | refine below_set ?_ GW174.out) | exact HBW.out)⟩
   ·
    rw [if_neg c2] at H
    have c2b0 : decide (x4_1 < (l0.length : Int)) = false := decide_eq_false c2
    clear c2
    simp only [Option.some.injEq, Prod.mk.injEq] at H
    obtain ⟨rfl, rfl, rfl⟩ := H
    go_wp2_with (first | ((with_reducible refine gate_dst (N := 31) rfl ?_); refine box_event ?hg (N := 31) ?hd (cs := #[.slice A0 l0.length c0, .int .i64 0, .int .i64 x3_1]) (t := 65) ?hr ?_; (case hd => rfl); (case hg => rfl); (case hr => first | (go_simp; done) | (go_simp; rfl)); intro gb175 hg w6 hbox hb; have n0_ := Aside0.mk (below_step HBW.out hb); have n1_ := Aside0.mk (below_step (bl HB.out) hb); have n2_ := Aside0.mk (hbox); have n3_ := Aside0.mk ((by rw [hg]; exact (below_size (by repeat (first | (with_reducible first | exact HBW.out | apply below_alloc | apply pw_below_drewN | apply below_drew1) | exact HBW.out))) : w.heap.size ≤ gb175)); have n4_ := Aside0.mk ((Nat.le_trans HW0.out (by rw [hg]; exact (below_size (by repeat (first | (with_reducible first | exact HBW.out | apply below_alloc | apply pw_below_drewN | apply below_drew1) | exact HBW.out))) : w.heap.size ≤ gb175) : w0.heap.size ≤ gb175)); clear HBW; clear HB; have HBW := n0_; have HB := n1_; have BK175 := n2_; have GW175 := n3_; have GE175 := n4_; clear n0_ n1_ n2_ n3_ n4_; clear hb hbox hg))
    go_ret
    exact ⟨_, rfl, (show IsS65 w0 _ gb175 l0 0 x3_1 from ⟨_, _, by (repeat refine bk1 ?_); exact BK175.out, GE175.out, HR0.out⟩), by repeat with_reducible first | exact bl HB.out | refine below_set ?_ GE175.out | refine bq ?_, by repeat (first | (with_reducible first | exact HBW.out | apply below_alloc | apply pw_below_drewN | apply below_drew1 | refine below_set ?_ GW175.out) | exact HBW.out)⟩

/-! ### spec_DrawRecord: function 19 -/
def spec_DrawRecord.f (k : Nat) (l0 : List Int) : Option ((List (List Int))) := (spec_l1New.f k l0).bind fun bt176 => ((spec_l20Draw.f k bt176.1 bt176.2.1 bt176.2.2 l0).bind fun bt180 => (some bt180.1))
theorem spec_DrawRecord.mono : ∀ a0 k, LeO (spec_DrawRecord.f k a0) (spec_DrawRecord.f (k + 1) a0) := by
 intro a0 k
 unfold spec_DrawRecord.f
 repeat' first
   | (with_reducible exact spec_l1New.mono _ _)
   | (with_reducible exact spec_l20Draw.mono _ _ _ _ _)
   | (with_reducible exact LeO.refl _)
   | (with_reducible exact LeO.none _)
   | (with_reducible refine LeO.ite ?_ ?_)
   | (with_reducible refine LeO.bind ?_ (fun _ => ?_))
   | exact spec_l1New.mono _ _
   | exact spec_l20Draw.mono _ _ _ _ _
   | exact LeO.none _
   | refine LeO.ite ?_ ?_
   | refine LeO.bind ?_ (fun _ => ?_)
set_option maxHeartbeats 8000000 in
set_option maxRecDepth 100000 in
theorem spec_DrawRecord.calls (k : Nat) (A0 : Option Addr) (c0 : Nat) (l0 : List Int) (r : List (List Int)) (w : World) (hr0 : Kd.C (Kd.int .u8) w A0 l0.length l0) (hc0 : l0.length ≤ c0) (h : spec_DrawRecord.f k l0 = some r) :
  Calls Try.prog 19 #[.slice A0 l0.length c0] w fun e w' => ∃ v0_ : Value, e = .returned (v0_) ∧ Kd.S (Kd.slice 3 (Kd.int .i64)) 32 w' w.heap.size (fun _ => True) v0_ r ∧ Below w.heap.size w w' := by
 have HR0 := Aside0.mk hr0
 have HC0 := Aside0.mk hc0
 clear hr0 hc0
 have HB := Aside0.mk (Below.refl w.heap.size w)
 have H : ((spec_l1New.f k l0).bind fun bt176 => ((spec_l20Draw.f k bt176.1 bt176.2.1 bt176.2.2 l0).bind fun bt180 => (some bt180.1))) = some r := h
 clear h
 replace H := Option.bind_eq_some_iff.mp H
 obtain ⟨⟨t176, t177, t178⟩, A20, H⟩ := H
 replace H : ((spec_l20Draw.f k t176 t177 t178 l0).bind fun bt180 => (some bt180.1)) = some r := H
 have A2 := Aside0.mk A20
 clear A20
 replace H := Option.bind_eq_some_iff.mp H
 obtain ⟨⟨t180, t183, t184⟩, A30, H⟩ := H
 replace H : (some t180) = some r := H
 have A3 := Aside0.mk A30
 clear A30
 obtain rfl := Option.some.inj H
 go_enter Try.func19, Try.ntmps19
 go_wp2_with (first | ((with_reducible refine gate_callee (f := 47) rfl ?_); refine goesL_ (some 4) rfl rfl Try.func47 (by kernel_rfl) rfl #[.slice A0 l0.length c0] rfl (by (try simp only [am_]); first | done | rfl) ?_; (with_reducible refine (spec_l1New.calls k _ _ l0 t176 t177 t178 w _ ?side1 ?side2 ?side3 A2.out).mono ?_); (case side1 => exact bl HB.out); (case side2 => exact HR0.out); (case side3 => exact HC0.out); rintro e w4 ⟨g179, rfl, hi, hb, hb2⟩; refine ⟨_, rfl, ?_⟩; have n0_ := Aside0.mk (hb); have n1_ := Aside0.mk (hi); clear HB; have HB := n0_; have HI179 := n1_; clear n0_ n1_; (try clear hb); (try clear hb2); (try clear hk); (try clear hi)) | ((with_reducible refine gate_callee (f := 46) rfl ?_); refine goesL_ (some 6) rfl rfl Try.func46 (by kernel_rfl) rfl #[.pointer (some ⟨g179, 0, none⟩), .slice A0 l0.length c0] rfl (by (try simp only [am_]); first | done | rfl) ?_; (with_reducible refine (spec_l20Draw.calls k g179 t176 t177 t178 _ _ l0 t180 t183 t184 w _ ?side1 ?side2 ?side3 ?side4 ?side5 A3.out).mono ?_); (case side1 => repeat (first | (with_reducible first | exact HI179.out | apply IsS65.alloc | apply IsS65.drewN | apply IsS65.drew | apply IsS65.set_1 | apply IsS65.set_2) | exact HI179.out)); (case side2 => repeat (first | (with_reducible first | exact HB.out | apply below_alloc | apply pw_below_drewN | apply below_drew1 | refine below_set ?_ (IsS65.ge HI179.out)) | exact HB.out)); (case side3 => exact rc (Kd.C_below HR0.out HB.out)); (case side4 => exact HC0.out); (case side5 => exact Kd.far_C 0 HR0.out (IsS65.ge HI179.out)); rintro e w5 ⟨v181, rfl, ho0, hi, hb, hk⟩; refine ⟨_, rfl, ?_⟩; have n0_ := Aside0.mk (Kd.S_lower ho0 (below_size (by repeat (first | (with_reducible first | exact HB.out | apply below_alloc | apply pw_below_drewN | apply below_drew1 | refine below_set ?_ (IsS65.ge HI179.out)) | exact HB.out)))); have n1_ := Aside0.mk (hb); have n2_ := Aside0.mk (hi); clear HB; clear HI179; have HO182 := n0_; have HB := n1_; have HI179 := n2_; clear n0_ n1_ n2_; (try clear hb); (try clear hb2); (try clear hk); (try clear hi); (try clear ho0)))
 go_ret
 exact ⟨_, by first | rfl | (simp [errW_none, errW_some] <;> rfl) | (simp [*, errW_none, errW_some] <;> rfl), by (repeat apply sl1); exact HO182.out, by repeat (first | (with_reducible first | exact HB.out | apply below_alloc | apply pw_below_drewN | apply below_drew1 | refine below_set ?_ (IsS65.ge HI179.out)) | exact HB.out)⟩

end Go.Proofs.Ytaaelkbkmgnciaa.PFnColumns
