-- Written by a program of this session (wip/xprint.py) out of the translation; Lean checks it.
import Derived.Test.YtdimdlifjdbgnaaPFnReleasedx0
import Derived.Test.YtdimdlifjdbgnaaPFnReleasedx2
import Derived.Test.YtdimdlifjdbgnaaPFnReleasedx3
import Derived.Test.YtdimdlifjdbgnaaPFnReleasedx4
namespace Go.Proofs.Ytdimdlifjdbgnaa.PFnReleased
open Go.RowKit Go.Proofs.YtdimdlifjdbgnaaW.PrintWords Go.Proofs.YtdimdlifjdbgnaaW.PrintLast Go.Proofs.YtdimdlifjdbgnaaW.PrintMore Go.Proofs.Ytdimdlifjdbgnaa.Sq
attribute [local go_sem] max2_int min2_int max_two min_two max_three min_three max_four min_four   -- for this text's walks alone
set_option linter.unusedVariables false
set_option linter.unusedSimpArgs false

/-! ### spec_l1PickInt: function 68 -/
def spec_l1PickInt.f (s0_0 : List Int) (s0_1 : Int) (s0_2 : Int) (l1 : List Int) : Option (Int × Int × Int) := (spec_l1Below.f s0_0 s0_1 s0_2 (l1.length : Int)).bind fun bt234 => (if 0 ≤ bt234.1 then (if bt234.1 < (l1.length : Int) then (some (rd l1 bt234.1, bt234.2.1, bt234.2.2)) else (none)) else (none))
set_option maxHeartbeats 8000000 in
set_option maxRecDepth 100000 in
theorem spec_l1PickInt.calls (g : Nat) (s0_0 : List Int) (s0_1 : Int) (s0_2 : Int) (A1 : Option Addr) (c1 : Nat) (l1 : List Int) (r1 : Int) (r2 : Int) (r3 : Int) (w0 w : World) (hI : IsS108 w0 w g s0_0 s0_1 s0_2) (hB : Below w0.heap.size w0 w) (hr1 : Kd.C (Kd.int .i64) w A1 l1.length l1) (hc1 : l1.length ≤ c1) (hf1 : ∀ ad, A1 = some ad → 0 < l1.length → ad.block ≠ g) (h : spec_l1PickInt.f s0_0 s0_1 s0_2 l1 = some (r1, r2, r3)) :
  Calls Try.prog 68 #[.pointer (some ⟨g, 0, none⟩), .slice A1 l1.length c1] w fun e w' => e = .returned (.int .i64 r1) ∧ IsS108 w0 w' g s0_0 r2 r3 ∧ Below w0.heap.size w0 w' ∧ KeepBut w w' g none := by
 have HR1 := Aside0.mk hr1
 have HC1 := Aside0.mk hc1
 clear hr1 hc1
 have HI0 := Aside0.mk hI
 have HK := Aside0.mk (KeepBut.refl w g none)
 have HL := Aside0.mk hB.size
 clear hI
 have HW0 := Aside0.mk hB.size
 have HB := Aside0.mk hB
 clear hB
 have H : ((spec_l1Below.f s0_0 s0_1 s0_2 (l1.length : Int)).bind fun bt234 => (if 0 ≤ bt234.1 then (if bt234.1 < (l1.length : Int) then (some (rd l1 bt234.1, bt234.2.1, bt234.2.2)) else (none)) else (none))) = some (r1, r2, r3) := h
 clear h
 replace H := Option.bind_eq_some_iff.mp H
 obtain ⟨⟨t234, t235, t236⟩, A30, H⟩ := H
 replace H : (if 0 ≤ t234 then (if t234 < (l1.length : Int) then (some (rd l1 t234, t235, t236)) else (none)) else (none)) = some (r1, r2, r3) := H
 have A3 := Aside0.mk A30
 clear A30
 by_cases c4 : 0 ≤ t234
 ·
  rw [if_pos c4] at H
  have c4b0 : decide (0 ≤ t234) = true := decide_eq_true c4
  clear c4
  by_cases c5 : t234 < (l1.length : Int)
  ·
   rw [if_pos c5] at H
   have c5b0 : decide (t234 < (l1.length : Int)) = true := decide_eq_true c5
   clear c5
   simp only [Option.some.injEq, Prod.mk.injEq] at H
   obtain ⟨rfl, rfl, rfl⟩ := H
   go_enter Try.func68, Try.ntmps68
   go_wp2_with (first | ((with_reducible refine gate_callee (f := 28) rfl ?_); refine goesL_ (some 9) rfl rfl Try.func28 (by kernel_rfl) rfl #[.pointer (some ⟨g, 0, none⟩), .int .i64 (l1.length : Int)] rfl (by (try simp only [am_]); first | done | rfl) ?_; (with_reducible refine (spec_l1Below.calls g s0_0 s0_1 s0_2 (l1.length : Int) t234 t235 t236 w0 _ ?side1 ?side2 A3.out).mono ?_); (case side1 => repeat (first | (with_reducible first | exact HI0.out | apply IsS108.alloc | apply IsS108.drewN | apply IsS108.drew | apply IsS108.set_1 | apply IsS108.set_2) | exact HI0.out)); (case side2 => repeat (first | (with_reducible first | exact HB.out | apply below_alloc | apply pw_below_drewN | apply below_drew1 | refine below_set ?_ (IsS108.ge HI0.out)) | exact HB.out)); rintro e w6 ⟨rfl, hi, hb, hk⟩; refine ⟨_, rfl, ?_⟩; replace HK := Aside0.mk (KeepBut.trans (by repeat (first | (with_reducible first | exact HK.out | apply KeepBut.set_ | apply keep_drewN | apply keep_drew | apply keep_alloc) | exact HK.out)) hk (.inl rfl)); replace HB := Aside0.mk (hb); replace HI0 := Aside0.mk (hi); (try clear hb); (try clear hb2); (try clear hk); (try clear hi); have p237 : 0 ≤ (t234 : Int) := of_decide_eq_true (by first | (with_reducible assumption) | assumption); have q237 : t234 < (l1.length : Int) := of_decide_eq_true (by first | (with_reducible assumption) | assumption); obtain ⟨ad237, e237, hx237_0⟩ := Kd.at_int HR1.out t234 p237 q237; cases e237; replace hx237_0 := keep_cell HK.out hx237_0 (by first | (rw [add_block]; exact hf1 _ rfl (by omega)) | exact hf1 _ rfl (by omega) | exact hf1 ad237 rfl (by omega)); replace p237 := eq_true p237; replace q237 := eq_true q237))
   go_ret
   exact ⟨by first | rfl | (simp [errW_none, errW_some] <;> rfl) | (simp [*, errW_none, errW_some] <;> rfl), by repeat (first | (with_reducible first | exact HI0.out | apply IsS108.alloc | apply IsS108.drewN | apply IsS108.drew | apply IsS108.set_1 | apply IsS108.set_2) | exact HI0.out), by repeat (first | (with_reducible first | exact HB.out | apply below_alloc | apply pw_below_drewN | apply below_drew1 | refine below_set ?_ (IsS108.ge HI0.out)) | exact HB.out), by repeat (first | (with_reducible first | exact HK.out | apply KeepBut.set_ | apply keep_drewN | apply keep_drew | apply keep_alloc) | exact HK.out)⟩
  ·
   rw [if_neg c5] at H
   exact absurd H (by simp)
 ·
  rw [if_neg c4] at H
  exact absurd H (by simp)

/-! ### spec_l19DrawDeed: function 29 -/
def spec_l19DrawDeed.j0 : Nat → List Int → Int → Int → Int → ByteArray → Int → Int → Option (Int × ByteArray × Int × Int × Int × Int)
 | 0, _, _, _, _, _, _, _ => none
 | k + 1, x1000, x1001, x1002, x255000, x255001, x255002, x255003 => (spec_l1Below.f x1000 x1001 x1002 40).bind fun bt258 => (if bt258.1 = 0 then ((spec_l1PickInt.f x1000 bt258.2.1 bt258.2.2 (([0, 6] : List Int))).bind fun bt264 => (some (bt264.1, x255001, x255002, x255003, bt264.2.1, bt264.2.2))) else (if bt258.1 = 1 then ((spec_l1Pick.f x1000 bt258.2.1 bt258.2.2 (([(⟨#[]⟩ : ByteArray), (⟨#[97, 32, 98]⟩ : ByteArray), (⟨#[110, 111, 110, 101]⟩ : ByteArray)] : List ByteArray))).bind fun bt270 => (some (x255000, bt270.1, x255002, x255003, bt270.2.1, bt270.2.2))) else (if bt258.1 = 2 then ((spec_l1PickInt.f x1000 bt258.2.1 bt258.2.2 (([0, (-1), 1000000, 1000001] : List Int))).bind fun bt276 => (some (x255000, x255001, bt276.1, x255003, bt276.2.1, bt276.2.2))) else (if bt258.1 = 3 then ((spec_l1PickInt.f x1000 bt258.2.1 bt258.2.2 (([0, 100, 101, 9223372036854775807] : List Int))).bind fun bt282 => (some (x255000, x255001, x255002, bt282.1, bt282.2.1, bt282.2.2))) else (some (x255000, x255001, x255002, x255003, bt258.2.1, bt258.2.2))))))
def spec_l19DrawDeed.f (k : Nat) (s0_0 : List Int) (s0_1 : Int) (s0_2 : Int) : Option (Int × ByteArray × Int × Int × Int × Int) := (spec_l1Below.f s0_0 s0_1 s0_2 5).bind fun bt239 => ((spec_l1Pick.f s0_0 bt239.2.1 bt239.2.2 (([(⟨#[101, 110, 103, 105, 110, 101]⟩ : ByteArray), (⟨#[102, 114, 97, 109, 101]⟩ : ByteArray), (⟨#[103, 101, 97, 114]⟩ : ByteArray), (⟨#[119, 105, 110, 103]⟩ : ByteArray), (⟨#[108, 97, 109, 112]⟩ : ByteArray), (⟨#[115, 101, 97, 116]⟩ : ByteArray)] : List ByteArray))).bind fun bt245 => ((spec_l1Below.f s0_0 bt245.2.1 bt245.2.2 12).bind fun bt248 => ((spec_l1Below.f s0_0 bt248.2.1 bt248.2.2 15).bind fun bt251 => ((spec_l1Once.f s0_0 bt251.2.1 bt251.2.2 3).bind fun bt255 => (if bt255.1 = true then (spec_l19DrawDeed.j0 k s0_0 bt255.2.1 bt255.2.2 1 bt245.1 (wrap64 (1 + bt248.1)) (wrap64 (1 + bt251.1))) else (spec_l19DrawDeed.j0 k s0_0 bt255.2.1 bt255.2.2 (wrap64 (1 + bt239.1)) bt245.1 (wrap64 (1 + bt248.1)) (wrap64 (1 + bt251.1))))))))
theorem spec_l19DrawDeed.mono_l : ∀ k, (∀ y0 y1 y2 y3 y4 y5 y6, LeO (spec_l19DrawDeed.j0 k y0 y1 y2 y3 y4 y5 y6) (spec_l19DrawDeed.j0 (k + 1) y0 y1 y2 y3 y4 y5 y6))
 | 0 => fun _ _ _ _ _ _ _ r h => by simp [spec_l19DrawDeed.j0] at h
 | k + 1 => by
  have ih0 := spec_l19DrawDeed.mono_l k
  ·
   intro y0 y1 y2 y3 y4 y5 y6
   unfold spec_l19DrawDeed.j0
   repeat' first
   | (with_reducible exact ih0 _ _ _ _ _ _ _)
   | (with_reducible exact LeO.refl _)
   | (with_reducible exact LeO.none _)
   | (with_reducible refine LeO.ite ?_ ?_)
   | (with_reducible refine LeO.bind ?_ (fun _ => ?_))
   | exact ih0 _ _ _ _ _ _ _
   | exact LeO.none _
   | refine LeO.ite ?_ ?_
   | refine LeO.bind ?_ (fun _ => ?_)
theorem spec_l19DrawDeed.mono : ∀ a0 a1 a2 k, LeO (spec_l19DrawDeed.f k a0 a1 a2) (spec_l19DrawDeed.f (k + 1) a0 a1 a2) := by
 intro a0 a1 a2 k
 have ih0 := spec_l19DrawDeed.mono_l k
 unfold spec_l19DrawDeed.f
 repeat' first
   | (with_reducible exact ih0 _ _ _ _ _ _ _)
   | (with_reducible exact LeO.refl _)
   | (with_reducible exact LeO.none _)
   | (with_reducible refine LeO.ite ?_ ?_)
   | (with_reducible refine LeO.bind ?_ (fun _ => ?_))
   | exact ih0 _ _ _ _ _ _ _
   | exact LeO.none _
   | refine LeO.ite ?_ ?_
   | refine LeO.bind ?_ (fun _ => ?_)
set_option maxHeartbeats 8000000 in
set_option maxRecDepth 100000 in
theorem spec_l19DrawDeed.calls (k : Nat) (g : Nat) (s0_0 : List Int) (s0_1 : Int) (s0_2 : Int) (r1 : Int) (r2 : ByteArray) (r3 : Int) (r4 : Int) (r5 : Int) (r6 : Int) (w0 w : World) (hI : IsS108 w0 w g s0_0 s0_1 s0_2) (hB : Below w0.heap.size w0 w) (h : spec_l19DrawDeed.f k s0_0 s0_1 s0_2 = some (r1, r2, r3, r4, r5, r6)) :
  Calls Try.prog 29 #[.pointer (some ⟨g, 0, none⟩)] w fun e w' => e = .returned (.agg #[.int .i64 r1, .string r2, .int .i64 r3, .int .i64 r4]) ∧ IsS108 w0 w' g s0_0 r5 r6 ∧ Below w0.heap.size w0 w' ∧ KeepBut w w' g none := by
 have hu42 := Try.underlying42
 have HI0 := Aside0.mk hI
 have HK := Aside0.mk (KeepBut.refl w g none)
 have HL := Aside0.mk hB.size
 clear hI
 have HW0 := Aside0.mk hB.size
 have HB := Aside0.mk hB
 clear hB
 have H : ((spec_l1Below.f s0_0 s0_1 s0_2 5).bind fun bt239 => ((spec_l1Pick.f s0_0 bt239.2.1 bt239.2.2 (([(⟨#[101, 110, 103, 105, 110, 101]⟩ : ByteArray), (⟨#[102, 114, 97, 109, 101]⟩ : ByteArray), (⟨#[103, 101, 97, 114]⟩ : ByteArray), (⟨#[119, 105, 110, 103]⟩ : ByteArray), (⟨#[108, 97, 109, 112]⟩ : ByteArray), (⟨#[115, 101, 97, 116]⟩ : ByteArray)] : List ByteArray))).bind fun bt245 => ((spec_l1Below.f s0_0 bt245.2.1 bt245.2.2 12).bind fun bt248 => ((spec_l1Below.f s0_0 bt248.2.1 bt248.2.2 15).bind fun bt251 => ((spec_l1Once.f s0_0 bt251.2.1 bt251.2.2 3).bind fun bt255 => (if bt255.1 = true then (spec_l19DrawDeed.j0 k s0_0 bt255.2.1 bt255.2.2 1 bt245.1 (wrap64 (1 + bt248.1)) (wrap64 (1 + bt251.1))) else (spec_l19DrawDeed.j0 k s0_0 bt255.2.1 bt255.2.2 (wrap64 (1 + bt239.1)) bt245.1 (wrap64 (1 + bt248.1)) (wrap64 (1 + bt251.1))))))))) = some (r1, r2, r3, r4, r5, r6) := h
 clear h
 replace H := Option.bind_eq_some_iff.mp H
 obtain ⟨⟨t239, t240, t241⟩, A20, H⟩ := H
 replace H : ((spec_l1Pick.f s0_0 t240 t241 (([(⟨#[101, 110, 103, 105, 110, 101]⟩ : ByteArray), (⟨#[102, 114, 97, 109, 101]⟩ : ByteArray), (⟨#[103, 101, 97, 114]⟩ : ByteArray), (⟨#[119, 105, 110, 103]⟩ : ByteArray), (⟨#[108, 97, 109, 112]⟩ : ByteArray), (⟨#[115, 101, 97, 116]⟩ : ByteArray)] : List ByteArray))).bind fun bt245 => ((spec_l1Below.f s0_0 bt245.2.1 bt245.2.2 12).bind fun bt248 => ((spec_l1Below.f s0_0 bt248.2.1 bt248.2.2 15).bind fun bt251 => ((spec_l1Once.f s0_0 bt251.2.1 bt251.2.2 3).bind fun bt255 => (if bt255.1 = true then (spec_l19DrawDeed.j0 k s0_0 bt255.2.1 bt255.2.2 1 bt245.1 (wrap64 (1 + bt248.1)) (wrap64 (1 + bt251.1))) else (spec_l19DrawDeed.j0 k s0_0 bt255.2.1 bt255.2.2 (wrap64 (1 + t239)) bt245.1 (wrap64 (1 + bt248.1)) (wrap64 (1 + bt251.1)))))))) = some (r1, r2, r3, r4, r5, r6) := H
 have A2 := Aside0.mk A20
 clear A20
 obtain ⟨y242, hy242⟩ : ∃ y_ : List ByteArray, y_ = (([(⟨#[101, 110, 103, 105, 110, 101]⟩ : ByteArray), (⟨#[102, 114, 97, 109, 101]⟩ : ByteArray), (⟨#[103, 101, 97, 114]⟩ : ByteArray), (⟨#[119, 105, 110, 103]⟩ : ByteArray), (⟨#[108, 97, 109, 112]⟩ : ByteArray), (⟨#[115, 101, 97, 116]⟩ : ByteArray)] : List ByteArray)) := ⟨_, rfl⟩
 replace H : ((spec_l1Pick.f s0_0 t240 t241 y242).bind fun bt245 => ((spec_l1Below.f s0_0 bt245.2.1 bt245.2.2 12).bind fun bt248 => ((spec_l1Below.f s0_0 bt248.2.1 bt248.2.2 15).bind fun bt251 => ((spec_l1Once.f s0_0 bt251.2.1 bt251.2.2 3).bind fun bt255 => (if bt255.1 = true then (spec_l19DrawDeed.j0 k s0_0 bt255.2.1 bt255.2.2 1 bt245.1 (wrap64 (1 + bt248.1)) (wrap64 (1 + bt251.1))) else (spec_l19DrawDeed.j0 k s0_0 bt255.2.1 bt255.2.2 (wrap64 (1 + t239)) bt245.1 (wrap64 (1 + bt248.1)) (wrap64 (1 + bt251.1)))))))) = some (r1, r2, r3, r4, r5, r6) := by first | (rw [hy242]; with_reducible exact H) | (have H2_ := (Option.bind_some _ _).symm.trans H; rw [hy242]; with_reducible exact H2_) | (have H2_ := (Option.bind_some _ _).symm.trans H; with_reducible exact H2_) | with_reducible exact H | (rw [hy242]; exact H) | exact H
 have Ny242 := Aside0.mk hy242
 clear hy242
 replace H := Option.bind_eq_some_iff.mp H
 obtain ⟨⟨t245, t246, t247⟩, A30, H⟩ := H
 replace H : ((spec_l1Below.f s0_0 t246 t247 12).bind fun bt248 => ((spec_l1Below.f s0_0 bt248.2.1 bt248.2.2 15).bind fun bt251 => ((spec_l1Once.f s0_0 bt251.2.1 bt251.2.2 3).bind fun bt255 => (if bt255.1 = true then (spec_l19DrawDeed.j0 k s0_0 bt255.2.1 bt255.2.2 1 t245 (wrap64 (1 + bt248.1)) (wrap64 (1 + bt251.1))) else (spec_l19DrawDeed.j0 k s0_0 bt255.2.1 bt255.2.2 (wrap64 (1 + t239)) t245 (wrap64 (1 + bt248.1)) (wrap64 (1 + bt251.1))))))) = some (r1, r2, r3, r4, r5, r6) := H
 have A3 := Aside0.mk A30
 clear A30
 replace H := Option.bind_eq_some_iff.mp H
 obtain ⟨⟨t248, t249, t250⟩, A40, H⟩ := H
 replace H : ((spec_l1Below.f s0_0 t249 t250 15).bind fun bt251 => ((spec_l1Once.f s0_0 bt251.2.1 bt251.2.2 3).bind fun bt255 => (if bt255.1 = true then (spec_l19DrawDeed.j0 k s0_0 bt255.2.1 bt255.2.2 1 t245 (wrap64 (1 + t248)) (wrap64 (1 + bt251.1))) else (spec_l19DrawDeed.j0 k s0_0 bt255.2.1 bt255.2.2 (wrap64 (1 + t239)) t245 (wrap64 (1 + t248)) (wrap64 (1 + bt251.1)))))) = some (r1, r2, r3, r4, r5, r6) := H
 have A4 := Aside0.mk A40
 clear A40
 replace H := Option.bind_eq_some_iff.mp H
 obtain ⟨⟨t251, t252, t253⟩, A50, H⟩ := H
 replace H : ((spec_l1Once.f s0_0 t252 t253 3).bind fun bt255 => (if bt255.1 = true then (spec_l19DrawDeed.j0 k s0_0 bt255.2.1 bt255.2.2 1 t245 (wrap64 (1 + t248)) (wrap64 (1 + t251))) else (spec_l19DrawDeed.j0 k s0_0 bt255.2.1 bt255.2.2 (wrap64 (1 + t239)) t245 (wrap64 (1 + t248)) (wrap64 (1 + t251))))) = some (r1, r2, r3, r4, r5, r6) := H
 have A5 := Aside0.mk A50
 clear A50
 replace H := Option.bind_eq_some_iff.mp H
 obtain ⟨⟨t255, t256, t257⟩, A60, H⟩ := H
 replace H : (if t255 = true then (spec_l19DrawDeed.j0 k s0_0 t256 t257 1 t245 (wrap64 (1 + t248)) (wrap64 (1 + t251))) else (spec_l19DrawDeed.j0 k s0_0 t256 t257 (wrap64 (1 + t239)) t245 (wrap64 (1 + t248)) (wrap64 (1 + t251)))) = some (r1, r2, r3, r4, r5, r6) := H
 have A6 := Aside0.mk A60
 clear A60
 have HC7 := Aside0.mk H
 clear H
 go_enter Try.func29, Try.ntmps29
 go_upto_if 18 with (first | ((with_reducible refine gate_dst (N := 2) rfl ?_); refine box_event ?hg (N := 2) ?hd (cs := #[.int .i64 0, .string (⟨#[]⟩ : ByteArray), .int .i64 0, .int .i64 0]) (t := 42) ?hr ?_; (case hd => rfl); (case hg => rfl); (case hr => first | (go_simp; done) | (go_simp; rfl)); intro gb238 hg w8 hbox hb; replace HB := Aside0.mk (below_step (by repeat (first | (with_reducible first | exact HB.out | apply below_alloc | apply pw_below_drewN | apply below_drew1 | refine below_set ?_ (IsS108.ge HI0.out)) | exact HB.out)) hb); have BK238 := Aside0.mk (hbox); have GW238 := Aside0.mk ((by rw [hg]; exact (keep_size (w := w) (g := g) (row := none) (by repeat (first | (with_reducible first | exact HK.out | apply KeepBut.set_ | apply keep_drewN | apply keep_drew | apply keep_alloc) | exact HK.out))) : w.heap.size ≤ gb238)); have GE238 := Aside0.mk ((Nat.le_trans HW0.out (by rw [hg]; exact (keep_size (w := w) (g := g) (row := none) (by repeat (first | (with_reducible first | exact HK.out | apply KeepBut.set_ | apply keep_drewN | apply keep_drew | apply keep_alloc) | exact HK.out))) : w.heap.size ≤ gb238) : w0.heap.size ≤ gb238)); replace HK := Aside0.mk (KeepBut.trans (by repeat (first | (with_reducible first | exact HK.out | apply KeepBut.set_ | apply keep_drewN | apply keep_drew | apply keep_alloc) | exact HK.out)) (KeepBut.of_below hb g none) (.inl rfl)); have NB0_238 := Aside0.mk ((by rw [hg]; exact Nat.ne_of_lt (IsS108.lt (show IsS108 w0 _ g s0_0 s0_1 s0_2 from by repeat (first | (with_reducible first | exact HI0.out | apply IsS108.alloc | apply IsS108.drewN | apply IsS108.drew | apply IsS108.set_1 | apply IsS108.set_2) | exact HI0.out))) : g ≠ gb238)); have NB238_0 := Aside0.mk ((by rw [hg]; exact Nat.ne_of_gt (IsS108.lt (show IsS108 w0 _ g s0_0 s0_1 s0_2 from by repeat (first | (with_reducible first | exact HI0.out | apply IsS108.alloc | apply IsS108.drewN | apply IsS108.drew | apply IsS108.set_1 | apply IsS108.set_2) | exact HI0.out))) : gb238 ≠ g)); replace HI0 := Aside0.mk (IsS108.below (by repeat (first | (with_reducible first | exact HI0.out | apply IsS108.alloc | apply IsS108.drewN | apply IsS108.drew | apply IsS108.set_1 | apply IsS108.set_2) | exact HI0.out)) hb); clear hb hbox hg) | ((with_reducible refine gate_callee (f := 28) rfl ?_); refine goesL_ (some 5) rfl rfl Try.func28 (by kernel_rfl) rfl #[.pointer (some ⟨g, 0, none⟩), .int .i64 5] rfl (by (try simp only [am_]); first | done | rfl) ?_; (with_reducible refine (spec_l1Below.calls g s0_0 s0_1 s0_2 5 t239 t240 t241 w0 _ ?side1 ?side2 A2.out).mono ?_); (case side1 => repeat (first | (with_reducible first | exact HI0.out | apply IsS108.alloc | apply IsS108.drewN | apply IsS108.drew | apply IsS108.set_1 | apply IsS108.set_2 | refine IsS108.far ?_ NB0_238.out _) | exact HI0.out)); (case side2 => repeat (first | (with_reducible first | exact HB.out | apply below_alloc | apply pw_below_drewN | apply below_drew1 | refine below_set ?_ (IsS108.ge HI0.out) | refine below_set ?_ GE238.out) | exact HB.out)); rintro e w9 ⟨rfl, hi, hb, hk⟩; refine ⟨_, rfl, ?_⟩; replace BK238 := Aside0.mk (KeepBut.blk hk (g' := gb238) (o := .cells #[.int .i64 0, .string (⟨#[]⟩ : ByteArray), .int .i64 0, .int .i64 0] 42 (0, 0)) (bk BK238.out) NB238_0.out (by simp)); replace HK := Aside0.mk (KeepBut.trans (by repeat (first | (with_reducible first | exact HK.out | apply KeepBut.set_ | apply keep_drewN | apply keep_drew | apply keep_alloc | refine keep_far ?_ GW238.out _) | exact HK.out)) hk (.inl rfl)); replace HB := Aside0.mk (hb); replace HI0 := Aside0.mk (hi); (try clear hb); (try clear hb2); (try clear hk); (try clear hi)) | ((with_reducible refine gate_dst (N := 8) rfl ?_); refine Kd.R_lit Kd.string _ 9 ?hg (N := 8) ?hd (xs := ([(⟨#[101, 110, 103, 105, 110, 101]⟩ : ByteArray), (⟨#[102, 114, 97, 109, 101]⟩ : ByteArray), (⟨#[103, 101, 97, 114]⟩ : ByteArray), (⟨#[119, 105, 110, 103]⟩ : ByteArray), (⟨#[108, 97, 109, 112]⟩ : ByteArray), (⟨#[115, 101, 97, 116]⟩ : ByteArray)] : List ByteArray)) (inner := [.string (⟨#[101, 110, 103, 105, 110, 101]⟩ : ByteArray), .string (⟨#[102, 114, 97, 109, 101]⟩ : ByteArray), .string (⟨#[103, 101, 97, 114]⟩ : ByteArray), .string (⟨#[119, 105, 110, 103]⟩ : ByteArray), .string (⟨#[108, 97, 109, 112]⟩ : ByteArray), .string (⟨#[115, 101, 97, 116]⟩ : ByteArray)]) (ok := fun _ => True) (okp := fun _ => True) ?hr ?hp (fun _ hk => hk) trivial (Below.refl _ _) (Nat.le_refl _) (by simp) ?_; (case hd => rfl); (case hg => rfl); (case hr => first | (go_simp; done) | (go_simp; rfl)); (case hp => exact (Reps.one (show Kd.M Kd.string _ _ _ (⟨#[101, 110, 103, 105, 110, 101]⟩ : ByteArray) [.string (⟨#[101, 110, 103, 105, 110, 101]⟩ : ByteArray)] from rfl) (Reps.one (show Kd.M Kd.string _ _ _ (⟨#[102, 114, 97, 109, 101]⟩ : ByteArray) [.string (⟨#[102, 114, 97, 109, 101]⟩ : ByteArray)] from rfl) (Reps.one (show Kd.M Kd.string _ _ _ (⟨#[103, 101, 97, 114]⟩ : ByteArray) [.string (⟨#[103, 101, 97, 114]⟩ : ByteArray)] from rfl) (Reps.one (show Kd.M Kd.string _ _ _ (⟨#[119, 105, 110, 103]⟩ : ByteArray) [.string (⟨#[119, 105, 110, 103]⟩ : ByteArray)] from rfl) (Reps.one (show Kd.M Kd.string _ _ _ (⟨#[108, 97, 109, 112]⟩ : ByteArray) [.string (⟨#[108, 97, 109, 112]⟩ : ByteArray)] from rfl) (Reps.one (show Kd.M Kd.string _ _ _ (⟨#[115, 101, 97, 116]⟩ : ByteArray) [.string (⟨#[115, 101, 97, 116]⟩ : ByteArray)] from rfl) (Reps.none _ _)))))))); intro v243 w10 ho11 hb hg_ hnew_; clear hg_ hnew_; (first | rw [← Ny242.out] at ho11 | (simp only [Int.reduceToNat] at ho11; rw [← Ny242.out] at ho11)); have HO244 := Aside0.mk (Kd.R_lower ho11 (keep_size (w := w) (g := g) (row := none) (by repeat (first | (with_reducible first | exact HK.out | apply KeepBut.set_ | apply keep_drewN | apply keep_drew | apply keep_alloc | refine keep_far ?_ GW238.out _) | exact HK.out)))); replace BK238 := Aside0.mk (blk_below (g := gb238) (o := .cells #[.int .i64 0, .string (⟨#[]⟩ : ByteArray), .int .i64 0, .int .i64 0] 42 (0, 0)) (bk BK238.out) hb); replace HK := Aside0.mk (KeepBut.trans (by repeat (first | (with_reducible first | exact HK.out | apply KeepBut.set_ | apply keep_drewN | apply keep_drew | apply keep_alloc | refine keep_far ?_ GW238.out _) | exact HK.out)) (KeepBut.of_below hb g none) (.inl rfl)); replace HB := Aside0.mk (below_step (by repeat (first | (with_reducible first | exact HB.out | apply below_alloc | apply pw_below_drewN | apply below_drew1 | refine below_set ?_ (IsS108.ge HI0.out) | refine below_set ?_ GE238.out) | exact HB.out)) hb); replace HI0 := Aside0.mk (IsS108.below (by repeat (first | (with_reducible first | exact HI0.out | apply IsS108.alloc | apply IsS108.drewN | apply IsS108.drew | apply IsS108.set_1 | apply IsS108.set_2 | refine IsS108.far ?_ NB0_238.out _) | exact HI0.out)) hb); clear hb ho11; obtain ⟨Ao12, co12, eo12⟩ := Kd.R_slice HO244.out; subst eo12) | ((with_reducible refine gate_callee (f := 66) rfl ?_); refine goesL_ (some 9) rfl rfl Try.func66 (by kernel_rfl) rfl #[.pointer (some ⟨g, 0, none⟩), .slice Ao12 y242.length co12] rfl (by (try simp only [am_]); first | done | rfl) ?_; (with_reducible refine (spec_l1Pick.calls g s0_0 t240 t241 _ _ y242 t245 t246 t247 w0 _ ?side1 ?side2 ?side3 ?side4 ?side5 A3.out).mono ?_); (case side1 => repeat (first | (with_reducible first | exact HI0.out | apply IsS108.alloc | apply IsS108.drewN | apply IsS108.drew | apply IsS108.set_1 | apply IsS108.set_2 | refine IsS108.far ?_ NB0_238.out _) | exact HI0.out)); (case side2 => repeat (first | (with_reducible first | exact HB.out | apply below_alloc | apply pw_below_drewN | apply below_drew1 | refine below_set ?_ (IsS108.ge HI0.out) | refine below_set ?_ GE238.out) | exact HB.out)); (case side3 => exact rc (Kd.R_reads' HO244.out).2.2); (case side4 => exact (Kd.R_reads' HO244.out).2.1); (case side5 => exact far_slice (IsS108.own_ne HI0.out HO244.out (by decide))); rintro e w13 ⟨rfl, hi, hb, hk⟩; refine ⟨_, rfl, ?_⟩; replace BK238 := Aside0.mk (KeepBut.blk hk (g' := gb238) (o := .cells #[.int .i64 0, .string (⟨#[]⟩ : ByteArray), .int .i64 0, .int .i64 0] 42 (0, 0)) (bk BK238.out) NB238_0.out (by simp)); replace HO244 := Aside0.mk (Kd.R_mono (Kd.R_keep (IsS108.apart (show IsS108 w0 _ g s0_0 t240 t241 from by repeat (first | (with_reducible first | exact HI0.out | apply IsS108.alloc | apply IsS108.drewN | apply IsS108.drew | apply IsS108.set_1 | apply IsS108.set_2 | refine IsS108.far ?_ NB0_238.out _) | exact HI0.out)) (rl HO244.out) (by decide)) hk (fun _ h => h.2)) (fun _ h => h.1)); replace HK := Aside0.mk (KeepBut.trans (by repeat (first | (with_reducible first | exact HK.out | apply KeepBut.set_ | apply keep_drewN | apply keep_drew | apply keep_alloc | refine keep_far ?_ GW238.out _) | exact HK.out)) hk (.inl rfl)); replace HB := Aside0.mk (hb); replace HI0 := Aside0.mk (hi); (try clear hb); (try clear hb2); (try clear hk); (try clear hi)) | ((with_reducible refine gate_callee (f := 28) rfl ?_); refine goesL_ (some 11) rfl rfl Try.func28 (by kernel_rfl) rfl #[.pointer (some ⟨g, 0, none⟩), .int .i64 12] rfl (by (try simp only [am_]); first | done | rfl) ?_; (with_reducible refine (spec_l1Below.calls g s0_0 t246 t247 12 t248 t249 t250 w0 _ ?side1 ?side2 A4.out).mono ?_); (case side1 => repeat (first | (with_reducible first | exact HI0.out | apply IsS108.alloc | apply IsS108.drewN | apply IsS108.drew | apply IsS108.set_1 | apply IsS108.set_2 | refine IsS108.far ?_ NB0_238.out _) | exact HI0.out)); (case side2 => repeat (first | (with_reducible first | exact HB.out | apply below_alloc | apply pw_below_drewN | apply below_drew1 | refine below_set ?_ (IsS108.ge HI0.out) | refine below_set ?_ GE238.out) | exact HB.out)); rintro e w14 ⟨rfl, hi, hb, hk⟩; refine ⟨_, rfl, ?_⟩; replace BK238 := Aside0.mk (KeepBut.blk hk (g' := gb238) (o := .cells #[.int .i64 0, .string (⟨#[]⟩ : ByteArray), .int .i64 0, .int .i64 0] 42 (0, 0)) (bk BK238.out) NB238_0.out (by simp)); replace HO244 := Aside0.mk (Kd.R_mono (Kd.R_keep (IsS108.apart (show IsS108 w0 _ g s0_0 t246 t247 from by repeat (first | (with_reducible first | exact HI0.out | apply IsS108.alloc | apply IsS108.drewN | apply IsS108.drew | apply IsS108.set_1 | apply IsS108.set_2 | refine IsS108.far ?_ NB0_238.out _) | exact HI0.out)) (rl HO244.out) (by decide)) hk (fun _ h => h.2)) (fun _ h => h.1)); replace HK := Aside0.mk (KeepBut.trans (by repeat (first | (with_reducible first | exact HK.out | apply KeepBut.set_ | apply keep_drewN | apply keep_drew | apply keep_alloc | refine keep_far ?_ GW238.out _) | exact HK.out)) hk (.inl rfl)); replace HB := Aside0.mk (hb); replace HI0 := Aside0.mk (hi); (try clear hb); (try clear hb2); (try clear hk); (try clear hi)) | ((with_reducible refine gate_callee (f := 28) rfl ?_); refine goesL_ (some 14) rfl rfl Try.func28 (by kernel_rfl) rfl #[.pointer (some ⟨g, 0, none⟩), .int .i64 15] rfl (by (try simp only [am_]); first | done | rfl) ?_; (with_reducible refine (spec_l1Below.calls g s0_0 t249 t250 15 t251 t252 t253 w0 _ ?side1 ?side2 A5.out).mono ?_); (case side1 => repeat (first | (with_reducible first | exact HI0.out | apply IsS108.alloc | apply IsS108.drewN | apply IsS108.drew | apply IsS108.set_1 | apply IsS108.set_2 | refine IsS108.far ?_ NB0_238.out _) | exact HI0.out)); (case side2 => repeat (first | (with_reducible first | exact HB.out | apply below_alloc | apply pw_below_drewN | apply below_drew1 | refine below_set ?_ (IsS108.ge HI0.out) | refine below_set ?_ GE238.out) | exact HB.out)); rintro e w15 ⟨rfl, hi, hb, hk⟩; refine ⟨_, rfl, ?_⟩; replace BK238 := Aside0.mk (KeepBut.blk hk (g' := gb238) (o := .cells #[.int .i64 0, .string (⟨#[]⟩ : ByteArray), .int .i64 0, .int .i64 0] 42 (0, 0)) (bk BK238.out) NB238_0.out (by simp)); replace HO244 := Aside0.mk (Kd.R_mono (Kd.R_keep (IsS108.apart (show IsS108 w0 _ g s0_0 t249 t250 from by repeat (first | (with_reducible first | exact HI0.out | apply IsS108.alloc | apply IsS108.drewN | apply IsS108.drew | apply IsS108.set_1 | apply IsS108.set_2 | refine IsS108.far ?_ NB0_238.out _) | exact HI0.out)) (rl HO244.out) (by decide)) hk (fun _ h => h.2)) (fun _ h => h.1)); replace HK := Aside0.mk (KeepBut.trans (by repeat (first | (with_reducible first | exact HK.out | apply KeepBut.set_ | apply keep_drewN | apply keep_drew | apply keep_alloc | refine keep_far ?_ GW238.out _) | exact HK.out)) hk (.inl rfl)); replace HB := Aside0.mk (hb); replace HI0 := Aside0.mk (hi); (try clear hb); (try clear hb2); (try clear hk); (try clear hi)) | ((with_reducible refine gate_dst (N := 3) rfl ?_); refine box_event ?hg (N := 3) ?hd (cs := #[.int .i64 0, .string (⟨#[]⟩ : ByteArray), .int .i64 0, .int .i64 0]) (t := 42) ?hr ?_; (case hd => rfl); (case hg => rfl); (case hr => first | (go_simp; done) | (go_simp; rfl)); intro gb254 hg w16 hbox hb; replace HO244 := Aside0.mk (Kd.R_below (rl HO244.out) hb); replace HB := Aside0.mk (below_step (by repeat (first | (with_reducible first | exact HB.out | apply below_alloc | apply pw_below_drewN | apply below_drew1 | refine below_set ?_ (IsS108.ge HI0.out) | refine below_set ?_ GE238.out) | exact HB.out)) hb); have BK254 := Aside0.mk (hbox); have GW254 := Aside0.mk ((by rw [hg]; exact (keep_size (w := w) (g := g) (row := none) (by repeat (first | (with_reducible first | exact HK.out | apply KeepBut.set_ | apply keep_drewN | apply keep_drew | apply keep_alloc | refine keep_far ?_ GW238.out _) | exact HK.out))) : w.heap.size ≤ gb254)); have GE254 := Aside0.mk ((Nat.le_trans HW0.out (by rw [hg]; exact (keep_size (w := w) (g := g) (row := none) (by repeat (first | (with_reducible first | exact HK.out | apply KeepBut.set_ | apply keep_drewN | apply keep_drew | apply keep_alloc | refine keep_far ?_ GW238.out _) | exact HK.out))) : w.heap.size ≤ gb254) : w0.heap.size ≤ gb254)); replace HK := Aside0.mk (KeepBut.trans (by repeat (first | (with_reducible first | exact HK.out | apply KeepBut.set_ | apply keep_drewN | apply keep_drew | apply keep_alloc | refine keep_far ?_ GW238.out _) | exact HK.out)) (KeepBut.of_below hb g none) (.inl rfl)); have NB238_254 := nb_ hg BK238.out; have NB254_238 := Aside0.mk NB238_254.out.symm; replace BK238 := Aside0.mk (blk_below (g := gb238) (o := .cells #[.int .i64 0, .string (⟨#[]⟩ : ByteArray), .int .i64 0, .int .i64 0] 42 (0, 0)) (bk BK238.out) hb); have NB0_254 := Aside0.mk ((by rw [hg]; exact Nat.ne_of_lt (IsS108.lt (show IsS108 w0 _ g s0_0 t252 t253 from by repeat (first | (with_reducible first | exact HI0.out | apply IsS108.alloc | apply IsS108.drewN | apply IsS108.drew | apply IsS108.set_1 | apply IsS108.set_2 | refine IsS108.far ?_ NB0_238.out _) | exact HI0.out))) : g ≠ gb254)); have NB254_0 := Aside0.mk ((by rw [hg]; exact Nat.ne_of_gt (IsS108.lt (show IsS108 w0 _ g s0_0 t252 t253 from by repeat (first | (with_reducible first | exact HI0.out | apply IsS108.alloc | apply IsS108.drewN | apply IsS108.drew | apply IsS108.set_1 | apply IsS108.set_2 | refine IsS108.far ?_ NB0_238.out _) | exact HI0.out))) : gb254 ≠ g)); replace HI0 := Aside0.mk (IsS108.below (by repeat (first | (with_reducible first | exact HI0.out | apply IsS108.alloc | apply IsS108.drewN | apply IsS108.drew | apply IsS108.set_1 | apply IsS108.set_2 | refine IsS108.far ?_ NB0_238.out _) | exact HI0.out)) hb); clear hb hbox hg; have hnb17 := NB254_238.out; have hnc17 := NB238_254.out; have hnb18 := NB254_0.out; have hnc18 := NB0_254.out; obtain ⟨hcz19_0, hcz19_1, hcz19_2, hcz19_3⟩ := ck4 BK254.out; obtain ⟨hfz19_0, hfz19_1, hfz19_2, hfz19_3⟩ := fz4 BK254.out) | ((with_reducible refine gate_callee (f := 64) rfl ?_); refine goesL_ (some 18) rfl rfl Try.func64 (by kernel_rfl) rfl #[.pointer (some ⟨g, 0, none⟩), .int .i64 3] rfl (by (try simp only [am_]); first | done | rfl) ?_; (with_reducible refine (spec_l1Once.calls g s0_0 t252 t253 3 t255 t256 t257 w0 _ ?side1 ?side2 A6.out).mono ?_); (case side1 => repeat (first | (with_reducible first | exact HI0.out | apply IsS108.alloc | apply IsS108.drewN | apply IsS108.drew | apply IsS108.set_1 | apply IsS108.set_2 | refine IsS108.far ?_ NB0_238.out _ | refine IsS108.far ?_ NB0_254.out _) | exact HI0.out)); (case side2 => repeat (first | (with_reducible first | exact HB.out | apply below_alloc | apply pw_below_drewN | apply below_drew1 | refine below_set ?_ (IsS108.ge HI0.out) | refine below_set ?_ GE238.out | refine below_set ?_ GE254.out) | exact HB.out)); rintro e w20 ⟨rfl, hi, hb, hk⟩; refine ⟨_, rfl, ?_⟩; replace BK238 := Aside0.mk (KeepBut.blk hk (g' := gb238) (o := .cells #[.int .i64 0, .string (⟨#[]⟩ : ByteArray), .int .i64 0, .int .i64 0] 42 (0, 0)) (by (repeat refine bk1 ?_); refine blk_far ?_ NB238_254.out _; (repeat refine bk1 ?_); refine blk_far ?_ NB238_254.out _; (repeat refine bk1 ?_); refine blk_far ?_ NB238_254.out _; (repeat refine bk1 ?_); refine blk_far ?_ NB238_254.out _; (repeat refine bk1 ?_); exact BK238.out) NB238_0.out (by simp)); replace HO244 := Aside0.mk (Kd.R_mono (Kd.R_keep (IsS108.apart (show IsS108 w0 _ g s0_0 t252 t253 from by repeat (first | (with_reducible first | exact HI0.out | apply IsS108.alloc | apply IsS108.drewN | apply IsS108.drew | apply IsS108.set_1 | apply IsS108.set_2 | refine IsS108.far ?_ NB0_238.out _ | refine IsS108.far ?_ NB0_254.out _) | exact HI0.out)) (by (repeat apply rl1); exact (Kd.R_mono (Kd.R_far (p := ⟨gb254, 3, none⟩) (Kd.R_far (p := ⟨gb254, 2, none⟩) (Kd.R_far (p := ⟨gb254, 1, none⟩) (Kd.R_far (p := ⟨gb254, 0, none⟩) (Kd.R_types HO244.out BK254.out (by decide)) (fun _ hk => hk.2) (.int .i64 (wrap64 (1 + t239)))) (fun _ hk => hk.2) (.string t245)) (fun _ hk => hk.2) (.int .i64 (wrap64 (1 + t248)))) (fun _ hk => hk.2) (.int .i64 (wrap64 (1 + t251)))) (fun _ h_ => h_.1))) (by decide)) hk (fun _ h => h.2)) (fun _ h => h.1)); replace BK254 := Aside0.mk (KeepBut.blk hk (g' := gb254) (o := .cells #[.int .i64 (wrap64 (1 + t239)), .string t245, .int .i64 (wrap64 (1 + t248)), .int .i64 (wrap64 (1 + t251))] 42 (0, 0)) (by (repeat refine bk1 ?_); refine blk_put (cs := #[.int .i64 (wrap64 (1 + t239)), .string t245, .int .i64 (wrap64 (1 + t248)), .int .i64 0]) ?_ 3 _ rfl; (repeat refine bk1 ?_); refine blk_put (cs := #[.int .i64 (wrap64 (1 + t239)), .string t245, .int .i64 0, .int .i64 0]) ?_ 2 _ rfl; (repeat refine bk1 ?_); refine blk_put (cs := #[.int .i64 (wrap64 (1 + t239)), .string (⟨#[]⟩ : ByteArray), .int .i64 0, .int .i64 0]) ?_ 1 _ rfl; (repeat refine bk1 ?_); refine blk_put (cs := #[.int .i64 0, .string (⟨#[]⟩ : ByteArray), .int .i64 0, .int .i64 0]) ?_ 0 _ rfl; (repeat refine bk1 ?_); exact BK254.out) NB254_0.out (by simp)); replace HK := Aside0.mk (KeepBut.trans (by repeat (first | (with_reducible first | exact HK.out | apply KeepBut.set_ | apply keep_drewN | apply keep_drew | apply keep_alloc | refine keep_far ?_ GW238.out _ | refine keep_far ?_ GW254.out _) | exact HK.out)) hk (.inl rfl)); replace HB := Aside0.mk (hb); replace HI0 := Aside0.mk (hi); (try clear hb); (try clear hb2); (try clear hk); (try clear hi)))
 (try simp only [Act.put, List.setIfInBounds_toArray, List.set_cons_zero, List.set_cons_succ])
 go_cut [] (fun wc => ∃ (kq : Nat) (x255000_6 : Int), Aside0 (spec_l19DrawDeed.j0 kq s0_0 t256 t257 x255000_6 t245 (wrap64 (1 + t248)) (wrap64 (1 + t251)) = some (r1, r2, r3, r4, r5, r6)) ∧ Aside0 (kq ≤ k) ∧ Aside0 (wc.heap[gb238]? = some (.cells #[.int .i64 0, .string (⟨#[]⟩ : ByteArray), .int .i64 0, .int .i64 0] 42 (0, 0))) ∧ Aside0 (wc.heap[gb254]? = some (.cells #[.int .i64 x255000_6, .string t245, .int .i64 (wrap64 (1 + t248)), .int .i64 (wrap64 (1 + t251))] 42 (0, 0))) ∧ Aside0 (IsS108 w0 wc g s0_0 t256 t257) ∧ Aside0 (KeepBut w wc g none) ∧ Aside0 (Below w0.heap.size w0 wc))
 case first =>
  have H := HC7.out
  clear HC7
  by_cases c21 : t255 = true
  ·
   subst c21
   have H1 : (spec_l19DrawDeed.j0 k s0_0 t256 t257 1 t245 (wrap64 (1 + t248)) (wrap64 (1 + t251))) = some (r1, r2, r3, r4, r5, r6) := by rw [if_pos rfl] at H; exact H
   clear H
   have H := H1
   clear H1
   have H' := Aside0.mk H
   clear H
   have hnb22 := NB254_238.out
   have hnc22 := NB238_254.out
   have hnb23 := NB254_0.out
   have hnc23 := NB0_254.out
   obtain ⟨hcz24_0, hcz24_1, hcz24_2, hcz24_3⟩ := ck4 BK254.out
   obtain ⟨hfz24_0, hfz24_1, hfz24_2, hfz24_3⟩ := fz4 BK254.out
   go_wp2
   go_meet
   case rel => exact ⟨_, (1), H', ⟨by first | omega | exact Nat.le_refl _⟩, ⟨by (repeat refine bk1 ?_); refine blk_far ?_ NB238_254.out _; (repeat refine bk1 ?_); exact BK238.out⟩, ⟨by (repeat refine bk1 ?_); refine blk_put (cs := #[.int .i64 (wrap64 (1 + t239)), .string t245, .int .i64 (wrap64 (1 + t248)), .int .i64 (wrap64 (1 + t251))]) ?_ 0 _ rfl; (repeat refine bk1 ?_); exact BK254.out⟩, ⟨by repeat (first | (with_reducible first | exact HI0.out | apply IsS108.alloc | apply IsS108.drewN | apply IsS108.drew | apply IsS108.set_1 | apply IsS108.set_2 | refine IsS108.far ?_ NB0_238.out _ | refine IsS108.far ?_ NB0_254.out _) | exact HI0.out)⟩, ⟨by repeat (first | (with_reducible first | exact HK.out | apply KeepBut.set_ | apply keep_drewN | apply keep_drew | apply keep_alloc | refine keep_far ?_ GW238.out _ | refine keep_far ?_ GW254.out _) | exact HK.out)⟩, ⟨by repeat (first | (with_reducible first | exact HB.out | apply below_alloc | apply pw_below_drewN | apply below_drew1 | refine below_set ?_ (IsS108.ge HI0.out) | refine below_set ?_ GE238.out | refine below_set ?_ GE254.out) | exact HB.out)⟩⟩
  ·
   replace c21 := Bool.eq_false_iff.mpr c21
   subst c21
   have H1 : (spec_l19DrawDeed.j0 k s0_0 t256 t257 (wrap64 (1 + t239)) t245 (wrap64 (1 + t248)) (wrap64 (1 + t251))) = some (r1, r2, r3, r4, r5, r6) := by rw [if_neg (show ¬ (false = true) by decide)] at H; exact H
   clear H
   have H := H1
   clear H1
   have H' := Aside0.mk H
   clear H
   go_wp2
   go_meet
   case rel => exact ⟨_, (wrap64 (1 + t239)), H', ⟨by first | omega | exact Nat.le_refl _⟩, ⟨bk BK238.out⟩, ⟨bk BK254.out⟩, ⟨by repeat (first | (with_reducible first | exact HI0.out | apply IsS108.alloc | apply IsS108.drewN | apply IsS108.drew | apply IsS108.set_1 | apply IsS108.set_2 | refine IsS108.far ?_ NB0_238.out _ | refine IsS108.far ?_ NB0_254.out _) | exact HI0.out)⟩, ⟨by repeat (first | (with_reducible first | exact HK.out | apply KeepBut.set_ | apply keep_drewN | apply keep_drew | apply keep_alloc | refine keep_far ?_ GW238.out _ | refine keep_far ?_ GW254.out _) | exact HK.out)⟩, ⟨by repeat (first | (with_reducible first | exact HB.out | apply below_alloc | apply pw_below_drewN | apply below_drew1 | refine below_set ?_ (IsS108.ge HI0.out) | refine below_set ?_ GE238.out | refine below_set ?_ GE254.out) | exact HB.out)⟩⟩
 case rest =>
  clear HC7
  try clear c1
  try clear c2
  try clear p2
  try clear c6
  try clear p6
  try clear c17
  try clear c18
  try clear c21
  try clear c22
  try clear c23
  try clear hcz19_0 hcz19_1 hcz19_2 hcz19_3 hfz19_0 hfz19_1 hfz19_2 hfz19_3
  try clear hcz24_0 hcz24_1 hcz24_2 hcz24_3 hfz24_0 hfz24_1 hfz24_2 hfz24_3
  obtain ⟨kq, x255000_6, HA, HJ6, BK238, BK254, HI0, HK, HB⟩ := hcut
  cases kq with
  | zero => exact absurd HA.out (by simp [spec_l19DrawDeed.j0])
  | succ kj6 =>
   have H := HA.out
   clear HA
   simp only [spec_l19DrawDeed.j0] at H
   replace H := Option.bind_eq_some_iff.mp H
   obtain ⟨⟨t258, t259, t260⟩, A250, H⟩ := H
   replace H : (if t258 = 0 then ((spec_l1PickInt.f s0_0 t259 t260 (([0, 6] : List Int))).bind fun bt264 => (some (bt264.1, t245, (wrap64 (1 + t248)), (wrap64 (1 + t251)), bt264.2.1, bt264.2.2))) else (if t258 = 1 then ((spec_l1Pick.f s0_0 t259 t260 (([(⟨#[]⟩ : ByteArray), (⟨#[97, 32, 98]⟩ : ByteArray), (⟨#[110, 111, 110, 101]⟩ : ByteArray)] : List ByteArray))).bind fun bt270 => (some (x255000_6, bt270.1, (wrap64 (1 + t248)), (wrap64 (1 + t251)), bt270.2.1, bt270.2.2))) else (if t258 = 2 then ((spec_l1PickInt.f s0_0 t259 t260 (([0, (-1), 1000000, 1000001] : List Int))).bind fun bt276 => (some (x255000_6, t245, bt276.1, (wrap64 (1 + t251)), bt276.2.1, bt276.2.2))) else (if t258 = 3 then ((spec_l1PickInt.f s0_0 t259 t260 (([0, 100, 101, 9223372036854775807] : List Int))).bind fun bt282 => (some (x255000_6, t245, (wrap64 (1 + t248)), bt282.1, bt282.2.1, bt282.2.2))) else (some (x255000_6, t245, (wrap64 (1 + t248)), (wrap64 (1 + t251)), t259, t260)))))) = some (r1, r2, r3, r4, r5, r6) := H
   have A25 := Aside0.mk A250
   clear A250
   have HC26 := Aside0.mk H
   clear H
   go_upto_if 22 with (first | ((with_reducible refine gate_callee (f := 28) rfl ?_); refine goesL_ (some 21) rfl rfl Try.func28 (by kernel_rfl) rfl #[.pointer (some ⟨g, 0, none⟩), .int .i64 40] rfl (by (try simp only [am_]); first | done | rfl) ?_; (with_reducible refine (spec_l1Below.calls g s0_0 t256 t257 40 t258 t259 t260 w0 _ ?side1 ?side2 A25.out).mono ?_); (case side1 => repeat (first | (with_reducible first | exact HI0.out | apply IsS108.alloc | apply IsS108.drewN | apply IsS108.drew | apply IsS108.set_1 | apply IsS108.set_2 | refine IsS108.far ?_ NB0_238.out _ | refine IsS108.far ?_ NB0_254.out _) | exact HI0.out)); (case side2 => repeat (first | (with_reducible first | exact HB.out | apply below_alloc | apply pw_below_drewN | apply below_drew1 | refine below_set ?_ (IsS108.ge HI0.out) | refine below_set ?_ GE238.out | refine below_set ?_ GE254.out) | exact HB.out)); rintro e w27 ⟨rfl, hi, hb, hk⟩; refine ⟨_, rfl, ?_⟩; replace BK238 := Aside0.mk (KeepBut.blk hk (g' := gb238) (o := .cells #[.int .i64 0, .string (⟨#[]⟩ : ByteArray), .int .i64 0, .int .i64 0] 42 (0, 0)) (bk BK238.out) NB238_0.out (by simp)); replace BK254 := Aside0.mk (KeepBut.blk hk (g' := gb254) (o := .cells #[.int .i64 x255000_6, .string t245, .int .i64 (wrap64 (1 + t248)), .int .i64 (wrap64 (1 + t251))] 42 (0, 0)) (bk BK254.out) NB254_0.out (by simp)); replace HK := Aside0.mk (KeepBut.trans (by repeat (first | (with_reducible first | exact HK.out | apply KeepBut.set_ | apply keep_drewN | apply keep_drew | apply keep_alloc | refine keep_far ?_ GW238.out _ | refine keep_far ?_ GW254.out _) | exact HK.out)) hk (.inl rfl)); replace HB := Aside0.mk (hb); replace HI0 := Aside0.mk (hi); (try clear hb); (try clear hb2); (try clear hk); (try clear hi)))
   have H := HC26.out
   clear HC26
   by_cases c28 : t258 = 0
   ·
    rw [if_pos c28] at H
    have c28b0 : (t258 == 0) = true := beq_iff_eq.mpr c28
    have c28b1 : (t258 != 0) = false := bne_eq_false_iff_eq.mpr c28
    clear c28
    (first | rw [c28b0] | (simp only [i64_w, i32_w]; rw [c28b0]) | skip)
    obtain ⟨y261, hy261⟩ : ∃ y_ : List Int, y_ = (([0, 6] : List Int)) := ⟨_, rfl⟩
    replace H : ((spec_l1PickInt.f s0_0 t259 t260 y261).bind fun bt264 => (some (bt264.1, t245, (wrap64 (1 + t248)), (wrap64 (1 + t251)), bt264.2.1, bt264.2.2))) = some (r1, r2, r3, r4, r5, r6) := by first | (rw [hy261]; with_reducible exact H) | (have H2_ := (Option.bind_some _ _).symm.trans H; rw [hy261]; with_reducible exact H2_) | (have H2_ := (Option.bind_some _ _).symm.trans H; with_reducible exact H2_) | with_reducible exact H | (rw [hy261]; exact H) | exact H
    have Ny261 := Aside0.mk hy261
    clear hy261
    replace H := Option.bind_eq_some_iff.mp H
    obtain ⟨⟨t264, t265, t266⟩, A290, H⟩ := H
    replace H : (some (t264, t245, (wrap64 (1 + t248)), (wrap64 (1 + t251)), t265, t266)) = some (r1, r2, r3, r4, r5, r6) := H
    have A29 := Aside0.mk A290
    clear A290
    simp only [Option.some.injEq, Prod.mk.injEq] at H
    obtain ⟨rfl, rfl, rfl, rfl, rfl, rfl⟩ := H
    go_wp2_with (first | ((with_reducible refine gate_dst (N := 25) rfl ?_); refine Kd.R_lit (Kd.int .i64) _ 3 ?hg (N := 25) ?hd (xs := ([0, 6] : List Int)) (inner := [.int .i64 0, .int .i64 6]) (ok := fun _ => True) (okp := fun _ => True) ?hr ?hp (fun _ hk => hk) trivial (Below.refl _ _) (Nat.le_refl _) (by simp) ?_; (case hd => rfl); (case hg => rfl); (case hr => first | (go_simp; done) | (go_simp; rfl)); (case hp => exact (Reps.one (show Kd.M (Kd.int .i64) _ _ _ 0 [.int .i64 0] from rfl) (Reps.one (show Kd.M (Kd.int .i64) _ _ _ 6 [.int .i64 6] from rfl) (Reps.none _ _)))); intro v262 w30 ho31 hb hg_ hnew_; clear hg_ hnew_; (first | rw [← Ny261.out] at ho31 | (simp only [Int.reduceToNat] at ho31; rw [← Ny261.out] at ho31)); have HO263 := Aside0.mk (Kd.R_lower ho31 (keep_size (w := w) (g := g) (row := none) (by repeat (first | (with_reducible first | exact HK.out | apply KeepBut.set_ | apply keep_drewN | apply keep_drew | apply keep_alloc | refine keep_far ?_ GW238.out _ | refine keep_far ?_ GW254.out _) | exact HK.out)))); replace BK238 := Aside0.mk (blk_below (g := gb238) (o := .cells #[.int .i64 0, .string (⟨#[]⟩ : ByteArray), .int .i64 0, .int .i64 0] 42 (0, 0)) (bk BK238.out) hb); replace BK254 := Aside0.mk (blk_below (bk BK254.out) hb); replace HK := Aside0.mk (KeepBut.trans (by repeat (first | (with_reducible first | exact HK.out | apply KeepBut.set_ | apply keep_drewN | apply keep_drew | apply keep_alloc | refine keep_far ?_ GW238.out _ | refine keep_far ?_ GW254.out _) | exact HK.out)) (KeepBut.of_below hb g none) (.inl rfl)); replace HB := Aside0.mk (below_step (by repeat (first | (with_reducible first | exact HB.out | apply below_alloc | apply pw_below_drewN | apply below_drew1 | refine below_set ?_ (IsS108.ge HI0.out) | refine below_set ?_ GE238.out | refine below_set ?_ GE254.out) | exact HB.out)) hb); replace HI0 := Aside0.mk (IsS108.below (by repeat (first | (with_reducible first | exact HI0.out | apply IsS108.alloc | apply IsS108.drewN | apply IsS108.drew | apply IsS108.set_1 | apply IsS108.set_2 | refine IsS108.far ?_ NB0_238.out _ | refine IsS108.far ?_ NB0_254.out _) | exact HI0.out)) hb); clear hb ho31; obtain ⟨Ao32, co32, eo32⟩ := Kd.R_slice HO263.out; subst eo32) | ((with_reducible refine gate_callee (f := 68) rfl ?_); refine goesL_ (some 26) rfl rfl Try.func68 (by kernel_rfl) rfl #[.pointer (some ⟨g, 0, none⟩), .slice Ao32 y261.length co32] rfl (by (try simp only [am_]); first | done | rfl) ?_; (with_reducible refine (spec_l1PickInt.calls g s0_0 t259 t260 _ _ y261 t264 t265 t266 w0 _ ?side1 ?side2 ?side3 ?side4 ?side5 A29.out).mono ?_); (case side1 => repeat (first | (with_reducible first | exact HI0.out | apply IsS108.alloc | apply IsS108.drewN | apply IsS108.drew | apply IsS108.set_1 | apply IsS108.set_2 | refine IsS108.far ?_ NB0_238.out _ | refine IsS108.far ?_ NB0_254.out _) | exact HI0.out)); (case side2 => repeat (first | (with_reducible first | exact HB.out | apply below_alloc | apply pw_below_drewN | apply below_drew1 | refine below_set ?_ (IsS108.ge HI0.out) | refine below_set ?_ GE238.out | refine below_set ?_ GE254.out) | exact HB.out)); (case side3 => exact rc (Kd.R_reads' HO263.out).2.2); (case side4 => exact (Kd.R_reads' HO263.out).2.1); (case side5 => exact far_slice (IsS108.own_ne HI0.out HO263.out (by decide))); rintro e w33 ⟨rfl, hi, hb, hk⟩; refine ⟨_, rfl, ?_⟩; replace BK238 := Aside0.mk (KeepBut.blk hk (g' := gb238) (o := .cells #[.int .i64 0, .string (⟨#[]⟩ : ByteArray), .int .i64 0, .int .i64 0] 42 (0, 0)) (bk BK238.out) NB238_0.out (by simp)); replace BK254 := Aside0.mk (KeepBut.blk hk (g' := gb254) (o := .cells #[.int .i64 x255000_6, .string t245, .int .i64 (wrap64 (1 + t248)), .int .i64 (wrap64 (1 + t251))] 42 (0, 0)) (bk BK254.out) NB254_0.out (by simp)); replace HO263 := Aside0.mk (Kd.R_mono (Kd.R_keep (IsS108.apart (show IsS108 w0 _ g s0_0 t259 t260 from by repeat (first | (with_reducible first | exact HI0.out | apply IsS108.alloc | apply IsS108.drewN | apply IsS108.drew | apply IsS108.set_1 | apply IsS108.set_2 | refine IsS108.far ?_ NB0_238.out _ | refine IsS108.far ?_ NB0_254.out _) | exact HI0.out)) (rl HO263.out) (by decide)) hk (fun _ h => h.2)) (fun _ h => h.1)); replace HK := Aside0.mk (KeepBut.trans (by repeat (first | (with_reducible first | exact HK.out | apply KeepBut.set_ | apply keep_drewN | apply keep_drew | apply keep_alloc | refine keep_far ?_ GW238.out _ | refine keep_far ?_ GW254.out _) | exact HK.out)) hk (.inl rfl)); replace HB := Aside0.mk (hb); replace HI0 := Aside0.mk (hi); (try clear hb); (try clear hb2); (try clear hk); (try clear hi); have hnb34 := NB254_238.out; have hnc34 := NB238_254.out; have hnb35 := NB254_0.out; have hnc35 := NB0_254.out; obtain ⟨hcz36_0, hcz36_1, hcz36_2, hcz36_3⟩ := ck4 BK254.out; obtain ⟨hfz36_0, hfz36_1, hfz36_2, hfz36_3⟩ := fz4 BK254.out; have hnb37 := NB238_0.out; have hnc37 := NB0_238.out; obtain ⟨hcz38_0, hcz38_1, hcz38_2, hcz38_3⟩ := ck4 BK238.out; obtain ⟨hfz38_0, hfz38_1, hfz38_2, hfz38_3⟩ := fz4 BK238.out))
    refine bodyPost_ret (results_cell_row rfl _ _ gb238 42 #[.int .i64 t264, .string t245, .int .i64 (wrap64 (1 + t248)), .int .i64 (wrap64 (1 + t251))] (0, 0) _ rfl (by (repeat refine bk1 ?_); refine blk_put (cs := #[.int .i64 t264, .string t245, .int .i64 (wrap64 (1 + t248)), .int .i64 0]) ?_ 3 _ rfl; (repeat refine bk1 ?_); refine blk_put (cs := #[.int .i64 t264, .string t245, .int .i64 0, .int .i64 0]) ?_ 2 _ rfl; (repeat refine bk1 ?_); refine blk_put (cs := #[.int .i64 t264, .string (⟨#[]⟩ : ByteArray), .int .i64 0, .int .i64 0]) ?_ 1 _ rfl; (repeat refine bk1 ?_); refine blk_put (cs := #[.int .i64 0, .string (⟨#[]⟩ : ByteArray), .int .i64 0, .int .i64 0]) ?_ 0 _ rfl; (repeat refine bk1 ?_); refine blk_far ?_ NB238_254.out _; (repeat refine bk1 ?_); exact BK238.out) Try.underlying42 rfl (by kernel_rfl)) rfl ?_
    exact ⟨by first | rfl | (simp [errW_none, errW_some] <;> rfl) | (simp [*, errW_none, errW_some] <;> rfl), by repeat (first | (with_reducible first | exact HI0.out | apply IsS108.alloc | apply IsS108.drewN | apply IsS108.drew | apply IsS108.set_1 | apply IsS108.set_2 | refine IsS108.far ?_ NB0_238.out _ | refine IsS108.far ?_ NB0_254.out _) | exact HI0.out), by repeat (first | (with_reducible first | exact HB.out | apply below_alloc | apply pw_below_drewN | apply below_drew1 | refine below_set ?_ (IsS108.ge HI0.out) | refine below_set ?_ GE238.out | refine below_set ?_ GE254.out) | exact HB.out), by repeat (first | (with_reducible first | exact HK.out | apply KeepBut.set_ | apply keep_drewN | apply keep_drew | apply keep_alloc | refine keep_far ?_ GW238.out _ | refine keep_far ?_ GW254.out _) | exact HK.out)⟩
   ·
    rw [if_neg c28] at H
    have c28b0 : (t258 == 0) = false := beq_eq_false_iff_ne.mpr c28
    have c28b1 : (t258 != 0) = true := bne_iff_ne.mpr c28
    (first | rw [c28b0] | (simp only [i64_w, i32_w]; rw [c28b0]) | skip)
    by_cases c39 : t258 = 1
    ·
     rw [if_pos c39] at H
     have c39b0 : (t258 == 1) = true := beq_iff_eq.mpr c39
     have c39b1 : (t258 != 1) = false := bne_eq_false_iff_eq.mpr c39
     clear c39
     obtain ⟨y267, hy267⟩ : ∃ y_ : List ByteArray, y_ = (([(⟨#[]⟩ : ByteArray), (⟨#[97, 32, 98]⟩ : ByteArray), (⟨#[110, 111, 110, 101]⟩ : ByteArray)] : List ByteArray)) := ⟨_, rfl⟩
     replace H : ((spec_l1Pick.f s0_0 t259 t260 y267).bind fun bt270 => (some (x255000_6, bt270.1, (wrap64 (1 + t248)), (wrap64 (1 + t251)), bt270.2.1, bt270.2.2))) = some (r1, r2, r3, r4, r5, r6) := by first | (rw [hy267]; with_reducible exact H) | (have H2_ := (Option.bind_some _ _).symm.trans H; rw [hy267]; with_reducible exact H2_) | (have H2_ := (Option.bind_some _ _).symm.trans H; with_reducible exact H2_) | with_reducible exact H | (rw [hy267]; exact H) | exact H
     have Ny267 := Aside0.mk hy267
     clear hy267
     replace H := Option.bind_eq_some_iff.mp H
     obtain ⟨⟨t270, t271, t272⟩, A400, H⟩ := H
     replace H : (some (x255000_6, t270, (wrap64 (1 + t248)), (wrap64 (1 + t251)), t271, t272)) = some (r1, r2, r3, r4, r5, r6) := H
     have A40 := Aside0.mk A400
     clear A400
     simp only [Option.some.injEq, Prod.mk.injEq] at H
     obtain ⟨rfl, rfl, rfl, rfl, rfl, rfl⟩ := H
     go_wp2_with (first | ((with_reducible refine gate_dst (N := 31) rfl ?_); refine Kd.R_lit Kd.string _ 9 ?hg (N := 31) ?hd (xs := ([(⟨#[]⟩ : ByteArray), (⟨#[97, 32, 98]⟩ : ByteArray), (⟨#[110, 111, 110, 101]⟩ : ByteArray)] : List ByteArray)) (inner := [.string (⟨#[]⟩ : ByteArray), .string (⟨#[97, 32, 98]⟩ : ByteArray), .string (⟨#[110, 111, 110, 101]⟩ : ByteArray)]) (ok := fun _ => True) (okp := fun _ => True) ?hr ?hp (fun _ hk => hk) trivial (Below.refl _ _) (Nat.le_refl _) (by simp) ?_; (case hd => rfl); (case hg => rfl); (case hr => first | (go_simp; done) | (go_simp; rfl)); (case hp => exact (Reps.one (show Kd.M Kd.string _ _ _ (⟨#[]⟩ : ByteArray) [.string (⟨#[]⟩ : ByteArray)] from rfl) (Reps.one (show Kd.M Kd.string _ _ _ (⟨#[97, 32, 98]⟩ : ByteArray) [.string (⟨#[97, 32, 98]⟩ : ByteArray)] from rfl) (Reps.one (show Kd.M Kd.string _ _ _ (⟨#[110, 111, 110, 101]⟩ : ByteArray) [.string (⟨#[110, 111, 110, 101]⟩ : ByteArray)] from rfl) (Reps.none _ _))))); intro v268 w41 ho42 hb hg_ hnew_; clear hg_ hnew_; (first | rw [← Ny267.out] at ho42 | (simp only [Int.reduceToNat] at ho42; rw [← Ny267.out] at ho42)); have HO269 := Aside0.mk (Kd.R_lower ho42 (keep_size (w := w) (g := g) (row := none) (by repeat (first | (with_reducible first | exact HK.out | apply KeepBut.set_ | apply keep_drewN | apply keep_drew | apply keep_alloc | refine keep_far ?_ GW238.out _ | refine keep_far ?_ GW254.out _) | exact HK.out)))); replace BK238 := Aside0.mk (blk_below (g := gb238) (o := .cells #[.int .i64 0, .string (⟨#[]⟩ : ByteArray), .int .i64 0, .int .i64 0] 42 (0, 0)) (bk BK238.out) hb); replace BK254 := Aside0.mk (blk_below (bk BK254.out) hb); replace HK := Aside0.mk (KeepBut.trans (by repeat (first | (with_reducible first | exact HK.out | apply KeepBut.set_ | apply keep_drewN | apply keep_drew | apply keep_alloc | refine keep_far ?_ GW238.out _ | refine keep_far ?_ GW254.out _) | exact HK.out)) (KeepBut.of_below hb g none) (.inl rfl)); replace HB := Aside0.mk (below_step (by repeat (first | (with_reducible first | exact HB.out | apply below_alloc | apply pw_below_drewN | apply below_drew1 | refine below_set ?_ (IsS108.ge HI0.out) | refine below_set ?_ GE238.out | refine below_set ?_ GE254.out) | exact HB.out)) hb); replace HI0 := Aside0.mk (IsS108.below (by repeat (first | (with_reducible first | exact HI0.out | apply IsS108.alloc | apply IsS108.drewN | apply IsS108.drew | apply IsS108.set_1 | apply IsS108.set_2 | refine IsS108.far ?_ NB0_238.out _ | refine IsS108.far ?_ NB0_254.out _) | exact HI0.out)) hb); clear hb ho42; obtain ⟨Ao43, co43, eo43⟩ := Kd.R_slice HO269.out; subst eo43) | ((with_reducible refine gate_callee (f := 66) rfl ?_); refine goesL_ (some 32) rfl rfl Try.func66 (by kernel_rfl) rfl #[.pointer (some ⟨g, 0, none⟩), .slice Ao43 y267.length co43] rfl (by (try simp only [am_]); first | done | rfl) ?_; (with_reducible refine (spec_l1Pick.calls g s0_0 t259 t260 _ _ y267 t270 t271 t272 w0 _ ?side1 ?side2 ?side3 ?side4 ?side5 A40.out).mono ?_); (case side1 => repeat (first | (with_reducible first | exact HI0.out | apply IsS108.alloc | apply IsS108.drewN | apply IsS108.drew | apply IsS108.set_1 | apply IsS108.set_2 | refine IsS108.far ?_ NB0_238.out _ | refine IsS108.far ?_ NB0_254.out _) | exact HI0.out)); (case side2 => repeat (first | (with_reducible first | exact HB.out | apply below_alloc | apply pw_below_drewN | apply below_drew1 | refine below_set ?_ (IsS108.ge HI0.out) | refine below_set ?_ GE238.out | refine below_set ?_ GE254.out) | exact HB.out)); (case side3 => exact rc (Kd.R_reads' HO269.out).2.2); (case side4 => exact (Kd.R_reads' HO269.out).2.1); (case side5 => exact far_slice (IsS108.own_ne HI0.out HO269.out (by decide))); rintro e w44 ⟨rfl, hi, hb, hk⟩; refine ⟨_, rfl, ?_⟩; replace BK238 := Aside0.mk (KeepBut.blk hk (g' := gb238) (o := .cells #[.int .i64 0, .string (⟨#[]⟩ : ByteArray), .int .i64 0, .int .i64 0] 42 (0, 0)) (bk BK238.out) NB238_0.out (by simp)); replace BK254 := Aside0.mk (KeepBut.blk hk (g' := gb254) (o := .cells #[.int .i64 x255000_6, .string t245, .int .i64 (wrap64 (1 + t248)), .int .i64 (wrap64 (1 + t251))] 42 (0, 0)) (bk BK254.out) NB254_0.out (by simp)); replace HO269 := Aside0.mk (Kd.R_mono (Kd.R_keep (IsS108.apart (show IsS108 w0 _ g s0_0 t259 t260 from by repeat (first | (with_reducible first | exact HI0.out | apply IsS108.alloc | apply IsS108.drewN | apply IsS108.drew | apply IsS108.set_1 | apply IsS108.set_2 | refine IsS108.far ?_ NB0_238.out _ | refine IsS108.far ?_ NB0_254.out _) | exact HI0.out)) (rl HO269.out) (by decide)) hk (fun _ h => h.2)) (fun _ h => h.1)); replace HK := Aside0.mk (KeepBut.trans (by repeat (first | (with_reducible first | exact HK.out | apply KeepBut.set_ | apply keep_drewN | apply keep_drew | apply keep_alloc | refine keep_far ?_ GW238.out _ | refine keep_far ?_ GW254.out _) | exact HK.out)) hk (.inl rfl)); replace HB := Aside0.mk (hb); replace HI0 := Aside0.mk (hi); (try clear hb); (try clear hb2); (try clear hk); (try clear hi); have hnb45 := NB254_238.out; have hnc45 := NB238_254.out; have hnb46 := NB254_0.out; have hnc46 := NB0_254.out; obtain ⟨hcz47_0, hcz47_1, hcz47_2, hcz47_3⟩ := ck4 BK254.out; obtain ⟨hfz47_0, hfz47_1, hfz47_2, hfz47_3⟩ := fz4 BK254.out; have hnb48 := NB238_0.out; have hnc48 := NB0_238.out; obtain ⟨hcz49_0, hcz49_1, hcz49_2, hcz49_3⟩ := ck4 BK238.out; obtain ⟨hfz49_0, hfz49_1, hfz49_2, hfz49_3⟩ := fz4 BK238.out))
     refine bodyPost_ret (results_cell_row rfl _ _ gb238 42 #[.int .i64 x255000_6, .string t270, .int .i64 (wrap64 (1 + t248)), .int .i64 (wrap64 (1 + t251))] (0, 0) _ rfl (by (repeat refine bk1 ?_); refine blk_put (cs := #[.int .i64 x255000_6, .string t270, .int .i64 (wrap64 (1 + t248)), .int .i64 0]) ?_ 3 _ rfl; (repeat refine bk1 ?_); refine blk_put (cs := #[.int .i64 x255000_6, .string t270, .int .i64 0, .int .i64 0]) ?_ 2 _ rfl; (repeat refine bk1 ?_); refine blk_put (cs := #[.int .i64 x255000_6, .string (⟨#[]⟩ : ByteArray), .int .i64 0, .int .i64 0]) ?_ 1 _ rfl; (repeat refine bk1 ?_); refine blk_put (cs := #[.int .i64 0, .string (⟨#[]⟩ : ByteArray), .int .i64 0, .int .i64 0]) ?_ 0 _ rfl; (repeat refine bk1 ?_); refine blk_far ?_ NB238_254.out _; (repeat refine bk1 ?_); exact BK238.out) Try.underlying42 rfl (by kernel_rfl)) rfl ?_
     exact ⟨by first | rfl | (simp [errW_none, errW_some] <;> rfl) | (simp [*, errW_none, errW_some] <;> rfl), by repeat (first | (with_reducible first | exact HI0.out | apply IsS108.alloc | apply IsS108.drewN | apply IsS108.drew | apply IsS108.set_1 | apply IsS108.set_2 | refine IsS108.far ?_ NB0_238.out _ | refine IsS108.far ?_ NB0_254.out _) | exact HI0.out), by repeat (first | (with_reducible first | exact HB.out | apply below_alloc | apply pw_below_drewN | apply below_drew1 | refine below_set ?_ (IsS108.ge HI0.out) | refine below_set ?_ GE238.out | refine below_set ?_ GE254.out) | exact HB.out), by repeat (first | (with_reducible first | exact HK.out | apply KeepBut.set_ | apply keep_drewN | apply keep_drew | apply keep_alloc | refine keep_far ?_ GW238.out _ | refine keep_far ?_ GW254.out _) | exact HK.out)⟩
    ·
     rw [if_neg c39] at H
     have c39b0 : (t258 == 1) = false := beq_eq_false_iff_ne.mpr c39
     have c39b1 : (t258 != 1) = true := bne_iff_ne.mpr c39
     by_cases c50 : t258 = 2
     ·
      rw [if_pos c50] at H
      have c50b0 : (t258 == 2) = true := beq_iff_eq.mpr c50
      have c50b1 : (t258 != 2) = false := bne_eq_false_iff_eq.mpr c50
      clear c50
      obtain ⟨y273, hy273⟩ : ∃ y_ : List Int, y_ = (([0, (-1), 1000000, 1000001] : List Int)) := ⟨_, rfl⟩
      replace H : ((spec_l1PickInt.f s0_0 t259 t260 y273).bind fun bt276 => (some (x255000_6, t245, bt276.1, (wrap64 (1 + t251)), bt276.2.1, bt276.2.2))) = some (r1, r2, r3, r4, r5, r6) := by first | (rw [hy273]; with_reducible exact H) | (have H2_ := (Option.bind_some _ _).symm.trans H; rw [hy273]; with_reducible exact H2_) | (have H2_ := (Option.bind_some _ _).symm.trans H; with_reducible exact H2_) | with_reducible exact H | (rw [hy273]; exact H) | exact H
      have Ny273 := Aside0.mk hy273
      clear hy273
      replace H := Option.bind_eq_some_iff.mp H
      obtain ⟨⟨t276, t277, t278⟩, A510, H⟩ := H
      replace H : (some (x255000_6, t245, t276, (wrap64 (1 + t251)), t277, t278)) = some (r1, r2, r3, r4, r5, r6) := H
      have A51 := Aside0.mk A510
      clear A510
      simp only [Option.some.injEq, Prod.mk.injEq] at H
      obtain ⟨rfl, rfl, rfl, rfl, rfl, rfl⟩ := H
      go_wp2_with (first | ((with_reducible refine gate_dst (N := 37) rfl ?_); refine Kd.R_lit (Kd.int .i64) _ 3 ?hg (N := 37) ?hd (xs := ([0, (-1), 1000000, 1000001] : List Int)) (inner := [.int .i64 0, .int .i64 (-1), .int .i64 1000000, .int .i64 1000001]) (ok := fun _ => True) (okp := fun _ => True) ?hr ?hp (fun _ hk => hk) trivial (Below.refl _ _) (Nat.le_refl _) (by simp) ?_; (case hd => rfl); (case hg => rfl); (case hr => first | (go_simp; done) | (go_simp; rfl)); (case hp => exact (Reps.one (show Kd.M (Kd.int .i64) _ _ _ 0 [.int .i64 0] from rfl) (Reps.one (show Kd.M (Kd.int .i64) _ _ _ (-1) [.int .i64 (-1)] from rfl) (Reps.one (show Kd.M (Kd.int .i64) _ _ _ 1000000 [.int .i64 1000000] from rfl) (Reps.one (show Kd.M (Kd.int .i64) _ _ _ 1000001 [.int .i64 1000001] from rfl) (Reps.none _ _)))))); intro v274 w52 ho53 hb hg_ hnew_; clear hg_ hnew_; (first | rw [← Ny273.out] at ho53 | (simp only [Int.reduceToNat] at ho53; rw [← Ny273.out] at ho53)); have HO275 := Aside0.mk (Kd.R_lower ho53 (keep_size (w := w) (g := g) (row := none) (by repeat (first | (with_reducible first | exact HK.out | apply KeepBut.set_ | apply keep_drewN | apply keep_drew | apply keep_alloc | refine keep_far ?_ GW238.out _ | refine keep_far ?_ GW254.out _) | exact HK.out)))); replace BK238 := Aside0.mk (blk_below (g := gb238) (o := .cells #[.int .i64 0, .string (⟨#[]⟩ : ByteArray), .int .i64 0, .int .i64 0] 42 (0, 0)) (bk BK238.out) hb); replace BK254 := Aside0.mk (blk_below (bk BK254.out) hb); replace HK := Aside0.mk (KeepBut.trans (by repeat (first | (with_reducible first | exact HK.out | apply KeepBut.set_ | apply keep_drewN | apply keep_drew | apply keep_alloc | refine keep_far ?_ GW238.out _ | refine keep_far ?_ GW254.out _) | exact HK.out)) (KeepBut.of_below hb g none) (.inl rfl)); replace HB := Aside0.mk (below_step (by repeat (first | (with_reducible first | exact HB.out | apply below_alloc | apply pw_below_drewN | apply below_drew1 | refine below_set ?_ (IsS108.ge HI0.out) | refine below_set ?_ GE238.out | refine below_set ?_ GE254.out) | exact HB.out)) hb); replace HI0 := Aside0.mk (IsS108.below (by repeat (first | (with_reducible first | exact HI0.out | apply IsS108.alloc | apply IsS108.drewN | apply IsS108.drew | apply IsS108.set_1 | apply IsS108.set_2 | refine IsS108.far ?_ NB0_238.out _ | refine IsS108.far ?_ NB0_254.out _) | exact HI0.out)) hb); clear hb ho53; obtain ⟨Ao54, co54, eo54⟩ := Kd.R_slice HO275.out; subst eo54) | ((with_reducible refine gate_callee (f := 68) rfl ?_); refine goesL_ (some 38) rfl rfl Try.func68 (by kernel_rfl) rfl #[.pointer (some ⟨g, 0, none⟩), .slice Ao54 y273.length co54] rfl (by (try simp only [am_]); first | done | rfl) ?_; (with_reducible refine (spec_l1PickInt.calls g s0_0 t259 t260 _ _ y273 t276 t277 t278 w0 _ ?side1 ?side2 ?side3 ?side4 ?side5 A51.out).mono ?_); (case side1 => repeat (first | (with_reducible first | exact HI0.out | apply IsS108.alloc | apply IsS108.drewN | apply IsS108.drew | apply IsS108.set_1 | apply IsS108.set_2 | refine IsS108.far ?_ NB0_238.out _ | refine IsS108.far ?_ NB0_254.out _) | exact HI0.out)); (case side2 => repeat (first | (with_reducible first | exact HB.out | apply below_alloc | apply pw_below_drewN | apply below_drew1 | refine below_set ?_ (IsS108.ge HI0.out) | refine below_set ?_ GE238.out | refine below_set ?_ GE254.out) | exact HB.out)); (case side3 => exact rc (Kd.R_reads' HO275.out).2.2); (case side4 => exact (Kd.R_reads' HO275.out).2.1); (case side5 => exact far_slice (IsS108.own_ne HI0.out HO275.out (by decide))); rintro e w55 ⟨rfl, hi, hb, hk⟩; refine ⟨_, rfl, ?_⟩; replace BK238 := Aside0.mk (KeepBut.blk hk (g' := gb238) (o := .cells #[.int .i64 0, .string (⟨#[]⟩ : ByteArray), .int .i64 0, .int .i64 0] 42 (0, 0)) (bk BK238.out) NB238_0.out (by simp)); replace BK254 := Aside0.mk (KeepBut.blk hk (g' := gb254) (o := .cells #[.int .i64 x255000_6, .string t245, .int .i64 (wrap64 (1 + t248)), .int .i64 (wrap64 (1 + t251))] 42 (0, 0)) (bk BK254.out) NB254_0.out (by simp)); replace HO275 := Aside0.mk (Kd.R_mono (Kd.R_keep (IsS108.apart (show IsS108 w0 _ g s0_0 t259 t260 from by repeat (first | (with_reducible first | exact HI0.out | apply IsS108.alloc | apply IsS108.drewN | apply IsS108.drew | apply IsS108.set_1 | apply IsS108.set_2 | refine IsS108.far ?_ NB0_238.out _ | refine IsS108.far ?_ NB0_254.out _) | exact HI0.out)) (rl HO275.out) (by decide)) hk (fun _ h => h.2)) (fun _ h => h.1)); replace HK := Aside0.mk (KeepBut.trans (by repeat (first | (with_reducible first | exact HK.out | apply KeepBut.set_ | apply keep_drewN | apply keep_drew | apply keep_alloc | refine keep_far ?_ GW238.out _ | refine keep_far ?_ GW254.out _) | exact HK.out)) hk (.inl rfl)); replace HB := Aside0.mk (hb); replace HI0 := Aside0.mk (hi); (try clear hb); (try clear hb2); (try clear hk); (try clear hi); have hnb56 := NB254_238.out; have hnc56 := NB238_254.out; have hnb57 := NB254_0.out; have hnc57 := NB0_254.out; obtain ⟨hcz58_0, hcz58_1, hcz58_2, hcz58_3⟩ := ck4 BK254.out; obtain ⟨hfz58_0, hfz58_1, hfz58_2, hfz58_3⟩ := fz4 BK254.out; have hnb59 := NB238_0.out; have hnc59 := NB0_238.out; obtain ⟨hcz60_0, hcz60_1, hcz60_2, hcz60_3⟩ := ck4 BK238.out; obtain ⟨hfz60_0, hfz60_1, hfz60_2, hfz60_3⟩ := fz4 BK238.out))
      refine bodyPost_ret (results_cell_row rfl _ _ gb238 42 #[.int .i64 x255000_6, .string t245, .int .i64 t276, .int .i64 (wrap64 (1 + t251))] (0, 0) _ rfl (by (repeat refine bk1 ?_); refine blk_put (cs := #[.int .i64 x255000_6, .string t245, .int .i64 t276, .int .i64 0]) ?_ 3 _ rfl; (repeat refine bk1 ?_); refine blk_put (cs := #[.int .i64 x255000_6, .string t245, .int .i64 0, .int .i64 0]) ?_ 2 _ rfl; (repeat refine bk1 ?_); refine blk_put (cs := #[.int .i64 x255000_6, .string (⟨#[]⟩ : ByteArray), .int .i64 0, .int .i64 0]) ?_ 1 _ rfl; (repeat refine bk1 ?_); refine blk_put (cs := #[.int .i64 0, .string (⟨#[]⟩ : ByteArray), .int .i64 0, .int .i64 0]) ?_ 0 _ rfl; (repeat refine bk1 ?_); refine blk_far ?_ NB238_254.out _; (repeat refine bk1 ?_); exact BK238.out) Try.underlying42 rfl (by kernel_rfl)) rfl ?_
      exact ⟨by first | rfl | (simp [errW_none, errW_some] <;> rfl) | (simp [*, errW_none, errW_some] <;> rfl), by repeat (first | (with_reducible first | exact HI0.out | apply IsS108.alloc | apply IsS108.drewN | apply IsS108.drew | apply IsS108.set_1 | apply IsS108.set_2 | refine IsS108.far ?_ NB0_238.out _ | refine IsS108.far ?_ NB0_254.out _) | exact HI0.out), by repeat (first | (with_reducible first | exact HB.out | apply below_alloc | apply pw_below_drewN | apply below_drew1 | refine below_set ?_ (IsS108.ge HI0.out) | refine below_set ?_ GE238.out | refine below_set ?_ GE254.out) | exact HB.out), by repeat (first | (with_reducible first | exact HK.out | apply KeepBut.set_ | apply keep_drewN | apply keep_drew | apply keep_alloc | refine keep_far ?_ GW238.out _ | refine keep_far ?_ GW254.out _) | exact HK.out)⟩
     ·
      rw [if_neg c50] at H
      have c50b0 : (t258 == 2) = false := beq_eq_false_iff_ne.mpr c50
      have c50b1 : (t258 != 2) = true := bne_iff_ne.mpr c50
      by_cases c61 : t258 = 3
      ·
       rw [if_pos c61] at H
       have c61b0 : (t258 == 3) = true := beq_iff_eq.mpr c61
       have c61b1 : (t258 != 3) = false := bne_eq_false_iff_eq.mpr c61
       clear c61
       obtain ⟨y279, hy279⟩ : ∃ y_ : List Int, y_ = (([0, 100, 101, 9223372036854775807] : List Int)) := ⟨_, rfl⟩
       replace H : ((spec_l1PickInt.f s0_0 t259 t260 y279).bind fun bt282 => (some (x255000_6, t245, (wrap64 (1 + t248)), bt282.1, bt282.2.1, bt282.2.2))) = some (r1, r2, r3, r4, r5, r6) := by first | (rw [hy279]; with_reducible exact H) | (have H2_ := (Option.bind_some _ _).symm.trans H; rw [hy279]; with_reducible exact H2_) | (have H2_ := (Option.bind_some _ _).symm.trans H; with_reducible exact H2_) | with_reducible exact H | (rw [hy279]; exact H) | exact H
       have Ny279 := Aside0.mk hy279
       clear hy279
       replace H := Option.bind_eq_some_iff.mp H
       obtain ⟨⟨t282, t283, t284⟩, A620, H⟩ := H
       replace H : (some (x255000_6, t245, (wrap64 (1 + t248)), t282, t283, t284)) = some (r1, r2, r3, r4, r5, r6) := H
       have A62 := Aside0.mk A620
       clear A620
       simp only [Option.some.injEq, Prod.mk.injEq] at H
       obtain ⟨rfl, rfl, rfl, rfl, rfl, rfl⟩ := H
       go_wp2_with (first | ((with_reducible refine gate_dst (N := 43) rfl ?_); refine Kd.R_lit (Kd.int .i64) _ 3 ?hg (N := 43) ?hd (xs := ([0, 100, 101, 9223372036854775807] : List Int)) (inner := [.int .i64 0, .int .i64 100, .int .i64 101, .int .i64 9223372036854775807]) (ok := fun _ => True) (okp := fun _ => True) ?hr ?hp (fun _ hk => hk) trivial (Below.refl _ _) (Nat.le_refl _) (by simp) ?_; (case hd => rfl); (case hg => rfl); (case hr => first | (go_simp; done) | (go_simp; rfl)); (case hp => exact (Reps.one (show Kd.M (Kd.int .i64) _ _ _ 0 [.int .i64 0] from rfl) (Reps.one (show Kd.M (Kd.int .i64) _ _ _ 100 [.int .i64 100] from rfl) (Reps.one (show Kd.M (Kd.int .i64) _ _ _ 101 [.int .i64 101] from rfl) (Reps.one (show Kd.M (Kd.int .i64) _ _ _ 9223372036854775807 [.int .i64 9223372036854775807] from rfl) (Reps.none _ _)))))); intro v280 w63 ho64 hb hg_ hnew_; clear hg_ hnew_; (first | rw [← Ny279.out] at ho64 | (simp only [Int.reduceToNat] at ho64; rw [← Ny279.out] at ho64)); have HO281 := Aside0.mk (Kd.R_lower ho64 (keep_size (w := w) (g := g) (row := none) (by repeat (first | (with_reducible first | exact HK.out | apply KeepBut.set_ | apply keep_drewN | apply keep_drew | apply keep_alloc | refine keep_far ?_ GW238.out _ | refine keep_far ?_ GW254.out _) | exact HK.out)))); replace BK238 := Aside0.mk (blk_below (g := gb238) (o := .cells #[.int .i64 0, .string (⟨#[]⟩ : ByteArray), .int .i64 0, .int .i64 0] 42 (0, 0)) (bk BK238.out) hb); replace BK254 := Aside0.mk (blk_below (bk BK254.out) hb); replace HK := Aside0.mk (KeepBut.trans (by repeat (first | (with_reducible first | exact HK.out | apply KeepBut.set_ | apply keep_drewN | apply keep_drew | apply keep_alloc | refine keep_far ?_ GW238.out _ | refine keep_far ?_ GW254.out _) | exact HK.out)) (KeepBut.of_below hb g none) (.inl rfl)); replace HB := Aside0.mk (below_step (by repeat (first | (with_reducible first | exact HB.out | apply below_alloc | apply pw_below_drewN | apply below_drew1 | refine below_set ?_ (IsS108.ge HI0.out) | refine below_set ?_ GE238.out | refine below_set ?_ GE254.out) | exact HB.out)) hb); replace HI0 := Aside0.mk (IsS108.below (by repeat (first | (with_reducible first | exact HI0.out | apply IsS108.alloc | apply IsS108.drewN | apply IsS108.drew | apply IsS108.set_1 | apply IsS108.set_2 | refine IsS108.far ?_ NB0_238.out _ | refine IsS108.far ?_ NB0_254.out _) | exact HI0.out)) hb); clear hb ho64; obtain ⟨Ao65, co65, eo65⟩ := Kd.R_slice HO281.out; subst eo65) | ((with_reducible refine gate_callee (f := 68) rfl ?_); refine goesL_ (some 44) rfl rfl Try.func68 (by kernel_rfl) rfl #[.pointer (some ⟨g, 0, none⟩), .slice Ao65 y279.length co65] rfl (by (try simp only [am_]); first | done | rfl) ?_; (with_reducible refine (spec_l1PickInt.calls g s0_0 t259 t260 _ _ y279 t282 t283 t284 w0 _ ?side1 ?side2 ?side3 ?side4 ?side5 A62.out).mono ?_); (case side1 => repeat (first | (with_reducible first | exact HI0.out | apply IsS108.alloc | apply IsS108.drewN | apply IsS108.drew | apply IsS108.set_1 | apply IsS108.set_2 | refine IsS108.far ?_ NB0_238.out _ | refine IsS108.far ?_ NB0_254.out _) | exact HI0.out)); (case side2 => repeat (first | (with_reducible first | exact HB.out | apply below_alloc | apply pw_below_drewN | apply below_drew1 | refine below_set ?_ (IsS108.ge HI0.out) | refine below_set ?_ GE238.out | refine below_set ?_ GE254.out) | exact HB.out)); (case side3 => exact rc (Kd.R_reads' HO281.out).2.2); (case side4 => exact (Kd.R_reads' HO281.out).2.1); (case side5 => exact far_slice (IsS108.own_ne HI0.out HO281.out (by decide))); rintro e w66 ⟨rfl, hi, hb, hk⟩; refine ⟨_, rfl, ?_⟩; replace BK238 := Aside0.mk (KeepBut.blk hk (g' := gb238) (o := .cells #[.int .i64 0, .string (⟨#[]⟩ : ByteArray), .int .i64 0, .int .i64 0] 42 (0, 0)) (bk BK238.out) NB238_0.out (by simp)); replace BK254 := Aside0.mk (KeepBut.blk hk (g' := gb254) (o := .cells #[.int .i64 x255000_6, .string t245, .int .i64 (wrap64 (1 + t248)), .int .i64 (wrap64 (1 + t251))] 42 (0, 0)) (bk BK254.out) NB254_0.out (by simp)); replace HO281 := Aside0.mk (Kd.R_mono (Kd.R_keep (IsS108.apart (show IsS108 w0 _ g s0_0 t259 t260 from by repeat (first | (with_reducible first | exact HI0.out | apply IsS108.alloc | apply IsS108.drewN | apply IsS108.drew | apply IsS108.set_1 | apply IsS108.set_2 | refine IsS108.far ?_ NB0_238.out _ | refine IsS108.far ?_ NB0_254.out _) | exact HI0.out)) (rl HO281.out) (by decide)) hk (fun _ h => h.2)) (fun _ h => h.1)); replace HK := Aside0.mk (KeepBut.trans (by repeat (first | (with_reducible first | exact HK.out | apply KeepBut.set_ | apply keep_drewN | apply keep_drew | apply keep_alloc | refine keep_far ?_ GW238.out _ | refine keep_far ?_ GW254.out _) | exact HK.out)) hk (.inl rfl)); replace HB := Aside0.mk (hb); replace HI0 := Aside0.mk (hi); (try clear hb); (try clear hb2); (try clear hk); (try clear hi); have hnb67 := NB254_238.out; have hnc67 := NB238_254.out; have hnb68 := NB254_0.out; have hnc68 := NB0_254.out; obtain ⟨hcz69_0, hcz69_1, hcz69_2, hcz69_3⟩ := ck4 BK254.out; obtain ⟨hfz69_0, hfz69_1, hfz69_2, hfz69_3⟩ := fz4 BK254.out; have hnb70 := NB238_0.out; have hnc70 := NB0_238.out; obtain ⟨hcz71_0, hcz71_1, hcz71_2, hcz71_3⟩ := ck4 BK238.out; obtain ⟨hfz71_0, hfz71_1, hfz71_2, hfz71_3⟩ := fz4 BK238.out))
       refine bodyPost_ret (results_cell_row rfl _ _ gb238 42 #[.int .i64 x255000_6, .string t245, .int .i64 (wrap64 (1 + t248)), .int .i64 t282] (0, 0) _ rfl (by (repeat refine bk1 ?_); refine blk_put (cs := #[.int .i64 x255000_6, .string t245, .int .i64 (wrap64 (1 + t248)), .int .i64 0]) ?_ 3 _ rfl; (repeat refine bk1 ?_); refine blk_put (cs := #[.int .i64 x255000_6, .string t245, .int .i64 0, .int .i64 0]) ?_ 2 _ rfl; (repeat refine bk1 ?_); refine blk_put (cs := #[.int .i64 x255000_6, .string (⟨#[]⟩ : ByteArray), .int .i64 0, .int .i64 0]) ?_ 1 _ rfl; (repeat refine bk1 ?_); refine blk_put (cs := #[.int .i64 0, .string (⟨#[]⟩ : ByteArray), .int .i64 0, .int .i64 0]) ?_ 0 _ rfl; (repeat refine bk1 ?_); refine blk_far ?_ NB238_254.out _; (repeat refine bk1 ?_); exact BK238.out) Try.underlying42 rfl (by kernel_rfl)) rfl ?_
       exact ⟨by first | rfl | (simp [errW_none, errW_some] <;> rfl) | (simp [*, errW_none, errW_some] <;> rfl), by repeat (first | (with_reducible first | exact HI0.out | apply IsS108.alloc | apply IsS108.drewN | apply IsS108.drew | apply IsS108.set_1 | apply IsS108.set_2 | refine IsS108.far ?_ NB0_238.out _ | refine IsS108.far ?_ NB0_254.out _) | exact HI0.out), by repeat (first | (with_reducible first | exact HB.out | apply below_alloc | apply pw_below_drewN | apply below_drew1 | refine below_set ?_ (IsS108.ge HI0.out) | refine below_set ?_ GE238.out | refine below_set ?_ GE254.out) | exact HB.out), by repeat (first | (with_reducible first | exact HK.out | apply KeepBut.set_ | apply keep_drewN | apply keep_drew | apply keep_alloc | refine keep_far ?_ GW238.out _ | refine keep_far ?_ GW254.out _) | exact HK.out)⟩
      ·
       rw [if_neg c61] at H
       have c61b0 : (t258 == 3) = false := beq_eq_false_iff_ne.mpr c61
       have c61b1 : (t258 != 3) = true := bne_iff_ne.mpr c61
       simp only [Option.some.injEq, Prod.mk.injEq] at H
       obtain ⟨rfl, rfl, rfl, rfl, rfl, rfl⟩ := H
       have hnb72 := NB254_238.out
       have hnc72 := NB238_254.out
       have hnb73 := NB254_0.out
       have hnc73 := NB0_254.out
       obtain ⟨hcz74_0, hcz74_1, hcz74_2, hcz74_3⟩ := ck4 BK254.out
       obtain ⟨hfz74_0, hfz74_1, hfz74_2, hfz74_3⟩ := fz4 BK254.out
       have hnb75 := NB238_0.out
       have hnc75 := NB0_238.out
       obtain ⟨hcz76_0, hcz76_1, hcz76_2, hcz76_3⟩ := ck4 BK238.out
       obtain ⟨hfz76_0, hfz76_1, hfz76_2, hfz76_3⟩ := fz4 BK238.out
       go_wp2
       refine bodyPost_ret (results_cell_row rfl _ _ gb238 42 #[.int .i64 x255000_6, .string t245, .int .i64 (wrap64 (1 + t248)), .int .i64 (wrap64 (1 + t251))] (0, 0) _ rfl (by (repeat refine bk1 ?_); refine blk_put (cs := #[.int .i64 x255000_6, .string t245, .int .i64 (wrap64 (1 + t248)), .int .i64 0]) ?_ 3 _ rfl; (repeat refine bk1 ?_); refine blk_put (cs := #[.int .i64 x255000_6, .string t245, .int .i64 0, .int .i64 0]) ?_ 2 _ rfl; (repeat refine bk1 ?_); refine blk_put (cs := #[.int .i64 x255000_6, .string (⟨#[]⟩ : ByteArray), .int .i64 0, .int .i64 0]) ?_ 1 _ rfl; (repeat refine bk1 ?_); refine blk_put (cs := #[.int .i64 0, .string (⟨#[]⟩ : ByteArray), .int .i64 0, .int .i64 0]) ?_ 0 _ rfl; (repeat refine bk1 ?_); exact BK238.out) Try.underlying42 rfl (by kernel_rfl)) rfl ?_
       exact ⟨by first | rfl | (simp [errW_none, errW_some] <;> rfl) | (simp [*, errW_none, errW_some] <;> rfl), by repeat (first | (with_reducible first | exact HI0.out | apply IsS108.alloc | apply IsS108.drewN | apply IsS108.drew | apply IsS108.set_1 | apply IsS108.set_2 | refine IsS108.far ?_ NB0_238.out _ | refine IsS108.far ?_ NB0_254.out _) | exact HI0.out), by repeat (first | (with_reducible first | exact HB.out | apply below_alloc | apply pw_below_drewN | apply below_drew1 | refine below_set ?_ (IsS108.ge HI0.out) | refine below_set ?_ GE238.out | refine below_set ?_ GE254.out) | exact HB.out), by repeat (first | (with_reducible first | exact HK.out | apply KeepBut.set_ | apply keep_drewN | apply keep_drew | apply keep_alloc | refine keep_far ?_ GW238.out _ | refine keep_far ?_ GW254.out _) | exact HK.out)⟩

/-! ### spec_DrawFleet: function 7 -/
def spec_DrawFleet.l0 : Nat → List (S42) → Int → List Int → Int → Int → List (S44) → List (S84) → List (S57) → Int → Int → Int → Option ((List (S44)) × (List (S84)) × (List (S57)) × Int × Int × Int × (List (S42)))
 | 0, _, _, _, _, _, _, _, _, _, _, _ => none
 | k + 1, x6, x7, x290000, x290001, x290002, x305000, x305001, x305002, x305003, x305004, x305005 => if x7 > 0 then ((spec_l19DrawDeed.f k x290000 x290001 x290002).bind fun bt311 => (if x6.length < 3518437208883 then (spec_DrawFleet.l0 k (x6 ++ [(⟨bt311.1, bt311.2.1, bt311.2.2.1, bt311.2.2.2.1⟩ : S42)]) (wrap64 (x7 - 1)) x290000 bt311.2.2.2.2.1 bt311.2.2.2.2.2 x305000 x305001 x305002 x305003 x305004 x305005) else (none))) else (some (x305000, x305001, x305002, x305003, x305004, x305005, x6))
def spec_DrawFleet.f (k : Nat) (l0 : List Int) : Option ((List (S44)) × (List (S84)) × (List (S57)) × Int × Int × Int × (List (S42))) := (spec_l1New.f k l0).bind fun bt286 => ((spec_l19Draw.f k bt286.1 bt286.2.1 bt286.2.2).bind fun bt290 => ((spec_l1Below.f bt286.1 bt290.2.2.2.2.2.2.1 bt290.2.2.2.2.2.2.2 25).bind fun bt308 => (spec_DrawFleet.l0 k (([] : List (S42))) bt308.1 bt286.1 bt308.2.1 bt308.2.2 bt290.1 bt290.2.1 bt290.2.2.1 bt290.2.2.2.1 bt290.2.2.2.2.1 bt290.2.2.2.2.2.1)))
theorem spec_DrawFleet.mono_l : ∀ k, (∀ y0 y1 y2 y3 y4 y5 y6 y7 y8 y9 y10, LeO (spec_DrawFleet.l0 k y0 y1 y2 y3 y4 y5 y6 y7 y8 y9 y10) (spec_DrawFleet.l0 (k + 1) y0 y1 y2 y3 y4 y5 y6 y7 y8 y9 y10))
 | 0 => fun _ _ _ _ _ _ _ _ _ _ _ r h => by simp [spec_DrawFleet.l0] at h
 | k + 1 => by
  have ih0 := spec_DrawFleet.mono_l k
  ·
   intro y0 y1 y2 y3 y4 y5 y6 y7 y8 y9 y10
   unfold spec_DrawFleet.l0
   repeat' first
   | (with_reducible exact ih0 _ _ _ _ _ _ _ _ _ _ _)
   | (with_reducible exact spec_l19Draw.mono _ _ _ _)
   | (with_reducible exact spec_l19DrawDeed.mono _ _ _ _)
   | (with_reducible exact spec_l1New.mono _ _)
   | (with_reducible exact LeO.refl _)
   | (with_reducible exact LeO.none _)
   | (with_reducible refine LeO.ite ?_ ?_)
   | (with_reducible refine LeO.bind ?_ (fun _ => ?_))
   | exact ih0 _ _ _ _ _ _ _ _ _ _ _
   | exact spec_l19Draw.mono _ _ _ _
   | exact spec_l19DrawDeed.mono _ _ _ _
   | exact spec_l1New.mono _ _
   | exact LeO.none _
   | refine LeO.ite ?_ ?_
   | refine LeO.bind ?_ (fun _ => ?_)
theorem spec_DrawFleet.mono : ∀ a0 k, LeO (spec_DrawFleet.f k a0) (spec_DrawFleet.f (k + 1) a0) := by
 intro a0 k
 have ih0 := spec_DrawFleet.mono_l k
 unfold spec_DrawFleet.f
 repeat' first
   | (with_reducible exact ih0 _ _ _ _ _ _ _ _ _ _ _)
   | (with_reducible exact spec_l19Draw.mono _ _ _ _)
   | (with_reducible exact spec_l19DrawDeed.mono _ _ _ _)
   | (with_reducible exact spec_l1New.mono _ _)
   | (with_reducible exact LeO.refl _)
   | (with_reducible exact LeO.none _)
   | (with_reducible refine LeO.ite ?_ ?_)
   | (with_reducible refine LeO.bind ?_ (fun _ => ?_))
   | exact ih0 _ _ _ _ _ _ _ _ _ _ _
   | exact spec_l19Draw.mono _ _ _ _
   | exact spec_l19DrawDeed.mono _ _ _ _
   | exact spec_l1New.mono _ _
   | exact LeO.none _
   | refine LeO.ite ?_ ?_
   | refine LeO.bind ?_ (fun _ => ?_)
set_option maxHeartbeats 8000000 in
set_option maxRecDepth 100000 in
theorem spec_DrawFleet.calls (k : Nat) (A0 : Option Addr) (c0 : Nat) (l0 : List Int) (r1 : List (S44)) (r2 : List (S84)) (r3 : List (S57)) (r4 : Int) (r5 : Int) (r6 : Int) (r7 : List (S42)) (w : World) (hr0 : Kd.C (Kd.int .u8) w A0 l0.length l0) (hc0 : l0.length ≤ c0) (h : spec_DrawFleet.f k l0 = some (r1, r2, r3, r4, r5, r6, r7)) :
  Calls Try.prog 7 #[.slice A0 l0.length c0] w fun e w' => ∃ v0_ v1_ v2_ v6_ : Value, e = .returned (.tuple #[.agg #[v0_, v1_, v2_, .int .i64 r4, .int .i64 r5, .int .i64 r6], v6_]) ∧ Kd.R k44 44 w' w.heap.size (fun _ => True) v0_ r1 ∧ Kd.R k84 84 w' w.heap.size (fun _ => True) v1_ r2 ∧ Kd.R k57 57 w' w.heap.size (fun _ => True) v2_ r3 ∧ Kd.R k42 42 w' w.heap.size (fun _ => True) v6_ r7 ∧ Below w.heap.size w w' := by
 have hu30 := Try.underlying30
 have HR0 := Aside0.mk hr0
 have HC0 := Aside0.mk hc0
 clear hr0 hc0
 have HB := Aside0.mk (Below.refl w.heap.size w)
 have H : ((spec_l1New.f k l0).bind fun bt286 => ((spec_l19Draw.f k bt286.1 bt286.2.1 bt286.2.2).bind fun bt290 => ((spec_l1Below.f bt286.1 bt290.2.2.2.2.2.2.1 bt290.2.2.2.2.2.2.2 25).bind fun bt308 => (spec_DrawFleet.l0 k (([] : List (S42))) bt308.1 bt286.1 bt308.2.1 bt308.2.2 bt290.1 bt290.2.1 bt290.2.2.1 bt290.2.2.2.1 bt290.2.2.2.2.1 bt290.2.2.2.2.2.1)))) = some (r1, r2, r3, r4, r5, r6, r7) := h
 clear h
 replace H := Option.bind_eq_some_iff.mp H
 obtain ⟨⟨t286, t287, t288⟩, A20, H⟩ := H
 replace H : ((spec_l19Draw.f k t286 t287 t288).bind fun bt290 => ((spec_l1Below.f t286 bt290.2.2.2.2.2.2.1 bt290.2.2.2.2.2.2.2 25).bind fun bt308 => (spec_DrawFleet.l0 k (([] : List (S42))) bt308.1 t286 bt308.2.1 bt308.2.2 bt290.1 bt290.2.1 bt290.2.2.1 bt290.2.2.2.1 bt290.2.2.2.2.1 bt290.2.2.2.2.2.1))) = some (r1, r2, r3, r4, r5, r6, r7) := H
 have A2 := Aside0.mk A20
 clear A20
 replace H := Option.bind_eq_some_iff.mp H
 obtain ⟨⟨t290, t293, t296, t299, t300, t301, t302, t303⟩, A30, H⟩ := H
 replace H : ((spec_l1Below.f t286 t302 t303 25).bind fun bt308 => (spec_DrawFleet.l0 k (([] : List (S42))) bt308.1 t286 bt308.2.1 bt308.2.2 t290 t293 t296 t299 t300 t301)) = some (r1, r2, r3, r4, r5, r6, r7) := H
 have A3 := Aside0.mk A30
 clear A30
 obtain ⟨y305, hy305⟩ : ∃ y_ : List (S42), y_ = (([] : List (S42))) := ⟨_, rfl⟩
 replace H : ((spec_l1Below.f t286 t302 t303 25).bind fun bt308 => (spec_DrawFleet.l0 k y305 bt308.1 t286 bt308.2.1 bt308.2.2 t290 t293 t296 t299 t300 t301)) = some (r1, r2, r3, r4, r5, r6, r7) := by first | (rw [hy305]; with_reducible exact H) | (have H2_ := (Option.bind_some _ _).symm.trans H; rw [hy305]; with_reducible exact H2_) | (have H2_ := (Option.bind_some _ _).symm.trans H; with_reducible exact H2_) | with_reducible exact H | (rw [hy305]; exact H) | exact H
 have Ny305 := Aside0.mk hy305
 clear hy305
 replace H := Option.bind_eq_some_iff.mp H
 obtain ⟨⟨t308, t309, t310⟩, A40, H⟩ := H
 replace H : (spec_DrawFleet.l0 k y305 t308 t286 t309 t310 t290 t293 t296 t299 t300 t301) = some (r1, r2, r3, r4, r5, r6, r7) := H
 have A4 := Aside0.mk A40
 clear A40
 have H' := Aside0.mk H
 clear H
 go_enter Try.func7, Try.ntmps7
 go_wp2_with (first | ((with_reducible refine gate_dst (N := 2) rfl ?_); refine box_event ?hg (N := 2) ?hd (cs := #[.slice none 0 0, .slice none 0 0, .slice none 0 0, .int .i64 0, .int .i64 0, .int .i64 0]) (t := 30) ?hr ?_; (case hd => rfl); (case hg => rfl); (case hr => first | (go_simp; done) | (go_simp; rfl)); intro gb285 hg w5 hbox hb; have BK285 := Aside0.mk (hbox); have GW285 := Aside0.mk ((by rw [hg]; exact (below_size (bl HB.out)) : w.heap.size ≤ gb285)); have GE285 := GW285; replace HB := Aside0.mk (below_step (bl HB.out) hb); clear hb hbox hg) | ((with_reducible refine gate_callee (f := 26) rfl ?_); refine goesL_ (some 9) rfl rfl Try.func26 (by kernel_rfl) rfl #[.slice A0 l0.length c0] rfl (by (try simp only [am_]); first | done | rfl) ?_; (with_reducible refine (spec_l1New.calls k _ _ l0 t286 t287 t288 w _ ?side1 ?side2 ?side3 A2.out).mono ?_); (case side1 => repeat (first | (with_reducible first | exact HB.out | apply below_alloc | apply pw_below_drewN | apply below_drew1 | refine below_set ?_ GE285.out) | exact HB.out)); (case side2 => exact HR0.out); (case side3 => exact HC0.out); rintro e w6 ⟨g289, rfl, hi, hb, hb2⟩; refine ⟨_, rfl, ?_⟩; replace HB := Aside0.mk (hb); have HI289 := Aside0.mk (hi); have NB289_285 := Aside0.mk (IsS108.ne_blk hi (blk_below (bk BK285.out) hb2) (by decide)); have NB285_289 := Aside0.mk (Ne.symm (IsS108.ne_blk hi (blk_below (bk BK285.out) hb2) (by decide))); replace BK285 := Aside0.mk (blk_below (bk BK285.out) hb2); (try clear hb); (try clear hb2); (try clear hk); (try clear hi)) | ((with_reducible refine gate_callee (f := 27) rfl ?_); refine goesL_ (some 11) rfl rfl Try.func27 (by kernel_rfl) rfl #[.pointer (some ⟨g289, 0, none⟩)] rfl (by (try simp only [am_]); first | done | rfl) ?_; (with_reducible refine (spec_l19Draw.calls k g289 t286 t287 t288 t290 t293 t296 t299 t300 t301 t302 t303 w _ ?side1 ?side2 A3.out).mono ?_); (case side1 => repeat (first | (with_reducible first | exact HI289.out | apply IsS108.alloc | apply IsS108.drewN | apply IsS108.drew | apply IsS108.set_1 | apply IsS108.set_2 | refine IsS108.far ?_ NB289_285.out _) | exact HI289.out)); (case side2 => repeat (first | (with_reducible first | exact HB.out | apply below_alloc | apply pw_below_drewN | apply below_drew1 | refine below_set ?_ (IsS108.ge HI289.out) | refine below_set ?_ GE285.out) | exact HB.out)); rintro e w7 ⟨v291, v294, v297, rfl, ho0, ho1, ho2, hi, hb, hk⟩; refine ⟨_, rfl, ?_⟩; replace BK285 := Aside0.mk (KeepBut.blk hk (g' := gb285) (o := .cells #[.slice none 0 0, .slice none 0 0, .slice none 0 0, .int .i64 0, .int .i64 0, .int .i64 0] 30 (0, 0)) (bk BK285.out) NB285_289.out (by simp)); have HO292 := Aside0.mk (Kd.R_lower ho0 (below_size (by repeat (first | (with_reducible first | exact HB.out | apply below_alloc | apply pw_below_drewN | apply below_drew1 | refine below_set ?_ (IsS108.ge HI289.out) | refine below_set ?_ GE285.out) | exact HB.out)))); have HO295 := Aside0.mk (Kd.R_lower ho1 (below_size (by repeat (first | (with_reducible first | exact HB.out | apply below_alloc | apply pw_below_drewN | apply below_drew1 | refine below_set ?_ (IsS108.ge HI289.out) | refine below_set ?_ GE285.out) | exact HB.out)))); have HO298 := Aside0.mk (Kd.R_lower ho2 (below_size (by repeat (first | (with_reducible first | exact HB.out | apply below_alloc | apply pw_below_drewN | apply below_drew1 | refine below_set ?_ (IsS108.ge HI289.out) | refine below_set ?_ GE285.out) | exact HB.out)))); replace HB := Aside0.mk (hb); replace HI289 := Aside0.mk (hi); (try clear hb); (try clear hb2); (try clear hk); (try clear hi); (try clear ho0); (try clear ho1); (try clear ho2)) | ((with_reducible refine gate_dst (N := 5) rfl ?_); refine box_event ?hg (N := 5) ?hd (cs := #[.slice none 0 0, .slice none 0 0, .slice none 0 0, .int .i64 0, .int .i64 0, .int .i64 0]) (t := 30) ?hr ?_; (case hd => rfl); (case hg => rfl); (case hr => first | (go_simp; done) | (go_simp; rfl)); intro gb304 hg w8 hbox hb; replace HO292 := Aside0.mk (Kd.R_below (rl HO292.out) hb); replace HO295 := Aside0.mk (Kd.R_below (rl HO295.out) hb); replace HO298 := Aside0.mk (Kd.R_below (rl HO298.out) hb); have BK304 := Aside0.mk (hbox); have GW304 := Aside0.mk ((by rw [hg]; exact (below_size (by repeat (first | (with_reducible first | exact HB.out | apply below_alloc | apply pw_below_drewN | apply below_drew1 | refine below_set ?_ (IsS108.ge HI289.out) | refine below_set ?_ GE285.out) | exact HB.out))) : w.heap.size ≤ gb304)); have GE304 := Aside0.mk ((by rw [hg]; exact (below_size (by repeat (first | (with_reducible first | exact HB.out | apply below_alloc | apply pw_below_drewN | apply below_drew1 | refine below_set ?_ (IsS108.ge HI289.out) | refine below_set ?_ GE285.out) | exact HB.out))) : w.heap.size ≤ gb304)); replace HB := Aside0.mk (below_step (by repeat (first | (with_reducible first | exact HB.out | apply below_alloc | apply pw_below_drewN | apply below_drew1 | refine below_set ?_ (IsS108.ge HI289.out) | refine below_set ?_ GE285.out) | exact HB.out)) hb); have NB285_304 := nb_ hg BK285.out; have NB304_285 := Aside0.mk NB285_304.out.symm; replace BK285 := Aside0.mk (blk_below (bk BK285.out) hb); have NB289_304 := Aside0.mk ((by rw [hg]; exact Nat.ne_of_lt (IsS108.lt (show IsS108 w _ g289 t286 t302 t303 from by repeat (first | (with_reducible first | exact HI289.out | apply IsS108.alloc | apply IsS108.drewN | apply IsS108.drew | apply IsS108.set_1 | apply IsS108.set_2 | refine IsS108.far ?_ NB289_285.out _) | exact HI289.out))) : g289 ≠ gb304)); have NB304_289 := Aside0.mk ((by rw [hg]; exact Nat.ne_of_gt (IsS108.lt (show IsS108 w _ g289 t286 t302 t303 from by repeat (first | (with_reducible first | exact HI289.out | apply IsS108.alloc | apply IsS108.drewN | apply IsS108.drew | apply IsS108.set_1 | apply IsS108.set_2 | refine IsS108.far ?_ NB289_285.out _) | exact HI289.out))) : gb304 ≠ g289)); replace HI289 := Aside0.mk (IsS108.below (by repeat (first | (with_reducible first | exact HI289.out | apply IsS108.alloc | apply IsS108.drewN | apply IsS108.drew | apply IsS108.set_1 | apply IsS108.set_2 | refine IsS108.far ?_ NB289_285.out _) | exact HI289.out)) hb); clear hb hbox hg; obtain ⟨Ao9, co9, eo9⟩ := Kd.R_slice HO292.out; subst eo9; have hnb10 := NB304_285.out; have hnc10 := NB285_304.out; have hnb11 := NB304_289.out; have hnc11 := NB289_304.out; obtain ⟨hcz12_0, hcz12_1, hcz12_2, hcz12_3, hcz12_4, hcz12_5⟩ := ck6 BK304.out; obtain ⟨hfz12_0, hfz12_1, hfz12_2, hfz12_3, hfz12_4, hfz12_5⟩ := fz6 BK304.out; obtain ⟨Ao13, co13, eo13⟩ := Kd.R_slice HO295.out; subst eo13; obtain ⟨Ao14, co14, eo14⟩ := Kd.R_slice HO298.out; subst eo14) | ((with_reducible refine gate_dst (N := 12) rfl ?_); refine Kd.R_lit k42 _ 42 ?hg (N := 12) ?hd (xs := ([] : List (S42))) (inner := []) (ok := fun _ => True) (okp := fun _ => True) ?hr ?hp (fun _ hk => hk) trivial (Below.refl _ _) (Nat.le_refl _) (by simp) ?_; (case hd => rfl); (case hg => rfl); (case hr => first | (go_simp; done) | (go_simp; rfl)); (case hp => exact (Reps.none _ _)); intro v306 w15 ho16 hb hg_ hnew_; clear hg_ hnew_; (first | rw [← Ny305.out] at ho16 | (simp only [Int.reduceToNat] at ho16; rw [← Ny305.out] at ho16)); replace HO292 := Aside0.mk (Kd.R_below (by (repeat apply rl1); exact (Kd.R_mono (Kd.R_far (p := ⟨gb304, 5, none⟩) (Kd.R_far (p := ⟨gb304, 4, none⟩) (Kd.R_far (p := ⟨gb304, 3, none⟩) (Kd.R_far (p := ⟨gb304, 2, none⟩) (Kd.R_far (p := ⟨gb304, 1, none⟩) (Kd.R_far (p := ⟨gb304, 0, none⟩) (Kd.R_types HO292.out BK304.out (by decide)) (fun _ hk => hk.2) (.slice Ao9 t290.length co9)) (fun _ hk => hk.2) (.slice Ao13 t293.length co13)) (fun _ hk => hk.2) (.slice Ao14 t296.length co14)) (fun _ hk => hk.2) (.int .i64 t299)) (fun _ hk => hk.2) (.int .i64 t300)) (fun _ hk => hk.2) (.int .i64 t301)) (fun _ h_ => h_.1))) hb); replace HO295 := Aside0.mk (Kd.R_below (by (repeat apply rl1); exact (Kd.R_mono (Kd.R_far (p := ⟨gb304, 5, none⟩) (Kd.R_far (p := ⟨gb304, 4, none⟩) (Kd.R_far (p := ⟨gb304, 3, none⟩) (Kd.R_far (p := ⟨gb304, 2, none⟩) (Kd.R_far (p := ⟨gb304, 1, none⟩) (Kd.R_far (p := ⟨gb304, 0, none⟩) (Kd.R_types HO295.out BK304.out (by decide)) (fun _ hk => hk.2) (.slice Ao9 t290.length co9)) (fun _ hk => hk.2) (.slice Ao13 t293.length co13)) (fun _ hk => hk.2) (.slice Ao14 t296.length co14)) (fun _ hk => hk.2) (.int .i64 t299)) (fun _ hk => hk.2) (.int .i64 t300)) (fun _ hk => hk.2) (.int .i64 t301)) (fun _ h_ => h_.1))) hb); replace HO298 := Aside0.mk (Kd.R_below (by (repeat apply rl1); exact (Kd.R_mono (Kd.R_far (p := ⟨gb304, 5, none⟩) (Kd.R_far (p := ⟨gb304, 4, none⟩) (Kd.R_far (p := ⟨gb304, 3, none⟩) (Kd.R_far (p := ⟨gb304, 2, none⟩) (Kd.R_far (p := ⟨gb304, 1, none⟩) (Kd.R_far (p := ⟨gb304, 0, none⟩) (Kd.R_types HO298.out BK304.out (by decide)) (fun _ hk => hk.2) (.slice Ao9 t290.length co9)) (fun _ hk => hk.2) (.slice Ao13 t293.length co13)) (fun _ hk => hk.2) (.slice Ao14 t296.length co14)) (fun _ hk => hk.2) (.int .i64 t299)) (fun _ hk => hk.2) (.int .i64 t300)) (fun _ hk => hk.2) (.int .i64 t301)) (fun _ h_ => h_.1))) hb); have HO307 := Aside0.mk (Kd.R_lower ho16 (below_size (by repeat (first | (with_reducible first | exact HB.out | apply below_alloc | apply pw_below_drewN | apply below_drew1 | refine below_set ?_ (IsS108.ge HI289.out) | refine below_set ?_ GE285.out | refine below_set ?_ GE304.out) | exact HB.out)))); replace BK285 := Aside0.mk (blk_below (g := gb285) (o := .cells #[.slice none 0 0, .slice none 0 0, .slice none 0 0, .int .i64 0, .int .i64 0, .int .i64 0] 30 (0, 0)) (by (repeat refine bk1 ?_); refine blk_far ?_ NB285_304.out _; (repeat refine bk1 ?_); refine blk_far ?_ NB285_304.out _; (repeat refine bk1 ?_); refine blk_far ?_ NB285_304.out _; (repeat refine bk1 ?_); refine blk_far ?_ NB285_304.out _; (repeat refine bk1 ?_); refine blk_far ?_ NB285_304.out _; (repeat refine bk1 ?_); refine blk_far ?_ NB285_304.out _; (repeat refine bk1 ?_); exact BK285.out) hb); replace BK304 := Aside0.mk (blk_below (g := gb304) (o := .cells #[.slice Ao9 t290.length co9, .slice Ao13 t293.length co13, .slice Ao14 t296.length co14, .int .i64 t299, .int .i64 t300, .int .i64 t301] 30 (0, 0)) (by (repeat refine bk1 ?_); refine blk_put (cs := #[.slice Ao9 t290.length co9, .slice Ao13 t293.length co13, .slice Ao14 t296.length co14, .int .i64 t299, .int .i64 t300, .int .i64 0]) ?_ 5 _ rfl; (repeat refine bk1 ?_); refine blk_put (cs := #[.slice Ao9 t290.length co9, .slice Ao13 t293.length co13, .slice Ao14 t296.length co14, .int .i64 t299, .int .i64 0, .int .i64 0]) ?_ 4 _ rfl; (repeat refine bk1 ?_); refine blk_put (cs := #[.slice Ao9 t290.length co9, .slice Ao13 t293.length co13, .slice Ao14 t296.length co14, .int .i64 0, .int .i64 0, .int .i64 0]) ?_ 3 _ rfl; (repeat refine bk1 ?_); refine blk_put (cs := #[.slice Ao9 t290.length co9, .slice Ao13 t293.length co13, .slice none 0 0, .int .i64 0, .int .i64 0, .int .i64 0]) ?_ 2 _ rfl; (repeat refine bk1 ?_); refine blk_put (cs := #[.slice Ao9 t290.length co9, .slice none 0 0, .slice none 0 0, .int .i64 0, .int .i64 0, .int .i64 0]) ?_ 1 _ rfl; (repeat refine bk1 ?_); refine blk_put (cs := #[.slice none 0 0, .slice none 0 0, .slice none 0 0, .int .i64 0, .int .i64 0, .int .i64 0]) ?_ 0 _ rfl; (repeat refine bk1 ?_); exact BK304.out) hb); replace HB := Aside0.mk (below_step (by repeat (first | (with_reducible first | exact HB.out | apply below_alloc | apply pw_below_drewN | apply below_drew1 | refine below_set ?_ (IsS108.ge HI289.out) | refine below_set ?_ GE285.out | refine below_set ?_ GE304.out) | exact HB.out)) hb); replace HI289 := Aside0.mk (IsS108.below (show IsS108 w ((((((w8.setCell ⟨gb304, 0, none⟩ (.slice Ao9 t290.length co9)).setCell ⟨gb304, 1, none⟩ (.slice Ao13 t293.length co13)).setCell ⟨gb304, 2, none⟩ (.slice Ao14 t296.length co14)).setCell ⟨gb304, 3, none⟩ (.int .i64 t299)).setCell ⟨gb304, 4, none⟩ (.int .i64 t300)).setCell ⟨gb304, 5, none⟩ (.int .i64 t301)) g289 t286 t302 t303 from by repeat (first | (with_reducible first | exact HI289.out | apply IsS108.alloc | apply IsS108.drewN | apply IsS108.drew | apply IsS108.set_1 | apply IsS108.set_2 | refine IsS108.far ?_ NB289_285.out _ | refine IsS108.far ?_ NB289_304.out _) | exact HI289.out)) hb); clear hb ho16) | ((with_reducible refine gate_callee (f := 28) rfl ?_); refine goesL_ (some 14) rfl rfl Try.func28 (by kernel_rfl) rfl #[.pointer (some ⟨g289, 0, none⟩), .int .i64 25] rfl (by (try simp only [am_]); first | done | rfl) ?_; (with_reducible refine (spec_l1Below.calls g289 t286 t302 t303 25 t308 t309 t310 w _ ?side1 ?side2 A4.out).mono ?_); (case side1 => repeat (first | (with_reducible first | exact HI289.out | apply IsS108.alloc | apply IsS108.drewN | apply IsS108.drew | apply IsS108.set_1 | apply IsS108.set_2 | refine IsS108.far ?_ NB289_285.out _ | refine IsS108.far ?_ NB289_304.out _) | exact HI289.out)); (case side2 => repeat (first | (with_reducible first | exact HB.out | apply below_alloc | apply pw_below_drewN | apply below_drew1 | refine below_set ?_ (IsS108.ge HI289.out) | refine below_set ?_ GE285.out | refine below_set ?_ GE304.out) | exact HB.out)); rintro e w17 ⟨rfl, hi, hb, hk⟩; refine ⟨_, rfl, ?_⟩; replace BK285 := Aside0.mk (KeepBut.blk hk (g' := gb285) (o := .cells #[.slice none 0 0, .slice none 0 0, .slice none 0 0, .int .i64 0, .int .i64 0, .int .i64 0] 30 (0, 0)) (bk BK285.out) NB285_289.out (by simp)); replace HO292 := Aside0.mk (Kd.R_mono (Kd.R_keep (IsS108.apart (show IsS108 w _ g289 t286 t302 t303 from by repeat (first | (with_reducible first | exact HI289.out | apply IsS108.alloc | apply IsS108.drewN | apply IsS108.drew | apply IsS108.set_1 | apply IsS108.set_2 | refine IsS108.far ?_ NB289_285.out _ | refine IsS108.far ?_ NB289_304.out _) | exact HI289.out)) (rl HO292.out) (by decide)) hk (fun _ h => h.2)) (fun _ h => h.1)); replace HO295 := Aside0.mk (Kd.R_mono (Kd.R_keep (IsS108.apart (show IsS108 w _ g289 t286 t302 t303 from by repeat (first | (with_reducible first | exact HI289.out | apply IsS108.alloc | apply IsS108.drewN | apply IsS108.drew | apply IsS108.set_1 | apply IsS108.set_2 | refine IsS108.far ?_ NB289_285.out _ | refine IsS108.far ?_ NB289_304.out _) | exact HI289.out)) (rl HO295.out) (by decide)) hk (fun _ h => h.2)) (fun _ h => h.1)); replace HO298 := Aside0.mk (Kd.R_mono (Kd.R_keep (IsS108.apart (show IsS108 w _ g289 t286 t302 t303 from by repeat (first | (with_reducible first | exact HI289.out | apply IsS108.alloc | apply IsS108.drewN | apply IsS108.drew | apply IsS108.set_1 | apply IsS108.set_2 | refine IsS108.far ?_ NB289_285.out _ | refine IsS108.far ?_ NB289_304.out _) | exact HI289.out)) (rl HO298.out) (by decide)) hk (fun _ h => h.2)) (fun _ h => h.1)); replace BK304 := Aside0.mk (KeepBut.blk hk (g' := gb304) (o := .cells #[.slice Ao9 t290.length co9, .slice Ao13 t293.length co13, .slice Ao14 t296.length co14, .int .i64 t299, .int .i64 t300, .int .i64 t301] 30 (0, 0)) (bk BK304.out) NB304_289.out (by simp)); replace HO307 := Aside0.mk (Kd.R_mono (Kd.R_keep (IsS108.apart (show IsS108 w _ g289 t286 t302 t303 from by repeat (first | (with_reducible first | exact HI289.out | apply IsS108.alloc | apply IsS108.drewN | apply IsS108.drew | apply IsS108.set_1 | apply IsS108.set_2 | refine IsS108.far ?_ NB289_285.out _ | refine IsS108.far ?_ NB289_304.out _) | exact HI289.out)) (rl HO307.out) (by decide)) hk (fun _ h => h.2)) (fun _ h => h.1)); replace HB := Aside0.mk (hb); replace HI289 := Aside0.mk (hi); (try clear hb); (try clear hb2); (try clear hk); (try clear hi)))
 go_loopg [6, 7] k (fun kq v6 v7 w' => ∃ (x6_1 : List (S42)) (x7_1 : Int) (x290001_1 : Int) (x290002_1 : Int), v7 = .int .i64 x7_1 ∧ Aside0 (spec_DrawFleet.l0 kq x6_1 x7_1 t286 x290001_1 x290002_1 t290 t293 t296 t299 t300 t301 = some (r1, r2, r3, r4, r5, r6, r7)) ∧ Aside0 (kq ≤ k) ∧ Aside0 (Kd.R k42 42 w' w.heap.size (fun _ => True) v6 x6_1) ∧ Aside0 (Kd.R k44 44 w' w.heap.size (fun _ => True) (.slice Ao9 t290.length co9) t290) ∧ Aside0 (Kd.R k84 84 w' w.heap.size (fun _ => True) (.slice Ao13 t293.length co13) t293) ∧ Aside0 (Kd.R k57 57 w' w.heap.size (fun _ => True) (.slice Ao14 t296.length co14) t296) ∧ Aside0 (w'.heap[gb285]? = some (.cells #[(.slice none 0 0), (.slice none 0 0), (.slice none 0 0), .int .i64 0, .int .i64 0, .int .i64 0] 30 (0, 0))) ∧ Aside0 (w'.heap[gb304]? = some (.cells #[(.slice Ao9 t290.length co9), (.slice Ao13 t293.length co13), (.slice Ao14 t296.length co14), .int .i64 t299, .int .i64 t300, .int .i64 t301] 30 (0, 0))) ∧ Aside0 (IsS108 w w' g289 t286 x290001_1 x290002_1) ∧ Aside0 (Below w.heap.size w w'))
 case atStart => exact ⟨(y305), (t308), (t309), (t310), (by first | rfl | (simp; done) | (simp [*]; done)), H', ⟨Nat.le_refl _⟩, ⟨rl HO307.out⟩, ⟨rl HO292.out⟩, ⟨rl HO295.out⟩, ⟨rl HO298.out⟩, ⟨bk BK285.out⟩, ⟨bk BK304.out⟩, ⟨by repeat (first | (with_reducible first | exact HI289.out | apply IsS108.alloc | apply IsS108.drewN | apply IsS108.drew | apply IsS108.set_1 | apply IsS108.set_2 | refine IsS108.far ?_ NB289_285.out _ | refine IsS108.far ?_ NB289_304.out _) | exact HI289.out)⟩, ⟨by repeat (first | (with_reducible first | exact HB.out | apply below_alloc | apply pw_below_drewN | apply below_drew1 | refine below_set ?_ (IsS108.ge HI289.out) | refine below_set ?_ GE285.out | refine below_set ?_ GE304.out) | exact HB.out)⟩⟩
 case round =>
  clear H'
  try clear c1
  try clear c2
  try clear p2
  try clear c7
  try clear c10
  try clear c11
  try clear hcz12_0 hcz12_1 hcz12_2 hcz12_3 hcz12_4 hcz12_5 hfz12_0 hfz12_1 hfz12_2 hfz12_3 hfz12_4 hfz12_5
  obtain ⟨x6_1, x7_1, x290001_1, x290002_1, rfl, HA, HK1, HO_6, HO_305000, HO_305001, HO_305002, BK285, BK304, HI289, HB⟩ := hrel
  cases gk with
  | zero => exact absurd HA.out (by simp [spec_DrawFleet.l0])
  | succ k1 =>
   have H := HA.out
   clear HA
   simp only [spec_DrawFleet.l0] at H
   by_cases c18 : x7_1 > 0
   ·
    rw [if_pos c18] at H
    have c18b0 : decide (0 < x7_1) = true := decide_eq_true c18
    clear c18
    replace H := Option.bind_eq_some_iff.mp H
    obtain ⟨⟨t311, t312, t313, t314, t315, t316⟩, A190, H⟩ := H
    replace H : (if x6_1.length < 3518437208883 then (spec_DrawFleet.l0 k1 (x6_1 ++ [(⟨t311, t312, t313, t314⟩ : S42)]) (wrap64 (x7_1 - 1)) t286 t315 t316 t290 t293 t296 t299 t300 t301) else (none)) = some (r1, r2, r3, r4, r5, r6, r7) := H
    have A19 := Aside0.mk A190
    clear A190
    by_cases c20 : x6_1.length < 3518437208883
    ·
     rw [if_pos c20] at H
     have LMc20 := Aside0.mk c20
     clear c20
     obtain ⟨y317, hy317⟩ : ∃ y_ : List (S42), y_ = (x6_1 ++ [(⟨t311, t312, t313, t314⟩ : S42)]) := ⟨_, rfl⟩
     replace H : (spec_DrawFleet.l0 k1 y317 (wrap64 (x7_1 - 1)) t286 t315 t316 t290 t293 t296 t299 t300 t301) = some (r1, r2, r3, r4, r5, r6, r7) := by first | (rw [hy317]; with_reducible exact H) | (have H2_ := (Option.bind_some _ _).symm.trans H; rw [hy317]; with_reducible exact H2_) | (have H2_ := (Option.bind_some _ _).symm.trans H; with_reducible exact H2_) | with_reducible exact H | (rw [hy317]; exact H) | exact H
     have Ny317 := Aside0.mk hy317
     clear hy317
     have H' := Aside0.mk H
     clear H
     go_wp2_with (first | ((with_reducible refine gate_callee (f := 29) rfl ?_); refine goesL_ (some 21) rfl rfl Try.func29 (by kernel_rfl) rfl #[.pointer (some ⟨g289, 0, none⟩)] rfl (by (try simp only [am_]); first | done | rfl) ?_; (with_reducible refine (spec_l19DrawDeed.calls k1 g289 t286 x290001_1 x290002_1 t311 t312 t313 t314 t315 t316 w _ ?side1 ?side2 A19.out).mono ?_); (case side1 => repeat (first | (with_reducible first | exact HI289.out | apply IsS108.alloc | apply IsS108.drewN | apply IsS108.drew | apply IsS108.set_1 | apply IsS108.set_2 | refine IsS108.far ?_ NB289_285.out _ | refine IsS108.far ?_ NB289_304.out _) | exact HI289.out)); (case side2 => repeat (first | (with_reducible first | exact HB.out | apply below_alloc | apply pw_below_drewN | apply below_drew1 | refine below_set ?_ (IsS108.ge HI289.out) | refine below_set ?_ GE285.out | refine below_set ?_ GE304.out) | exact HB.out)); rintro e w21 ⟨rfl, hi, hb, hk⟩; refine ⟨_, rfl, ?_⟩; replace HO_6 := Aside0.mk (Kd.R_mono (Kd.R_keep (IsS108.apart (show IsS108 w _ g289 t286 x290001_1 x290002_1 from by repeat (first | (with_reducible first | exact HI289.out | apply IsS108.alloc | apply IsS108.drewN | apply IsS108.drew | apply IsS108.set_1 | apply IsS108.set_2 | refine IsS108.far ?_ NB289_285.out _ | refine IsS108.far ?_ NB289_304.out _) | exact HI289.out)) (rl HO_6.out) (by decide)) hk (fun _ h => h.2)) (fun _ h => h.1)); replace HO_305000 := Aside0.mk (Kd.R_mono (Kd.R_keep (IsS108.apart (show IsS108 w _ g289 t286 x290001_1 x290002_1 from by repeat (first | (with_reducible first | exact HI289.out | apply IsS108.alloc | apply IsS108.drewN | apply IsS108.drew | apply IsS108.set_1 | apply IsS108.set_2 | refine IsS108.far ?_ NB289_285.out _ | refine IsS108.far ?_ NB289_304.out _) | exact HI289.out)) (rl HO_305000.out) (by decide)) hk (fun _ h => h.2)) (fun _ h => h.1)); replace HO_305001 := Aside0.mk (Kd.R_mono (Kd.R_keep (IsS108.apart (show IsS108 w _ g289 t286 x290001_1 x290002_1 from by repeat (first | (with_reducible first | exact HI289.out | apply IsS108.alloc | apply IsS108.drewN | apply IsS108.drew | apply IsS108.set_1 | apply IsS108.set_2 | refine IsS108.far ?_ NB289_285.out _ | refine IsS108.far ?_ NB289_304.out _) | exact HI289.out)) (rl HO_305001.out) (by decide)) hk (fun _ h => h.2)) (fun _ h => h.1)); replace HO_305002 := Aside0.mk (Kd.R_mono (Kd.R_keep (IsS108.apart (show IsS108 w _ g289 t286 x290001_1 x290002_1 from by repeat (first | (with_reducible first | exact HI289.out | apply IsS108.alloc | apply IsS108.drewN | apply IsS108.drew | apply IsS108.set_1 | apply IsS108.set_2 | refine IsS108.far ?_ NB289_285.out _ | refine IsS108.far ?_ NB289_304.out _) | exact HI289.out)) (rl HO_305002.out) (by decide)) hk (fun _ h => h.2)) (fun _ h => h.1)); replace BK285 := Aside0.mk (KeepBut.blk hk (g' := gb285) (o := .cells #[.slice none 0 0, .slice none 0 0, .slice none 0 0, .int .i64 0, .int .i64 0, .int .i64 0] 30 (0, 0)) (bk BK285.out) NB285_289.out (by simp)); replace BK304 := Aside0.mk (KeepBut.blk hk (g' := gb304) (o := .cells #[.slice Ao9 t290.length co9, .slice Ao13 t293.length co13, .slice Ao14 t296.length co14, .int .i64 t299, .int .i64 t300, .int .i64 t301] 30 (0, 0)) (bk BK304.out) NB304_289.out (by simp)); replace HB := Aside0.mk (hb); replace HI289 := Aside0.mk (hi); (try clear hb); (try clear hb2); (try clear hk); (try clear hi)) | ((with_reducible refine gate_builtin (b := .append) (xs := #[.tmp 19, .tmp 22]) rfl ?_); at_builtin; refine Kd.R_append k42 (w0 := w) w.heap.size rfl (.tmp 19) (.tmp 22) 31 42 (.agg #[(.int .i64 0), (.string ⟨#[]⟩), (.int .i64 0), (.int .i64 0)]) 40 rfl Try.underlying31 info42 rfl (by decide) (by omega) u6 x6_1 (⟨t311, t312, t313, t314⟩ : S42) [.int .i64 t311, .string t312, .int .i64 t313, .int .i64 t314] (fun _ => True) (fun _ => False) rfl rfl ?aP (fun _ hk => hk.elim) ?aF ?aO ?aB ?aS ?aL ?_; (case aP => exact k42_mkM _ _ _ (⟨t311, t312, t313, t314⟩ : S42)); (case aB => exact (by repeat (first | (with_reducible first | exact HB.out | apply below_alloc | apply pw_below_drewN | apply below_drew1 | refine below_set ?_ (IsS108.ge HI289.out) | refine below_set ?_ GE285.out | refine below_set ?_ GE304.out) | exact HB.out))); (case aF => exact (fun _ _ => trivial)); (case aO => exact (rl HO_6.out)); (case aS => exact (below_size (by repeat (first | (with_reducible first | exact HB.out | apply below_alloc | apply pw_below_drewN | apply below_drew1 | refine below_set ?_ (IsS108.ge HI289.out) | refine below_set ?_ GE285.out | refine below_set ?_ GE304.out) | exact HB.out)))); (case aL => have := LMc20.out; omega); intro v318 w22 ho hb hg hat; rw [← Ny317.out] at ho; replace HO_305000 := Aside0.mk (Kd.R_over' (rl HO_305000.out) (Kd.R_typed (rl HO_6.out)) (by decide) hg); replace HO_305001 := Aside0.mk (Kd.R_over' (rl HO_305001.out) (Kd.R_typed (rl HO_6.out)) (by decide) hg); replace HO_305002 := Aside0.mk (Kd.R_over' (rl HO_305002.out) (Kd.R_typed (rl HO_6.out)) (by decide) hg); replace BK285 := Aside0.mk (blk_grown (g := gb285) (o := .cells #[.slice none 0 0, .slice none 0 0, .slice none 0 0, .int .i64 0, .int .i64 0, .int .i64 0] 30 (0, 0)) (bk BK285.out) hg (Kd.R_ne HO_6.out BK285.out (by decide))); replace BK304 := Aside0.mk (blk_grown (g := gb304) (o := .cells #[.slice Ao9 t290.length co9, .slice Ao13 t293.length co13, .slice Ao14 t296.length co14, .int .i64 t299, .int .i64 t300, .int .i64 t301] 30 (0, 0)) (bk BK304.out) hg (Kd.R_ne HO_6.out BK304.out (by decide))); replace HI289 := Aside0.mk (IsS108.grown (by repeat (first | (with_reducible first | exact HI289.out | apply IsS108.alloc | apply IsS108.drewN | apply IsS108.drew | apply IsS108.set_1 | apply IsS108.set_2 | refine IsS108.far ?_ NB289_285.out _ | refine IsS108.far ?_ NB289_304.out _) | exact HI289.out)) hg (IsS108.own_ne HI289.out HO_6.out (by decide))); replace HB := Aside0.mk (hb); have HO319 := Aside0.mk (ho); clear HO_6; clear ho hb hg hat))
     go_roundg k1
     case measure => have := HK1.out; omega
     case rel => exact ⟨(y317), (wrap64 (x7_1 - 1)), (t315), (t316), (by first | rfl | (simp; done) | (simp [*]; done)), H', ⟨by have := HK1.out; omega⟩, ⟨rl HO319.out⟩, ⟨rl HO_305000.out⟩, ⟨rl HO_305001.out⟩, ⟨rl HO_305002.out⟩, ⟨bk BK285.out⟩, ⟨bk BK304.out⟩, ⟨by repeat (first | (with_reducible first | exact HI289.out | apply IsS108.alloc | apply IsS108.drewN | apply IsS108.drew | apply IsS108.set_1 | apply IsS108.set_2 | refine IsS108.far ?_ NB289_285.out _ | refine IsS108.far ?_ NB289_304.out _) | exact HI289.out)⟩, ⟨by repeat (first | (with_reducible first | exact HB.out | apply below_alloc | apply pw_below_drewN | apply below_drew1 | refine below_set ?_ (IsS108.ge HI289.out) | refine below_set ?_ GE285.out | refine below_set ?_ GE304.out) | exact HB.out)⟩⟩
    ·
     rw [if_neg c20] at H
     exact absurd H (by simp)
   ·
    rw [if_neg c18] at H
    have c18b0 : decide (0 < x7_1) = false := decide_eq_false c18
    clear c18
    simp only [Option.some.injEq, Prod.mk.injEq] at H
    obtain ⟨rfl, rfl, rfl, rfl, rfl, rfl, rfl⟩ := H
    have hnb23 := NB304_285.out
    have hnc23 := NB285_304.out
    have hnb24 := NB304_289.out
    have hnc24 := NB289_304.out
    obtain ⟨hcz25_0, hcz25_1, hcz25_2, hcz25_3, hcz25_4, hcz25_5⟩ := ck6 BK304.out
    obtain ⟨hfz25_0, hfz25_1, hfz25_2, hfz25_3, hfz25_4, hfz25_5⟩ := fz6 BK304.out
    have hnb26 := NB285_289.out
    have hnc26 := NB289_285.out
    obtain ⟨hcz27_0, hcz27_1, hcz27_2, hcz27_3, hcz27_4, hcz27_5⟩ := ck6 BK285.out
    obtain ⟨hfz27_0, hfz27_1, hfz27_2, hfz27_3, hfz27_4, hfz27_5⟩ := fz6 BK285.out
    go_wp2
    refine bodyPost_ret (results_ct rfl _ _ gb285 30 #[.slice Ao9 t290.length co9, .slice Ao13 t293.length co13, .slice Ao14 t296.length co14, .int .i64 t299, .int .i64 t300, .int .i64 t301] (0, 0) _ rfl (by (repeat refine bk1 ?_); refine blk_put (cs := #[.slice Ao9 t290.length co9, .slice Ao13 t293.length co13, .slice Ao14 t296.length co14, .int .i64 t299, .int .i64 t300, .int .i64 0]) ?_ 5 _ rfl; (repeat refine bk1 ?_); refine blk_put (cs := #[.slice Ao9 t290.length co9, .slice Ao13 t293.length co13, .slice Ao14 t296.length co14, .int .i64 t299, .int .i64 0, .int .i64 0]) ?_ 4 _ rfl; (repeat refine bk1 ?_); refine blk_put (cs := #[.slice Ao9 t290.length co9, .slice Ao13 t293.length co13, .slice Ao14 t296.length co14, .int .i64 0, .int .i64 0, .int .i64 0]) ?_ 3 _ rfl; (repeat refine bk1 ?_); refine blk_put (cs := #[.slice Ao9 t290.length co9, .slice Ao13 t293.length co13, .slice none 0 0, .int .i64 0, .int .i64 0, .int .i64 0]) ?_ 2 _ rfl; (repeat refine bk1 ?_); refine blk_put (cs := #[.slice Ao9 t290.length co9, .slice none 0 0, .slice none 0 0, .int .i64 0, .int .i64 0, .int .i64 0]) ?_ 1 _ rfl; (repeat refine bk1 ?_); refine blk_put (cs := #[.slice none 0 0, .slice none 0 0, .slice none 0 0, .int .i64 0, .int .i64 0, .int .i64 0]) ?_ 0 _ rfl; (repeat refine bk1 ?_); exact BK285.out) Try.underlying30 rfl (by kernel_rfl)) rfl ?_
    exact ⟨_, _, _, _, by first | rfl | (simp [errW_none, errW_some] <;> rfl) | (simp [*, errW_none, errW_some] <;> rfl), by (repeat apply rl1); exact Kd.R_mono (Kd.R_far (p := ⟨gb285, 5, none⟩) (Kd.R_far (p := ⟨gb285, 4, none⟩) (Kd.R_far (p := ⟨gb285, 3, none⟩) (Kd.R_far (p := ⟨gb285, 2, none⟩) (Kd.R_far (p := ⟨gb285, 1, none⟩) (Kd.R_far (p := ⟨gb285, 0, none⟩) (Kd.R_types HO_305000.out BK285.out (by decide)) (fun _ hk => hk.2) (.slice Ao9 t290.length co9)) (fun _ hk => hk.2) (.slice Ao13 t293.length co13)) (fun _ hk => hk.2) (.slice Ao14 t296.length co14)) (fun _ hk => hk.2) (.int .i64 t299)) (fun _ hk => hk.2) (.int .i64 t300)) (fun _ hk => hk.2) (.int .i64 t301)) (fun _ hk => trivial), by (repeat apply rl1); exact Kd.R_mono (Kd.R_far (p := ⟨gb285, 5, none⟩) (Kd.R_far (p := ⟨gb285, 4, none⟩) (Kd.R_far (p := ⟨gb285, 3, none⟩) (Kd.R_far (p := ⟨gb285, 2, none⟩) (Kd.R_far (p := ⟨gb285, 1, none⟩) (Kd.R_far (p := ⟨gb285, 0, none⟩) (Kd.R_types HO_305001.out BK285.out (by decide)) (fun _ hk => hk.2) (.slice Ao9 t290.length co9)) (fun _ hk => hk.2) (.slice Ao13 t293.length co13)) (fun _ hk => hk.2) (.slice Ao14 t296.length co14)) (fun _ hk => hk.2) (.int .i64 t299)) (fun _ hk => hk.2) (.int .i64 t300)) (fun _ hk => hk.2) (.int .i64 t301)) (fun _ hk => trivial), by (repeat apply rl1); exact Kd.R_mono (Kd.R_far (p := ⟨gb285, 5, none⟩) (Kd.R_far (p := ⟨gb285, 4, none⟩) (Kd.R_far (p := ⟨gb285, 3, none⟩) (Kd.R_far (p := ⟨gb285, 2, none⟩) (Kd.R_far (p := ⟨gb285, 1, none⟩) (Kd.R_far (p := ⟨gb285, 0, none⟩) (Kd.R_types HO_305002.out BK285.out (by decide)) (fun _ hk => hk.2) (.slice Ao9 t290.length co9)) (fun _ hk => hk.2) (.slice Ao13 t293.length co13)) (fun _ hk => hk.2) (.slice Ao14 t296.length co14)) (fun _ hk => hk.2) (.int .i64 t299)) (fun _ hk => hk.2) (.int .i64 t300)) (fun _ hk => hk.2) (.int .i64 t301)) (fun _ hk => trivial), by (repeat apply rl1); exact Kd.R_mono (Kd.R_far (p := ⟨gb285, 5, none⟩) (Kd.R_far (p := ⟨gb285, 4, none⟩) (Kd.R_far (p := ⟨gb285, 3, none⟩) (Kd.R_far (p := ⟨gb285, 2, none⟩) (Kd.R_far (p := ⟨gb285, 1, none⟩) (Kd.R_far (p := ⟨gb285, 0, none⟩) (Kd.R_types HO_6.out BK285.out (by decide)) (fun _ hk => hk.2) (.slice Ao9 t290.length co9)) (fun _ hk => hk.2) (.slice Ao13 t293.length co13)) (fun _ hk => hk.2) (.slice Ao14 t296.length co14)) (fun _ hk => hk.2) (.int .i64 t299)) (fun _ hk => hk.2) (.int .i64 t300)) (fun _ hk => hk.2) (.int .i64 t301)) (fun _ hk => trivial), by repeat (first | (with_reducible first | exact HB.out | apply below_alloc | apply pw_below_drewN | apply below_drew1 | refine below_set ?_ (IsS108.ge HI289.out) | refine below_set ?_ GE285.out | refine below_set ?_ GE304.out) | exact HB.out)⟩

/-! ### impl_in: function 32 -/
def impl_in.f (a0 : Int) (a1 : Int) (a2 : Int) : Option (Bool) := if a0 ≥ a1 then (some (decide (a0 ≤ a2))) else (some false)
set_option maxHeartbeats 8000000 in
set_option maxRecDepth 100000 in
theorem impl_in.calls (a0 : Int) (a1 : Int) (a2 : Int) (r : Bool) (w : World) (h : impl_in.f a0 a1 a2 = some r) :
  Calls Try.prog 32 #[.int .i64 a0, .int .i64 a1, .int .i64 a2] w fun e w' => e = .returned (.bool r) ∧ Drawn0 w w' := by
 have H : (if a0 ≥ a1 then (some (decide (a0 ≤ a2))) else (some false)) = some r := h
 clear h
 by_cases c4 : a0 ≥ a1
 ·
  rw [if_pos c4] at H
  have c4b0 : decide (a1 ≤ a0) = true := decide_eq_true c4
  clear c4
  obtain rfl := Option.some.inj H
  go_enter Try.func32, Try.ntmps32
  go_wp2
  go_ret
  exact ⟨by first | rfl | (simp; done) | (simp [*]; done), by repeat (first | exact Drawn0.refl _ | apply Drawn0.step)⟩
 ·
  rw [if_neg c4] at H
  have c4b0 : decide (a1 ≤ a0) = false := decide_eq_false c4
  clear c4
  obtain rfl := Option.some.inj H
  go_enter Try.func32, Try.ntmps32
  go_wp2
  go_ret
  exact ⟨by first | rfl | (simp; done) | (simp [*]; done), by repeat (first | exact Drawn0.refl _ | apply Drawn0.step)⟩

/-! ### impl_allIn: function 33 -/
def impl_allIn.l0 : Nat → Int → Int → List Int → Int → Int → Option (Bool)
 | 0, _, _, _, _, _ => none
 | k + 1, x1, x2, x9, x10, x11 => if x11 < x10 then (if 0 ≤ x11 then (if x11 < (x9.length : Int) then ((impl_in.f (rd x9 x11) x1 x2).bind fun t321 => (if t321 = true then (impl_allIn.l0 k x1 x2 x9 x10 (wrap64 (x11 + 1))) else (some false))) else (none)) else (none)) else (some true)
def impl_allIn.f (k : Nat) (l0 : List Int) (a1 : Int) (a2 : Int) : Option (Bool) := impl_allIn.l0 k a1 a2 l0 (l0.length : Int) 0
theorem impl_allIn.mono_l : ∀ k, (∀ y0 y1 y2 y3 y4, LeO (impl_allIn.l0 k y0 y1 y2 y3 y4) (impl_allIn.l0 (k + 1) y0 y1 y2 y3 y4))
 | 0 => fun _ _ _ _ _ r h => by simp [impl_allIn.l0] at h
 | k + 1 => by
  have ih0 := impl_allIn.mono_l k
  ·
   intro y0 y1 y2 y3 y4
   unfold impl_allIn.l0
   repeat' first
   | (with_reducible exact ih0 _ _ _ _ _)
   | (with_reducible exact LeO.refl _)
   | (with_reducible exact LeO.none _)
   | (with_reducible refine LeO.ite ?_ ?_)
   | (with_reducible refine LeO.bind ?_ (fun _ => ?_))
   | exact ih0 _ _ _ _ _
   | exact LeO.none _
   | refine LeO.ite ?_ ?_
   | refine LeO.bind ?_ (fun _ => ?_)
theorem impl_allIn.mono : ∀ a0 a1 a2 k, LeO (impl_allIn.f k a0 a1 a2) (impl_allIn.f (k + 1) a0 a1 a2) := by
 intro a0 a1 a2 k
 have ih0 := impl_allIn.mono_l k
 unfold impl_allIn.f
 repeat' first
   | (with_reducible exact ih0 _ _ _ _ _)
   | (with_reducible exact LeO.refl _)
   | (with_reducible exact LeO.none _)
   | (with_reducible refine LeO.ite ?_ ?_)
   | (with_reducible refine LeO.bind ?_ (fun _ => ?_))
   | exact ih0 _ _ _ _ _
   | exact LeO.none _
   | refine LeO.ite ?_ ?_
   | refine LeO.bind ?_ (fun _ => ?_)
set_option maxHeartbeats 8000000 in
set_option maxRecDepth 100000 in
theorem impl_allIn.calls (k : Nat) (A0 : Option Addr) (c0 : Nat) (l0 : List Int) (a1 : Int) (a2 : Int) (r : Bool) (w : World) (hr0 : Kd.C (Kd.int .i64) w A0 l0.length l0) (hc0 : l0.length ≤ c0) (h : impl_allIn.f k l0 a1 a2 = some r) :
  Calls Try.prog 33 #[.slice A0 l0.length c0, .int .i64 a1, .int .i64 a2] w fun e w' => e = .returned (.bool r) ∧ Drawn0 w w' := by
 have HR0 := Aside0.mk hr0
 have HC0 := Aside0.mk hc0
 clear hr0 hc0
 have H : (impl_allIn.l0 k a1 a2 l0 (l0.length : Int) 0) = some r := h
 clear h
 have H' := Aside0.mk H
 clear H
 go_enter Try.func33, Try.ntmps33
 go_wp2
 go_loopg [11] k (fun kq v11 w' => ∃ (x11_1 : Int), v11 = .int .i64 x11_1 ∧ Aside0 (impl_allIn.l0 kq a1 a2 l0 (l0.length : Int) x11_1 = some r) ∧ Aside0 (kq ≤ k) ∧ Drawn0 w w')
 case atStart => exact ⟨(0), (by first | rfl | (simp; done) | (simp [*]; done)), H', ⟨Nat.le_refl _⟩, by repeat (first | exact Drawn0.refl _ | apply Drawn0.step)⟩
 case round =>
  clear H'
  try clear p2
  try clear c3
  obtain ⟨x11_1, rfl, HA, HK1, ⟨m1, rfl⟩⟩ := hrel
  cases gk with
  | zero => exact absurd HA.out (by simp [impl_allIn.l0])
  | succ k1 =>
   have H := HA.out
   clear HA
   simp only [impl_allIn.l0] at H
   by_cases c4 : x11_1 < (l0.length : Int)
   ·
    rw [if_pos c4] at H
    have c4b0 : decide (x11_1 < (l0.length : Int)) = true := decide_eq_true c4
    clear c4
    by_cases c5 : 0 ≤ x11_1
    ·
     rw [if_pos c5] at H
     have c5b0 : decide (0 ≤ x11_1) = true := decide_eq_true c5
     clear c5
     by_cases c6 : x11_1 < (l0.length : Int)
     ·
      rw [if_pos c6] at H
      have c6b0 : decide (x11_1 < (l0.length : Int)) = true := decide_eq_true c6
      clear c6
      replace H := Option.bind_eq_some_iff.mp H
      obtain ⟨t321, A70, H⟩ := H
      replace H : (if t321 = true then (impl_allIn.l0 k1 a1 a2 l0 (l0.length : Int) (wrap64 (x11_1 + 1))) else (some false)) = some r := H
      have A7 := Aside0.mk A70
      clear A70
      have HC8 := Aside0.mk H
      clear H
      have p320 : 0 ≤ (x11_1 : Int) := of_decide_eq_true (by first | (with_reducible assumption) | assumption)
      have q320 : x11_1 < (l0.length : Int) := of_decide_eq_true (by first | (with_reducible assumption) | assumption)
      obtain ⟨ad320, e320, hx320_0⟩ := Kd.at_int HR0.out x11_1 p320 q320
      cases e320
      replace p320 := eq_true p320
      replace q320 := eq_true q320
      go_upto_if 19 with (first | ((with_reducible refine gate_callee (f := 32) rfl ?_); refine goesL_ (some 18) rfl rfl Try.func32 (by kernel_rfl) rfl #[.int .i64 (rd l0 x11_1), .int .i64 a1, .int .i64 a2] rfl (by (try simp only [am_]); first | done | rfl) ?_; (with_reducible refine (impl_in.calls (rd l0 x11_1) a1 a2 t321 _ A7.out).mono ?_); rintro e w' ⟨rfl, ⟨nd, rfl⟩⟩; refine ⟨_, rfl, ?_⟩))
      have H := HC8.out
      clear HC8
      by_cases c9 : t321 = true
      ·
       subst c9
       have H1 : (impl_allIn.l0 k1 a1 a2 l0 (l0.length : Int) (wrap64 (x11_1 + 1))) = some r := by rw [if_pos rfl] at H; exact H
       clear H
       have H := H1
       clear H1
       have H' := Aside0.mk H
       clear H
       go_wp2
       go_roundg k1
       case measure => have := HK1.out; omega
       case rel => exact ⟨(wrap64 (x11_1 + 1)), (by first | rfl | (simp; done) | (simp [*]; done)), H', ⟨by have := HK1.out; omega⟩, by repeat (first | exact Drawn0.refl _ | apply Drawn0.step)⟩
      ·
       replace c9 := Bool.eq_false_iff.mpr c9
       subst c9
       have H1 : (some false) = some r := by rw [if_neg (show ¬ (false = true) by decide)] at H; exact H
       clear H
       have H := H1
       clear H1
       obtain rfl := Option.some.inj H
       go_wp2
       go_ret
       exact ⟨by first | rfl | (simp; done) | (simp [*]; done), by repeat (first | exact Drawn0.refl _ | apply Drawn0.step)⟩
     ·
      rw [if_neg c6] at H
      exact absurd H (by simp)
    ·
     rw [if_neg c5] at H
     exact absurd H (by simp)
   ·
    rw [if_neg c4] at H
    have c4b0 : decide (x11_1 < (l0.length : Int)) = false := decide_eq_false c4
    clear c4
    obtain rfl := Option.some.inj H
    go_wp2
    go_ret
    exact ⟨by first | rfl | (simp; done) | (simp [*]; done), by repeat (first | exact Drawn0.refl _ | apply Drawn0.step)⟩

/-! ### impl_Clock_numbers: function 34 -/
def impl_Clock_numbers.f (a0_0 : Int) (a0_1 : Int) (a0_2 : Int) : Option (List Int) := some (([a0_0, a0_1, a0_2] : List Int))
set_option maxHeartbeats 8000000 in
set_option maxRecDepth 100000 in
theorem impl_Clock_numbers.calls (a0_0 : Int) (a0_1 : Int) (a0_2 : Int) (r : List Int) (w : World) (h : impl_Clock_numbers.f a0_0 a0_1 a0_2 = some r) :
  Calls Try.prog 34 #[.agg #[.int .i64 a0_0, .int .i64 a0_1, .int .i64 a0_2]] w fun e w' => ∃ v0_ : Value, e = .returned (v0_) ∧ Kd.R (Kd.int .i64) 3 w' w.heap.size (fun _ => True) v0_ r ∧ Below w.heap.size w w' := by
 have hu28 := Try.underlying28
 have HB := Aside0.mk (Below.refl w.heap.size w)
 have H : (some (([a0_0, a0_1, a0_2] : List Int))) = some r := h
 clear h
 obtain ⟨y323, hy323⟩ : ∃ y_ : List Int, y_ = (([a0_0, a0_1, a0_2] : List Int)) := ⟨_, rfl⟩
 replace H : (some y323) = some r := by first | (rw [hy323]; with_reducible exact H) | (have H2_ := (Option.bind_some _ _).symm.trans H; rw [hy323]; with_reducible exact H2_) | (have H2_ := (Option.bind_some _ _).symm.trans H; with_reducible exact H2_) | with_reducible exact H | (rw [hy323]; exact H) | exact H
 have Ny323 := Aside0.mk hy323
 clear hy323
 obtain rfl := Option.some.inj H
 go_enter Try.func34, Try.ntmps34
 go_wp2_with (first | ((with_reducible refine gate_dst (N := 1) rfl ?_); refine box_event ?hg (N := 1) ?hd (cs := #[.int .i64 a0_0, .int .i64 a0_1, .int .i64 a0_2]) (t := 28) ?hr ?_; (case hd => rfl); (case hg => rfl); (case hr => first | (go_simp; done) | (go_simp; rfl)); intro gb322 hg w2 hbox hb; have BK322 := Aside0.mk (hbox); have GW322 := Aside0.mk ((by rw [hg]; exact (below_size (bl HB.out)) : w.heap.size ≤ gb322)); have GE322 := GW322; replace HB := Aside0.mk (below_step (bl HB.out) hb); clear hb hbox hg; obtain ⟨hcz3_0, hcz3_1, hcz3_2⟩ := ck3 BK322.out; obtain ⟨hfz3_0, hfz3_1, hfz3_2⟩ := fz3 BK322.out) | ((with_reducible refine gate_dst (N := 9) rfl ?_); refine Kd.R_lit (Kd.int .i64) _ 3 ?hg (N := 9) ?hd (xs := ([a0_0, a0_1, a0_2] : List Int)) (inner := [.int .i64 a0_0, .int .i64 a0_1, .int .i64 a0_2]) (ok := fun _ => True) (okp := fun _ => True) ?hr ?hp (fun _ hk => hk) trivial (Below.refl _ _) (Nat.le_refl _) (by simp) ?_; (case hd => rfl); (case hg => rfl); (case hr => first | (go_simp; done) | (go_simp; rfl)); (case hp => exact (Reps.one (show Kd.M (Kd.int .i64) _ _ _ a0_0 [.int .i64 a0_0] from rfl) (Reps.one (show Kd.M (Kd.int .i64) _ _ _ a0_1 [.int .i64 a0_1] from rfl) (Reps.one (show Kd.M (Kd.int .i64) _ _ _ a0_2 [.int .i64 a0_2] from rfl) (Reps.none _ _))))); intro v324 w4 ho5 hb hg_ hnew_; clear hg_ hnew_; (first | rw [← Ny323.out] at ho5 | (simp only [Int.reduceToNat] at ho5; rw [← Ny323.out] at ho5)); have HO325 := Aside0.mk (Kd.R_lower ho5 (below_size (by repeat with_reducible first | exact bl HB.out | refine below_set ?_ GE322.out | refine bq ?_))); replace BK322 := Aside0.mk (blk_below (bk BK322.out) hb); replace HB := Aside0.mk (below_step (by repeat with_reducible first | exact bl HB.out | refine below_set ?_ GE322.out | refine bq ?_) hb); clear hb ho5))
 go_ret
 exact ⟨_, by first | rfl | (simp [errW_none, errW_some] <;> rfl) | (simp [*, errW_none, errW_some] <;> rfl), by (repeat apply rl1); exact HO325.out, by repeat with_reducible first | exact bl HB.out | refine below_set ?_ GE322.out | refine bq ?_⟩

/-! ### impl_ClockOk: function 9 -/
def impl_ClockOk.f (k : Nat) (a0_0 : Int) (a0_1 : Int) (a0_2 : Int) : Option (Bool) := (impl_Clock_numbers.f a0_0 a0_1 a0_2).bind fun t327 => ((impl_allIn.f k t327 0 1000000).bind fun t330 => (some t330))
theorem impl_ClockOk.mono : ∀ a0 a1 a2 k, LeO (impl_ClockOk.f k a0 a1 a2) (impl_ClockOk.f (k + 1) a0 a1 a2) := by
 intro a0 a1 a2 k
 unfold impl_ClockOk.f
 repeat' first
   | (with_reducible exact impl_allIn.mono _ _ _ _)
   | (with_reducible exact LeO.refl _)
   | (with_reducible exact LeO.none _)
   | (with_reducible refine LeO.ite ?_ ?_)
   | (with_reducible refine LeO.bind ?_ (fun _ => ?_))
   | exact impl_allIn.mono _ _ _ _
   | exact LeO.none _
   | refine LeO.ite ?_ ?_
   | refine LeO.bind ?_ (fun _ => ?_)
set_option maxHeartbeats 8000000 in
set_option maxRecDepth 100000 in
theorem impl_ClockOk.calls (k : Nat) (a0_0 : Int) (a0_1 : Int) (a0_2 : Int) (r : Bool) (w : World) (h : impl_ClockOk.f k a0_0 a0_1 a0_2 = some r) :
  Calls Try.prog 9 #[.agg #[.int .i64 a0_0, .int .i64 a0_1, .int .i64 a0_2]] w fun e w' => e = .returned (.bool r) ∧ Below w.heap.size w w' := by
 have hu28 := Try.underlying28
 have HB := Aside0.mk (Below.refl w.heap.size w)
 have H : ((impl_Clock_numbers.f a0_0 a0_1 a0_2).bind fun t327 => ((impl_allIn.f k t327 0 1000000).bind fun t330 => (some t330))) = some r := h
 clear h
 replace H := Option.bind_eq_some_iff.mp H
 obtain ⟨t327, A20, H⟩ := H
 replace H : ((impl_allIn.f k t327 0 1000000).bind fun t330 => (some t330)) = some r := H
 have A2 := Aside0.mk A20
 clear A20
 replace H := Option.bind_eq_some_iff.mp H
 obtain ⟨t330, A30, H⟩ := H
 replace H : (some t330) = some r := H
 have A3 := Aside0.mk A30
 clear A30
 obtain rfl := Option.some.inj H
 go_enter Try.func9, Try.ntmps9
 go_wp2_with (first | ((with_reducible refine gate_dst (N := 1) rfl ?_); refine box_event ?hg (N := 1) ?hd (cs := #[.int .i64 a0_0, .int .i64 a0_1, .int .i64 a0_2]) (t := 28) ?hr ?_; (case hd => rfl); (case hg => rfl); (case hr => first | (go_simp; done) | (go_simp; rfl)); intro gb326 hg w4 hbox hb; have BK326 := Aside0.mk (hbox); have GW326 := Aside0.mk ((by rw [hg]; exact (below_size (bl HB.out)) : w.heap.size ≤ gb326)); have GE326 := GW326; replace HB := Aside0.mk (below_step (bl HB.out) hb); clear hb hbox hg; obtain ⟨hcz5_0, hcz5_1, hcz5_2⟩ := ck3 BK326.out; obtain ⟨hfz5_0, hfz5_1, hfz5_2⟩ := fz3 BK326.out) | ((with_reducible refine gate_callee (f := 34) rfl ?_); refine goesL_ (some 4) rfl rfl Try.func34 (by kernel_rfl) rfl #[.agg #[.int .i64 a0_0, .int .i64 a0_1, .int .i64 a0_2]] rfl (by (try simp only [am_]); first | done | rfl) ?_; (with_reducible refine (impl_Clock_numbers.calls a0_0 a0_1 a0_2 t327 _ A2.out).mono ?_); rintro e w6 ⟨v328, rfl, ho0, hb⟩; refine ⟨_, rfl, ?_⟩; have HO329 := Aside0.mk (Kd.R_lower ho0 (below_size (by repeat with_reducible first | exact bl HB.out | refine below_set ?_ GE326.out | refine bq ?_))); replace BK326 := Aside0.mk (blk_below (bk BK326.out) hb); replace HB := Aside0.mk (below_step (by repeat with_reducible first | exact bl HB.out | refine below_set ?_ GE326.out | refine bq ?_) hb); (try clear hb); (try clear hb2); (try clear hk); (try clear hi); (try clear ho0); obtain ⟨Ao7, co7, eo7⟩ := Kd.R_slice HO329.out; subst eo7) | ((with_reducible refine gate_callee (f := 33) rfl ?_); refine goesL_ (some 5) rfl rfl Try.func33 (by kernel_rfl) rfl #[.slice Ao7 t327.length co7, .int .i64 0, .int .i64 1000000] rfl (by (try simp only [am_]); first | done | rfl) ?_; (with_reducible refine (impl_allIn.calls k _ _ t327 0 1000000 t330 _ ?side1 ?side2 A3.out).mono ?_); (case side1 => exact rc (Kd.R_reads' HO329.out).2.2); (case side2 => exact (Kd.R_reads' HO329.out).2.1); rintro e w' ⟨rfl, ⟨nd, rfl⟩⟩; refine ⟨_, rfl, ?_⟩))
 go_ret
 exact ⟨by first | rfl | (simp [errW_none, errW_some] <;> rfl) | (simp [*, errW_none, errW_some] <;> rfl), by repeat with_reducible first | exact bl HB.out | refine below_set ?_ GE326.out | refine bq ?_⟩

end Go.Proofs.Ytdimdlifjdbgnaa.PFnReleased
