-- Written by a program of this session (wip/xprint.py) out of the translation; Lean checks it.
import Derived.Test.YtdimdlifjdbgnaaPFnReleasedx0
import Derived.Test.YtdimdlifjdbgnaaPFnReleasedx2
import Derived.Test.YtdimdlifjdbgnaaPFnReleasedx3
namespace Go.Proofs.Ytdimdlifjdbgnaa.PFnReleased
open Go.RowKit Go.Proofs.YtdimdlifjdbgnaaW.PrintWords Go.Proofs.YtdimdlifjdbgnaaW.PrintLast Go.Proofs.YtdimdlifjdbgnaaW.PrintMore Go.Proofs.Ytdimdlifjdbgnaa.Sq
attribute [local go_sem] max2_int min2_int max_two min_two max_three min_three max_four min_four   -- for this text's walks alone
set_option linter.unusedVariables false
set_option linter.unusedSimpArgs false

/-! ### spec_l19Draw: function 27 -/
mutual
def spec_l19Draw.l0 : Nat → List ByteArray → Int → List Int → Int → Int → List (S44) → List (S84) → Int → Int → Int → Option ((List (S44)) × (List (S84)) × (List (S57)) × Int × Int × Int × Int × Int)
 | 0, _, _, _, _, _, _, _, _, _, _ => none
 | k + 1, x4, x5, x1000, x1001, x1002, x197000, x197001, x197003, x197004, x197005 => if x5 < (x4.length : Int) then ((spec_l1Once.f x1000 x1001 x1002 4).bind fun bt200 => (if bt200.1 = true then (spec_l19Draw.l0 k x4 (wrap64 (x5 + 1)) x1000 bt200.2.1 bt200.2.2 x197000 x197001 x197003 x197004 x197005) else (if 0 ≤ x5 then ((spec_l19DrawTask.f x1000 bt200.2.1 bt200.2.2 (rdOf ByteArray.empty x4 x5) 51).bind fun bt204 => (if x197000.length < 2199023255552 then (spec_l19Draw.l0 k x4 (wrap64 (x5 + 1)) x1000 bt204.2.2.2.2.2.2.2.1 bt204.2.2.2.2.2.2.2.2 (x197000 ++ [(⟨bt204.1, bt204.2.1, bt204.2.2.1, bt204.2.2.2.1, (⟨bt204.2.2.2.2.1, bt204.2.2.2.2.2.1, bt204.2.2.2.2.2.2.1⟩ : S28)⟩ : S44)]) x197001 x197003 x197004 x197005) else (none))) else (none)))) else ((spec_l1Below.f x1000 x1001 x1002 4).bind fun bt216 => (spec_l19Draw.l1 k 0 bt216.1 x1000 bt216.2.1 bt216.2.2 x197000 x197001 ([] : List (S57)) x197003 x197004 x197005))
def spec_l19Draw.l1 : Nat → Int → Int → List Int → Int → Int → List (S44) → List (S84) → List (S57) → Int → Int → Int → Option ((List (S44)) × (List (S84)) × (List (S57)) × Int × Int × Int × Int × Int)
 | 0, _, _, _, _, _, _, _, _, _, _, _ => none
 | k + 1, x6, x7, x1000, x1001, x1002, x197000, x197001, x197002, x197003, x197004, x197005 => if x7 > 0 then ((spec_l1Below.f x1000 x1001 x1002 3).bind fun bt219 => ((spec_l1Pick.f x1000 bt219.2.1 bt219.2.2 (([(⟨#[98, 101, 108, 116]⟩ : ByteArray), (⟨#[108, 97, 109, 112]⟩ : ByteArray), (⟨#[114, 97, 100, 105, 111]⟩ : ByteArray), (⟨#[115, 101, 97, 116]⟩ : ByteArray), (⟨#[108, 97, 109, 112]⟩ : ByteArray)] : List ByteArray))).bind fun bt225 => ((spec_l1Below.f x1000 bt225.2.1 bt225.2.2 50).bind fun bt228 => (if x197002.length < 4398046511104 then (spec_l19Draw.l1 k (wrap64 ((wrap64 (x6 + 1)) + bt219.1)) (wrap64 (x7 - 1)) x1000 bt228.2.1 bt228.2.2 x197000 x197001 (x197002 ++ [(⟨bt225.1, wrap64 ((wrap64 (x6 + 1)) + bt219.1), wrap64 (x197005 - bt228.1)⟩ : S57)]) x197003 x197004 x197005) else (none))))) else (some (x197000, x197001, x197002, x197003, x197004, x197005, x1001, x1002))
end
def spec_l19Draw.f (k : Nat) (s0_0 : List Int) (s0_1 : Int) (s0_2 : Int) : Option ((List (S44)) × (List (S84)) × (List (S57)) × Int × Int × Int × Int × Int) := (spec_l19DrawCarries.f k s0_0 s0_1 s0_2).bind fun bt182 => ((spec_l1Below.f s0_0 bt182.2.1 bt182.2.2 100).bind fun bt187 => ((spec_l1Below.f s0_0 bt187.2.1 bt187.2.2 60).bind fun bt190 => ((spec_l1Below.f s0_0 bt190.2.1 bt190.2.2 100).bind fun bt193 => (spec_l19Draw.l0 k (([(⟨#[101, 110, 103, 105, 110, 101]⟩ : ByteArray), (⟨#[102, 114, 97, 109, 101]⟩ : ByteArray), (⟨#[103, 101, 97, 114]⟩ : ByteArray), (⟨#[119, 105, 110, 103]⟩ : ByteArray)] : List ByteArray)) 0 s0_0 bt193.2.1 bt193.2.2 ([] : List (S44)) bt182.1 (wrap64 (50 + bt187.1)) (wrap64 (50 + bt190.1)) (wrap64 (50 + bt193.1))))))
theorem spec_l19Draw.mono_l : ∀ k, (∀ y0 y1 y2 y3 y4 y5 y6 y7 y8 y9, LeO (spec_l19Draw.l0 k y0 y1 y2 y3 y4 y5 y6 y7 y8 y9) (spec_l19Draw.l0 (k + 1) y0 y1 y2 y3 y4 y5 y6 y7 y8 y9)) ∧ (∀ y0 y1 y2 y3 y4 y5 y6 y7 y8 y9 y10, LeO (spec_l19Draw.l1 k y0 y1 y2 y3 y4 y5 y6 y7 y8 y9 y10) (spec_l19Draw.l1 (k + 1) y0 y1 y2 y3 y4 y5 y6 y7 y8 y9 y10))
 | 0 => ⟨fun _ _ _ _ _ _ _ _ _ _ r h => by simp [spec_l19Draw.l0] at h, fun _ _ _ _ _ _ _ _ _ _ _ r h => by simp [spec_l19Draw.l1] at h⟩
 | k + 1 => by
  obtain ⟨ih0, ih1⟩ := spec_l19Draw.mono_l k
  refine ⟨?_, ?_⟩
  ·
   intro y0 y1 y2 y3 y4 y5 y6 y7 y8 y9
   unfold spec_l19Draw.l0
   repeat' first
   | (with_reducible exact ih0 _ _ _ _ _ _ _ _ _ _)
   | (with_reducible exact ih1 _ _ _ _ _ _ _ _ _ _ _)
   | (with_reducible exact spec_l19DrawCarries.mono _ _ _ _)
   | (with_reducible exact LeO.refl _)
   | (with_reducible exact LeO.none _)
   | (with_reducible refine LeO.ite ?_ ?_)
   | (with_reducible refine LeO.bind ?_ (fun _ => ?_))
   | exact ih0 _ _ _ _ _ _ _ _ _ _
   | exact ih1 _ _ _ _ _ _ _ _ _ _ _
   | exact spec_l19DrawCarries.mono _ _ _ _
   | exact LeO.none _
   | refine LeO.ite ?_ ?_
   | refine LeO.bind ?_ (fun _ => ?_)
  ·
   intro y0 y1 y2 y3 y4 y5 y6 y7 y8 y9 y10
   unfold spec_l19Draw.l1
   repeat' first
   | (with_reducible exact ih0 _ _ _ _ _ _ _ _ _ _)
   | (with_reducible exact ih1 _ _ _ _ _ _ _ _ _ _ _)
   | (with_reducible exact spec_l19DrawCarries.mono _ _ _ _)
   | (with_reducible exact LeO.refl _)
   | (with_reducible exact LeO.none _)
   | (with_reducible refine LeO.ite ?_ ?_)
   | (with_reducible refine LeO.bind ?_ (fun _ => ?_))
   | exact ih0 _ _ _ _ _ _ _ _ _ _
   | exact ih1 _ _ _ _ _ _ _ _ _ _ _
   | exact spec_l19DrawCarries.mono _ _ _ _
   | exact LeO.none _
   | refine LeO.ite ?_ ?_
   | refine LeO.bind ?_ (fun _ => ?_)
theorem spec_l19Draw.mono : ∀ a0 a1 a2 k, LeO (spec_l19Draw.f k a0 a1 a2) (spec_l19Draw.f (k + 1) a0 a1 a2) := by
 intro a0 a1 a2 k
 obtain ⟨ih0, ih1⟩ := spec_l19Draw.mono_l k
 unfold spec_l19Draw.f
 repeat' first
   | (with_reducible exact ih0 _ _ _ _ _ _ _ _ _ _)
   | (with_reducible exact ih1 _ _ _ _ _ _ _ _ _ _ _)
   | (with_reducible exact spec_l19DrawCarries.mono _ _ _ _)
   | (with_reducible exact LeO.refl _)
   | (with_reducible exact LeO.none _)
   | (with_reducible refine LeO.ite ?_ ?_)
   | (with_reducible refine LeO.bind ?_ (fun _ => ?_))
   | exact ih0 _ _ _ _ _ _ _ _ _ _
   | exact ih1 _ _ _ _ _ _ _ _ _ _ _
   | exact spec_l19DrawCarries.mono _ _ _ _
   | exact LeO.none _
   | refine LeO.ite ?_ ?_
   | refine LeO.bind ?_ (fun _ => ?_)
def spec_l19Draw.T7 : Bool × List (List Nat × List Nat) := (true, [([], []), ([0], [0]), ([], []), ([], []), ([], []), ([3, 4], [3, 4]), ([5], [5]), ([2, 6], [2, 6]), ([7], [7]), ([1, 8, 7], [1, 8]), ([0, 1, 2, 3, 4, 5, 6, 7, 8, 9], []), ([10, 9, 9, 0, 1, 2, 3, 4, 5, 6, 7, 8, 9], [9, 10])])
def spec_l19Draw.B7 : List Nat := [0, 1, 0, 0, 0, 24, 56, 124, 252, 511, 1023, 2047]
theorem spec_l19Draw.tab7 : rtab .any (opsOf Try.f27 7) = spec_l19Draw.T7 := by kernel_rfl
theorem spec_l19Draw.bits7 : waitsOk spec_l19Draw.T7.2 spec_l19Draw.B7 = true := by kernel_rfl
def spec_l19Draw.T13 : Bool × List (List Nat × List Nat) := (true, [([], []), ([0], [0]), ([], []), ([], []), ([2, 3], [2, 3]), ([], []), ([], []), ([6], [6]), ([7], [7]), ([], []), ([9, 4], [9]), ([8, 10], [8, 10]), ([4, 5, 11], [4, 5, 11]), ([12], [12]), ([1, 13, 10], [1, 13]), ([0, 1, 2, 3, 4, 5, 6, 7, 8, 9, 10, 11, 12, 13, 14], []), ([15, 14, 14, 0, 1, 2, 3, 4, 5, 6, 7, 8, 9, 10, 11, 12, 13, 14], [14, 15])])
def spec_l19Draw.B13 : List Nat := [0, 1, 0, 0, 12, 0, 0, 64, 192, 0, 540, 2012, 4092, 8188, 16383, 32767, 65535]
theorem spec_l19Draw.tab13 : rtab .any (opsOf Try.f27 13) = spec_l19Draw.T13 := by kernel_rfl
theorem spec_l19Draw.bits13 : waitsOk spec_l19Draw.T13.2 spec_l19Draw.B13 = true := by kernel_rfl
set_option maxHeartbeats 8000000 in
set_option maxRecDepth 100000 in
theorem spec_l19Draw.calls (k : Nat) (g : Nat) (s0_0 : List Int) (s0_1 : Int) (s0_2 : Int) (r1 : List (S44)) (r2 : List (S84)) (r3 : List (S57)) (r4 : Int) (r5 : Int) (r6 : Int) (r7 : Int) (r8 : Int) (w0 w : World) (hI : IsS108 w0 w g s0_0 s0_1 s0_2) (hB : Below w0.heap.size w0 w) (h : spec_l19Draw.f k s0_0 s0_1 s0_2 = some (r1, r2, r3, r4, r5, r6, r7, r8)) :
  Calls Try.prog 27 #[.pointer (some ⟨g, 0, none⟩)] w fun e w' => ∃ v0_ v1_ v2_ : Value, e = .returned (.agg #[v0_, v1_, v2_, .int .i64 r4, .int .i64 r5, .int .i64 r6]) ∧ Kd.R k44 44 w' w.heap.size (fun _ => True) v0_ r1 ∧ Kd.R k84 84 w' w.heap.size (fun _ => True) v1_ r2 ∧ Kd.R k57 57 w' w.heap.size (fun _ => True) v2_ r3 ∧ IsS108 w0 w' g s0_0 r7 r8 ∧ Below w0.heap.size w0 w' ∧ KeepBut w w' g none := by
 have hu30 := Try.underlying30
 have hu28 := Try.underlying28
 have hu57 := Try.underlying57
 have HI0 := Aside0.mk hI
 have HK := Aside0.mk (KeepBut.refl w g none)
 have HL := Aside0.mk hB.size
 clear hI
 have HW0 := Aside0.mk hB.size
 have HB := Aside0.mk hB
 clear hB
 have H : ((spec_l19DrawCarries.f k s0_0 s0_1 s0_2).bind fun bt182 => ((spec_l1Below.f s0_0 bt182.2.1 bt182.2.2 100).bind fun bt187 => ((spec_l1Below.f s0_0 bt187.2.1 bt187.2.2 60).bind fun bt190 => ((spec_l1Below.f s0_0 bt190.2.1 bt190.2.2 100).bind fun bt193 => (spec_l19Draw.l0 k (([(⟨#[101, 110, 103, 105, 110, 101]⟩ : ByteArray), (⟨#[102, 114, 97, 109, 101]⟩ : ByteArray), (⟨#[103, 101, 97, 114]⟩ : ByteArray), (⟨#[119, 105, 110, 103]⟩ : ByteArray)] : List ByteArray)) 0 s0_0 bt193.2.1 bt193.2.2 ([] : List (S44)) bt182.1 (wrap64 (50 + bt187.1)) (wrap64 (50 + bt190.1)) (wrap64 (50 + bt193.1))))))) = some (r1, r2, r3, r4, r5, r6, r7, r8) := h
 clear h
 replace H := Option.bind_eq_some_iff.mp H
 obtain ⟨⟨t182, t185, t186⟩, A20, H⟩ := H
 replace H : ((spec_l1Below.f s0_0 t185 t186 100).bind fun bt187 => ((spec_l1Below.f s0_0 bt187.2.1 bt187.2.2 60).bind fun bt190 => ((spec_l1Below.f s0_0 bt190.2.1 bt190.2.2 100).bind fun bt193 => (spec_l19Draw.l0 k (([(⟨#[101, 110, 103, 105, 110, 101]⟩ : ByteArray), (⟨#[102, 114, 97, 109, 101]⟩ : ByteArray), (⟨#[103, 101, 97, 114]⟩ : ByteArray), (⟨#[119, 105, 110, 103]⟩ : ByteArray)] : List ByteArray)) 0 s0_0 bt193.2.1 bt193.2.2 ([] : List (S44)) t182 (wrap64 (50 + bt187.1)) (wrap64 (50 + bt190.1)) (wrap64 (50 + bt193.1)))))) = some (r1, r2, r3, r4, r5, r6, r7, r8) := H
 have A2 := Aside0.mk A20
 clear A20
 replace H := Option.bind_eq_some_iff.mp H
 obtain ⟨⟨t187, t188, t189⟩, A30, H⟩ := H
 replace H : ((spec_l1Below.f s0_0 t188 t189 60).bind fun bt190 => ((spec_l1Below.f s0_0 bt190.2.1 bt190.2.2 100).bind fun bt193 => (spec_l19Draw.l0 k (([(⟨#[101, 110, 103, 105, 110, 101]⟩ : ByteArray), (⟨#[102, 114, 97, 109, 101]⟩ : ByteArray), (⟨#[103, 101, 97, 114]⟩ : ByteArray), (⟨#[119, 105, 110, 103]⟩ : ByteArray)] : List ByteArray)) 0 s0_0 bt193.2.1 bt193.2.2 ([] : List (S44)) t182 (wrap64 (50 + t187)) (wrap64 (50 + bt190.1)) (wrap64 (50 + bt193.1))))) = some (r1, r2, r3, r4, r5, r6, r7, r8) := H
 have A3 := Aside0.mk A30
 clear A30
 replace H := Option.bind_eq_some_iff.mp H
 obtain ⟨⟨t190, t191, t192⟩, A40, H⟩ := H
 replace H : ((spec_l1Below.f s0_0 t191 t192 100).bind fun bt193 => (spec_l19Draw.l0 k (([(⟨#[101, 110, 103, 105, 110, 101]⟩ : ByteArray), (⟨#[102, 114, 97, 109, 101]⟩ : ByteArray), (⟨#[103, 101, 97, 114]⟩ : ByteArray), (⟨#[119, 105, 110, 103]⟩ : ByteArray)] : List ByteArray)) 0 s0_0 bt193.2.1 bt193.2.2 ([] : List (S44)) t182 (wrap64 (50 + t187)) (wrap64 (50 + t190)) (wrap64 (50 + bt193.1)))) = some (r1, r2, r3, r4, r5, r6, r7, r8) := H
 have A4 := Aside0.mk A40
 clear A40
 replace H := Option.bind_eq_some_iff.mp H
 obtain ⟨⟨t193, t194, t195⟩, A50, H⟩ := H
 replace H : (spec_l19Draw.l0 k (([(⟨#[101, 110, 103, 105, 110, 101]⟩ : ByteArray), (⟨#[102, 114, 97, 109, 101]⟩ : ByteArray), (⟨#[103, 101, 97, 114]⟩ : ByteArray), (⟨#[119, 105, 110, 103]⟩ : ByteArray)] : List ByteArray)) 0 s0_0 t194 t195 ([] : List (S44)) t182 (wrap64 (50 + t187)) (wrap64 (50 + t190)) (wrap64 (50 + t193))) = some (r1, r2, r3, r4, r5, r6, r7, r8) := H
 have A5 := Aside0.mk A50
 clear A50
 obtain ⟨y197, hy197⟩ : ∃ y_ : List ByteArray, y_ = (([(⟨#[101, 110, 103, 105, 110, 101]⟩ : ByteArray), (⟨#[102, 114, 97, 109, 101]⟩ : ByteArray), (⟨#[103, 101, 97, 114]⟩ : ByteArray), (⟨#[119, 105, 110, 103]⟩ : ByteArray)] : List ByteArray)) := ⟨_, rfl⟩
 replace H : (spec_l19Draw.l0 k y197 0 s0_0 t194 t195 ([] : List (S44)) t182 (wrap64 (50 + t187)) (wrap64 (50 + t190)) (wrap64 (50 + t193))) = some (r1, r2, r3, r4, r5, r6, r7, r8) := by first | (rw [hy197]; with_reducible exact H) | (have H2_ := (Option.bind_some _ _).symm.trans H; rw [hy197]; with_reducible exact H2_) | (have H2_ := (Option.bind_some _ _).symm.trans H; with_reducible exact H2_) | with_reducible exact H | (rw [hy197]; exact H) | exact H
 have Ny197 := Aside0.mk hy197
 clear hy197
 have H' := Aside0.mk H
 clear H
 go_enter Try.func27, Try.ntmps27
 go_wp2_with (first | ((with_reducible refine gate_dst (N := 2) rfl ?_); refine box_event ?hg (N := 2) ?hd (cs := #[.slice none 0 0, .slice none 0 0, .slice none 0 0, .int .i64 0, .int .i64 0, .int .i64 0]) (t := 30) ?hr ?_; (case hd => rfl); (case hg => rfl); (case hr => first | (go_simp; done) | (go_simp; rfl)); intro gb181 hg w6 hbox hb; replace HB := Aside0.mk (below_step (by repeat (first | (with_reducible first | exact HB.out | apply below_alloc | apply pw_below_drewN | apply below_drew1 | refine below_set ?_ (IsS108.ge HI0.out)) | exact HB.out)) hb); have BK181 := Aside0.mk (hbox); have GW181 := Aside0.mk ((by rw [hg]; exact (keep_size (w := w) (g := g) (row := none) (by repeat (first | (with_reducible first | exact HK.out | apply KeepBut.set_ | apply keep_drewN | apply keep_drew | apply keep_alloc) | exact HK.out))) : w.heap.size ≤ gb181)); have GE181 := Aside0.mk ((Nat.le_trans HW0.out (by rw [hg]; exact (keep_size (w := w) (g := g) (row := none) (by repeat (first | (with_reducible first | exact HK.out | apply KeepBut.set_ | apply keep_drewN | apply keep_drew | apply keep_alloc) | exact HK.out))) : w.heap.size ≤ gb181) : w0.heap.size ≤ gb181)); replace HK := Aside0.mk (KeepBut.trans (by repeat (first | (with_reducible first | exact HK.out | apply KeepBut.set_ | apply keep_drewN | apply keep_drew | apply keep_alloc) | exact HK.out)) (KeepBut.of_below hb g none) (.inl rfl)); have NB0_181 := Aside0.mk ((by rw [hg]; exact Nat.ne_of_lt (IsS108.lt (show IsS108 w0 _ g s0_0 s0_1 s0_2 from by repeat (first | (with_reducible first | exact HI0.out | apply IsS108.alloc | apply IsS108.drewN | apply IsS108.drew | apply IsS108.set_1 | apply IsS108.set_2) | exact HI0.out))) : g ≠ gb181)); have NB181_0 := Aside0.mk ((by rw [hg]; exact Nat.ne_of_gt (IsS108.lt (show IsS108 w0 _ g s0_0 s0_1 s0_2 from by repeat (first | (with_reducible first | exact HI0.out | apply IsS108.alloc | apply IsS108.drewN | apply IsS108.drew | apply IsS108.set_1 | apply IsS108.set_2) | exact HI0.out))) : gb181 ≠ g)); replace HI0 := Aside0.mk (IsS108.below (by repeat (first | (with_reducible first | exact HI0.out | apply IsS108.alloc | apply IsS108.drewN | apply IsS108.drew | apply IsS108.set_1 | apply IsS108.set_2) | exact HI0.out)) hb); clear hb hbox hg) | ((with_reducible refine gate_callee (f := 63) rfl ?_); refine goesL_ (some 9) rfl rfl Try.func63 (by kernel_rfl) rfl #[.pointer (some ⟨g, 0, none⟩)] rfl (by (try simp only [am_]); first | done | rfl) ?_; (with_reducible refine (spec_l19DrawCarries.calls k g s0_0 s0_1 s0_2 t182 t185 t186 w0 _ ?side1 ?side2 A2.out).mono ?_); (case side1 => repeat (first | (with_reducible first | exact HI0.out | apply IsS108.alloc | apply IsS108.drewN | apply IsS108.drew | apply IsS108.set_1 | apply IsS108.set_2 | refine IsS108.far ?_ NB0_181.out _) | exact HI0.out)); (case side2 => repeat (first | (with_reducible first | exact HB.out | apply below_alloc | apply pw_below_drewN | apply below_drew1 | refine below_set ?_ (IsS108.ge HI0.out) | refine below_set ?_ GE181.out) | exact HB.out)); rintro e w7 ⟨v183, rfl, ho0, hi, hb, hk⟩; refine ⟨_, rfl, ?_⟩; replace BK181 := Aside0.mk (KeepBut.blk hk (g' := gb181) (o := .cells #[.slice none 0 0, .slice none 0 0, .slice none 0 0, .int .i64 0, .int .i64 0, .int .i64 0] 30 (0, 0)) (bk BK181.out) NB181_0.out (by simp)); have HO184 := Aside0.mk (Kd.R_lower ho0 (keep_size (w := w) (g := g) (row := none) (by repeat (first | (with_reducible first | exact HK.out | apply KeepBut.set_ | apply keep_drewN | apply keep_drew | apply keep_alloc | refine keep_far ?_ GW181.out _) | exact HK.out)))); replace HK := Aside0.mk (KeepBut.trans (by repeat (first | (with_reducible first | exact HK.out | apply KeepBut.set_ | apply keep_drewN | apply keep_drew | apply keep_alloc | refine keep_far ?_ GW181.out _) | exact HK.out)) hk (.inl rfl)); replace HB := Aside0.mk (hb); replace HI0 := Aside0.mk (hi); (try clear hb); (try clear hb2); (try clear hk); (try clear hi); (try clear ho0)) | ((with_reducible refine gate_callee (f := 28) rfl ?_); refine goesL_ (some 11) rfl rfl Try.func28 (by kernel_rfl) rfl #[.pointer (some ⟨g, 0, none⟩), .int .i64 100] rfl (by (try simp only [am_]); first | done | rfl) ?_; (with_reducible refine (spec_l1Below.calls g s0_0 t185 t186 100 t187 t188 t189 w0 _ ?side1 ?side2 A3.out).mono ?_); (case side1 => repeat (first | (with_reducible first | exact HI0.out | apply IsS108.alloc | apply IsS108.drewN | apply IsS108.drew | apply IsS108.set_1 | apply IsS108.set_2 | refine IsS108.far ?_ NB0_181.out _) | exact HI0.out)); (case side2 => repeat (first | (with_reducible first | exact HB.out | apply below_alloc | apply pw_below_drewN | apply below_drew1 | refine below_set ?_ (IsS108.ge HI0.out) | refine below_set ?_ GE181.out) | exact HB.out)); rintro e w8 ⟨rfl, hi, hb, hk⟩; refine ⟨_, rfl, ?_⟩; replace BK181 := Aside0.mk (KeepBut.blk hk (g' := gb181) (o := .cells #[.slice none 0 0, .slice none 0 0, .slice none 0 0, .int .i64 0, .int .i64 0, .int .i64 0] 30 (0, 0)) (bk BK181.out) NB181_0.out (by simp)); replace HO184 := Aside0.mk (Kd.R_mono (Kd.R_keep (IsS108.apart (show IsS108 w0 _ g s0_0 t185 t186 from by repeat (first | (with_reducible first | exact HI0.out | apply IsS108.alloc | apply IsS108.drewN | apply IsS108.drew | apply IsS108.set_1 | apply IsS108.set_2 | refine IsS108.far ?_ NB0_181.out _) | exact HI0.out)) (rl HO184.out) (by decide)) hk (fun _ h => h.2)) (fun _ h => h.1)); replace HK := Aside0.mk (KeepBut.trans (by repeat (first | (with_reducible first | exact HK.out | apply KeepBut.set_ | apply keep_drewN | apply keep_drew | apply keep_alloc | refine keep_far ?_ GW181.out _) | exact HK.out)) hk (.inl rfl)); replace HB := Aside0.mk (hb); replace HI0 := Aside0.mk (hi); (try clear hb); (try clear hb2); (try clear hk); (try clear hi)) | ((with_reducible refine gate_callee (f := 28) rfl ?_); refine goesL_ (some 14) rfl rfl Try.func28 (by kernel_rfl) rfl #[.pointer (some ⟨g, 0, none⟩), .int .i64 60] rfl (by (try simp only [am_]); first | done | rfl) ?_; (with_reducible refine (spec_l1Below.calls g s0_0 t188 t189 60 t190 t191 t192 w0 _ ?side1 ?side2 A4.out).mono ?_); (case side1 => repeat (first | (with_reducible first | exact HI0.out | apply IsS108.alloc | apply IsS108.drewN | apply IsS108.drew | apply IsS108.set_1 | apply IsS108.set_2 | refine IsS108.far ?_ NB0_181.out _) | exact HI0.out)); (case side2 => repeat (first | (with_reducible first | exact HB.out | apply below_alloc | apply pw_below_drewN | apply below_drew1 | refine below_set ?_ (IsS108.ge HI0.out) | refine below_set ?_ GE181.out) | exact HB.out)); rintro e w9 ⟨rfl, hi, hb, hk⟩; refine ⟨_, rfl, ?_⟩; replace BK181 := Aside0.mk (KeepBut.blk hk (g' := gb181) (o := .cells #[.slice none 0 0, .slice none 0 0, .slice none 0 0, .int .i64 0, .int .i64 0, .int .i64 0] 30 (0, 0)) (bk BK181.out) NB181_0.out (by simp)); replace HO184 := Aside0.mk (Kd.R_mono (Kd.R_keep (IsS108.apart (show IsS108 w0 _ g s0_0 t188 t189 from by repeat (first | (with_reducible first | exact HI0.out | apply IsS108.alloc | apply IsS108.drewN | apply IsS108.drew | apply IsS108.set_1 | apply IsS108.set_2 | refine IsS108.far ?_ NB0_181.out _) | exact HI0.out)) (rl HO184.out) (by decide)) hk (fun _ h => h.2)) (fun _ h => h.1)); replace HK := Aside0.mk (KeepBut.trans (by repeat (first | (with_reducible first | exact HK.out | apply KeepBut.set_ | apply keep_drewN | apply keep_drew | apply keep_alloc | refine keep_far ?_ GW181.out _) | exact HK.out)) hk (.inl rfl)); replace HB := Aside0.mk (hb); replace HI0 := Aside0.mk (hi); (try clear hb); (try clear hb2); (try clear hk); (try clear hi)) | ((with_reducible refine gate_callee (f := 28) rfl ?_); refine goesL_ (some 17) rfl rfl Try.func28 (by kernel_rfl) rfl #[.pointer (some ⟨g, 0, none⟩), .int .i64 100] rfl (by (try simp only [am_]); first | done | rfl) ?_; (with_reducible refine (spec_l1Below.calls g s0_0 t191 t192 100 t193 t194 t195 w0 _ ?side1 ?side2 A5.out).mono ?_); (case side1 => repeat (first | (with_reducible first | exact HI0.out | apply IsS108.alloc | apply IsS108.drewN | apply IsS108.drew | apply IsS108.set_1 | apply IsS108.set_2 | refine IsS108.far ?_ NB0_181.out _) | exact HI0.out)); (case side2 => repeat (first | (with_reducible first | exact HB.out | apply below_alloc | apply pw_below_drewN | apply below_drew1 | refine below_set ?_ (IsS108.ge HI0.out) | refine below_set ?_ GE181.out) | exact HB.out)); rintro e w10 ⟨rfl, hi, hb, hk⟩; refine ⟨_, rfl, ?_⟩; replace BK181 := Aside0.mk (KeepBut.blk hk (g' := gb181) (o := .cells #[.slice none 0 0, .slice none 0 0, .slice none 0 0, .int .i64 0, .int .i64 0, .int .i64 0] 30 (0, 0)) (bk BK181.out) NB181_0.out (by simp)); replace HO184 := Aside0.mk (Kd.R_mono (Kd.R_keep (IsS108.apart (show IsS108 w0 _ g s0_0 t191 t192 from by repeat (first | (with_reducible first | exact HI0.out | apply IsS108.alloc | apply IsS108.drewN | apply IsS108.drew | apply IsS108.set_1 | apply IsS108.set_2 | refine IsS108.far ?_ NB0_181.out _) | exact HI0.out)) (rl HO184.out) (by decide)) hk (fun _ h => h.2)) (fun _ h => h.1)); replace HK := Aside0.mk (KeepBut.trans (by repeat (first | (with_reducible first | exact HK.out | apply KeepBut.set_ | apply keep_drewN | apply keep_drew | apply keep_alloc | refine keep_far ?_ GW181.out _) | exact HK.out)) hk (.inl rfl)); replace HB := Aside0.mk (hb); replace HI0 := Aside0.mk (hi); (try clear hb); (try clear hb2); (try clear hk); (try clear hi); obtain ⟨Ao11, co11, eo11⟩ := Kd.R_slice HO184.out; subst eo11) | ((with_reducible refine gate_dst (N := 3) rfl ?_); refine box_event ?hg (N := 3) ?hd (cs := #[.slice none 0 0, .slice none 0 0, .slice none 0 0, .int .i64 0, .int .i64 0, .int .i64 0]) (t := 30) ?hr ?_; (case hd => rfl); (case hg => rfl); (case hr => first | (go_simp; done) | (go_simp; rfl)); intro gb196 hg w12 hbox hb; replace HO184 := Aside0.mk (Kd.R_below (rl HO184.out) hb); replace HB := Aside0.mk (below_step (by repeat (first | (with_reducible first | exact HB.out | apply below_alloc | apply pw_below_drewN | apply below_drew1 | refine below_set ?_ (IsS108.ge HI0.out) | refine below_set ?_ GE181.out) | exact HB.out)) hb); have BK196 := Aside0.mk (hbox); have GW196 := Aside0.mk ((by rw [hg]; exact (keep_size (w := w) (g := g) (row := none) (by repeat (first | (with_reducible first | exact HK.out | apply KeepBut.set_ | apply keep_drewN | apply keep_drew | apply keep_alloc | refine keep_far ?_ GW181.out _) | exact HK.out))) : w.heap.size ≤ gb196)); have GE196 := Aside0.mk ((Nat.le_trans HW0.out (by rw [hg]; exact (keep_size (w := w) (g := g) (row := none) (by repeat (first | (with_reducible first | exact HK.out | apply KeepBut.set_ | apply keep_drewN | apply keep_drew | apply keep_alloc | refine keep_far ?_ GW181.out _) | exact HK.out))) : w.heap.size ≤ gb196) : w0.heap.size ≤ gb196)); replace HK := Aside0.mk (KeepBut.trans (by repeat (first | (with_reducible first | exact HK.out | apply KeepBut.set_ | apply keep_drewN | apply keep_drew | apply keep_alloc | refine keep_far ?_ GW181.out _) | exact HK.out)) (KeepBut.of_below hb g none) (.inl rfl)); have NB181_196 := nb_ hg BK181.out; have NB196_181 := Aside0.mk NB181_196.out.symm; replace BK181 := Aside0.mk (blk_below (bk BK181.out) hb); have NB0_196 := Aside0.mk ((by rw [hg]; exact Nat.ne_of_lt (IsS108.lt (show IsS108 w0 _ g s0_0 t194 t195 from by repeat (first | (with_reducible first | exact HI0.out | apply IsS108.alloc | apply IsS108.drewN | apply IsS108.drew | apply IsS108.set_1 | apply IsS108.set_2 | refine IsS108.far ?_ NB0_181.out _) | exact HI0.out))) : g ≠ gb196)); have NB196_0 := Aside0.mk ((by rw [hg]; exact Nat.ne_of_gt (IsS108.lt (show IsS108 w0 _ g s0_0 t194 t195 from by repeat (first | (with_reducible first | exact HI0.out | apply IsS108.alloc | apply IsS108.drewN | apply IsS108.drew | apply IsS108.set_1 | apply IsS108.set_2 | refine IsS108.far ?_ NB0_181.out _) | exact HI0.out))) : gb196 ≠ g)); replace HI0 := Aside0.mk (IsS108.below (by repeat (first | (with_reducible first | exact HI0.out | apply IsS108.alloc | apply IsS108.drewN | apply IsS108.drew | apply IsS108.set_1 | apply IsS108.set_2 | refine IsS108.far ?_ NB0_181.out _) | exact HI0.out)) hb); clear hb hbox hg; have hnb13 := NB196_181.out; have hnc13 := NB181_196.out; have hnb14 := NB196_0.out; have hnc14 := NB0_196.out; obtain ⟨hcz15_0, hcz15_1, hcz15_2, hcz15_3, hcz15_4, hcz15_5⟩ := ck6 BK196.out; obtain ⟨hfz15_0, hfz15_1, hfz15_2, hfz15_3, hfz15_4, hfz15_5⟩ := fz6 BK196.out) | ((with_reducible refine gate_dst (N := 21) rfl ?_); refine Kd.R_lit Kd.string _ 9 ?hg (N := 21) ?hd (xs := ([(⟨#[101, 110, 103, 105, 110, 101]⟩ : ByteArray), (⟨#[102, 114, 97, 109, 101]⟩ : ByteArray), (⟨#[103, 101, 97, 114]⟩ : ByteArray), (⟨#[119, 105, 110, 103]⟩ : ByteArray)] : List ByteArray)) (inner := [.string (⟨#[101, 110, 103, 105, 110, 101]⟩ : ByteArray), .string (⟨#[102, 114, 97, 109, 101]⟩ : ByteArray), .string (⟨#[103, 101, 97, 114]⟩ : ByteArray), .string (⟨#[119, 105, 110, 103]⟩ : ByteArray)]) (ok := fun _ => True) (okp := fun _ => True) ?hr ?hp (fun _ hk => hk) trivial (Below.refl _ _) (Nat.le_refl _) (by simp) ?_; (case hd => rfl); (case hg => rfl); (case hr => first | (go_simp; done) | (go_simp; rfl)); (case hp => exact (Reps.one (show Kd.M Kd.string _ _ _ (⟨#[101, 110, 103, 105, 110, 101]⟩ : ByteArray) [.string (⟨#[101, 110, 103, 105, 110, 101]⟩ : ByteArray)] from rfl) (Reps.one (show Kd.M Kd.string _ _ _ (⟨#[102, 114, 97, 109, 101]⟩ : ByteArray) [.string (⟨#[102, 114, 97, 109, 101]⟩ : ByteArray)] from rfl) (Reps.one (show Kd.M Kd.string _ _ _ (⟨#[103, 101, 97, 114]⟩ : ByteArray) [.string (⟨#[103, 101, 97, 114]⟩ : ByteArray)] from rfl) (Reps.one (show Kd.M Kd.string _ _ _ (⟨#[119, 105, 110, 103]⟩ : ByteArray) [.string (⟨#[119, 105, 110, 103]⟩ : ByteArray)] from rfl) (Reps.none _ _)))))); intro v198 w16 ho17 hb hg_ hnew_; clear hg_ hnew_; (first | rw [← Ny197.out] at ho17 | (simp only [Int.reduceToNat] at ho17; rw [← Ny197.out] at ho17)); replace HO184 := Aside0.mk (Kd.R_below (by (repeat apply rl1); exact (Kd.R_mono (Kd.R_far (p := ⟨gb196, 5, none⟩) (Kd.R_far (p := ⟨gb196, 4, none⟩) (Kd.R_far (p := ⟨gb196, 3, none⟩) (Kd.R_far (p := ⟨gb196, 2, none⟩) (Kd.R_far (p := ⟨gb196, 1, none⟩) (Kd.R_far (p := ⟨gb196, 0, none⟩) (Kd.R_types HO184.out BK196.out (by decide)) (fun _ hk => hk.2) (.slice none 0 0)) (fun _ hk => hk.2) (.slice Ao11 t182.length co11)) (fun _ hk => hk.2) (.slice none 0 0)) (fun _ hk => hk.2) (.int .i64 (wrap64 (50 + t187)))) (fun _ hk => hk.2) (.int .i64 (wrap64 (50 + t190)))) (fun _ hk => hk.2) (.int .i64 (wrap64 (50 + t193)))) (fun _ h_ => h_.1))) hb); have HO199 := Aside0.mk (Kd.R_lower ho17 (keep_size (w := w) (g := g) (row := none) (by repeat (first | (with_reducible first | exact HK.out | apply KeepBut.set_ | apply keep_drewN | apply keep_drew | apply keep_alloc | refine keep_far ?_ GW181.out _ | refine keep_far ?_ GW196.out _) | exact HK.out)))); replace BK181 := Aside0.mk (blk_below (g := gb181) (o := .cells #[.slice none 0 0, .slice none 0 0, .slice none 0 0, .int .i64 0, .int .i64 0, .int .i64 0] 30 (0, 0)) (by (repeat refine bk1 ?_); refine blk_far ?_ NB181_196.out _; (repeat refine bk1 ?_); refine blk_far ?_ NB181_196.out _; (repeat refine bk1 ?_); refine blk_far ?_ NB181_196.out _; (repeat refine bk1 ?_); refine blk_far ?_ NB181_196.out _; (repeat refine bk1 ?_); refine blk_far ?_ NB181_196.out _; (repeat refine bk1 ?_); refine blk_far ?_ NB181_196.out _; (repeat refine bk1 ?_); exact BK181.out) hb); replace BK196 := Aside0.mk (blk_below (g := gb196) (o := .cells #[.slice none 0 0, .slice Ao11 t182.length co11, .slice none 0 0, .int .i64 (wrap64 (50 + t187)), .int .i64 (wrap64 (50 + t190)), .int .i64 (wrap64 (50 + t193))] 30 (0, 0)) (by (repeat refine bk1 ?_); refine blk_put (cs := #[.slice none 0 0, .slice Ao11 t182.length co11, .slice none 0 0, .int .i64 (wrap64 (50 + t187)), .int .i64 (wrap64 (50 + t190)), .int .i64 0]) ?_ 5 _ rfl; (repeat refine bk1 ?_); refine blk_put (cs := #[.slice none 0 0, .slice Ao11 t182.length co11, .slice none 0 0, .int .i64 (wrap64 (50 + t187)), .int .i64 0, .int .i64 0]) ?_ 4 _ rfl; (repeat refine bk1 ?_); refine blk_put (cs := #[.slice none 0 0, .slice Ao11 t182.length co11, .slice none 0 0, .int .i64 0, .int .i64 0, .int .i64 0]) ?_ 3 _ rfl; (repeat refine bk1 ?_); refine blk_put (cs := #[.slice none 0 0, .slice Ao11 t182.length co11, .slice none 0 0, .int .i64 0, .int .i64 0, .int .i64 0]) ?_ 2 _ rfl; (repeat refine bk1 ?_); refine blk_put (cs := #[.slice none 0 0, .slice none 0 0, .slice none 0 0, .int .i64 0, .int .i64 0, .int .i64 0]) ?_ 1 _ rfl; (repeat refine bk1 ?_); refine blk_put (cs := #[.slice none 0 0, .slice none 0 0, .slice none 0 0, .int .i64 0, .int .i64 0, .int .i64 0]) ?_ 0 _ rfl; (repeat refine bk1 ?_); exact BK196.out) hb); replace HK := Aside0.mk (KeepBut.trans (by repeat (first | (with_reducible first | exact HK.out | apply KeepBut.set_ | apply keep_drewN | apply keep_drew | apply keep_alloc | refine keep_far ?_ GW181.out _ | refine keep_far ?_ GW196.out _) | exact HK.out)) (KeepBut.of_below hb g none) (.inl rfl)); replace HB := Aside0.mk (below_step (by repeat (first | (with_reducible first | exact HB.out | apply below_alloc | apply pw_below_drewN | apply below_drew1 | refine below_set ?_ (IsS108.ge HI0.out) | refine below_set ?_ GE181.out | refine below_set ?_ GE196.out) | exact HB.out)) hb); replace HI0 := Aside0.mk (IsS108.below (show IsS108 w0 ((((((w12.setCell ⟨gb196, 0, none⟩ (.slice none 0 0)).setCell ⟨gb196, 1, none⟩ (.slice Ao11 t182.length co11)).setCell ⟨gb196, 2, none⟩ (.slice none 0 0)).setCell ⟨gb196, 3, none⟩ (.int .i64 (wrap64 (50 + t187)))).setCell ⟨gb196, 4, none⟩ (.int .i64 (wrap64 (50 + t190)))).setCell ⟨gb196, 5, none⟩ (.int .i64 (wrap64 (50 + t193)))) g s0_0 t194 t195 from by repeat (first | (with_reducible first | exact HI0.out | apply IsS108.alloc | apply IsS108.drewN | apply IsS108.drew | apply IsS108.set_1 | apply IsS108.set_2 | refine IsS108.far ?_ NB0_181.out _ | refine IsS108.far ?_ NB0_196.out _) | exact HI0.out)) hb); clear hb ho17))
 go_loopg [5] k (fun kq v5 w' => ∃ (x5_1 : Int) (x1001_1 : Int) (x1002_1 : Int) (x197000_1 : List (S44)) (u197000 : Value), v5 = .int .i64 x5_1 ∧ Aside0 (spec_l19Draw.l0 kq y197 x5_1 s0_0 x1001_1 x1002_1 x197000_1 t182 (wrap64 (50 + t187)) (wrap64 (50 + t190)) (wrap64 (50 + t193)) = some (r1, r2, r3, r4, r5, r6, r7, r8)) ∧ Aside0 (kq ≤ k) ∧ Aside0 (Kd.R Kd.string 9 w' w.heap.size (fun _ => True) v198 y197) ∧ Aside0 (Kd.R k44 44 w' w.heap.size (fun _ => True) u197000 x197000_1) ∧ Aside0 (Kd.R k84 84 w' w.heap.size (fun _ => True) (.slice Ao11 t182.length co11) t182) ∧ Aside0 (w'.heap[gb181]? = some (.cells #[(.slice none 0 0), (.slice none 0 0), (.slice none 0 0), .int .i64 0, .int .i64 0, .int .i64 0] 30 (0, 0))) ∧ Aside0 (w'.heap[gb196]? = some (.cells #[u197000, (.slice Ao11 t182.length co11), (.slice none 0 0), .int .i64 (wrap64 (50 + t187)), .int .i64 (wrap64 (50 + t190)), .int .i64 (wrap64 (50 + t193))] 30 (0, 0))) ∧ Aside0 (IsS108 w0 w' g s0_0 x1001_1 x1002_1) ∧ Aside0 (KeepBut w w' g none) ∧ Aside0 (Below w0.heap.size w0 w'))
 case atStart => exact ⟨(0), (t194), (t195), (([] : List (S44))), (.slice none 0 0), (by first | rfl | (simp; done) | (simp [*]; done)), H', ⟨Nat.le_refl _⟩, ⟨rl HO199.out⟩, ⟨by first | exact Kd.R_nil _ _ _ _ _ | exact Kd.N_nil _ _ _ _ _ | exact Kd.V_nil _ _ _ _ _ | exact Kd.Q_nil _ _ _ _ _ | exact Kd.S_nil _ _ _ _ _⟩, ⟨rl HO184.out⟩, ⟨bk BK181.out⟩, ⟨bk BK196.out⟩, ⟨by repeat (first | (with_reducible first | exact HI0.out | apply IsS108.alloc | apply IsS108.drewN | apply IsS108.drew | apply IsS108.set_1 | apply IsS108.set_2 | refine IsS108.far ?_ NB0_181.out _ | refine IsS108.far ?_ NB0_196.out _) | exact HI0.out)⟩, ⟨by repeat (first | (with_reducible first | exact HK.out | apply KeepBut.set_ | apply keep_drewN | apply keep_drew | apply keep_alloc | refine keep_far ?_ GW181.out _ | refine keep_far ?_ GW196.out _) | exact HK.out)⟩, ⟨by repeat (first | (with_reducible first | exact HB.out | apply below_alloc | apply pw_below_drewN | apply below_drew1 | refine below_set ?_ (IsS108.ge HI0.out) | refine below_set ?_ GE181.out | refine below_set ?_ GE196.out) | exact HB.out)⟩⟩
 case round =>
  clear H'
  try clear c1
  try clear c2
  try clear p2
  try clear c6
  try clear p6
  try clear c13
  try clear c14
  try clear hcz15_0 hcz15_1 hcz15_2 hcz15_3 hcz15_4 hcz15_5 hfz15_0 hfz15_1 hfz15_2 hfz15_3 hfz15_4 hfz15_5
  obtain ⟨x5_1, x1001_1, x1002_1, x197000_1, u197000, rfl, HA, HK1, HO_4, HO_197000, HO_197001, BK181, BK196, HI0, HK, HB⟩ := hrel
  cases gk with
  | zero => exact absurd HA.out (by simp [spec_l19Draw.l0])
  | succ k1 =>
   have H := HA.out
   clear HA
   simp only [spec_l19Draw.l0] at H
   by_cases c18 : x5_1 < (y197.length : Int)
   ·
    rw [if_pos c18] at H
    have c18b0 : decide (x5_1 < (y197.length : Int)) = true := decide_eq_true c18
    clear c18
    replace H := Option.bind_eq_some_iff.mp H
    obtain ⟨⟨t200, t201, t202⟩, A190, H⟩ := H
    replace H : (if t200 = true then (spec_l19Draw.l0 k1 y197 (wrap64 (x5_1 + 1)) s0_0 t201 t202 x197000_1 t182 (wrap64 (50 + t187)) (wrap64 (50 + t190)) (wrap64 (50 + t193))) else (if 0 ≤ x5_1 then ((spec_l19DrawTask.f s0_0 t201 t202 (rdOf ByteArray.empty y197 x5_1) 51).bind fun bt204 => (if x197000_1.length < 2199023255552 then (spec_l19Draw.l0 k1 y197 (wrap64 (x5_1 + 1)) s0_0 bt204.2.2.2.2.2.2.2.1 bt204.2.2.2.2.2.2.2.2 (x197000_1 ++ [(⟨bt204.1, bt204.2.1, bt204.2.2.1, bt204.2.2.2.1, (⟨bt204.2.2.2.2.1, bt204.2.2.2.2.2.1, bt204.2.2.2.2.2.2.1⟩ : S28)⟩ : S44)]) t182 (wrap64 (50 + t187)) (wrap64 (50 + t190)) (wrap64 (50 + t193))) else (none))) else (none))) = some (r1, r2, r3, r4, r5, r6, r7, r8) := H
    have A19 := Aside0.mk A190
    clear A190
    have HC20 := Aside0.mk H
    clear H
    obtain ⟨Ao21, co21, eo21⟩ := Kd.R_slice HO_4.out
    subst eo21
    go_upto_if 30 with (first | ((with_reducible refine gate_callee (f := 64) rfl ?_); refine goesL_ (some 29) rfl rfl Try.func64 (by kernel_rfl) rfl #[.pointer (some ⟨g, 0, none⟩), .int .i64 4] rfl (by (try simp only [am_]); first | done | rfl) ?_; (with_reducible refine (spec_l1Once.calls g s0_0 x1001_1 x1002_1 4 t200 t201 t202 w0 _ ?side1 ?side2 A19.out).mono ?_); (case side1 => repeat (first | (with_reducible first | exact HI0.out | apply IsS108.alloc | apply IsS108.drewN | apply IsS108.drew | apply IsS108.set_1 | apply IsS108.set_2 | refine IsS108.far ?_ NB0_181.out _ | refine IsS108.far ?_ NB0_196.out _) | exact HI0.out)); (case side2 => repeat (first | (with_reducible first | exact HB.out | apply below_alloc | apply pw_below_drewN | apply below_drew1 | refine below_set ?_ (IsS108.ge HI0.out) | refine below_set ?_ GE181.out | refine below_set ?_ GE196.out) | exact HB.out)); rintro e w22 ⟨rfl, hi, hb, hk⟩; refine ⟨_, rfl, ?_⟩; replace HO_4 := Aside0.mk (Kd.R_mono (Kd.R_keep (IsS108.apart (show IsS108 w0 _ g s0_0 x1001_1 x1002_1 from by repeat (first | (with_reducible first | exact HI0.out | apply IsS108.alloc | apply IsS108.drewN | apply IsS108.drew | apply IsS108.set_1 | apply IsS108.set_2 | refine IsS108.far ?_ NB0_181.out _ | refine IsS108.far ?_ NB0_196.out _) | exact HI0.out)) (rl HO_4.out) (by decide)) hk (fun _ h => h.2)) (fun _ h => h.1)); replace HO_197000 := Aside0.mk (Kd.R_mono (Kd.R_keep (IsS108.apart (show IsS108 w0 _ g s0_0 x1001_1 x1002_1 from by repeat (first | (with_reducible first | exact HI0.out | apply IsS108.alloc | apply IsS108.drewN | apply IsS108.drew | apply IsS108.set_1 | apply IsS108.set_2 | refine IsS108.far ?_ NB0_181.out _ | refine IsS108.far ?_ NB0_196.out _) | exact HI0.out)) (rl HO_197000.out) (by decide)) hk (fun _ h => h.2)) (fun _ h => h.1)); replace HO_197001 := Aside0.mk (Kd.R_mono (Kd.R_keep (IsS108.apart (show IsS108 w0 _ g s0_0 x1001_1 x1002_1 from by repeat (first | (with_reducible first | exact HI0.out | apply IsS108.alloc | apply IsS108.drewN | apply IsS108.drew | apply IsS108.set_1 | apply IsS108.set_2 | refine IsS108.far ?_ NB0_181.out _ | refine IsS108.far ?_ NB0_196.out _) | exact HI0.out)) (rl HO_197001.out) (by decide)) hk (fun _ h => h.2)) (fun _ h => h.1)); replace BK181 := Aside0.mk (KeepBut.blk hk (g' := gb181) (o := .cells #[.slice none 0 0, .slice none 0 0, .slice none 0 0, .int .i64 0, .int .i64 0, .int .i64 0] 30 (0, 0)) (bk BK181.out) NB181_0.out (by simp)); replace BK196 := Aside0.mk (KeepBut.blk hk (g' := gb196) (o := .cells #[u197000, .slice Ao11 t182.length co11, .slice none 0 0, .int .i64 (wrap64 (50 + t187)), .int .i64 (wrap64 (50 + t190)), .int .i64 (wrap64 (50 + t193))] 30 (0, 0)) (bk BK196.out) NB196_0.out (by simp)); replace HK := Aside0.mk (KeepBut.trans (by repeat (first | (with_reducible first | exact HK.out | apply KeepBut.set_ | apply keep_drewN | apply keep_drew | apply keep_alloc | refine keep_far ?_ GW181.out _ | refine keep_far ?_ GW196.out _) | exact HK.out)) hk (.inl rfl)); replace HB := Aside0.mk (hb); replace HI0 := Aside0.mk (hi); (try clear hb); (try clear hb2); (try clear hk); (try clear hi)))
    have H := HC20.out
    clear HC20
    by_cases c23 : t200 = true
    ·
     subst c23
     have H1 : (spec_l19Draw.l0 k1 y197 (wrap64 (x5_1 + 1)) s0_0 t201 t202 x197000_1 t182 (wrap64 (50 + t187)) (wrap64 (50 + t190)) (wrap64 (50 + t193))) = some (r1, r2, r3, r4, r5, r6, r7, r8) := by rw [if_pos rfl] at H; exact H
     clear H
     have H := H1
     clear H1
     have H' := Aside0.mk H
     clear H
     go_wp2
     go_roundg k1
     case measure => have := HK1.out; omega
     case rel => exact ⟨(wrap64 (x5_1 + 1)), (t201), (t202), (x197000_1), (u197000), (by first | rfl | (simp; done) | (simp [*]; done)), H', ⟨by have := HK1.out; omega⟩, ⟨rl HO_4.out⟩, ⟨rl HO_197000.out⟩, ⟨rl HO_197001.out⟩, ⟨bk BK181.out⟩, ⟨bk BK196.out⟩, ⟨by repeat (first | (with_reducible first | exact HI0.out | apply IsS108.alloc | apply IsS108.drewN | apply IsS108.drew | apply IsS108.set_1 | apply IsS108.set_2 | refine IsS108.far ?_ NB0_181.out _ | refine IsS108.far ?_ NB0_196.out _) | exact HI0.out)⟩, ⟨by repeat (first | (with_reducible first | exact HK.out | apply KeepBut.set_ | apply keep_drewN | apply keep_drew | apply keep_alloc | refine keep_far ?_ GW181.out _ | refine keep_far ?_ GW196.out _) | exact HK.out)⟩, ⟨by repeat (first | (with_reducible first | exact HB.out | apply below_alloc | apply pw_below_drewN | apply below_drew1 | refine below_set ?_ (IsS108.ge HI0.out) | refine below_set ?_ GE181.out | refine below_set ?_ GE196.out) | exact HB.out)⟩⟩
    ·
     replace c23 := Bool.eq_false_iff.mpr c23
     subst c23
     have H1 : (if 0 ≤ x5_1 then ((spec_l19DrawTask.f s0_0 t201 t202 (rdOf ByteArray.empty y197 x5_1) 51).bind fun bt204 => (if x197000_1.length < 2199023255552 then (spec_l19Draw.l0 k1 y197 (wrap64 (x5_1 + 1)) s0_0 bt204.2.2.2.2.2.2.2.1 bt204.2.2.2.2.2.2.2.2 (x197000_1 ++ [(⟨bt204.1, bt204.2.1, bt204.2.2.1, bt204.2.2.2.1, (⟨bt204.2.2.2.2.1, bt204.2.2.2.2.2.1, bt204.2.2.2.2.2.2.1⟩ : S28)⟩ : S44)]) t182 (wrap64 (50 + t187)) (wrap64 (50 + t190)) (wrap64 (50 + t193))) else (none))) else (none)) = some (r1, r2, r3, r4, r5, r6, r7, r8) := by rw [if_neg (show ¬ (false = true) by decide)] at H; exact H
     clear H
     have H := H1
     clear H1
     by_cases c24 : 0 ≤ x5_1
     ·
      rw [if_pos c24] at H
      have c24b0 : decide (0 ≤ x5_1) = true := decide_eq_true c24
      clear c24
      (first | rw [c24b0] | (simp only [i64_w, i32_w]; rw [c24b0]) | skip)
      replace H := Option.bind_eq_some_iff.mp H
      obtain ⟨⟨t204, t205, t206, t207, t208, t209, t210, t211, t212⟩, A250, H⟩ := H
      replace H : (if x197000_1.length < 2199023255552 then (spec_l19Draw.l0 k1 y197 (wrap64 (x5_1 + 1)) s0_0 t211 t212 (x197000_1 ++ [(⟨t204, t205, t206, t207, (⟨t208, t209, t210⟩ : S28)⟩ : S44)]) t182 (wrap64 (50 + t187)) (wrap64 (50 + t190)) (wrap64 (50 + t193))) else (none)) = some (r1, r2, r3, r4, r5, r6, r7, r8) := H
      have A25 := Aside0.mk A250
      clear A250
      by_cases c26 : x197000_1.length < 2199023255552
      ·
       rw [if_pos c26] at H
       have LMc26 := Aside0.mk c26
       clear c26
       obtain ⟨y213, hy213⟩ : ∃ y_ : List (S44), y_ = (x197000_1 ++ [(⟨t204, t205, t206, t207, (⟨t208, t209, t210⟩ : S28)⟩ : S44)]) := ⟨_, rfl⟩
       replace H : (spec_l19Draw.l0 k1 y197 (wrap64 (x5_1 + 1)) s0_0 t211 t212 y213 t182 (wrap64 (50 + t187)) (wrap64 (50 + t190)) (wrap64 (50 + t193))) = some (r1, r2, r3, r4, r5, r6, r7, r8) := by first | (rw [hy213]; with_reducible exact H) | (have H2_ := (Option.bind_some _ _).symm.trans H; rw [hy213]; with_reducible exact H2_) | (have H2_ := (Option.bind_some _ _).symm.trans H; with_reducible exact H2_) | with_reducible exact H | (rw [hy213]; exact H) | exact H
       have Ny213 := Aside0.mk hy213
       clear hy213
       have H' := Aside0.mk H
       clear H
       try go_wp2
       have n0_ := Aside0.mk (Kd.R_drew HO_4.out)
       have n1_ := Aside0.mk (Kd.R_drew HO_197000.out)
       have n2_ := Aside0.mk (Kd.R_drew HO_197001.out)
       have n3_ := Aside0.mk (blk_drew BK181.out)
       have n4_ := Aside0.mk (blk_drew BK196.out)
       have n5_ := Aside0.mk (IsS108.drew HI0.out)
       have n6_ := Aside0.mk (keep_drew HK.out)
       have n7_ := Aside0.mk (below_drew1 HB.out)
       clear HO_4
       clear HO_197000
       clear HO_197001
       clear BK181
       clear BK196
       clear HI0
       clear HK
       clear HB
       have HO_4 := n0_
       have HO_197000 := n1_
       have HO_197001 := n2_
       have BK181 := n3_
       have BK196 := n4_
       have HI0 := n5_
       have HK := n6_
       have HB := n7_
       clear n0_ n1_ n2_ n3_ n4_ n5_ n6_ n7_
       have p203 : 0 ≤ (x5_1 : Int) := of_decide_eq_true (by first | (with_reducible assumption) | assumption)
       have q203 : x5_1 < (y197.length : Int) := of_decide_eq_true (by first | (with_reducible assumption) | assumption)
       obtain ⟨ad203, e203, hx203_0⟩ := Kd.at_string (Kd.R_reads' HO_4.out).2.2 x5_1 p203 q203
       cases e203
       replace p203 := eq_true p203
       replace q203 := eq_true q203
       refine start_ (n := 12) (S := fun w' => w'.cell? ⟨gb196, 0, none⟩ = some (u197000) ∧ w'.cell? ⟨gb196, 1, none⟩ = some (.slice Ao11 t182.length co11) ∧ w'.cell? ⟨gb196, 2, none⟩ = some (.slice none 0 0) ∧ w'.cell? ⟨gb196, 3, none⟩ = some (.int .i64 (wrap64 (50 + t187))) ∧ w'.cell? ⟨gb196, 4, none⟩ = some (.int .i64 (wrap64 (50 + t190))) ∧ w'.cell? ⟨gb196, 5, none⟩ = some (.int .i64 (wrap64 (50 + t193))) ∧ w'.cell? (ad203.add (x5_1).toNat) = some (.string (rdOf ByteArray.empty y197 x5_1))) (ds := [9, 11]) m0_12 (by kernel_rfl) rfl rfl ⟨ck BK196.out 0 rfl, ck BK196.out 1 rfl, ck BK196.out 2 rfl, ck BK196.out 3 rfl, ck BK196.out 4 rfl, ck BK196.out 5 rfl, hx203_0⟩ (fun hHeld => ?_); refine with_tabW spec_l19Draw.tab7 spec_l19Draw.bits7 (fun HT_ HW_ => ?_)
       generalize w22.drew = w27 at HO_4 HO_197000 HO_197001 BK181 BK196 HI0 HK HB hx203_0 hHeld ⊢
       refine pq_ HT_.out 0 31 m1_12 ?_
       refine pq_ HT_.out 2 33 n15 ?_
       refine pq_ HT_.out 3 34 n16 ?_
       refine pq_ HT_.out 4 35 n17 ?_
       refine pq_ HT_.out 5 36 n18 ?_
       refine tk_ HT_.out HW_.out 1 32 m6_12 rfl rfl (by kernel_rfl) (by rfl) (by rintro w' ⟨s0, s1, s2, s3, s4, s5, s6⟩; go_simp; with_reducible rfl) hHeld (by simp only [sp_]; rfl) (fun _ _ _ h => h) ?_
       refine tk_ HT_.out HW_.out 6 37 m7_12 rfl rfl (by kernel_rfl) (by rfl) (by rintro w' ⟨s0, s1, s2, s3, s4, s5, s6⟩; go_simp; with_reducible rfl) hHeld (by simp only [sp_]; rfl) (fun _ _ _ h => h) ?_
       refine one_ (i := 7) (N := some 38) m8_12 rfl rfl (one_of HT_.out (by kernel_rfl)) (by decide) (fun K hK => ?_)
       refine goes_ Try.func65 (by kernel_rfl) rfl #[.pointer (some ⟨g, 0, none⟩), .string (rdOf ByteArray.empty y197 x5_1), .int .i64 51] (by rfl) rfl rfl (by (try simp only [am_]); first | done | rfl) ?_
       with_reducible refine (spec_l19DrawTask.calls g s0_0 t201 t202 (rdOf ByteArray.empty y197 x5_1) 51 t204 t205 t206 t207 t208 t209 t210 t211 t212 w0 _ ?side1 ?side2 A25.out).mono ?_
       (case side1 => repeat (first | (with_reducible first | exact HI0.out | apply IsS108.alloc | apply IsS108.drewN | apply IsS108.drew | apply IsS108.set_1 | apply IsS108.set_2 | refine IsS108.far ?_ NB0_181.out _ | refine IsS108.far ?_ NB0_196.out _) | exact HI0.out))
       (case side2 => repeat (first | (with_reducible first | exact HB.out | apply below_alloc | apply pw_below_drewN | apply below_drew1 | refine below_set ?_ (IsS108.ge HI0.out) | refine below_set ?_ GE181.out | refine below_set ?_ GE196.out) | exact HB.out))
       rintro e w28 ⟨rfl, hi, hb, hk⟩
       have HS6_ := keep_cell hk (hHeld.2.2.2.2.2.2) (by first | (rw [add_block]; exact Kd.own_blk (IsS108.own_ne HI0.out HO_4.out (by decide))) | (show (Addr.add _ _).block ≠ _; rw [add_block]; exact Kd.own_blk (IsS108.own_ne HI0.out HO_4.out (by decide))) | exact Kd.own_blk (IsS108.own_ne HI0.out HO_4.out (by decide)))
       refine ⟨_, rfl, ?_⟩
       have n0_ := Aside0.mk (Kd.R_mono (Kd.R_keep (IsS108.apart (show IsS108 w0 _ g s0_0 t201 t202 from by repeat (first | (with_reducible first | exact HI0.out | apply IsS108.alloc | apply IsS108.drewN | apply IsS108.drew | apply IsS108.set_1 | apply IsS108.set_2 | refine IsS108.far ?_ NB0_181.out _ | refine IsS108.far ?_ NB0_196.out _) | exact HI0.out)) (rl HO_4.out) (by decide)) hk (fun _ h => h.2)) (fun _ h => h.1))
       have n1_ := Aside0.mk (Kd.R_mono (Kd.R_keep (IsS108.apart (show IsS108 w0 _ g s0_0 t201 t202 from by repeat (first | (with_reducible first | exact HI0.out | apply IsS108.alloc | apply IsS108.drewN | apply IsS108.drew | apply IsS108.set_1 | apply IsS108.set_2 | refine IsS108.far ?_ NB0_181.out _ | refine IsS108.far ?_ NB0_196.out _) | exact HI0.out)) (rl HO_197000.out) (by decide)) hk (fun _ h => h.2)) (fun _ h => h.1))
       have n2_ := Aside0.mk (Kd.R_mono (Kd.R_keep (IsS108.apart (show IsS108 w0 _ g s0_0 t201 t202 from by repeat (first | (with_reducible first | exact HI0.out | apply IsS108.alloc | apply IsS108.drewN | apply IsS108.drew | apply IsS108.set_1 | apply IsS108.set_2 | refine IsS108.far ?_ NB0_181.out _ | refine IsS108.far ?_ NB0_196.out _) | exact HI0.out)) (rl HO_197001.out) (by decide)) hk (fun _ h => h.2)) (fun _ h => h.1))
       have n3_ := Aside0.mk (KeepBut.blk hk (g' := gb181) (o := .cells #[.slice none 0 0, .slice none 0 0, .slice none 0 0, .int .i64 0, .int .i64 0, .int .i64 0] 30 (0, 0)) (bk BK181.out) NB181_0.out (by simp))
       have n4_ := Aside0.mk (KeepBut.blk hk (g' := gb196) (o := .cells #[u197000, .slice Ao11 t182.length co11, .slice none 0 0, .int .i64 (wrap64 (50 + t187)), .int .i64 (wrap64 (50 + t190)), .int .i64 (wrap64 (50 + t193))] 30 (0, 0)) (bk BK196.out) NB196_0.out (by simp))
       have n5_ := Aside0.mk (KeepBut.trans (by repeat (first | (with_reducible first | exact HK.out | apply KeepBut.set_ | apply keep_drewN | apply keep_drew | apply keep_alloc | refine keep_far ?_ GW181.out _ | refine keep_far ?_ GW196.out _) | exact HK.out)) hk (.inl rfl))
       have n6_ := Aside0.mk (hb)
       have n7_ := Aside0.mk (hi)
       clear HO_4
       clear HO_197000
       clear HO_197001
       clear BK181
       clear BK196
       clear HK
       clear HB
       clear HI0
       have HO_4 := n0_
       have HO_197000 := n1_
       have HO_197001 := n2_
       have BK181 := n3_
       have BK196 := n4_
       have HK := n5_
       have HB := n6_
       have HI0 := n7_
       clear n0_ n1_ n2_ n3_ n4_ n5_ n6_ n7_
       (try clear hb)
       (try clear hb2)
       (try clear hk)
       (try clear hi)
       refine hK.out _ _ ⟨ck BK196.out 0 rfl, ck BK196.out 1 rfl, ck BK196.out 2 rfl, ck BK196.out 3 rfl, ck BK196.out 4 rfl, ck BK196.out 5 rfl, HS6_⟩ (fun hHeld => ?_)
       clear hK K
       refine norm_ (a' := ?_) ?_ ?_
       rotate_left
       ·
        show Act.put _ (some 38) _ = _
        simp only [sp_]
        rfl
       refine one_ (i := 8) (N := some 39) m9_12 rfl rfl (one_of HT_.out (by kernel_rfl)) (by decide) (fun K hK => ?_)
       refine value_ (w1 := ?_) (v := ?_) (by rfl) rfl ?_ ?_
       rotate_left 2
       ·
        go_simp
        constructor
        ·
         rfl
        ·
         rfl
       refine hK.out _ _ ⟨(blk_cell (blk_alloc BK196.out _) 0).trans rfl, (blk_cell (blk_alloc BK196.out _) 1).trans rfl, (blk_cell (blk_alloc BK196.out _) 2).trans rfl, (blk_cell (blk_alloc BK196.out _) 3).trans rfl, (blk_cell (blk_alloc BK196.out _) 4).trans rfl, (blk_cell (blk_alloc BK196.out _) 5).trans rfl, (World.cell?_alloc_lt _ _ _ (World.block_lt_of_cell? _ _ (hHeld.2.2.2.2.2.2))).trans (hHeld.2.2.2.2.2.2)⟩ (fun hHeld => ?_)
       clear hK K
       refine norm_ (a' := ?_) ?_ ?_
       rotate_left
       ·
        show Act.put _ (some 39) _ = _
        simp only [sp_]
        rfl
       refine last_ (i := 9) (N := some 40) m10_12 rfl rfl (one_of HT_.out (by kernel_rfl)) (by decide) (fun K hK => ?_)
       refine Kd.R_append_step k44 w.heap.size (by rfl) (.tmp 32) (.tmp 39) 24 44 (.agg #[(.string ⟨#[]⟩), (.int .i64 0), (.int .i64 0), (.int .i64 0), (.int .i64 0), (.int .i64 0), (.int .i64 0)]) 64 rfl Try.underlying24 info44 rfl (by decide) (by omega) u197000 x197000_1 (⟨t204, t205, t206, t207, (⟨t208, t209, t210⟩ : S28)⟩ : S44) [.string t204, .int .i64 t205, .int .i64 t206, .int .i64 t207, .int .i64 t208, .int .i64 t209, .int .i64 t210] (fun _ => True) (fun _ => False) rfl rfl ?aP (fun _ hk => hk.elim) ?aF ?aO (Below.refl _ _) ?aS ?aL ?_
       (case aP => exact k44_mkM _ _ _ (⟨t204, t205, t206, t207, (⟨t208, t209, t210⟩ : S28)⟩ : S44))
       (case aF => exact (fun _ _ => trivial))
       (case aO => exact (rl HO_197000.out))
       (case aS => exact (keep_size (w := w) (g := g) (row := none) (by repeat (first | (with_reducible first | exact HK.out | apply KeepBut.set_ | apply keep_drewN | apply keep_drew | apply keep_alloc | refine keep_far ?_ GW181.out _ | refine keep_far ?_ GW196.out _) | exact HK.out))))
       (case aL => have := LMc26.out; omega)
       intro v214 w29 ho hb hg hat
       rw [← Ny213.out] at ho
       have n0_ := Aside0.mk (Kd.R_over' (rl HO_4.out) (Kd.R_typed (rl HO_197000.out)) (by decide) hg)
       have n1_ := Aside0.mk (Kd.R_over' (rl HO_197001.out) (Kd.R_typed (rl HO_197000.out)) (by decide) hg)
       have n2_ := Aside0.mk (blk_grown (g := gb181) (o := .cells #[.slice none 0 0, .slice none 0 0, .slice none 0 0, .int .i64 0, .int .i64 0, .int .i64 0] 30 (0, 0)) (bk BK181.out) hg (Kd.R_ne HO_197000.out BK181.out (by decide)))
       have n3_ := Aside0.mk (blk_grown (g := gb196) (o := .cells #[u197000, .slice Ao11 t182.length co11, .slice none 0 0, .int .i64 (wrap64 (50 + t187)), .int .i64 (wrap64 (50 + t190)), .int .i64 (wrap64 (50 + t193))] 30 (0, 0)) (bk BK196.out) hg (Kd.R_ne HO_197000.out BK196.out (by decide)))
       have n4_ := Aside0.mk (IsS108.grown (by repeat (first | (with_reducible first | exact HI0.out | apply IsS108.alloc | apply IsS108.drewN | apply IsS108.drew | apply IsS108.set_1 | apply IsS108.set_2 | refine IsS108.far ?_ NB0_181.out _ | refine IsS108.far ?_ NB0_196.out _) | exact HI0.out)) hg (IsS108.own_ne HI0.out HO_197000.out (by decide)))
       have n5_ := Aside0.mk (below_weaken (by repeat (first | (with_reducible first | exact HB.out | apply below_alloc | apply pw_below_drewN | apply below_drew1 | refine below_set ?_ (IsS108.ge HI0.out) | refine below_set ?_ GE181.out | refine below_set ?_ GE196.out) | exact HB.out)) HL.out hb)
       have n6_ := Aside0.mk (KeepBut.trans (by repeat (first | (with_reducible first | exact HK.out | apply KeepBut.set_ | apply keep_drewN | apply keep_drew | apply keep_alloc | refine keep_far ?_ GW181.out _ | refine keep_far ?_ GW196.out _) | exact HK.out)) (KeepBut.of_grown hg g) (Kd.R_base2 HO_197000.out))
       have n7_ := Aside0.mk (ho)
       clear HO_4
       clear HO_197001
       clear BK181
       clear BK196
       clear HI0
       clear HB
       clear HK
       clear HO_197000
       have HO_4 := n0_
       have HO_197001 := n1_
       have BK181 := n2_
       have BK196 := n3_
       have HI0 := n4_
       have HB := n5_
       have HK := n6_
       have HO215 := n7_
       clear n0_ n1_ n2_ n3_ n4_ n5_ n6_ n7_
       clear ho hb hg hat
       obtain ⟨Ao30, co30, eo30⟩ := Kd.R_slice HO215.out
       (first | subst eo30 | (injection eo30 with f1_ f2_ f3_; have f4_ := f1_.symm; have f5_ := f3_.symm; clear f1_ f2_ f3_; subst f4_; subst f5_))
       refine hK.out _ _ ?_
       clear hK K
       refine norm_ (a' := ?_) ?_ ?_
       rotate_left
       ·
        show Act.put _ (some 40) _ = _
        simp only [sp_]
        rfl
       refine pq_ HT_.out 10 41 m11_12 ?_
       refine last_ (i := 11) (N := none) m12_12 rfl rfl (one_of HT_.out (by kernel_rfl)) (by decide) (fun K hK => ?_)
       have hs31 : w29.cell? ⟨gb196, 0, none⟩ = some (u197000) := ck BK196.out 0 rfl
       have hfs31 := blk_frozen BK196.out 0
       have hns31_0 := NB181_196.out
       have hms31_0 := NB196_181.out
       refine skip_ (w1 := ?_) (by rfl) rfl ?_ ?_
       rotate_left
       ·
        go_simp
        rfl
       refine hK.out _ _ ?_
       clear hK K
       refine done_ (done_of HT_.out (by kernel_rfl)) ?_
       try go_wp2
       go_roundg k1
       case measure => have := HK1.out; omega
       case rel => exact ⟨(wrap64 (x5_1 + 1)), (t211), (t212), (y213), (.slice Ao30 y213.length co30), (by first | rfl | (simp; done) | (simp [*]; done)), H', ⟨by have := HK1.out; omega⟩, ⟨by (repeat apply rl1); exact Kd.R_mono (Kd.R_far (p := ⟨gb196, 0, none⟩) (Kd.R_types HO_4.out BK196.out (by decide)) (fun _ hk => hk.2) (.slice Ao30 y213.length co30)) (fun _ hk => trivial)⟩, ⟨by (repeat apply rl1); exact Kd.R_mono (Kd.R_far (p := ⟨gb196, 0, none⟩) (Kd.R_types HO215.out BK196.out (by decide)) (fun _ hk => hk.2) (.slice Ao30 y213.length co30)) (fun _ hk => trivial)⟩, ⟨by (repeat apply rl1); exact Kd.R_mono (Kd.R_far (p := ⟨gb196, 0, none⟩) (Kd.R_types HO_197001.out BK196.out (by decide)) (fun _ hk => hk.2) (.slice Ao30 y213.length co30)) (fun _ hk => trivial)⟩, ⟨by (repeat refine bk1 ?_); refine blk_far ?_ NB181_196.out _; (repeat refine bk1 ?_); exact BK181.out⟩, ⟨by (repeat refine bk1 ?_); refine blk_put (cs := #[u197000, .slice Ao11 t182.length co11, .slice none 0 0, .int .i64 (wrap64 (50 + t187)), .int .i64 (wrap64 (50 + t190)), .int .i64 (wrap64 (50 + t193))]) ?_ 0 _ rfl; (repeat refine bk1 ?_); exact BK196.out⟩, ⟨by repeat (first | (with_reducible first | exact HI0.out | apply IsS108.alloc | apply IsS108.drewN | apply IsS108.drew | apply IsS108.set_1 | apply IsS108.set_2 | refine IsS108.far ?_ NB0_181.out _ | refine IsS108.far ?_ NB0_196.out _) | exact HI0.out)⟩, ⟨by repeat (first | (with_reducible first | exact HK.out | apply KeepBut.set_ | apply keep_drewN | apply keep_drew | apply keep_alloc | refine keep_far ?_ GW181.out _ | refine keep_far ?_ GW196.out _) | exact HK.out)⟩, ⟨by repeat (first | (with_reducible first | exact HB.out | apply below_alloc | apply pw_below_drewN | apply below_drew1 | refine below_set ?_ (IsS108.ge HI0.out) | refine below_set ?_ GE181.out | refine below_set ?_ GE196.out) | exact HB.out)⟩⟩
      ·
       rw [if_neg c26] at H
       exact absurd H (by simp)
     ·
      rw [if_neg c24] at H
      exact absurd H (by simp)
   ·
    rw [if_neg c18] at H
    have c18b0 : decide (x5_1 < (y197.length : Int)) = false := decide_eq_false c18
    clear c18
    replace H := Option.bind_eq_some_iff.mp H
    obtain ⟨⟨t216, t217, t218⟩, A320, H⟩ := H
    replace H : (spec_l19Draw.l1 k1 0 t216 s0_0 t217 t218 x197000_1 t182 ([] : List (S57)) (wrap64 (50 + t187)) (wrap64 (50 + t190)) (wrap64 (50 + t193))) = some (r1, r2, r3, r4, r5, r6, r7, r8) := H
    have A32 := Aside0.mk A320
    clear A320
    have H' := Aside0.mk H
    clear H
    obtain ⟨Ao33, co33, eo33⟩ := Kd.R_slice HO_4.out
    subst eo33
    go_wp2_with (first | ((with_reducible refine gate_callee (f := 28) rfl ?_); refine goesL_ (some 43) rfl rfl Try.func28 (by kernel_rfl) rfl #[.pointer (some ⟨g, 0, none⟩), .int .i64 4] rfl (by (try simp only [am_]); first | done | rfl) ?_; (with_reducible refine (spec_l1Below.calls g s0_0 x1001_1 x1002_1 4 t216 t217 t218 w0 _ ?side1 ?side2 A32.out).mono ?_); (case side1 => repeat (first | (with_reducible first | exact HI0.out | apply IsS108.alloc | apply IsS108.drewN | apply IsS108.drew | apply IsS108.set_1 | apply IsS108.set_2 | refine IsS108.far ?_ NB0_181.out _ | refine IsS108.far ?_ NB0_196.out _) | exact HI0.out)); (case side2 => repeat (first | (with_reducible first | exact HB.out | apply below_alloc | apply pw_below_drewN | apply below_drew1 | refine below_set ?_ (IsS108.ge HI0.out) | refine below_set ?_ GE181.out | refine below_set ?_ GE196.out) | exact HB.out)); rintro e w34 ⟨rfl, hi, hb, hk⟩; refine ⟨_, rfl, ?_⟩; replace HO_4 := Aside0.mk (Kd.R_mono (Kd.R_keep (IsS108.apart (show IsS108 w0 _ g s0_0 x1001_1 x1002_1 from by repeat (first | (with_reducible first | exact HI0.out | apply IsS108.alloc | apply IsS108.drewN | apply IsS108.drew | apply IsS108.set_1 | apply IsS108.set_2 | refine IsS108.far ?_ NB0_181.out _ | refine IsS108.far ?_ NB0_196.out _) | exact HI0.out)) (rl HO_4.out) (by decide)) hk (fun _ h => h.2)) (fun _ h => h.1)); replace HO_197000 := Aside0.mk (Kd.R_mono (Kd.R_keep (IsS108.apart (show IsS108 w0 _ g s0_0 x1001_1 x1002_1 from by repeat (first | (with_reducible first | exact HI0.out | apply IsS108.alloc | apply IsS108.drewN | apply IsS108.drew | apply IsS108.set_1 | apply IsS108.set_2 | refine IsS108.far ?_ NB0_181.out _ | refine IsS108.far ?_ NB0_196.out _) | exact HI0.out)) (rl HO_197000.out) (by decide)) hk (fun _ h => h.2)) (fun _ h => h.1)); replace HO_197001 := Aside0.mk (Kd.R_mono (Kd.R_keep (IsS108.apart (show IsS108 w0 _ g s0_0 x1001_1 x1002_1 from by repeat (first | (with_reducible first | exact HI0.out | apply IsS108.alloc | apply IsS108.drewN | apply IsS108.drew | apply IsS108.set_1 | apply IsS108.set_2 | refine IsS108.far ?_ NB0_181.out _ | refine IsS108.far ?_ NB0_196.out _) | exact HI0.out)) (rl HO_197001.out) (by decide)) hk (fun _ h => h.2)) (fun _ h => h.1)); replace BK181 := Aside0.mk (KeepBut.blk hk (g' := gb181) (o := .cells #[.slice none 0 0, .slice none 0 0, .slice none 0 0, .int .i64 0, .int .i64 0, .int .i64 0] 30 (0, 0)) (bk BK181.out) NB181_0.out (by simp)); replace BK196 := Aside0.mk (KeepBut.blk hk (g' := gb196) (o := .cells #[u197000, .slice Ao11 t182.length co11, .slice none 0 0, .int .i64 (wrap64 (50 + t187)), .int .i64 (wrap64 (50 + t190)), .int .i64 (wrap64 (50 + t193))] 30 (0, 0)) (bk BK196.out) NB196_0.out (by simp)); replace HK := Aside0.mk (KeepBut.trans (by repeat (first | (with_reducible first | exact HK.out | apply KeepBut.set_ | apply keep_drewN | apply keep_drew | apply keep_alloc | refine keep_far ?_ GW181.out _ | refine keep_far ?_ GW196.out _) | exact HK.out)) hk (.inl rfl)); replace HB := Aside0.mk (hb); replace HI0 := Aside0.mk (hi); (try clear hb); (try clear hb2); (try clear hk); (try clear hi)))
    go_loopg [6, 7] k1 (fun kq v6 v7 w' => ∃ (x6_2 : Int) (x7_2 : Int) (x1001_2 : Int) (x1002_2 : Int) (x197002_2 : List (S57)) (u197002 : Value), v6 = .int .i64 x6_2 ∧ v7 = .int .i64 x7_2 ∧ Aside0 (spec_l19Draw.l1 kq x6_2 x7_2 s0_0 x1001_2 x1002_2 x197000_1 t182 x197002_2 (wrap64 (50 + t187)) (wrap64 (50 + t190)) (wrap64 (50 + t193)) = some (r1, r2, r3, r4, r5, r6, r7, r8)) ∧ Aside0 (kq ≤ k1) ∧ Aside0 (Kd.R k44 44 w' w.heap.size (fun _ => True) u197000 x197000_1) ∧ Aside0 (Kd.R k84 84 w' w.heap.size (fun _ => True) (.slice Ao11 t182.length co11) t182) ∧ Aside0 (Kd.R k57 57 w' w.heap.size (fun _ => True) u197002 x197002_2) ∧ Aside0 (w'.heap[gb181]? = some (.cells #[(.slice none 0 0), (.slice none 0 0), (.slice none 0 0), .int .i64 0, .int .i64 0, .int .i64 0] 30 (0, 0))) ∧ Aside0 (w'.heap[gb196]? = some (.cells #[u197000, (.slice Ao11 t182.length co11), u197002, .int .i64 (wrap64 (50 + t187)), .int .i64 (wrap64 (50 + t190)), .int .i64 (wrap64 (50 + t193))] 30 (0, 0))) ∧ Aside0 (IsS108 w0 w' g s0_0 x1001_2 x1002_2) ∧ Aside0 (KeepBut w w' g none) ∧ Aside0 (Below w0.heap.size w0 w'))
    case atStart => exact ⟨(0), (t216), (t217), (t218), (([] : List (S57))), (.slice none 0 0), (by first | rfl | (simp; done) | (simp [*]; done)), (by first | rfl | (simp; done) | (simp [*]; done)), H', ⟨Nat.le_refl _⟩, ⟨rl HO_197000.out⟩, ⟨rl HO_197001.out⟩, ⟨by first | exact Kd.R_nil _ _ _ _ _ | exact Kd.N_nil _ _ _ _ _ | exact Kd.V_nil _ _ _ _ _ | exact Kd.Q_nil _ _ _ _ _ | exact Kd.S_nil _ _ _ _ _⟩, ⟨bk BK181.out⟩, ⟨bk BK196.out⟩, ⟨by repeat (first | (with_reducible first | exact HI0.out | apply IsS108.alloc | apply IsS108.drewN | apply IsS108.drew | apply IsS108.set_1 | apply IsS108.set_2 | refine IsS108.far ?_ NB0_181.out _ | refine IsS108.far ?_ NB0_196.out _) | exact HI0.out)⟩, ⟨by repeat (first | (with_reducible first | exact HK.out | apply KeepBut.set_ | apply keep_drewN | apply keep_drew | apply keep_alloc | refine keep_far ?_ GW181.out _ | refine keep_far ?_ GW196.out _) | exact HK.out)⟩, ⟨by repeat (first | (with_reducible first | exact HB.out | apply below_alloc | apply pw_below_drewN | apply below_drew1 | refine below_set ?_ (IsS108.ge HI0.out) | refine below_set ?_ GE181.out | refine below_set ?_ GE196.out) | exact HB.out)⟩⟩
    case round =>
     clear H'
     try clear c1
     try clear c2
     try clear p2
     try clear q2
     try clear hx2
     try clear c6
     try clear p6
     try clear c13
     try clear c14
     try clear c18
     try clear c18b0
     try clear p20
     try clear q20
     try clear hx20
     try clear c23
     try clear c24
     try clear c24b0
     try clear c26
     try clear c27
     try clear c28
     try clear hcz15_0 hcz15_1 hcz15_2 hcz15_3 hcz15_4 hcz15_5 hfz15_0 hfz15_1 hfz15_2 hfz15_3 hfz15_4 hfz15_5
     try clear hx203_0
     try clear p2
     try clear p203
     try clear p6
     try clear q203
     obtain ⟨x6_2, x7_2, x1001_2, x1002_2, x197002_2, u197002, rfl, rfl, HA, HK2, HO_197000, HO_197001, HO_197002, BK181, BK196, HI0, HK, HB⟩ := hrel
     cases gk with
     | zero => exact absurd HA.out (by simp [spec_l19Draw.l1])
     | succ k2 =>
      have H := HA.out
      clear HA
      simp only [spec_l19Draw.l1] at H
      by_cases c35 : x7_2 > 0
      ·
       rw [if_pos c35] at H
       have c35b0 : decide (0 < x7_2) = true := decide_eq_true c35
       clear c35
       replace H := Option.bind_eq_some_iff.mp H
       obtain ⟨⟨t219, t220, t221⟩, A360, H⟩ := H
       replace H : ((spec_l1Pick.f s0_0 t220 t221 (([(⟨#[98, 101, 108, 116]⟩ : ByteArray), (⟨#[108, 97, 109, 112]⟩ : ByteArray), (⟨#[114, 97, 100, 105, 111]⟩ : ByteArray), (⟨#[115, 101, 97, 116]⟩ : ByteArray), (⟨#[108, 97, 109, 112]⟩ : ByteArray)] : List ByteArray))).bind fun bt225 => ((spec_l1Below.f s0_0 bt225.2.1 bt225.2.2 50).bind fun bt228 => (if x197002_2.length < 4398046511104 then (spec_l19Draw.l1 k2 (wrap64 ((wrap64 (x6_2 + 1)) + t219)) (wrap64 (x7_2 - 1)) s0_0 bt228.2.1 bt228.2.2 x197000_1 t182 (x197002_2 ++ [(⟨bt225.1, wrap64 ((wrap64 (x6_2 + 1)) + t219), wrap64 ((wrap64 (50 + t193)) - bt228.1)⟩ : S57)]) (wrap64 (50 + t187)) (wrap64 (50 + t190)) (wrap64 (50 + t193))) else (none)))) = some (r1, r2, r3, r4, r5, r6, r7, r8) := H
       have A36 := Aside0.mk A360
       clear A360
       obtain ⟨y222, hy222⟩ : ∃ y_ : List ByteArray, y_ = (([(⟨#[98, 101, 108, 116]⟩ : ByteArray), (⟨#[108, 97, 109, 112]⟩ : ByteArray), (⟨#[114, 97, 100, 105, 111]⟩ : ByteArray), (⟨#[115, 101, 97, 116]⟩ : ByteArray), (⟨#[108, 97, 109, 112]⟩ : ByteArray)] : List ByteArray)) := ⟨_, rfl⟩
       replace H : ((spec_l1Pick.f s0_0 t220 t221 y222).bind fun bt225 => ((spec_l1Below.f s0_0 bt225.2.1 bt225.2.2 50).bind fun bt228 => (if x197002_2.length < 4398046511104 then (spec_l19Draw.l1 k2 (wrap64 ((wrap64 (x6_2 + 1)) + t219)) (wrap64 (x7_2 - 1)) s0_0 bt228.2.1 bt228.2.2 x197000_1 t182 (x197002_2 ++ [(⟨bt225.1, wrap64 ((wrap64 (x6_2 + 1)) + t219), wrap64 ((wrap64 (50 + t193)) - bt228.1)⟩ : S57)]) (wrap64 (50 + t187)) (wrap64 (50 + t190)) (wrap64 (50 + t193))) else (none)))) = some (r1, r2, r3, r4, r5, r6, r7, r8) := by first | (rw [hy222]; with_reducible exact H) | (have H2_ := (Option.bind_some _ _).symm.trans H; rw [hy222]; with_reducible exact H2_) | (have H2_ := (Option.bind_some _ _).symm.trans H; with_reducible exact H2_) | with_reducible exact H | (rw [hy222]; exact H) | exact H
       have Ny222 := Aside0.mk hy222
       clear hy222
       replace H := Option.bind_eq_some_iff.mp H
       obtain ⟨⟨t225, t226, t227⟩, A370, H⟩ := H
       replace H : ((spec_l1Below.f s0_0 t226 t227 50).bind fun bt228 => (if x197002_2.length < 4398046511104 then (spec_l19Draw.l1 k2 (wrap64 ((wrap64 (x6_2 + 1)) + t219)) (wrap64 (x7_2 - 1)) s0_0 bt228.2.1 bt228.2.2 x197000_1 t182 (x197002_2 ++ [(⟨t225, wrap64 ((wrap64 (x6_2 + 1)) + t219), wrap64 ((wrap64 (50 + t193)) - bt228.1)⟩ : S57)]) (wrap64 (50 + t187)) (wrap64 (50 + t190)) (wrap64 (50 + t193))) else (none))) = some (r1, r2, r3, r4, r5, r6, r7, r8) := H
       have A37 := Aside0.mk A370
       clear A370
       replace H := Option.bind_eq_some_iff.mp H
       obtain ⟨⟨t228, t229, t230⟩, A380, H⟩ := H
       replace H : (if x197002_2.length < 4398046511104 then (spec_l19Draw.l1 k2 (wrap64 ((wrap64 (x6_2 + 1)) + t219)) (wrap64 (x7_2 - 1)) s0_0 t229 t230 x197000_1 t182 (x197002_2 ++ [(⟨t225, wrap64 ((wrap64 (x6_2 + 1)) + t219), wrap64 ((wrap64 (50 + t193)) - t228)⟩ : S57)]) (wrap64 (50 + t187)) (wrap64 (50 + t190)) (wrap64 (50 + t193))) else (none)) = some (r1, r2, r3, r4, r5, r6, r7, r8) := H
       have A38 := Aside0.mk A380
       clear A380
       by_cases c39 : x197002_2.length < 4398046511104
       ·
        rw [if_pos c39] at H
        have LMc39 := Aside0.mk c39
        clear c39
        obtain ⟨y231, hy231⟩ : ∃ y_ : List (S57), y_ = (x197002_2 ++ [(⟨t225, wrap64 ((wrap64 (x6_2 + 1)) + t219), wrap64 ((wrap64 (50 + t193)) - t228)⟩ : S57)]) := ⟨_, rfl⟩
        replace H : (spec_l19Draw.l1 k2 (wrap64 ((wrap64 (x6_2 + 1)) + t219)) (wrap64 (x7_2 - 1)) s0_0 t229 t230 x197000_1 t182 y231 (wrap64 (50 + t187)) (wrap64 (50 + t190)) (wrap64 (50 + t193))) = some (r1, r2, r3, r4, r5, r6, r7, r8) := by first | (rw [hy231]; with_reducible exact H) | (have H2_ := (Option.bind_some _ _).symm.trans H; rw [hy231]; with_reducible exact H2_) | (have H2_ := (Option.bind_some _ _).symm.trans H; with_reducible exact H2_) | with_reducible exact H | (rw [hy231]; exact H) | exact H
        have Ny231 := Aside0.mk hy231
        clear hy231
        have H' := Aside0.mk H
        clear H
        try go_wp2_with (first | ((with_reducible refine gate_callee (f := 28) rfl ?_); refine goesL_ (some 51) rfl rfl Try.func28 (by kernel_rfl) rfl #[.pointer (some ⟨g, 0, none⟩), .int .i64 3] rfl (by (try simp only [am_]); first | done | rfl) ?_; (with_reducible refine (spec_l1Below.calls g s0_0 x1001_2 x1002_2 3 t219 t220 t221 w0 _ ?side1 ?side2 A36.out).mono ?_); (case side1 => repeat (first | (with_reducible first | exact HI0.out | apply IsS108.alloc | apply IsS108.drewN | apply IsS108.drew | apply IsS108.set_1 | apply IsS108.set_2 | refine IsS108.far ?_ NB0_181.out _ | refine IsS108.far ?_ NB0_196.out _) | exact HI0.out)); (case side2 => repeat (first | (with_reducible first | exact HB.out | apply below_alloc | apply pw_below_drewN | apply below_drew1 | refine below_set ?_ (IsS108.ge HI0.out) | refine below_set ?_ GE181.out | refine below_set ?_ GE196.out) | exact HB.out)); rintro e w40 ⟨rfl, hi, hb, hk⟩; refine ⟨_, rfl, ?_⟩; replace HO_197000 := Aside0.mk (Kd.R_mono (Kd.R_keep (IsS108.apart (show IsS108 w0 _ g s0_0 x1001_2 x1002_2 from by repeat (first | (with_reducible first | exact HI0.out | apply IsS108.alloc | apply IsS108.drewN | apply IsS108.drew | apply IsS108.set_1 | apply IsS108.set_2 | refine IsS108.far ?_ NB0_181.out _ | refine IsS108.far ?_ NB0_196.out _) | exact HI0.out)) (rl HO_197000.out) (by decide)) hk (fun _ h => h.2)) (fun _ h => h.1)); replace HO_197001 := Aside0.mk (Kd.R_mono (Kd.R_keep (IsS108.apart (show IsS108 w0 _ g s0_0 x1001_2 x1002_2 from by repeat (first | (with_reducible first | exact HI0.out | apply IsS108.alloc | apply IsS108.drewN | apply IsS108.drew | apply IsS108.set_1 | apply IsS108.set_2 | refine IsS108.far ?_ NB0_181.out _ | refine IsS108.far ?_ NB0_196.out _) | exact HI0.out)) (rl HO_197001.out) (by decide)) hk (fun _ h => h.2)) (fun _ h => h.1)); replace HO_197002 := Aside0.mk (Kd.R_mono (Kd.R_keep (IsS108.apart (show IsS108 w0 _ g s0_0 x1001_2 x1002_2 from by repeat (first | (with_reducible first | exact HI0.out | apply IsS108.alloc | apply IsS108.drewN | apply IsS108.drew | apply IsS108.set_1 | apply IsS108.set_2 | refine IsS108.far ?_ NB0_181.out _ | refine IsS108.far ?_ NB0_196.out _) | exact HI0.out)) (rl HO_197002.out) (by decide)) hk (fun _ h => h.2)) (fun _ h => h.1)); replace BK181 := Aside0.mk (KeepBut.blk hk (g' := gb181) (o := .cells #[.slice none 0 0, .slice none 0 0, .slice none 0 0, .int .i64 0, .int .i64 0, .int .i64 0] 30 (0, 0)) (bk BK181.out) NB181_0.out (by simp)); replace BK196 := Aside0.mk (KeepBut.blk hk (g' := gb196) (o := .cells #[u197000, .slice Ao11 t182.length co11, u197002, .int .i64 (wrap64 (50 + t187)), .int .i64 (wrap64 (50 + t190)), .int .i64 (wrap64 (50 + t193))] 30 (0, 0)) (bk BK196.out) NB196_0.out (by simp)); replace HK := Aside0.mk (KeepBut.trans (by repeat (first | (with_reducible first | exact HK.out | apply KeepBut.set_ | apply keep_drewN | apply keep_drew | apply keep_alloc | refine keep_far ?_ GW181.out _ | refine keep_far ?_ GW196.out _) | exact HK.out)) hk (.inl rfl)); replace HB := Aside0.mk (hb); replace HI0 := Aside0.mk (hi); (try clear hb); (try clear hb2); (try clear hk); (try clear hi)))
        have n0_ := Aside0.mk (Kd.R_drew HO_197000.out)
        have n1_ := Aside0.mk (Kd.R_drew HO_197001.out)
        have n2_ := Aside0.mk (Kd.R_drew HO_197002.out)
        have n3_ := Aside0.mk (blk_drew BK181.out)
        have n4_ := Aside0.mk (blk_drew BK196.out)
        have n5_ := Aside0.mk (IsS108.drew HI0.out)
        have n6_ := Aside0.mk (keep_drew HK.out)
        have n7_ := Aside0.mk (below_drew1 HB.out)
        clear HO_197000
        clear HO_197001
        clear HO_197002
        clear BK181
        clear BK196
        clear HI0
        clear HK
        clear HB
        have HO_197000 := n0_
        have HO_197001 := n1_
        have HO_197002 := n2_
        have BK181 := n3_
        have BK196 := n4_
        have HI0 := n5_
        have HK := n6_
        have HB := n7_
        clear n0_ n1_ n2_ n3_ n4_ n5_ n6_ n7_
        refine start_ (n := 17) (S := fun w' => w'.cell? ⟨gb196, 0, none⟩ = some (u197000) ∧ w'.cell? ⟨gb196, 1, none⟩ = some (.slice Ao11 t182.length co11) ∧ w'.cell? ⟨gb196, 2, none⟩ = some (u197002) ∧ w'.cell? ⟨gb196, 3, none⟩ = some (.int .i64 (wrap64 (50 + t187))) ∧ w'.cell? ⟨gb196, 4, none⟩ = some (.int .i64 (wrap64 (50 + t190))) ∧ w'.cell? ⟨gb196, 5, none⟩ = some (.int .i64 (wrap64 (50 + t193)))) (ds := [16]) m0_17 (by kernel_rfl) rfl rfl ⟨ck BK196.out 0 rfl, ck BK196.out 1 rfl, ck BK196.out 2 rfl, ck BK196.out 3 rfl, ck BK196.out 4 rfl, ck BK196.out 5 rfl⟩ (fun hHeld => ?_); refine with_tabW spec_l19Draw.tab13 spec_l19Draw.bits13 (fun HT_ HW_ => ?_)
        generalize w40.drew = w41 at HO_197000 HO_197001 HO_197002 BK181 BK196 HI0 HK HB hHeld ⊢
        refine pq_ HT_.out 0 53 m1_17 ?_
        refine pq_ HT_.out 2 55 n21 ?_
        refine pq_ HT_.out 5 58 n22 ?_
        refine pq_ HT_.out 6 59 n23 ?_
        refine pq_ HT_.out 7 60 n24 ?_
        refine pq_ HT_.out 9 62 n25 ?_
        refine tk_ HT_.out HW_.out 1 54 n31 rfl rfl (by kernel_rfl) (by rfl) (by rintro w' ⟨s0, s1, s2, s3, s4, s5⟩; go_simp; with_reducible rfl) hHeld (by simp only [sp_]; rfl) (fun _ _ _ h => h) ?_
        refine tk_ HT_.out HW_.out 8 61 n32 rfl rfl (by kernel_rfl) (by rfl) (by rintro w' ⟨s0, s1, s2, s3, s4, s5⟩; go_simp; with_reducible rfl) hHeld (by simp only [sp_]; rfl) (fun _ _ _ h => h) ?_
        refine one_ (i := 3) (N := some 56) n39 rfl rfl (one_of HT_.out (by kernel_rfl)) (by decide) (fun K hK => ?_)
        refine Kd.R_lit_step Kd.string _ 9 ?hg (N := 56) ?hd (xs := ([(⟨#[98, 101, 108, 116]⟩ : ByteArray), (⟨#[108, 97, 109, 112]⟩ : ByteArray), (⟨#[114, 97, 100, 105, 111]⟩ : ByteArray), (⟨#[115, 101, 97, 116]⟩ : ByteArray), (⟨#[108, 97, 109, 112]⟩ : ByteArray)] : List ByteArray)) (inner := [.string (⟨#[98, 101, 108, 116]⟩ : ByteArray), .string (⟨#[108, 97, 109, 112]⟩ : ByteArray), .string (⟨#[114, 97, 100, 105, 111]⟩ : ByteArray), .string (⟨#[115, 101, 97, 116]⟩ : ByteArray), .string (⟨#[108, 97, 109, 112]⟩ : ByteArray)]) (ok := fun _ => True) (okp := fun _ => True) ?hr ?hp (fun _ hk => hk) trivial (Below.refl _ _) (Nat.le_refl _) (by simp) ?_; (case hd => rfl); (case hg => rfl); (case hr => first | (go_simp; done) | (go_simp; rfl)); (case hp => exact (Reps.one (show Kd.M Kd.string _ _ _ (⟨#[98, 101, 108, 116]⟩ : ByteArray) [.string (⟨#[98, 101, 108, 116]⟩ : ByteArray)] from rfl) (Reps.one (show Kd.M Kd.string _ _ _ (⟨#[108, 97, 109, 112]⟩ : ByteArray) [.string (⟨#[108, 97, 109, 112]⟩ : ByteArray)] from rfl) (Reps.one (show Kd.M Kd.string _ _ _ (⟨#[114, 97, 100, 105, 111]⟩ : ByteArray) [.string (⟨#[114, 97, 100, 105, 111]⟩ : ByteArray)] from rfl) (Reps.one (show Kd.M Kd.string _ _ _ (⟨#[115, 101, 97, 116]⟩ : ByteArray) [.string (⟨#[115, 101, 97, 116]⟩ : ByteArray)] from rfl) (Reps.one (show Kd.M Kd.string _ _ _ (⟨#[108, 97, 109, 112]⟩ : ByteArray) [.string (⟨#[108, 97, 109, 112]⟩ : ByteArray)] from rfl) (Reps.none _ _)))))))
        intro v223 w42 ho43 hb hg_ hnew_
        clear hg_ hnew_
        (first | rw [← Ny222.out] at ho43 | (simp only [Int.reduceToNat] at ho43; rw [← Ny222.out] at ho43))
        have n0_ := Aside0.mk (Kd.R_below (rl HO_197000.out) hb)
        have n1_ := Aside0.mk (Kd.R_below (rl HO_197001.out) hb)
        have n2_ := Aside0.mk (Kd.R_below (rl HO_197002.out) hb)
        have n3_ := Aside0.mk (Kd.R_lower ho43 (keep_size (w := w) (g := g) (row := none) (by repeat (first | (with_reducible first | exact HK.out | apply KeepBut.set_ | apply keep_drewN | apply keep_drew | apply keep_alloc | refine keep_far ?_ GW181.out _ | refine keep_far ?_ GW196.out _) | exact HK.out))))
        have n4_ := Aside0.mk (blk_below (bk BK181.out) hb)
        have n5_ := Aside0.mk (blk_below (bk BK196.out) hb)
        have n6_ := Aside0.mk (IsS108.below (by repeat (first | (with_reducible first | exact HI0.out | apply IsS108.alloc | apply IsS108.drewN | apply IsS108.drew | apply IsS108.set_1 | apply IsS108.set_2 | refine IsS108.far ?_ NB0_181.out _ | refine IsS108.far ?_ NB0_196.out _) | exact HI0.out)) hb)
        have n7_ := Aside0.mk (KeepBut.trans (by repeat (first | (with_reducible first | exact HK.out | apply KeepBut.set_ | apply keep_drewN | apply keep_drew | apply keep_alloc | refine keep_far ?_ GW181.out _ | refine keep_far ?_ GW196.out _) | exact HK.out)) (KeepBut.of_below hb g none) (.inl rfl))
        have n8_ := Aside0.mk (below_step (by repeat (first | (with_reducible first | exact HB.out | apply below_alloc | apply pw_below_drewN | apply below_drew1 | refine below_set ?_ (IsS108.ge HI0.out) | refine below_set ?_ GE181.out | refine below_set ?_ GE196.out) | exact HB.out)) hb)
        clear HO_197000
        clear HO_197001
        clear HO_197002
        clear BK181
        clear BK196
        clear HI0
        clear HK
        clear HB
        have HO_197000 := n0_
        have HO_197001 := n1_
        have HO_197002 := n2_
        have HO224 := n3_
        have BK181 := n4_
        have BK196 := n5_
        have HI0 := n6_
        have HK := n7_
        have HB := n8_
        clear n0_ n1_ n2_ n3_ n4_ n5_ n6_ n7_ n8_
        clear hb ho43
        obtain ⟨Ao44, co44, eo44⟩ := Kd.R_slice HO224.out
        (first | subst eo44 | (injection eo44 with f1_ f2_ f3_; have f4_ := f1_.symm; have f5_ := f3_.symm; clear f1_ f2_ f3_; subst f4_; subst f5_))
        refine hK.out _ _ ⟨ck BK196.out 0 rfl, ck BK196.out 1 rfl, ck BK196.out 2 rfl, ck BK196.out 3 rfl, ck BK196.out 4 rfl, ck BK196.out 5 rfl⟩ (fun hHeld => ?_)
        clear hK K
        refine norm_ (a' := ?_) ?_ ?_
        rotate_left
        ·
         show Act.put _ (some 56) _ = _
         simp only [sp_]
         rfl
        refine one_ (i := 4) (N := some 57) m10_17 rfl rfl (one_of HT_.out (by kernel_rfl)) (by decide) (fun K hK => ?_)
        refine goes_ Try.func66 (by kernel_rfl) rfl #[.pointer (some ⟨g, 0, none⟩), .slice Ao44 y222.length co44] (by rfl) rfl rfl (by (try simp only [am_]); first | done | rfl) ?_
        with_reducible refine (spec_l1Pick.calls g s0_0 t220 t221 _ _ y222 t225 t226 t227 w0 _ ?side1 ?side2 ?side3 ?side4 ?side5 A37.out).mono ?_
        (case side1 => repeat (first | (with_reducible first | exact HI0.out | apply IsS108.alloc | apply IsS108.drewN | apply IsS108.drew | apply IsS108.set_1 | apply IsS108.set_2 | refine IsS108.far ?_ NB0_181.out _ | refine IsS108.far ?_ NB0_196.out _) | exact HI0.out))
        (case side2 => repeat (first | (with_reducible first | exact HB.out | apply below_alloc | apply pw_below_drewN | apply below_drew1 | refine below_set ?_ (IsS108.ge HI0.out) | refine below_set ?_ GE181.out | refine below_set ?_ GE196.out) | exact HB.out))
        (case side3 => exact rc (Kd.R_reads' HO224.out).2.2)
        (case side4 => exact (Kd.R_reads' HO224.out).2.1)
        (case side5 => exact far_slice (IsS108.own_ne HI0.out HO224.out (by decide)))
        rintro e w45 ⟨rfl, hi, hb, hk⟩
        refine ⟨_, rfl, ?_⟩
        have n0_ := Aside0.mk (Kd.R_mono (Kd.R_keep (IsS108.apart (show IsS108 w0 _ g s0_0 t220 t221 from by repeat (first | (with_reducible first | exact HI0.out | apply IsS108.alloc | apply IsS108.drewN | apply IsS108.drew | apply IsS108.set_1 | apply IsS108.set_2 | refine IsS108.far ?_ NB0_181.out _ | refine IsS108.far ?_ NB0_196.out _) | exact HI0.out)) (rl HO_197000.out) (by decide)) hk (fun _ h => h.2)) (fun _ h => h.1))
        have n1_ := Aside0.mk (Kd.R_mono (Kd.R_keep (IsS108.apart (show IsS108 w0 _ g s0_0 t220 t221 from by repeat (first | (with_reducible first | exact HI0.out | apply IsS108.alloc | apply IsS108.drewN | apply IsS108.drew | apply IsS108.set_1 | apply IsS108.set_2 | refine IsS108.far ?_ NB0_181.out _ | refine IsS108.far ?_ NB0_196.out _) | exact HI0.out)) (rl HO_197001.out) (by decide)) hk (fun _ h => h.2)) (fun _ h => h.1))
        have n2_ := Aside0.mk (Kd.R_mono (Kd.R_keep (IsS108.apart (show IsS108 w0 _ g s0_0 t220 t221 from by repeat (first | (with_reducible first | exact HI0.out | apply IsS108.alloc | apply IsS108.drewN | apply IsS108.drew | apply IsS108.set_1 | apply IsS108.set_2 | refine IsS108.far ?_ NB0_181.out _ | refine IsS108.far ?_ NB0_196.out _) | exact HI0.out)) (rl HO_197002.out) (by decide)) hk (fun _ h => h.2)) (fun _ h => h.1))
        have n3_ := Aside0.mk (KeepBut.blk hk (g' := gb181) (o := .cells #[.slice none 0 0, .slice none 0 0, .slice none 0 0, .int .i64 0, .int .i64 0, .int .i64 0] 30 (0, 0)) (bk BK181.out) NB181_0.out (by simp))
        have n4_ := Aside0.mk (KeepBut.blk hk (g' := gb196) (o := .cells #[u197000, .slice Ao11 t182.length co11, u197002, .int .i64 (wrap64 (50 + t187)), .int .i64 (wrap64 (50 + t190)), .int .i64 (wrap64 (50 + t193))] 30 (0, 0)) (bk BK196.out) NB196_0.out (by simp))
        have n5_ := Aside0.mk (Kd.R_mono (Kd.R_keep (IsS108.apart (show IsS108 w0 _ g s0_0 t220 t221 from by repeat (first | (with_reducible first | exact HI0.out | apply IsS108.alloc | apply IsS108.drewN | apply IsS108.drew | apply IsS108.set_1 | apply IsS108.set_2 | refine IsS108.far ?_ NB0_181.out _ | refine IsS108.far ?_ NB0_196.out _) | exact HI0.out)) (rl HO224.out) (by decide)) hk (fun _ h => h.2)) (fun _ h => h.1))
        have n6_ := Aside0.mk (KeepBut.trans (by repeat (first | (with_reducible first | exact HK.out | apply KeepBut.set_ | apply keep_drewN | apply keep_drew | apply keep_alloc | refine keep_far ?_ GW181.out _ | refine keep_far ?_ GW196.out _) | exact HK.out)) hk (.inl rfl))
        have n7_ := Aside0.mk (hb)
        have n8_ := Aside0.mk (hi)
        clear HO_197000
        clear HO_197001
        clear HO_197002
        clear BK181
        clear BK196
        clear HO224
        clear HK
        clear HB
        clear HI0
        have HO_197000 := n0_
        have HO_197001 := n1_
        have HO_197002 := n2_
        have BK181 := n3_
        have BK196 := n4_
        have HO224 := n5_
        have HK := n6_
        have HB := n7_
        have HI0 := n8_
        clear n0_ n1_ n2_ n3_ n4_ n5_ n6_ n7_ n8_
        (try clear hb)
        (try clear hb2)
        (try clear hk)
        (try clear hi)
        refine hK.out _ _ ⟨ck BK196.out 0 rfl, ck BK196.out 1 rfl, ck BK196.out 2 rfl, ck BK196.out 3 rfl, ck BK196.out 4 rfl, ck BK196.out 5 rfl⟩ (fun hHeld => ?_)
        clear hK K
        refine norm_ (a' := ?_) ?_ ?_
        rotate_left
        ·
         show Act.put _ (some 57) _ = _
         simp only [sp_]
         rfl
        refine one_ (i := 10) (N := some 63) m11_17 rfl rfl (one_of HT_.out (by kernel_rfl)) (by decide) (fun K hK => ?_)
        refine goes_ Try.func28 (by kernel_rfl) rfl #[.pointer (some ⟨g, 0, none⟩), .int .i64 50] (by rfl) rfl rfl (by (try simp only [am_]); first | done | rfl) ?_
        with_reducible refine (spec_l1Below.calls g s0_0 t226 t227 50 t228 t229 t230 w0 _ ?side1 ?side2 A38.out).mono ?_
        (case side1 => repeat (first | (with_reducible first | exact HI0.out | apply IsS108.alloc | apply IsS108.drewN | apply IsS108.drew | apply IsS108.set_1 | apply IsS108.set_2 | refine IsS108.far ?_ NB0_181.out _ | refine IsS108.far ?_ NB0_196.out _) | exact HI0.out))
        (case side2 => repeat (first | (with_reducible first | exact HB.out | apply below_alloc | apply pw_below_drewN | apply below_drew1 | refine below_set ?_ (IsS108.ge HI0.out) | refine below_set ?_ GE181.out | refine below_set ?_ GE196.out) | exact HB.out))
        rintro e w46 ⟨rfl, hi, hb, hk⟩
        refine ⟨_, rfl, ?_⟩
        have n0_ := Aside0.mk (Kd.R_mono (Kd.R_keep (IsS108.apart (show IsS108 w0 _ g s0_0 t226 t227 from by repeat (first | (with_reducible first | exact HI0.out | apply IsS108.alloc | apply IsS108.drewN | apply IsS108.drew | apply IsS108.set_1 | apply IsS108.set_2 | refine IsS108.far ?_ NB0_181.out _ | refine IsS108.far ?_ NB0_196.out _) | exact HI0.out)) (rl HO_197000.out) (by decide)) hk (fun _ h => h.2)) (fun _ h => h.1))
        have n1_ := Aside0.mk (Kd.R_mono (Kd.R_keep (IsS108.apart (show IsS108 w0 _ g s0_0 t226 t227 from by repeat (first | (with_reducible first | exact HI0.out | apply IsS108.alloc | apply IsS108.drewN | apply IsS108.drew | apply IsS108.set_1 | apply IsS108.set_2 | refine IsS108.far ?_ NB0_181.out _ | refine IsS108.far ?_ NB0_196.out _) | exact HI0.out)) (rl HO_197001.out) (by decide)) hk (fun _ h => h.2)) (fun _ h => h.1))
        have n2_ := Aside0.mk (Kd.R_mono (Kd.R_keep (IsS108.apart (show IsS108 w0 _ g s0_0 t226 t227 from by repeat (first | (with_reducible first | exact HI0.out | apply IsS108.alloc | apply IsS108.drewN | apply IsS108.drew | apply IsS108.set_1 | apply IsS108.set_2 | refine IsS108.far ?_ NB0_181.out _ | refine IsS108.far ?_ NB0_196.out _) | exact HI0.out)) (rl HO_197002.out) (by decide)) hk (fun _ h => h.2)) (fun _ h => h.1))
        have n3_ := Aside0.mk (KeepBut.blk hk (g' := gb181) (o := .cells #[.slice none 0 0, .slice none 0 0, .slice none 0 0, .int .i64 0, .int .i64 0, .int .i64 0] 30 (0, 0)) (bk BK181.out) NB181_0.out (by simp))
        have n4_ := Aside0.mk (KeepBut.blk hk (g' := gb196) (o := .cells #[u197000, .slice Ao11 t182.length co11, u197002, .int .i64 (wrap64 (50 + t187)), .int .i64 (wrap64 (50 + t190)), .int .i64 (wrap64 (50 + t193))] 30 (0, 0)) (bk BK196.out) NB196_0.out (by simp))
        have n5_ := Aside0.mk (Kd.R_mono (Kd.R_keep (IsS108.apart (show IsS108 w0 _ g s0_0 t226 t227 from by repeat (first | (with_reducible first | exact HI0.out | apply IsS108.alloc | apply IsS108.drewN | apply IsS108.drew | apply IsS108.set_1 | apply IsS108.set_2 | refine IsS108.far ?_ NB0_181.out _ | refine IsS108.far ?_ NB0_196.out _) | exact HI0.out)) (rl HO224.out) (by decide)) hk (fun _ h => h.2)) (fun _ h => h.1))
        have n6_ := Aside0.mk (KeepBut.trans (by repeat (first | (with_reducible first | exact HK.out | apply KeepBut.set_ | apply keep_drewN | apply keep_drew | apply keep_alloc | refine keep_far ?_ GW181.out _ | refine keep_far ?_ GW196.out _) | exact HK.out)) hk (.inl rfl))
        have n7_ := Aside0.mk (hb)
        have n8_ := Aside0.mk (hi)
        clear HO_197000
        clear HO_197001
        clear HO_197002
        clear BK181
        clear BK196
        clear HO224
        clear HK
        clear HB
        clear HI0
        have HO_197000 := n0_
        have HO_197001 := n1_
        have HO_197002 := n2_
        have BK181 := n3_
        have BK196 := n4_
        have HO224 := n5_
        have HK := n6_
        have HB := n7_
        have HI0 := n8_
        clear n0_ n1_ n2_ n3_ n4_ n5_ n6_ n7_ n8_
        (try clear hb)
        (try clear hb2)
        (try clear hk)
        (try clear hi)
        refine hK.out _ _ ⟨ck BK196.out 0 rfl, ck BK196.out 1 rfl, ck BK196.out 2 rfl, ck BK196.out 3 rfl, ck BK196.out 4 rfl, ck BK196.out 5 rfl⟩ (fun hHeld => ?_)
        clear hK K
        refine norm_ (a' := ?_) ?_ ?_
        rotate_left
        ·
         show Act.put _ (some 63) _ = _
         simp only [sp_]
         rfl
        refine pq_ HT_.out 11 64 m12_17 ?_
        refine pq_ HT_.out 12 65 m13_17 ?_
        refine one_ (i := 13) (N := some 66) m14_17 rfl rfl (one_of HT_.out (by kernel_rfl)) (by decide) (fun K hK => ?_)
        refine value_ (w1 := ?_) (v := ?_) (by rfl) rfl ?_ ?_
        rotate_left 2
        ·
         go_simp
         constructor
         ·
          rfl
         ·
          rfl
        refine hK.out _ _ ⟨(blk_cell (blk_alloc BK196.out _) 0).trans rfl, (blk_cell (blk_alloc BK196.out _) 1).trans rfl, (blk_cell (blk_alloc BK196.out _) 2).trans rfl, (blk_cell (blk_alloc BK196.out _) 3).trans rfl, (blk_cell (blk_alloc BK196.out _) 4).trans rfl, (blk_cell (blk_alloc BK196.out _) 5).trans rfl⟩ (fun hHeld => ?_)
        clear hK K
        refine norm_ (a' := ?_) ?_ ?_
        rotate_left
        ·
         show Act.put _ (some 66) _ = _
         simp only [sp_]
         rfl
        refine one_ (i := 14) (N := some 67) m15_17 rfl rfl (one_of HT_.out (by kernel_rfl)) (by decide) (fun K hK => ?_)
        refine Kd.R_append_step k57 w.heap.size (by rfl) (.tmp 54) (.tmp 66) 26 57 (.agg #[(.string ⟨#[]⟩), (.int .i64 0), (.int .i64 0)]) 32 rfl Try.underlying26 info57 rfl (by decide) (by omega) u197002 x197002_2 (⟨t225, wrap64 ((wrap64 (x6_2 + 1)) + t219), wrap64 ((wrap64 (50 + t193)) - t228)⟩ : S57) [.string t225, .int .i64 (wrap64 ((wrap64 (x6_2 + 1)) + t219)), .int .i64 (wrap64 ((wrap64 (50 + t193)) - t228))] (fun _ => True) (fun _ => False) rfl rfl ?aP (fun _ hk => hk.elim) ?aF ?aO (Below.refl _ _) ?aS ?aL ?_
        (case aP => exact k57_mkM _ _ _ (⟨t225, wrap64 ((wrap64 (x6_2 + 1)) + t219), wrap64 ((wrap64 (50 + t193)) - t228)⟩ : S57))
        (case aF => exact (fun _ _ => trivial))
        (case aO => exact (rl HO_197002.out))
        (case aS => exact (keep_size (w := w) (g := g) (row := none) (by repeat (first | (with_reducible first | exact HK.out | apply KeepBut.set_ | apply keep_drewN | apply keep_drew | apply keep_alloc | refine keep_far ?_ GW181.out _ | refine keep_far ?_ GW196.out _) | exact HK.out))))
        (case aL => have := LMc39.out; omega)
        intro v232 w47 ho hb hg hat
        rw [← Ny231.out] at ho
        have n0_ := Aside0.mk (Kd.R_over' (rl HO_197000.out) (Kd.R_typed (rl HO_197002.out)) (by decide) hg)
        have n1_ := Aside0.mk (Kd.R_over' (rl HO_197001.out) (Kd.R_typed (rl HO_197002.out)) (by decide) hg)
        have n2_ := Aside0.mk (blk_grown (g := gb181) (o := .cells #[.slice none 0 0, .slice none 0 0, .slice none 0 0, .int .i64 0, .int .i64 0, .int .i64 0] 30 (0, 0)) (bk BK181.out) hg (Kd.R_ne HO_197002.out BK181.out (by decide)))
        have n3_ := Aside0.mk (blk_grown (g := gb196) (o := .cells #[u197000, .slice Ao11 t182.length co11, u197002, .int .i64 (wrap64 (50 + t187)), .int .i64 (wrap64 (50 + t190)), .int .i64 (wrap64 (50 + t193))] 30 (0, 0)) (bk BK196.out) hg (Kd.R_ne HO_197002.out BK196.out (by decide)))
        have n4_ := Aside0.mk (IsS108.grown (by repeat (first | (with_reducible first | exact HI0.out | apply IsS108.alloc | apply IsS108.drewN | apply IsS108.drew | apply IsS108.set_1 | apply IsS108.set_2 | refine IsS108.far ?_ NB0_181.out _ | refine IsS108.far ?_ NB0_196.out _) | exact HI0.out)) hg (IsS108.own_ne HI0.out HO_197002.out (by decide)))
        have n5_ := Aside0.mk (Kd.R_over' (rl HO224.out) (Kd.R_typed (rl HO_197002.out)) (by decide) hg)
        have n6_ := Aside0.mk (below_weaken (by repeat (first | (with_reducible first | exact HB.out | apply below_alloc | apply pw_below_drewN | apply below_drew1 | refine below_set ?_ (IsS108.ge HI0.out) | refine below_set ?_ GE181.out | refine below_set ?_ GE196.out) | exact HB.out)) HL.out hb)
        have n7_ := Aside0.mk (KeepBut.trans (by repeat (first | (with_reducible first | exact HK.out | apply KeepBut.set_ | apply keep_drewN | apply keep_drew | apply keep_alloc | refine keep_far ?_ GW181.out _ | refine keep_far ?_ GW196.out _) | exact HK.out)) (KeepBut.of_grown hg g) (Kd.R_base2 HO_197002.out))
        have n8_ := Aside0.mk (ho)
        clear HO_197000
        clear HO_197001
        clear BK181
        clear BK196
        clear HI0
        clear HO224
        clear HB
        clear HK
        clear HO_197002
        have HO_197000 := n0_
        have HO_197001 := n1_
        have BK181 := n2_
        have BK196 := n3_
        have HI0 := n4_
        have HO224 := n5_
        have HB := n6_
        have HK := n7_
        have HO233 := n8_
        clear n0_ n1_ n2_ n3_ n4_ n5_ n6_ n7_ n8_
        clear ho hb hg hat
        obtain ⟨Ao48, co48, eo48⟩ := Kd.R_slice HO233.out
        (first | subst eo48 | (injection eo48 with f1_ f2_ f3_; have f4_ := f1_.symm; have f5_ := f3_.symm; clear f1_ f2_ f3_; subst f4_; subst f5_))
        refine hK.out _ _ ⟨ck BK196.out 0 rfl, ck BK196.out 1 rfl, ck BK196.out 2 rfl, ck BK196.out 3 rfl, ck BK196.out 4 rfl, ck BK196.out 5 rfl⟩ (fun hHeld => ?_)
        clear hK K
        refine norm_ (a' := ?_) ?_ ?_
        rotate_left
        ·
         show Act.put _ (some 67) _ = _
         simp only [sp_]
         rfl
        refine pq_ HT_.out 15 68 m16_17 ?_
        refine last_ (i := 16) (N := none) m17_17 rfl rfl (one_of HT_.out (by kernel_rfl)) (by decide) (fun K hK => ?_)
        have hs49 : w47.cell? ⟨gb196, 2, none⟩ = some (u197002) := ck BK196.out 2 rfl
        have hfs49 := blk_frozen BK196.out 2
        have hns49_0 := NB181_196.out
        have hms49_0 := NB196_181.out
        refine skip_ (w1 := ?_) (by rfl) rfl ?_ ?_
        rotate_left
        ·
         go_simp
         rfl
        refine hK.out _ _ ?_
        clear hK K
        refine done_ (done_of HT_.out (by kernel_rfl)) ?_
        try go_wp2
        go_roundg k2
        case measure => have := HK1.out; have := HK2.out; omega
        case rel => exact ⟨(wrap64 ((wrap64 (x6_2 + 1)) + t219)), (wrap64 (x7_2 - 1)), (t229), (t230), (y231), (.slice Ao48 y231.length co48), (by first | rfl | (simp; done) | (simp [*]; done)), (by first | rfl | (simp; done) | (simp [*]; done)), H', ⟨by have := HK1.out; have := HK2.out; omega⟩, ⟨by (repeat apply rl1); exact Kd.R_mono (Kd.R_far (p := ⟨gb196, 2, none⟩) (Kd.R_types HO_197000.out BK196.out (by decide)) (fun _ hk => hk.2) (.slice Ao48 y231.length co48)) (fun _ hk => trivial)⟩, ⟨by (repeat apply rl1); exact Kd.R_mono (Kd.R_far (p := ⟨gb196, 2, none⟩) (Kd.R_types HO_197001.out BK196.out (by decide)) (fun _ hk => hk.2) (.slice Ao48 y231.length co48)) (fun _ hk => trivial)⟩, ⟨by (repeat apply rl1); exact Kd.R_mono (Kd.R_far (p := ⟨gb196, 2, none⟩) (Kd.R_types HO233.out BK196.out (by decide)) (fun _ hk => hk.2) (.slice Ao48 y231.length co48)) (fun _ hk => trivial)⟩, ⟨by (repeat refine bk1 ?_); refine blk_far ?_ NB181_196.out _; (repeat refine bk1 ?_); exact BK181.out⟩, ⟨by (repeat refine bk1 ?_); refine blk_put (cs := #[u197000, .slice Ao11 t182.length co11, u197002, .int .i64 (wrap64 (50 + t187)), .int .i64 (wrap64 (50 + t190)), .int .i64 (wrap64 (50 + t193))]) ?_ 2 _ rfl; (repeat refine bk1 ?_); exact BK196.out⟩, ⟨by repeat (first | (with_reducible first | exact HI0.out | apply IsS108.alloc | apply IsS108.drewN | apply IsS108.drew | apply IsS108.set_1 | apply IsS108.set_2 | refine IsS108.far ?_ NB0_181.out _ | refine IsS108.far ?_ NB0_196.out _) | exact HI0.out)⟩, ⟨by repeat (first | (with_reducible first | exact HK.out | apply KeepBut.set_ | apply keep_drewN | apply keep_drew | apply keep_alloc | refine keep_far ?_ GW181.out _ | refine keep_far ?_ GW196.out _) | exact HK.out)⟩, ⟨by repeat (first | (with_reducible first | exact HB.out | apply below_alloc | apply pw_below_drewN | apply below_drew1 | refine below_set ?_ (IsS108.ge HI0.out) | refine below_set ?_ GE181.out | refine below_set ?_ GE196.out) | exact HB.out)⟩⟩
       ·
        rw [if_neg c39] at H
        exact absurd H (by simp)
      ·
       rw [if_neg c35] at H
       have c35b0 : decide (0 < x7_2) = false := decide_eq_false c35
       clear c35
       simp only [Option.some.injEq, Prod.mk.injEq] at H
       obtain ⟨rfl, rfl, rfl, rfl, rfl, rfl, rfl, rfl⟩ := H
       have hnb50 := NB196_181.out
       have hnc50 := NB181_196.out
       have hnb51 := NB196_0.out
       have hnc51 := NB0_196.out
       obtain ⟨hcz52_0, hcz52_1, hcz52_2, hcz52_3, hcz52_4, hcz52_5⟩ := ck6 BK196.out
       obtain ⟨hfz52_0, hfz52_1, hfz52_2, hfz52_3, hfz52_4, hfz52_5⟩ := fz6 BK196.out
       obtain ⟨Ao53, co53, eo53⟩ := Kd.R_slice HO_197000.out
       subst eo53
       have hnb54 := NB181_0.out
       have hnc54 := NB0_181.out
       obtain ⟨hcz55_0, hcz55_1, hcz55_2, hcz55_3, hcz55_4, hcz55_5⟩ := ck6 BK181.out
       obtain ⟨hfz55_0, hfz55_1, hfz55_2, hfz55_3, hfz55_4, hfz55_5⟩ := fz6 BK181.out
       obtain ⟨Ao56, co56, eo56⟩ := Kd.R_slice HO_197002.out
       subst eo56
       go_wp2
       refine bodyPost_ret (results_cell_row rfl _ _ gb181 30 #[.slice Ao53 x197000_1.length co53, .slice Ao11 t182.length co11, .slice Ao56 x197002_2.length co56, .int .i64 (wrap64 (50 + t187)), .int .i64 (wrap64 (50 + t190)), .int .i64 (wrap64 (50 + t193))] (0, 0) _ rfl (by (repeat refine bk1 ?_); refine blk_put (cs := #[.slice Ao53 x197000_1.length co53, .slice Ao11 t182.length co11, .slice Ao56 x197002_2.length co56, .int .i64 (wrap64 (50 + t187)), .int .i64 (wrap64 (50 + t190)), .int .i64 0]) ?_ 5 _ rfl; (repeat refine bk1 ?_); refine blk_put (cs := #[.slice Ao53 x197000_1.length co53, .slice Ao11 t182.length co11, .slice Ao56 x197002_2.length co56, .int .i64 (wrap64 (50 + t187)), .int .i64 0, .int .i64 0]) ?_ 4 _ rfl; (repeat refine bk1 ?_); refine blk_put (cs := #[.slice Ao53 x197000_1.length co53, .slice Ao11 t182.length co11, .slice Ao56 x197002_2.length co56, .int .i64 0, .int .i64 0, .int .i64 0]) ?_ 3 _ rfl; (repeat refine bk1 ?_); refine blk_put (cs := #[.slice Ao53 x197000_1.length co53, .slice Ao11 t182.length co11, .slice none 0 0, .int .i64 0, .int .i64 0, .int .i64 0]) ?_ 2 _ rfl; (repeat refine bk1 ?_); refine blk_put (cs := #[.slice Ao53 x197000_1.length co53, .slice none 0 0, .slice none 0 0, .int .i64 0, .int .i64 0, .int .i64 0]) ?_ 1 _ rfl; (repeat refine bk1 ?_); refine blk_put (cs := #[.slice none 0 0, .slice none 0 0, .slice none 0 0, .int .i64 0, .int .i64 0, .int .i64 0]) ?_ 0 _ rfl; (repeat refine bk1 ?_); exact BK181.out) Try.underlying30 rfl (by kernel_rfl)) rfl ?_
       exact ⟨_, _, _, by first | rfl | (simp [errW_none, errW_some] <;> rfl) | (simp [*, errW_none, errW_some] <;> rfl), by (repeat apply rl1); exact Kd.R_mono (Kd.R_far (p := ⟨gb181, 5, none⟩) (Kd.R_far (p := ⟨gb181, 4, none⟩) (Kd.R_far (p := ⟨gb181, 3, none⟩) (Kd.R_far (p := ⟨gb181, 2, none⟩) (Kd.R_far (p := ⟨gb181, 1, none⟩) (Kd.R_far (p := ⟨gb181, 0, none⟩) (Kd.R_types HO_197000.out BK181.out (by decide)) (fun _ hk => hk.2) (.slice Ao53 x197000_1.length co53)) (fun _ hk => hk.2) (.slice Ao11 t182.length co11)) (fun _ hk => hk.2) (.slice Ao56 x197002_2.length co56)) (fun _ hk => hk.2) (.int .i64 (wrap64 (50 + t187)))) (fun _ hk => hk.2) (.int .i64 (wrap64 (50 + t190)))) (fun _ hk => hk.2) (.int .i64 (wrap64 (50 + t193)))) (fun _ hk => trivial), by (repeat apply rl1); exact Kd.R_mono (Kd.R_far (p := ⟨gb181, 5, none⟩) (Kd.R_far (p := ⟨gb181, 4, none⟩) (Kd.R_far (p := ⟨gb181, 3, none⟩) (Kd.R_far (p := ⟨gb181, 2, none⟩) (Kd.R_far (p := ⟨gb181, 1, none⟩) (Kd.R_far (p := ⟨gb181, 0, none⟩) (Kd.R_types HO_197001.out BK181.out (by decide)) (fun _ hk => hk.2) (.slice Ao53 x197000_1.length co53)) (fun _ hk => hk.2) (.slice Ao11 t182.length co11)) (fun _ hk => hk.2) (.slice Ao56 x197002_2.length co56)) (fun _ hk => hk.2) (.int .i64 (wrap64 (50 + t187)))) (fun _ hk => hk.2) (.int .i64 (wrap64 (50 + t190)))) (fun _ hk => hk.2) (.int .i64 (wrap64 (50 + t193)))) (fun _ hk => trivial), by (repeat apply rl1); exact Kd.R_mono (Kd.R_far (p := ⟨gb181, 5, none⟩) (Kd.R_far (p := ⟨gb181, 4, none⟩) (Kd.R_far (p := ⟨gb181, 3, none⟩) (Kd.R_far (p := ⟨gb181, 2, none⟩) (Kd.R_far (p := ⟨gb181, 1, none⟩) (Kd.R_far (p := ⟨gb181, 0, none⟩) (Kd.R_types HO_197002.out BK181.out (by decide)) (fun _ hk => hk.2) (.slice Ao53 x197000_1.length co53)) (fun _ hk => hk.2) (.slice Ao11 t182.length co11)) (fun _ hk => hk.2) (.slice Ao56 x197002_2.length co56)) (fun _ hk => hk.2) (.int .i64 (wrap64 (50 + t187)))) (fun _ hk => hk.2) (.int .i64 (wrap64 (50 + t190)))) (fun _ hk => hk.2) (.int .i64 (wrap64 (50 + t193)))) (fun _ hk => trivial), by repeat (first | (with_reducible first | exact HI0.out | apply IsS108.alloc | apply IsS108.drewN | apply IsS108.drew | apply IsS108.set_1 | apply IsS108.set_2 | refine IsS108.far ?_ NB0_181.out _ | refine IsS108.far ?_ NB0_196.out _) | exact HI0.out), by repeat (first | (with_reducible first | exact HB.out | apply below_alloc | apply pw_below_drewN | apply below_drew1 | refine below_set ?_ (IsS108.ge HI0.out) | refine below_set ?_ GE181.out | refine below_set ?_ GE196.out) | exact HB.out), by repeat (first | (with_reducible first | exact HK.out | apply KeepBut.set_ | apply keep_drewN | apply keep_drew | apply keep_alloc | refine keep_far ?_ GW181.out _ | refine keep_far ?_ GW196.out _) | exact HK.out)⟩

end Go.Proofs.Ytdimdlifjdbgnaa.PFnReleased
