-- Written by a program of this session (wip/xprint.py) out of the translation; Lean checks it.
import Derived.Test.YtdimdlifjdbgnaaPFnKeptx0
import Derived.Test.YtdimdlifjdbgnaaPFnKeptx1
import Derived.Test.YtdimdlifjdbgnaaPFnKeptx2
import Derived.Test.YtdimdlifjdbgnaaPFnKeptx3
import Derived.Test.YtdimdlifjdbgnaaPFnKeptx4
import Derived.Test.YtdimdlifjdbgnaaPFnKeptx5
import Derived.Test.YtdimdlifjdbgnaaPFnKeptx6
import Derived.Test.YtdimdlifjdbgnaaPFnKeptx7
import Derived.Test.YtdimdlifjdbgnaaPFnKeptx8
import Derived.Test.YtdimdlifjdbgnaaPFnKeptx9
import Derived.Test.YtdimdlifjdbgnaaPFnKeptx10
import Derived.Test.YtdimdlifjdbgnaaPFnKeptx11
import Derived.Test.YtdimdlifjdbgnaaPFnKeptx12
import Derived.Test.YtdimdlifjdbgnaaPFnKeptx13
import Derived.Test.YtdimdlifjdbgnaaPFnKeptx14
namespace Go.Proofs.Ytdimdlifjdbgnaa.PFnKept
open Go.RowKit Go.Proofs.YtdimdlifjdbgnaaW.PrintWords Go.Proofs.YtdimdlifjdbgnaaW.PrintLast Go.Proofs.YtdimdlifjdbgnaaW.PrintMore Go.Proofs.Ytdimdlifjdbgnaa.Sq
attribute [local go_sem] max2_int min2_int max_two min_two max_three min_three max_four min_four   -- for this text's walks alone
set_option linter.unusedVariables false
set_option linter.unusedSimpArgs false

/-! ### impl_Pack20: function 17 -/
mutual
def impl_Pack20.l0 : Nat → List Int → List Int → List (List Int) → Int → Int → Option (List Int × Bool)
 | 0, _, _, _, _, _ => none
 | k + 1, x4, x5, x33, x34, x35 => if x35 < x34 then (if 0 ≤ x35 then (if x35 < (x33.length : Int) then (impl_Pack20.l1 k x4 x5 x33 x34 x35 (rd_L13 x33 x35) ((rd_L13 x33 x35).length : Int) 0) else (none)) else (none)) else (if (x4.length : Int) > 1500 then (some (([] : List Int), false)) else (some (x4, true)))
def impl_Pack20.l1 : Nat → List Int → List Int → List (List Int) → Int → Int → List Int → Int → Int → Option (List Int × Bool)
 | 0, _, _, _, _, _, _, _, _ => none
 | k + 1, x4, x5, x33, x34, x35, x39, x40, x41 => if x41 < x40 then (if 0 ≤ x41 then (if x41 < (x39.length : Int) then (if x41 < (x5.length : Int) then ((some (x5.set (x41 : Int).toNat (rd x39 x41) : List Int)).bind fun y521 => ((impl_in.f (wrap64 ((rd x39 x41) - (rd x5 x41))) (-100) 100).bind fun t522 => (if t522 = true then (if x4.length < 140737488355328 then (impl_Pack20.l1 k (x4 ++ [(wrap64 ((wrap64 ((rd x39 x41) - (rd x5 x41))) + 100)) % 256]) y521 x33 x34 x35 x39 x40 (wrap64 (x41 + 1))) else (none)) else ((some (([255, ((wrap64 ((wrap64 ((rd x39 x41) - (rd x5 x41))) + 60000)) / 65536) % 256, ((wrap64 ((wrap64 ((rd x39 x41) - (rd x5 x41))) + 60000)) / 256) % 256, (wrap64 ((wrap64 ((rd x39 x41) - (rd x5 x41))) + 60000)) % 256] : List Int) : List Int)).bind fun y526 => (if x4.length + y526.length < 140737488355328 then (impl_Pack20.l1 k (x4 ++ y526) y521 x33 x34 x35 x39 x40 (wrap64 (x41 + 1))) else (none)))))) else (none)) else (none)) else (none)) else (impl_Pack20.l0 k x4 x5 x33 x34 (wrap64 (x35 + 1)))
end
def impl_Pack20.f (k : Nat) (l0 : List (List Int)) : Option (List Int × Bool) := (impl_RecordOk.f k l0).bind fun t506 => (if t506 = true then (if (l0.length : Int) = 0 then (some ((([0, 0] : List Int)), true)) else (if 0 < (l0.length : Int) then (if 0 ≤ ((rd_L13 l0 0).length : Int) then (if (((rd_L13 l0 0).length : Int) : Int).toNat ≤ 35184372088832 then (impl_Pack20.l0 k (([(((rd_L13 l0 0).length : Int)) % 256, ((l0.length : Int)) % 256] : List Int)) (List.replicate (((rd_L13 l0 0).length : Int) : Int).toNat 0) l0 (l0.length : Int) 0) else (none)) else (none)) else (none))) else (some (([] : List Int), false)))
theorem impl_Pack20.mono_l : ∀ k, (∀ y0 y1 y2 y3 y4, LeO (impl_Pack20.l0 k y0 y1 y2 y3 y4) (impl_Pack20.l0 (k + 1) y0 y1 y2 y3 y4)) ∧ (∀ y0 y1 y2 y3 y4 y5 y6 y7, LeO (impl_Pack20.l1 k y0 y1 y2 y3 y4 y5 y6 y7) (impl_Pack20.l1 (k + 1) y0 y1 y2 y3 y4 y5 y6 y7))
 | 0 => ⟨fun _ _ _ _ _ r h => by simp [impl_Pack20.l0] at h, fun _ _ _ _ _ _ _ _ r h => by simp [impl_Pack20.l1] at h⟩
 | k + 1 => by
  obtain ⟨ih0, ih1⟩ := impl_Pack20.mono_l k
  refine ⟨?_, ?_⟩
  ·
   intro y0 y1 y2 y3 y4
   unfold impl_Pack20.l0
   repeat' first
   | (with_reducible exact ih0 _ _ _ _ _)
   | (with_reducible exact ih1 _ _ _ _ _ _ _ _)
   | (with_reducible exact impl_RecordOk.mono _ _)
   | (with_reducible exact LeO.refl _)
   | (with_reducible exact LeO.none _)
   | (with_reducible refine LeO.ite ?_ ?_)
   | (with_reducible refine LeO.bind ?_ (fun _ => ?_))
   | exact ih0 _ _ _ _ _
   | exact ih1 _ _ _ _ _ _ _ _
   | exact impl_RecordOk.mono _ _
   | exact LeO.none _
   | refine LeO.ite ?_ ?_
   | refine LeO.bind ?_ (fun _ => ?_)
  ·
   intro y0 y1 y2 y3 y4 y5 y6 y7
   unfold impl_Pack20.l1
   repeat' first
   | (with_reducible exact ih0 _ _ _ _ _)
   | (with_reducible exact ih1 _ _ _ _ _ _ _ _)
   | (with_reducible exact impl_RecordOk.mono _ _)
   | (with_reducible exact LeO.refl _)
   | (with_reducible exact LeO.none _)
   | (with_reducible refine LeO.ite ?_ ?_)
   | (with_reducible refine LeO.bind ?_ (fun _ => ?_))
   | exact ih0 _ _ _ _ _
   | exact ih1 _ _ _ _ _ _ _ _
   | exact impl_RecordOk.mono _ _
   | exact LeO.none _
   | refine LeO.ite ?_ ?_
   | refine LeO.bind ?_ (fun _ => ?_)
theorem impl_Pack20.mono : ∀ a0 k, LeO (impl_Pack20.f k a0) (impl_Pack20.f (k + 1) a0) := by
 intro a0 k
 obtain ⟨ih0, ih1⟩ := impl_Pack20.mono_l k
 unfold impl_Pack20.f
 repeat' first
   | (with_reducible exact ih0 _ _ _ _ _)
   | (with_reducible exact ih1 _ _ _ _ _ _ _ _)
   | (with_reducible exact impl_RecordOk.mono _ _)
   | (with_reducible exact LeO.refl _)
   | (with_reducible exact LeO.none _)
   | (with_reducible refine LeO.ite ?_ ?_)
   | (with_reducible refine LeO.bind ?_ (fun _ => ?_))
   | exact ih0 _ _ _ _ _
   | exact ih1 _ _ _ _ _ _ _ _
   | exact impl_RecordOk.mono _ _
   | exact LeO.none _
   | refine LeO.ite ?_ ?_
   | refine LeO.bind ?_ (fun _ => ?_)
def impl_Pack20.T5 : Bool × List (List Nat × List Nat) := (true, [([], []), ([0], [0]), ([1], [1]), ([2], [2]), ([3], [3]), ([], []), ([5], [5]), ([6], [6]), ([4, 7], [4, 7]), ([], []), ([9], [9]), ([10], [10]), ([11], [11]), ([12, 12], [12]), ([8, 0, 1, 2, 3, 4, 5, 6, 7, 8], [8]), ([13, 14, 0, 1, 2, 3, 4, 5, 6, 7, 8, 9, 10, 11, 12, 13, 14], [13])])
def impl_Pack20.B5 : List Nat := [0, 1, 3, 7, 15, 0, 32, 96, 255, 0, 512, 1536, 3584, 7680, 511, 32767]
theorem impl_Pack20.tab5 : rtab .any (opsOf Try.f17 5) = impl_Pack20.T5 := by kernel_rfl
theorem impl_Pack20.bits5 : waitsOk impl_Pack20.T5.2 impl_Pack20.B5 = true := by kernel_rfl
set_option maxHeartbeats 8000000 in
set_option maxRecDepth 100000 in
theorem impl_Pack20.calls (k : Nat) (A0 : Option Addr) (c0 : Nat) (l0 : List (List Int)) (r1 : List Int) (r2 : Bool) (w : World) (hr0 : Kd.C (Kd.slice 3 (Kd.int .i64)) w A0 l0.length l0) (hc0 : l0.length ≤ c0) (h : impl_Pack20.f k l0 = some (r1, r2)) :
  Calls Try.prog 17 #[.slice A0 l0.length c0] w fun e w' => ∃ v0_ : Value, e = .returned (.tuple #[v0_, .bool r2]) ∧ Kd.R (Kd.int .u8) 5 w' w.heap.size (fun _ => True) v0_ r1 ∧ Below w.heap.size w w' := by
 have HR0 := Aside0.mk hr0
 have HC0 := Aside0.mk hc0
 clear hr0 hc0
 have HB := Aside0.mk (Below.refl w.heap.size w)
 have H : ((impl_RecordOk.f k l0).bind fun t506 => (if t506 = true then (if (l0.length : Int) = 0 then (some ((([0, 0] : List Int)), true)) else (if 0 < (l0.length : Int) then (if 0 ≤ ((rd_L13 l0 0).length : Int) then (if (((rd_L13 l0 0).length : Int) : Int).toNat ≤ 35184372088832 then (impl_Pack20.l0 k (([(((rd_L13 l0 0).length : Int)) % 256, ((l0.length : Int)) % 256] : List Int)) (List.replicate (((rd_L13 l0 0).length : Int) : Int).toNat 0) l0 (l0.length : Int) 0) else (none)) else (none)) else (none))) else (some (([] : List Int), false)))) = some (r1, r2) := h
 clear h
 replace H := Option.bind_eq_some_iff.mp H
 obtain ⟨t506, A20, H⟩ := H
 replace H : (if t506 = true then (if (l0.length : Int) = 0 then (some ((([0, 0] : List Int)), true)) else (if 0 < (l0.length : Int) then (if 0 ≤ ((rd_L13 l0 0).length : Int) then (if (((rd_L13 l0 0).length : Int) : Int).toNat ≤ 35184372088832 then (impl_Pack20.l0 k (([(((rd_L13 l0 0).length : Int)) % 256, ((l0.length : Int)) % 256] : List Int)) (List.replicate (((rd_L13 l0 0).length : Int) : Int).toNat 0) l0 (l0.length : Int) 0) else (none)) else (none)) else (none))) else (some (([] : List Int), false))) = some (r1, r2) := H
 have A2 := Aside0.mk A20
 clear A20
 have HC3 := Aside0.mk H
 clear H
 go_enter Try.func17, Try.ntmps17
 go_upto_if 14 with (first | ((with_reducible refine gate_callee (f := 42) rfl ?_); refine goesL_ (some 13) rfl rfl Try.func42 (by kernel_rfl) rfl #[.slice A0 l0.length c0] rfl (by (try simp only [am_]); first | done | rfl) ?_; (with_reducible refine (impl_RecordOk.calls k _ _ l0 t506 _ ?side1 ?side2 A2.out).mono ?_); (case side1 => exact rc HR0.out); (case side2 => exact HC0.out); rintro e w' ⟨rfl, ⟨nd, rfl⟩⟩; refine ⟨_, rfl, ?_⟩))
 have H := HC3.out
 clear HC3
 by_cases c4 : t506 = true
 ·
  subst c4
  have H1 : (if (l0.length : Int) = 0 then (some ((([0, 0] : List Int)), true)) else (if 0 < (l0.length : Int) then (if 0 ≤ ((rd_L13 l0 0).length : Int) then (if (((rd_L13 l0 0).length : Int) : Int).toNat ≤ 35184372088832 then (impl_Pack20.l0 k (([(((rd_L13 l0 0).length : Int)) % 256, ((l0.length : Int)) % 256] : List Int)) (List.replicate (((rd_L13 l0 0).length : Int) : Int).toNat 0) l0 (l0.length : Int) 0) else (none)) else (none)) else (none))) = some (r1, r2) := by rw [if_pos rfl] at H; exact H
  clear H
  have H := H1
  clear H1
  by_cases c5 : (l0.length : Int) = 0
  ·
   rw [if_pos c5] at H
   have c5b0 : ((l0.length : Int) == 0) = true := beq_iff_eq.mpr c5
   have c5b1 : ((l0.length : Int) != 0) = false := bne_eq_false_iff_eq.mpr c5
   clear c5
   (first | rw [c5b0] | (simp only [i64_w, i32_w]; rw [c5b0]) | skip)
   obtain ⟨y507, hy507⟩ : ∃ y_ : List Int, y_ = (([0, 0] : List Int)) := ⟨_, rfl⟩
   replace H : (some (y507, true)) = some (r1, r2) := by first | (rw [hy507]; with_reducible exact H) | (have H2_ := (Option.bind_some _ _).symm.trans H; rw [hy507]; with_reducible exact H2_) | (have H2_ := (Option.bind_some _ _).symm.trans H; with_reducible exact H2_) | with_reducible exact H | (rw [hy507]; exact H) | exact H
   have Ny507 := Aside0.mk hy507
   clear hy507
   simp only [Option.some.injEq, Prod.mk.injEq] at H
   obtain ⟨rfl, rfl⟩ := H
   go_wp2_with (first | ((with_reducible refine gate_dst (N := 18) rfl ?_); refine Kd.R_lit (Kd.int .u8) _ 5 ?hg (N := 18) ?hd (xs := ([0, 0] : List Int)) (inner := [.int .u8 0, .int .u8 0]) (ok := fun _ => True) (okp := fun _ => True) ?hr ?hp (fun _ hk => hk) trivial (Below.refl _ _) (Nat.le_refl _) (by simp) ?_; (case hd => rfl); (case hg => rfl); (case hr => first | (go_simp; done) | (go_simp; rfl)); (case hp => exact (Reps.one (show Kd.M (Kd.int .u8) _ _ _ 0 [.int .u8 0] from rfl) (Reps.one (show Kd.M (Kd.int .u8) _ _ _ 0 [.int .u8 0] from rfl) (Reps.none _ _)))); intro v508 w6 ho7 hb hg_ hnew_; clear hg_ hnew_; (first | rw [← Ny507.out] at ho7 | (simp only [Int.reduceToNat] at ho7; rw [← Ny507.out] at ho7)); have HO509 := Aside0.mk (Kd.R_lower ho7 (below_size (bl HB.out))); replace HB := Aside0.mk (below_step (bl HB.out) hb); clear hb ho7))
   go_ret2
   exact ⟨_, by first | rfl | (simp [errW_none, errW_some] <;> rfl) | (simp [*, errW_none, errW_some] <;> rfl), by (repeat apply rl1); exact HO509.out, bl HB.out⟩
  ·
   rw [if_neg c5] at H
   have c5b0 : ((l0.length : Int) == 0) = false := beq_eq_false_iff_ne.mpr c5
   have c5b1 : ((l0.length : Int) != 0) = true := bne_iff_ne.mpr c5
   have c5b2 : ¬ (l0 = []) := fun h_ => c5 (by rw [h_]; rfl)
   (first | rw [c5b0] | (simp only [i64_w, i32_w]; rw [c5b0]) | skip)
   by_cases c8 : 0 < (l0.length : Int)
   ·
    rw [if_pos c8] at H
    have c8b0 : decide (0 < (l0.length : Int)) = true := decide_eq_true c8
    have c8b1 : decide (0 < l0.length) = true := decide_eq_true (by omega)
    clear c8
    obtain ⟨y511, hy511⟩ : ∃ y_ : List Int, y_ = (([(((rd_L13 l0 0).length : Int)) % 256, ((l0.length : Int)) % 256] : List Int)) := ⟨_, rfl⟩
    replace H : (if 0 ≤ ((rd_L13 l0 0).length : Int) then (if (((rd_L13 l0 0).length : Int) : Int).toNat ≤ 35184372088832 then (impl_Pack20.l0 k y511 (List.replicate (((rd_L13 l0 0).length : Int) : Int).toNat 0) l0 (l0.length : Int) 0) else (none)) else (none)) = some (r1, r2) := by first | (rw [hy511]; with_reducible exact H) | (have H2_ := (Option.bind_some _ _).symm.trans H; rw [hy511]; with_reducible exact H2_) | (have H2_ := (Option.bind_some _ _).symm.trans H; with_reducible exact H2_) | with_reducible exact H | (rw [hy511]; exact H) | exact H
    have Ny511 := Aside0.mk hy511
    clear hy511
    by_cases c9 : 0 ≤ ((rd_L13 l0 0).length : Int)
    ·
     rw [if_pos c9] at H
     have c9b0 := eq_true c9
     have c9b1 : decide (0 ≤ ((rd_L13 l0 0).length : Int)) = true := decide_eq_true c9
     clear c9
     by_cases c10 : (((rd_L13 l0 0).length : Int) : Int).toNat ≤ 35184372088832
     ·
      rw [if_pos c10] at H
      have c10b0 := eq_true c10
      have c10b1 : decide ((((rd_L13 l0 0).length : Int) : Int).toNat ≤ 35184372088832) = true := decide_eq_true c10
      clear c10
      obtain ⟨y515, hy515⟩ : ∃ y_ : List Int, y_ = (List.replicate (((rd_L13 l0 0).length : Int) : Int).toNat 0) := ⟨_, rfl⟩
      replace H : (impl_Pack20.l0 k y511 y515 l0 (l0.length : Int) 0) = some (r1, r2) := by first | (rw [hy515]; with_reducible exact H) | (have H2_ := (Option.bind_some _ _).symm.trans H; rw [hy515]; with_reducible exact H2_) | (have H2_ := (Option.bind_some _ _).symm.trans H; with_reducible exact H2_) | with_reducible exact H | (rw [hy515]; exact H) | exact H
      have Ny515 := Aside0.mk hy515
      clear hy515
      have H' := Aside0.mk H
      clear H
      try go_wp2
      have n0_ := Aside0.mk (below_drew1 (pw_below_drewN HB.out nd))
      clear HB
      have HB := n0_
      clear n0_
      have p510 : 0 ≤ (0 : Int) := (by omega)
      have q510 : 0 < (l0.length : Int) := of_decide_eq_true (by first | (with_reducible assumption) | assumption)
      obtain ⟨ad510, A510_0, c510_0, e510, hx510_0, hl510_0, hi510_0⟩ := at_L13 HR0.out 0 p510 q510
      have hw510_0 := hx510_0
      (try rw [show ((0 : Int)).toNat = 0 from rfl] at hw510_0)
      (try rw [show 0 * 1 = 0 from rfl] at hw510_0)
      (try rw [Addr.add_zero'] at hw510_0)
      cases e510
      have qi510 : (0 < l0.length) = True := eq_true (by omega)
      (try rw [show ((0 : Int)).toNat = 0 from rfl] at hx510_0)
      (try rw [Addr.add_zero'] at hx510_0)
      replace hx510_0 := bc HB.out hx510_0
      have HR510_0 := Aside0.mk hi510_0
      have HC510_0 := Aside0.mk hl510_0
      clear hi510_0 hl510_0
      replace p510 := eq_true p510
      replace q510 := eq_true q510
      have p514 : 0 ≤ (0 : Int) := (by omega)
      have q514 : 0 < (l0.length : Int) := of_decide_eq_true (by first | (with_reducible assumption) | assumption)
      obtain ⟨ad514, A514_0, c514_0, e514, hx514_0, hl514_0, hi514_0⟩ := at_L13 HR0.out 0 p514 q514
      have hw514_0 := hx514_0
      (try rw [show ((0 : Int)).toNat = 0 from rfl] at hw514_0)
      (try rw [show 0 * 1 = 0 from rfl] at hw514_0)
      (try rw [Addr.add_zero'] at hw514_0)
      obtain rfl : ad510 = ad514 := (by injection e514)
      have qi514 : (0 < l0.length) = True := eq_true (by omega)
      (try rw [show ((0 : Int)).toNat = 0 from rfl] at hx514_0)
      (try rw [Addr.add_zero'] at hx514_0)
      replace hx514_0 := bc HB.out hx514_0
      have HR514_0 := Aside0.mk hi514_0
      have HC514_0 := Aside0.mk hl514_0
      clear hi514_0 hl514_0
      replace p514 := eq_true p514
      replace q514 := eq_true q514
      have ea_ := Option.some.inj (hx510_0.symm.trans hx514_0)
      injection ea_ with ea_ en_ ec_
      subst ea_
      subst ec_
      clear en_
      refine start_ (n := 16) (S := fun w' => w'.cell? ad510 = some (.slice A510_0 (rd_L13 l0 0).length c510_0) ∧ w'.cell? ad510 = some (.slice A510_0 (rd_L13 l0 0).length c510_0)) (ds := []) m0_16 (by kernel_rfl) rfl rfl ⟨((HB.out.cell (World.block_lt_of_cell? w _ hw510_0)).trans hw510_0), ((HB.out.cell (World.block_lt_of_cell? w _ hw514_0)).trans hw514_0)⟩ (fun hHeld => ?_); refine with_tabW impl_Pack20.tab5 impl_Pack20.bits5 (fun HT_ HW_ => ?_)
      generalize (w.drewN nd).drew = w11 at HB HR510_0 HR514_0 hx510_0 hx514_0 hHeld ⊢
      refine pq_ HT_.out 0 19 m1_16 ?_
      refine pq_ HT_.out 1 20 m2_16 ?_
      refine pq_ HT_.out 5 24 n87 ?_
      refine pq_ HT_.out 6 25 n88 ?_
      refine pq_ HT_.out 7 26 n89 ?_
      refine pq_ HT_.out 9 28 n90 ?_
      refine pq_ HT_.out 10 29 n91 ?_
      refine tk_ HT_.out HW_.out 2 21 n98 rfl rfl (by kernel_rfl) (by rfl) (by rintro w' ⟨s0, s1⟩; go_simp; with_reducible rfl) hHeld (by simp only [sp_]; rfl) (fun _ _ _ h => h) ?_
      refine pq_ HT_.out 3 22 n92 ?_
      refine pq_ HT_.out 4 23 n93 ?_
      refine tk_ HT_.out HW_.out 11 30 n99 rfl rfl (by kernel_rfl) (by rfl) (by rintro w' ⟨s0, s1⟩; go_simp; with_reducible rfl) hHeld (by simp only [sp_]; rfl) (fun _ _ _ h => h) ?_
      refine pq_ HT_.out 12 31 n94 ?_
      refine join_ (σ := Value × Value) 1 m15_16 (fun s_ => [(27, s_.1), (32, s_.2), (4, s_.1)]) (fun s_ w' => (w'.cell? ad510 = some (.slice A510_0 (rd_L13 l0 0).length c510_0) ∧ w'.cell? ad510 = some (.slice A510_0 (rd_L13 l0 0).length c510_0)) ∧ (Kd.R (Kd.int .u8) 5 w' w.heap.size (fun _ => True) s_.1 y511) ∧ (Kd.R (Kd.int .i64) 3 w' w.heap.size (fun _ => True) s_.2 y515) ∧ (Below w.heap.size w w')) ?_ ?_
      rotate_left
      ·
       intro hCont
       refine two_ (i := 8) (j := 13) (Ni := some 27) (Nj := some 32) m13_16 n102 rfl rfl rfl rfl (two_of HT_.out (by kernel_rfl)) (by decide) (by decide) (fun K hK => ?_) (fun K hK => ?_)
       ·
        skip
        refine Kd.R_lit_step (Kd.int .u8) _ 5 ?hg (N := 27) ?hd (xs := ([(((rd_L13 l0 0).length : Int)) % 256, ((l0.length : Int)) % 256] : List Int)) (inner := [.int .u8 ((((rd_L13 l0 0).length : Int)) % 256), .int .u8 (((l0.length : Int)) % 256)]) (ok := fun _ => True) (okp := fun _ => True) ?hr ?hp (fun _ hk => hk) trivial (Below.refl _ _) (Nat.le_refl _) (by simp) ?_; (case hd => rfl); (case hg => rfl); (case hr => first | (go_simp; done) | (go_simp; rfl)); (case hp => exact (Reps.one (show Kd.M (Kd.int .u8) _ _ _ ((((rd_L13 l0 0).length : Int)) % 256) [.int .u8 ((((rd_L13 l0 0).length : Int)) % 256)] from rfl) (Reps.one (show Kd.M (Kd.int .u8) _ _ _ (((l0.length : Int)) % 256) [.int .u8 (((l0.length : Int)) % 256)] from rfl) (Reps.none _ _))))
        intro v512 w12 ho13 hb hg_ hnew_
        clear hg_ hnew_
        (first | rw [← Ny511.out] at ho13 | (simp only [Int.reduceToNat] at ho13; rw [← Ny511.out] at ho13))
        have n0_ := Aside0.mk (Kd.R_lower ho13 (below_size (bl HB.out)))
        have n1_ := Aside0.mk (below_step (bl HB.out) hb)
        clear HB
        have HO513 := n0_
        have HB := n1_
        clear n0_ n1_
        clear hb ho13
        refine hK.out _ _ ⟨((HB.out.cell (World.block_lt_of_cell? w _ hw510_0)).trans hw510_0), ((HB.out.cell (World.block_lt_of_cell? w _ hw514_0)).trans hw514_0)⟩ (fun hHeld => ?_)
        clear hK K
        refine norm_ (a' := ?_) ?_ ?_
        rotate_left
        ·
         show Act.put _ (some 27) _ = _
         simp only [sp_]
         rfl
        refine pq_ HT_.out 14 4 n95 ?_
        refine one_ (i := 13) (N := some 32) m15_16 rfl rfl (one_of HT_.out (by kernel_rfl)) (by decide) (fun K hK => ?_)
        refine Kd.R_make_step (Kd.int .i64) _ 3 (by rfl) (N := 32) rfl 53 _ _ rfl ((rd_L13 l0 0).length : Int) rfl rfl Try.underlying53 (.int .i64 0) 8 info3 rfl (by decide) (by omega) 0 (ok := fun _ => True) (okp := fun _ => True) rfl (fun _ hk => hk) trivial (of_decide_eq_true (by first | (with_reducible assumption) | assumption)) (Nat.le_trans (Nat.mul_le_mul_right _ (of_decide_eq_true (by first | (with_reducible assumption) | assumption) : ((rd_L13 l0 0).length : Int).toNat ≤ 35184372088832)) (by omega)) (Below.refl _ _) (Nat.le_refl _) ?_
        intro v516 w14 ho15 hb hg_ hnew_
        clear hg_ hnew_
        (first | rw [← Ny515.out] at ho15 | (simp only [Int.reduceToNat] at ho15; rw [← Ny515.out] at ho15))
        have n0_ := Aside0.mk (Kd.R_below (rl HO513.out) hb)
        have n1_ := Aside0.mk (Kd.R_lower ho15 (below_size (bl HB.out)))
        have n2_ := Aside0.mk (below_step (bl HB.out) hb)
        clear HO513
        clear HB
        have HO513 := n0_
        have HO517 := n1_
        have HB := n2_
        clear n0_ n1_ n2_
        clear hb ho15
        refine hK.out _ _ ⟨((HB.out.cell (World.block_lt_of_cell? w _ hw510_0)).trans hw510_0), ((HB.out.cell (World.block_lt_of_cell? w _ hw514_0)).trans hw514_0)⟩ (fun hHeld => ?_)
        clear hK K
        refine norm_ (a' := ?_) ?_ ?_
        rotate_left
        ·
         show Act.put _ (some 32) _ = _
         simp only [sp_]
         rfl
        exact norm_ (by simp only [putAll, Act.put, List.setIfInBounds_toArray, List.set_cons_zero, List.set_cons_succ]) (hCont (v512, v516) _ ⟨hHeld, (rl HO513.out), (rl HO517.out), (bl HB.out)⟩)
       ·
        skip
        refine Kd.R_make_step (Kd.int .i64) _ 3 (by rfl) (N := 32) rfl 53 _ _ rfl ((rd_L13 l0 0).length : Int) rfl rfl Try.underlying53 (.int .i64 0) 8 info3 rfl (by decide) (by omega) 0 (ok := fun _ => True) (okp := fun _ => True) rfl (fun _ hk => hk) trivial (of_decide_eq_true (by first | (with_reducible assumption) | assumption)) (Nat.le_trans (Nat.mul_le_mul_right _ (of_decide_eq_true (by first | (with_reducible assumption) | assumption) : ((rd_L13 l0 0).length : Int).toNat ≤ 35184372088832)) (by omega)) (Below.refl _ _) (Nat.le_refl _) ?_
        intro v516 w12 ho13 hb hg_ hnew_
        clear hg_ hnew_
        (first | rw [← Ny515.out] at ho13 | (simp only [Int.reduceToNat] at ho13; rw [← Ny515.out] at ho13))
        have n0_ := Aside0.mk (Kd.R_lower ho13 (below_size (bl HB.out)))
        have n1_ := Aside0.mk (below_step (bl HB.out) hb)
        clear HB
        have HO517 := n0_
        have HB := n1_
        clear n0_ n1_
        clear hb ho13
        refine hK.out _ _ ⟨((HB.out.cell (World.block_lt_of_cell? w _ hw510_0)).trans hw510_0), ((HB.out.cell (World.block_lt_of_cell? w _ hw514_0)).trans hw514_0)⟩ (fun hHeld => ?_)
        clear hK K
        refine norm_ (a' := ?_) ?_ ?_
        rotate_left
        ·
         show Act.put _ (some 32) _ = _
         simp only [sp_]
         rfl
        refine one_ (i := 8) (N := some 27) m14_16 rfl rfl (one_of HT_.out (by kernel_rfl)) (by decide) (fun K hK => ?_)
        refine Kd.R_lit_step (Kd.int .u8) _ 5 ?hg (N := 27) ?hd (xs := ([(((rd_L13 l0 0).length : Int)) % 256, ((l0.length : Int)) % 256] : List Int)) (inner := [.int .u8 ((((rd_L13 l0 0).length : Int)) % 256), .int .u8 (((l0.length : Int)) % 256)]) (ok := fun _ => True) (okp := fun _ => True) ?hr ?hp (fun _ hk => hk) trivial (Below.refl _ _) (Nat.le_refl _) (by simp) ?_; (case hd => rfl); (case hg => rfl); (case hr => first | (go_simp; done) | (go_simp; rfl)); (case hp => exact (Reps.one (show Kd.M (Kd.int .u8) _ _ _ ((((rd_L13 l0 0).length : Int)) % 256) [.int .u8 ((((rd_L13 l0 0).length : Int)) % 256)] from rfl) (Reps.one (show Kd.M (Kd.int .u8) _ _ _ (((l0.length : Int)) % 256) [.int .u8 (((l0.length : Int)) % 256)] from rfl) (Reps.none _ _))))
        intro v512 w14 ho15 hb hg_ hnew_
        clear hg_ hnew_
        (first | rw [← Ny511.out] at ho15 | (simp only [Int.reduceToNat] at ho15; rw [← Ny511.out] at ho15))
        have n0_ := Aside0.mk (Kd.R_below (rl HO517.out) hb)
        have n1_ := Aside0.mk (Kd.R_lower ho15 (below_size (bl HB.out)))
        have n2_ := Aside0.mk (below_step (bl HB.out) hb)
        clear HO517
        clear HB
        have HO517 := n0_
        have HO513 := n1_
        have HB := n2_
        clear n0_ n1_ n2_
        clear hb ho15
        refine hK.out _ _ ⟨((HB.out.cell (World.block_lt_of_cell? w _ hw510_0)).trans hw510_0), ((HB.out.cell (World.block_lt_of_cell? w _ hw514_0)).trans hw514_0)⟩ (fun hHeld => ?_)
        clear hK K
        refine norm_ (a' := ?_) ?_ ?_
        rotate_left
        ·
         show Act.put _ (some 27) _ = _
         simp only [sp_]
         rfl
        refine pq_ HT_.out 14 4 m15_16 ?_
        exact norm_ (by simp only [putAll, Act.put, List.setIfInBounds_toArray, List.set_cons_zero, List.set_cons_succ]) (hCont (v512, v516) _ ⟨hHeld, (rl HO513.out), (rl HO517.out), (bl HB.out)⟩)
      rintro ⟨v512, v516⟩ w16 ⟨hS_, h0_, h1_, h2_⟩
      have n0_ : Aside0 (Kd.R (Kd.int .u8) 5 w16 w.heap.size (fun _ => True) v512 y511) := ⟨h0_⟩
      have n1_ : Aside0 (Kd.R (Kd.int .i64) 3 w16 w.heap.size (fun _ => True) v516 y515) := ⟨h1_⟩
      have n2_ : Aside0 (Below w.heap.size w w16) := ⟨h2_⟩
      clear HB
      clear h0_ h1_ h2_
      have HO513 := n0_
      have HO517 := n1_
      have HB := n2_
      clear n0_ n1_ n2_
      have hHeld : w16.cell? ad510 = some (.slice A510_0 (rd_L13 l0 0).length c510_0) ∧ w16.cell? ad510 = some (.slice A510_0 (rd_L13 l0 0).length c510_0) := hS_
      refine norm_ (a' := ?_) ?_ ?_
      rotate_left
      ·
       simp only [putAll, Act.put, List.setIfInBounds_toArray, List.set_cons_zero, List.set_cons_succ]
       rfl
      refine pq_ HT_.out 15 5 m16_16 ?_
      refine done_ (done_of HT_.out (by kernel_rfl)) ?_
      try go_wp2
      go_loopg [4, 35] k (fun kq v4 v35 w' => ∃ (x4_1 : List Int) (x5_1 : List Int) (x35_1 : Int), v35 = .int .i64 x35_1 ∧ Aside0 (impl_Pack20.l0 kq x4_1 x5_1 l0 (l0.length : Int) x35_1 = some (r1, r2)) ∧ Aside0 (kq ≤ k) ∧ Aside0 (Kd.R (Kd.int .u8) 5 w' w.heap.size (fun _ => True) v4 x4_1) ∧ Aside0 (Kd.R (Kd.int .i64) 3 w' w.heap.size (fun _ => True) v516 x5_1) ∧ Aside0 (Below w.heap.size w w'))
      case atStart => exact ⟨(y511), (y515), (0), (by first | rfl | (simp; done) | (simp [*]; done)), H', ⟨Nat.le_refl _⟩, ⟨rl HO513.out⟩, ⟨rl HO517.out⟩, ⟨bl HB.out⟩⟩
      case round =>
       clear H'
       try clear c1
       try clear p2
       try clear c4
       try clear c5
       try clear c5b0
       try clear c5b1
       try clear c5b2
       try clear p5
       try clear q5
       try clear hx5
       try clear qi5
       try clear c8
       try clear c8b0
       try clear c8b1
       try clear c9
       try clear c9b0
       try clear c9b1
       try clear c10
       try clear c10b0
       try clear c10b1
       try clear hx510_0
       try clear hx514_0
       try clear p510
       try clear p514
       try clear q510
       try clear q514
       obtain ⟨x4_1, x5_1, x35_1, rfl, HA, HK1, HO_4, HO_5, HB⟩ := hrel
       cases gk with
       | zero => exact absurd HA.out (by simp [impl_Pack20.l0])
       | succ k1 =>
        have H := HA.out
        clear HA
        simp only [impl_Pack20.l0] at H
        by_cases c17 : x35_1 < (l0.length : Int)
        ·
         rw [if_pos c17] at H
         have c17b0 : decide (x35_1 < (l0.length : Int)) = true := decide_eq_true c17
         clear c17
         by_cases c18 : 0 ≤ x35_1
         ·
          rw [if_pos c18] at H
          have c18b0 : decide (0 ≤ x35_1) = true := decide_eq_true c18
          clear c18
          by_cases c19 : x35_1 < (l0.length : Int)
          ·
           rw [if_pos c19] at H
           have c19b0 : decide (x35_1 < (l0.length : Int)) = true := decide_eq_true c19
           clear c19
           have H' := Aside0.mk H
           clear H
           have p518 : 0 ≤ (x35_1 : Int) := of_decide_eq_true (by first | (with_reducible assumption) | assumption)
           have q518 : x35_1 < (l0.length : Int) := of_decide_eq_true (by first | (with_reducible assumption) | assumption)
           obtain ⟨ad518, A518_0, c518_0, e518, hx518_0, hl518_0, hi518_0⟩ := at_L13 HR0.out x35_1 p518 q518
           obtain rfl : ad510 = ad518 := (by injection e518)
           replace hx518_0 := bc HB.out hx518_0
           have HR518_0 := Aside0.mk hi518_0
           have HC518_0 := Aside0.mk hl518_0
           clear hi518_0 hl518_0
           replace p518 := eq_true p518
           replace q518 := eq_true q518
           go_wp2
           go_loopg [4, 41] k1 (fun kq v4 v41 w' => ∃ (x4_2 : List Int) (x5_2 : List Int) (x41_2 : Int), v41 = .int .i64 x41_2 ∧ Aside0 (impl_Pack20.l1 kq x4_2 x5_2 l0 (l0.length : Int) x35_1 (rd_L13 l0 x35_1) ((rd_L13 l0 x35_1).length : Int) x41_2 = some (r1, r2)) ∧ Aside0 (kq ≤ k1) ∧ Aside0 (Kd.R (Kd.int .u8) 5 w' w.heap.size (fun _ => True) v4 x4_2) ∧ Aside0 (Kd.R (Kd.int .i64) 3 w' w.heap.size (fun _ => True) v516 x5_2) ∧ Aside0 (Below w.heap.size w w'))
           case atStart => exact ⟨(x4_1), (x5_1), (0), (by first | rfl | (simp; done) | (simp [*]; done)), H', ⟨Nat.le_refl _⟩, ⟨rl HO_4.out⟩, ⟨rl HO_5.out⟩, ⟨bl HB.out⟩⟩
           case round =>
            clear H'
            try clear c1
            try clear p2
            try clear c4
            try clear c5
            try clear c5b0
            try clear c5b1
            try clear c5b2
            try clear p5
            try clear q5
            try clear hx5
            try clear qi5
            try clear c8
            try clear c8b0
            try clear c8b1
            try clear c9
            try clear c9b0
            try clear c9b1
            try clear c10
            try clear c10b0
            try clear c10b1
            try clear c17
            try clear c17b0
            try clear c18
            try clear c18b0
            try clear c19
            try clear c19b0
            try clear hx510_0
            try clear hx514_0
            try clear hx518_0
            try clear p2
            try clear p5
            try clear p510
            try clear p514
            try clear p518
            try clear q5
            try clear q510
            try clear q514
            try clear q518
            obtain ⟨x4_2, x5_2, x41_2, rfl, HA, HK2, HO_4, HO_5, HB⟩ := hrel
            cases gk with
            | zero => exact absurd HA.out (by simp [impl_Pack20.l1])
            | succ k2 =>
             have H := HA.out
             clear HA
             simp only [impl_Pack20.l1] at H
             by_cases c20 : x41_2 < ((rd_L13 l0 x35_1).length : Int)
             ·
              rw [if_pos c20] at H
              have c20b0 : decide (x41_2 < ((rd_L13 l0 x35_1).length : Int)) = true := decide_eq_true c20
              clear c20
              by_cases c21 : 0 ≤ x41_2
              ·
               rw [if_pos c21] at H
               have c21b0 : decide (0 ≤ x41_2) = true := decide_eq_true c21
               clear c21
               by_cases c22 : x41_2 < ((rd_L13 l0 x35_1).length : Int)
               ·
                rw [if_pos c22] at H
                have c22b0 : decide (x41_2 < ((rd_L13 l0 x35_1).length : Int)) = true := decide_eq_true c22
                clear c22
                by_cases c23 : x41_2 < (x5_2.length : Int)
                ·
                 rw [if_pos c23] at H
                 have c23b0 : decide (x41_2 < (x5_2.length : Int)) = true := decide_eq_true c23
                 clear c23
                 obtain ⟨y521, hy521⟩ : ∃ y_ : List Int, y_ = (x5_2.set (x41_2 : Int).toNat (rd (rd_L13 l0 x35_1) x41_2)) := ⟨_, rfl⟩
                 replace H : ((impl_in.f (wrap64 ((rd (rd_L13 l0 x35_1) x41_2) - (rd x5_2 x41_2))) (-100) 100).bind fun t522 => (if t522 = true then (if x4_2.length < 140737488355328 then (impl_Pack20.l1 k2 (x4_2 ++ [(wrap64 ((wrap64 ((rd (rd_L13 l0 x35_1) x41_2) - (rd x5_2 x41_2))) + 100)) % 256]) y521 l0 (l0.length : Int) x35_1 (rd_L13 l0 x35_1) ((rd_L13 l0 x35_1).length : Int) (wrap64 (x41_2 + 1))) else (none)) else ((some (([255, ((wrap64 ((wrap64 ((rd (rd_L13 l0 x35_1) x41_2) - (rd x5_2 x41_2))) + 60000)) / 65536) % 256, ((wrap64 ((wrap64 ((rd (rd_L13 l0 x35_1) x41_2) - (rd x5_2 x41_2))) + 60000)) / 256) % 256, (wrap64 ((wrap64 ((rd (rd_L13 l0 x35_1) x41_2) - (rd x5_2 x41_2))) + 60000)) % 256] : List Int) : List Int)).bind fun y526 => (if x4_2.length + y526.length < 140737488355328 then (impl_Pack20.l1 k2 (x4_2 ++ y526) y521 l0 (l0.length : Int) x35_1 (rd_L13 l0 x35_1) ((rd_L13 l0 x35_1).length : Int) (wrap64 (x41_2 + 1))) else (none))))) = some (r1, r2) := by first | (rw [hy521]; with_reducible exact H) | (have H2_ := (Option.bind_some _ _).symm.trans H; rw [hy521]; with_reducible exact H2_) | (have H2_ := (Option.bind_some _ _).symm.trans H; with_reducible exact H2_) | with_reducible exact H | (rw [hy521]; exact H) | exact H
                 have Ny521 := Aside0.mk hy521
                 clear hy521
                 replace H := Option.bind_eq_some_iff.mp H
                 obtain ⟨t522, A250, H⟩ := H
                 replace H : (if t522 = true then (if x4_2.length < 140737488355328 then (impl_Pack20.l1 k2 (x4_2 ++ [(wrap64 ((wrap64 ((rd (rd_L13 l0 x35_1) x41_2) - (rd x5_2 x41_2))) + 100)) % 256]) y521 l0 (l0.length : Int) x35_1 (rd_L13 l0 x35_1) ((rd_L13 l0 x35_1).length : Int) (wrap64 (x41_2 + 1))) else (none)) else ((some (([255, ((wrap64 ((wrap64 ((rd (rd_L13 l0 x35_1) x41_2) - (rd x5_2 x41_2))) + 60000)) / 65536) % 256, ((wrap64 ((wrap64 ((rd (rd_L13 l0 x35_1) x41_2) - (rd x5_2 x41_2))) + 60000)) / 256) % 256, (wrap64 ((wrap64 ((rd (rd_L13 l0 x35_1) x41_2) - (rd x5_2 x41_2))) + 60000)) % 256] : List Int) : List Int)).bind fun y526 => (if x4_2.length + y526.length < 140737488355328 then (impl_Pack20.l1 k2 (x4_2 ++ y526) y521 l0 (l0.length : Int) x35_1 (rd_L13 l0 x35_1) ((rd_L13 l0 x35_1).length : Int) (wrap64 (x41_2 + 1))) else (none)))) = some (r1, r2) := H
                 have A25 := Aside0.mk A250
                 clear A250
                 have HC26 := Aside0.mk H
                 clear H
                 have p519 : 0 ≤ (x41_2 : Int) := of_decide_eq_true (by first | (with_reducible assumption) | assumption)
                 have q519 : x41_2 < ((rd_L13 l0 x35_1).length : Int) := of_decide_eq_true (by first | (with_reducible assumption) | assumption)
                 obtain ⟨ad519, e519, hx519_0⟩ := Kd.at_int HR518_0.out x41_2 p519 q519
                 cases e519
                 replace hx519_0 := bc HB.out hx519_0
                 replace p519 := eq_true p519
                 replace q519 := eq_true q519
                 obtain ⟨Ao27, co27, eo27⟩ := Kd.R_slice HO_5.out
                 subst eo27
                 have p520 : 0 ≤ (x41_2 : Int) := of_decide_eq_true (by first | (with_reducible assumption) | assumption)
                 have q520 : x41_2 < (x5_2.length : Int) := of_decide_eq_true (by first | (with_reducible assumption) | assumption)
                 obtain ⟨ad520, e520, hx520_0⟩ := Kd.at_int (Kd.R_reads' HO_5.out).2.2 x41_2 p520 q520
                 cases e520
                 replace p520 := eq_true p520
                 replace q520 := eq_true q520
                 have p24 : 0 ≤ (x41_2 : Int) := of_decide_eq_true (by first | (with_reducible assumption) | assumption)
                 have q24 : (x41_2 : Int) < ((x5_2.length : Int) : Int) := of_decide_eq_true (by first | (with_reducible assumption) | assumption)
                 obtain ⟨go24, co24, eo24, gb24, gl24, cl24, HG24⟩ := Kd.R_form HO_5.out (by omega)
                 (first | cases eo24 | (injection eo24 with ea_ en_ ec_; (first | subst ea_ | (injection ea_ with ea_; subst ea_)); subst ec_; clear en_))
                 have GB24 := Aside0.mk gb24
                 have GG24 := Aside0.mk HG24
                 clear gb24 gl24 HG24
                 (first | simp only [add_plain] at hx520_0 | skip)
                 obtain ⟨hx24_0, hf24_0⟩ := Kd.R_celln 0 HO_5.out (x41_2 : Int) p24 q24
                 replace p24 := eq_true p24
                 replace q24 := eq_true q24
                 have HP28 := Kd.R_putg HO_5.out (x41_2 : Int) (rd (rd_L13 l0 x35_1) x41_2)
                 go_upto_if 57 with (first | ((with_reducible refine gate_store (t := 3) (p := 55) rfl ?_); refine store_event (t := 3) (p := 55) (v := ?vo_w29) (w1 := (wr.setCell ⟨go24, (x41_2 : Int).toNat, none⟩ (.int .i64 (rd (rd_L13 l0 x35_1) x41_2)))) ?hg ?ho ?hn ?hr ?_; (case ho => rfl); (case hg => rfl); (case hn => rfl); (case hr => first | (go_simp; done) | (go_simp; rfl)); intro w29 hw; have hg : wr.grownBy w29 (some go24) := (by rw [hw]; exact HP28.2); have hp_ : Kd.R (Kd.int .i64) 3 w29 w.heap.size (fun _ => True) (.slice (some ⟨go24, 0, none⟩) x5_2.length co27) y521 := (by rw [hw, Ny521.out]; exact HP28.1); clear HP28; replace HO_4 := Aside0.mk (Kd.R_over' (v := (.slice (some ⟨go24, 0, none⟩) x5_2.length co27)) (rl HO_4.out) (Kd.R_typed HO_5.out) (by decide) hg); replace HO_5 := Aside0.mk (hp_); replace HB := Aside0.mk ((by rw [hw]; exact below_set (HB.out) GB24.out : Below w.heap.size w w29)); clear hg hw hp_) | ((with_reducible refine gate_callee (f := 32) rfl ?_); refine goesL_ (some 57) rfl rfl Try.func32 (by kernel_rfl) rfl #[.int .i64 (wrap64 ((rd (rd_L13 l0 x35_1) x41_2) - (rd x5_2 x41_2))), .int .i64 (-100), .int .i64 100] rfl (by (try simp only [am_]); first | done | rfl) ?_; (with_reducible refine (impl_in.calls (wrap64 ((rd (rd_L13 l0 x35_1) x41_2) - (rd x5_2 x41_2))) (-100) 100 t522 _ A25.out).mono ?_); rintro e w' ⟨rfl, ⟨nd, rfl⟩⟩; refine ⟨_, rfl, ?_⟩))
                 have H := HC26.out
                 clear HC26
                 by_cases c30 : t522 = true
                 ·
                  subst c30
                  have H1 : (if x4_2.length < 140737488355328 then (impl_Pack20.l1 k2 (x4_2 ++ [(wrap64 ((wrap64 ((rd (rd_L13 l0 x35_1) x41_2) - (rd x5_2 x41_2))) + 100)) % 256]) y521 l0 (l0.length : Int) x35_1 (rd_L13 l0 x35_1) ((rd_L13 l0 x35_1).length : Int) (wrap64 (x41_2 + 1))) else (none)) = some (r1, r2) := by rw [if_pos rfl] at H; exact H
                  clear H
                  have H := H1
                  clear H1
                  by_cases c31 : x4_2.length < 140737488355328
                  ·
                   rw [if_pos c31] at H
                   have LMc31 := Aside0.mk c31
                   clear c31
                   obtain ⟨y523, hy523⟩ : ∃ y_ : List Int, y_ = (x4_2 ++ [(wrap64 ((wrap64 ((rd (rd_L13 l0 x35_1) x41_2) - (rd x5_2 x41_2))) + 100)) % 256]) := ⟨_, rfl⟩
                   replace H : (impl_Pack20.l1 k2 y523 y521 l0 (l0.length : Int) x35_1 (rd_L13 l0 x35_1) ((rd_L13 l0 x35_1).length : Int) (wrap64 (x41_2 + 1))) = some (r1, r2) := by first | (rw [hy523]; with_reducible exact H) | (have H2_ := (Option.bind_some _ _).symm.trans H; rw [hy523]; with_reducible exact H2_) | (have H2_ := (Option.bind_some _ _).symm.trans H; with_reducible exact H2_) | with_reducible exact H | (rw [hy523]; exact H) | exact H
                   have Ny523 := Aside0.mk hy523
                   clear hy523
                   have H' := Aside0.mk H
                   clear H
                   go_wp2_with (first | ((with_reducible refine gate_builtin (b := .append) (xs := #[.tmp 58, .tmp 62]) rfl ?_); at_builtin; refine Kd.R_append (Kd.int .u8) (w0 := w) w.heap.size rfl (.tmp 58) (.tmp 62) 22 5 (.int .u8 0) 1 rfl Try.underlying22 info5 rfl (by decide) (by omega) u4 x4_2 ((wrap64 ((wrap64 ((rd (rd_L13 l0 x35_1) x41_2) - (rd x5_2 x41_2))) + 100)) % 256) [.int .u8 ((wrap64 ((wrap64 ((rd (rd_L13 l0 x35_1) x41_2) - (rd x5_2 x41_2))) + 100)) % 256)] (fun _ => True) (fun _ => False) rfl rfl ?aP (fun _ hk => hk.elim) ?aF ?aO ?aB ?aS ?aL ?_; (case aP => exact rfl); (case aB => exact (bl HB.out)); (case aF => exact (fun _ _ => trivial)); (case aO => exact (rl HO_4.out)); (case aS => exact (below_size (bl HB.out))); (case aL => have := LMc31.out; omega); intro v524 w32 ho hb hg hat; rw [← Ny523.out] at ho; replace HO_5 := Aside0.mk (Kd.R_over' (rl HO_5.out) (Kd.R_typed (rl HO_4.out)) (by decide) hg); replace HB := Aside0.mk (hb); have HO525 := Aside0.mk (ho); clear HO_4; clear ho hb hg hat))
                   go_roundg k2
                   case measure => have := HK1.out; have := HK2.out; omega
                   case rel => exact ⟨(y523), (y521), (wrap64 (x41_2 + 1)), (by first | rfl | (simp; done) | (simp [*]; done)), H', ⟨by have := HK1.out; have := HK2.out; omega⟩, ⟨rl HO525.out⟩, ⟨rl HO_5.out⟩, ⟨bl HB.out⟩⟩
                  ·
                   rw [if_neg c31] at H
                   exact absurd H (by simp)
                 ·
                  replace c30 := Bool.eq_false_iff.mpr c30
                  subst c30
                  have H1 : ((some (([255, ((wrap64 ((wrap64 ((rd (rd_L13 l0 x35_1) x41_2) - (rd x5_2 x41_2))) + 60000)) / 65536) % 256, ((wrap64 ((wrap64 ((rd (rd_L13 l0 x35_1) x41_2) - (rd x5_2 x41_2))) + 60000)) / 256) % 256, (wrap64 ((wrap64 ((rd (rd_L13 l0 x35_1) x41_2) - (rd x5_2 x41_2))) + 60000)) % 256] : List Int) : List Int)).bind fun y526 => (if x4_2.length + y526.length < 140737488355328 then (impl_Pack20.l1 k2 (x4_2 ++ y526) y521 l0 (l0.length : Int) x35_1 (rd_L13 l0 x35_1) ((rd_L13 l0 x35_1).length : Int) (wrap64 (x41_2 + 1))) else (none))) = some (r1, r2) := by rw [if_neg (show ¬ (false = true) by decide)] at H; exact H
                  clear H
                  have H := H1
                  clear H1
                  obtain ⟨y526, hy526⟩ : ∃ y_ : List Int, y_ = (([255, ((wrap64 ((wrap64 ((rd (rd_L13 l0 x35_1) x41_2) - (rd x5_2 x41_2))) + 60000)) / 65536) % 256, ((wrap64 ((wrap64 ((rd (rd_L13 l0 x35_1) x41_2) - (rd x5_2 x41_2))) + 60000)) / 256) % 256, (wrap64 ((wrap64 ((rd (rd_L13 l0 x35_1) x41_2) - (rd x5_2 x41_2))) + 60000)) % 256] : List Int)) := ⟨_, rfl⟩
                  replace H : (if x4_2.length + y526.length < 140737488355328 then (impl_Pack20.l1 k2 (x4_2 ++ y526) y521 l0 (l0.length : Int) x35_1 (rd_L13 l0 x35_1) ((rd_L13 l0 x35_1).length : Int) (wrap64 (x41_2 + 1))) else (none)) = some (r1, r2) := by first | (rw [hy526]; with_reducible exact H) | (have H2_ := (Option.bind_some _ _).symm.trans H; rw [hy526]; with_reducible exact H2_) | (have H2_ := (Option.bind_some _ _).symm.trans H; with_reducible exact H2_) | with_reducible exact H | (rw [hy526]; exact H) | exact H
                  have Ny526 := Aside0.mk hy526
                  clear hy526
                  by_cases c33 : x4_2.length + y526.length < 140737488355328
                  ·
                   rw [if_pos c33] at H
                   have LMc33 := Aside0.mk c33
                   clear c33
                   obtain ⟨y529, hy529⟩ : ∃ y_ : List Int, y_ = (x4_2 ++ y526) := ⟨_, rfl⟩
                   replace H : (impl_Pack20.l1 k2 y529 y521 l0 (l0.length : Int) x35_1 (rd_L13 l0 x35_1) ((rd_L13 l0 x35_1).length : Int) (wrap64 (x41_2 + 1))) = some (r1, r2) := by first | (rw [hy529]; with_reducible exact H) | (have H2_ := (Option.bind_some _ _).symm.trans H; rw [hy529]; with_reducible exact H2_) | (have H2_ := (Option.bind_some _ _).symm.trans H; with_reducible exact H2_) | with_reducible exact H | (rw [hy529]; exact H) | exact H
                   have Ny529 := Aside0.mk hy529
                   clear hy529
                   have H' := Aside0.mk H
                   clear H
                   go_wp2_with (first | ((with_reducible refine gate_dst (N := 75) rfl ?_); refine Kd.R_lit (Kd.int .u8) _ 5 ?hg (N := 75) ?hd (xs := ([255, ((wrap64 ((wrap64 ((rd (rd_L13 l0 x35_1) x41_2) - (rd x5_2 x41_2))) + 60000)) / 65536) % 256, ((wrap64 ((wrap64 ((rd (rd_L13 l0 x35_1) x41_2) - (rd x5_2 x41_2))) + 60000)) / 256) % 256, (wrap64 ((wrap64 ((rd (rd_L13 l0 x35_1) x41_2) - (rd x5_2 x41_2))) + 60000)) % 256] : List Int)) (inner := [.int .u8 255, .int .u8 (((wrap64 ((wrap64 ((rd (rd_L13 l0 x35_1) x41_2) - (rd x5_2 x41_2))) + 60000)) / 65536) % 256), .int .u8 (((wrap64 ((wrap64 ((rd (rd_L13 l0 x35_1) x41_2) - (rd x5_2 x41_2))) + 60000)) / 256) % 256), .int .u8 ((wrap64 ((wrap64 ((rd (rd_L13 l0 x35_1) x41_2) - (rd x5_2 x41_2))) + 60000)) % 256)]) (ok := fun _ => True) (okp := fun _ => True) ?hr ?hp (fun _ hk => hk) trivial (Below.refl _ _) (Nat.le_refl _) (by simp) ?_; (case hd => rfl); (case hg => rfl); (case hr => first | (go_simp; done) | (go_simp; rfl)); (case hp => exact (Reps.one (show Kd.M (Kd.int .u8) _ _ _ 255 [.int .u8 255] from rfl) (Reps.one (show Kd.M (Kd.int .u8) _ _ _ (((wrap64 ((wrap64 ((rd (rd_L13 l0 x35_1) x41_2) - (rd x5_2 x41_2))) + 60000)) / 65536) % 256) [.int .u8 (((wrap64 ((wrap64 ((rd (rd_L13 l0 x35_1) x41_2) - (rd x5_2 x41_2))) + 60000)) / 65536) % 256)] from rfl) (Reps.one (show Kd.M (Kd.int .u8) _ _ _ (((wrap64 ((wrap64 ((rd (rd_L13 l0 x35_1) x41_2) - (rd x5_2 x41_2))) + 60000)) / 256) % 256) [.int .u8 (((wrap64 ((wrap64 ((rd (rd_L13 l0 x35_1) x41_2) - (rd x5_2 x41_2))) + 60000)) / 256) % 256)] from rfl) (Reps.one (show Kd.M (Kd.int .u8) _ _ _ ((wrap64 ((wrap64 ((rd (rd_L13 l0 x35_1) x41_2) - (rd x5_2 x41_2))) + 60000)) % 256) [.int .u8 ((wrap64 ((wrap64 ((rd (rd_L13 l0 x35_1) x41_2) - (rd x5_2 x41_2))) + 60000)) % 256)] from rfl) (Reps.none _ _)))))); intro v527 w34 ho35 hb hg_ hnew_; clear hg_ hnew_; (first | rw [← Ny526.out] at ho35 | (simp only [Int.reduceToNat] at ho35; rw [← Ny526.out] at ho35)); replace HO_5 := Aside0.mk (Kd.R_below (rl HO_5.out) hb); have HO528 := Aside0.mk (Kd.R_lower (Kd.R_new' ho35 (Kd.R_lt (by (repeat apply rl1); exact HO_4.out))) (below_size (bl HB.out))); replace HO_4 := Aside0.mk (Kd.R_elder' (rl HO_4.out) (Kd.R_base ho35) hb); replace HB := Aside0.mk (below_step (bl HB.out) hb); clear hb ho35; obtain ⟨Ao37, co37, eo37⟩ := Kd.R_slice HO528.out; subst eo37) | ((with_reducible refine gate_builtin (b := .append) (xs := #[.tmp 66, .tmp 75]) rfl ?_); at_builtin; refine Kd.R_append_rows (Kd.int .u8) (w0 := w) w.heap.size rfl (.tmp 66) (.tmp 75) 22 5 (.int .u8 0) 1 rfl Try.underlying22 info5 rfl (by decide) (by omega) u4 x4_2 y526 _ _ _ (fun k_ => some k_ ≠ (.slice Ao37 y526.length co37 : Value).ownBlock) (fun _ => False) rfl rfl ?aO ?aR (fun _ _ h => h) (fun _ h => h.elim) ?aF ?aB ?aS ?aL ?_; (case aR => exact rc (Kd.R_reads' HO528.out).2.2); (case aB => exact (bl HB.out)); (case aF => exact (fun k_ hk => Kd.fresh' (Kd.R_lt (by (repeat apply rl1); exact HO528.out)) k_ hk)); (case aO => exact (by (repeat apply rl1); exact Kd.R_mono HO_4.out (fun _ hk => hk.2))); (case aS => exact (below_size (bl HB.out))); (case aL => have := LMc33.out; omega); intro v530 w36 ho hb hg hat; rw [← Ny529.out] at ho; replace HO_5 := Aside0.mk (Kd.R_over' (rl HO_5.out) (Kd.R_typed (rl HO_4.out)) (by decide) hg); replace HO528 := Aside0.mk (Kd.R_after (ok := (fun _ => True)) (rl HO528.out) hg hat); replace HB := Aside0.mk (hb); have HO531 := Aside0.mk (ho); clear HO_4; clear ho hb hg hat))
                   go_roundg k2
                   case measure => have := HK1.out; have := HK2.out; omega
                   case rel => exact ⟨(y529), (y521), (wrap64 (x41_2 + 1)), (by first | rfl | (simp; done) | (simp [*]; done)), H', ⟨by have := HK1.out; have := HK2.out; omega⟩, ⟨by (repeat apply rl1); exact Kd.R_mono HO531.out (fun _ hk => trivial)⟩, ⟨rl HO_5.out⟩, ⟨bl HB.out⟩⟩
                  ·
                   rw [if_neg c33] at H
                   exact absurd H (by simp)
                ·
                 rw [if_neg c23] at H
                 exact absurd H (by simp)
               ·
                rw [if_neg c22] at H
                exact absurd H (by simp)
              ·
               rw [if_neg c21] at H
               exact absurd H (by simp)
             ·
              rw [if_neg c20] at H
              have c20b0 : decide (x41_2 < ((rd_L13 l0 x35_1).length : Int)) = false := decide_eq_false c20
              clear c20
              have H' := Aside0.mk H
              clear H
              go_wp2
              go_roundg k2
              case measure => have := HK1.out; have := HK2.out; omega
              case rel => exact ⟨(x4_2), (x5_2), (wrap64 (x35_1 + 1)), (by first | rfl | (simp; done) | (simp [*]; done)), H', ⟨by have := HK1.out; have := HK2.out; omega⟩, ⟨rl HO_4.out⟩, ⟨rl HO_5.out⟩, ⟨bl HB.out⟩⟩
          ·
           rw [if_neg c19] at H
           exact absurd H (by simp)
         ·
          rw [if_neg c18] at H
          exact absurd H (by simp)
        ·
         rw [if_neg c17] at H
         have c17b0 : decide (x35_1 < (l0.length : Int)) = false := decide_eq_false c17
         clear c17
         by_cases c38 : (x4_1.length : Int) > 1500
         ·
          rw [if_pos c38] at H
          have c38b0 : decide (1500 < (x4_1.length : Int)) = true := decide_eq_true c38
          have c38b1 : decide (1500 < x4_1.length) = true := decide_eq_true (by omega)
          clear c38
          simp only [Option.some.injEq, Prod.mk.injEq] at H
          obtain ⟨rfl, rfl⟩ := H
          obtain ⟨Ao39, co39, eo39⟩ := Kd.R_slice HO_4.out
          subst eo39
          go_wp2
          go_ret2
          exact ⟨_, by first | rfl | (simp [errW_none, errW_some] <;> rfl) | (simp [*, errW_none, errW_some] <;> rfl), by first | exact Kd.R_nil _ _ _ _ _ | exact Kd.N_nil _ _ _ _ _ | exact Kd.V_nil _ _ _ _ _ | exact Kd.Q_nil _ _ _ _ _ | exact Kd.S_nil _ _ _ _ _, bl HB.out⟩
         ·
          rw [if_neg c38] at H
          have c38b0 : decide (1500 < (x4_1.length : Int)) = false := decide_eq_false c38
          have c38b1 : decide (1500 < x4_1.length) = false := decide_eq_false (by omega)
          clear c38
          simp only [Option.some.injEq, Prod.mk.injEq] at H
          obtain ⟨rfl, rfl⟩ := H
          obtain ⟨Ao40, co40, eo40⟩ := Kd.R_slice HO_4.out
          subst eo40
          go_wp2
          go_ret2
          exact ⟨_, by first | rfl | (simp [errW_none, errW_some] <;> rfl) | (simp [*, errW_none, errW_some] <;> rfl), by (repeat apply rl1); exact HO_4.out, bl HB.out⟩
     ·
      rw [if_neg c10] at H
      exact absurd H (by simp)
    ·
     rw [if_neg c9] at H
     exact absurd H (by simp)
   ·
    rw [if_neg c8] at H
    exact absurd H (by simp)
 ·
  replace c4 := Bool.eq_false_iff.mpr c4
  subst c4
  have H1 : (some (([] : List Int), false)) = some (r1, r2) := by rw [if_neg (show ¬ (false = true) by decide)] at H; exact H
  clear H
  have H := H1
  clear H1
  simp only [Option.some.injEq, Prod.mk.injEq] at H
  obtain ⟨rfl, rfl⟩ := H
  go_wp2
  go_ret2
  exact ⟨_, by first | rfl | (simp [errW_none, errW_some] <;> rfl) | (simp [*, errW_none, errW_some] <;> rfl), by first | exact Kd.R_nil _ _ _ _ _ | exact Kd.N_nil _ _ _ _ _ | exact Kd.V_nil _ _ _ _ _ | exact Kd.Q_nil _ _ _ _ _ | exact Kd.S_nil _ _ _ _ _, bl HB.out⟩

end Go.Proofs.Ytdimdlifjdbgnaa.PFnKept
