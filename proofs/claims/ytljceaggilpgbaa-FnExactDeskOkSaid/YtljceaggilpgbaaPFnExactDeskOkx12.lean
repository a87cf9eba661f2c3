-- Written by a program of this session (wip/xprint.py) out of the translation; Lean checks it.
import Derived.Test.YtljceaggilpgbaaPFnExactDeskOkx0
import Derived.Test.YtljceaggilpgbaaPFnExactDeskOkx1
import Derived.Test.YtljceaggilpgbaaPFnExactDeskOkx2
import Derived.Test.YtljceaggilpgbaaPFnExactDeskOkx3
import Derived.Test.YtljceaggilpgbaaPFnExactDeskOkx4
import Derived.Test.YtljceaggilpgbaaPFnExactDeskOkx5
import Derived.Test.YtljceaggilpgbaaPFnExactDeskOkx6
import Derived.Test.YtljceaggilpgbaaPFnExactDeskOkx7
import Derived.Test.YtljceaggilpgbaaPFnExactDeskOkx8
import Derived.Test.YtljceaggilpgbaaPFnExactDeskOkx9
import Derived.Test.YtljceaggilpgbaaPFnExactDeskOkx10
import Derived.Test.YtljceaggilpgbaaPFnExactDeskOkx11
namespace Go.Proofs.Ytljceaggilpgbaa.PFnExactDeskOk
open Go.RowKit Go.Proofs.YtljceaggilpgbaaW.PrintWords Go.Proofs.YtljceaggilpgbaaW.PrintLast Go.Proofs.YtljceaggilpgbaaW.PrintMore Go.Proofs.Ytljceaggilpgbaa.Sq
attribute [local go_sem] max2_int min2_int max_two min_two max_three min_three max_four min_four   -- for this text's walks alone
set_option linter.unusedVariables false
set_option linter.unusedSimpArgs false

/-! ### laws_eqDesk: function 9 -/
def laws_eqDesk.f (k : Nat) (a0_0 : Int) (a0_1 : Int) (a0_2 : Int) (a0_3 : Int) (a0_4 : Int) (l0_5 : List (S71)) (a0_6 : Int) (a0_7 : Int) (a0_8 : Int) (a0_9 : Int) (a0_10 : Int) (a0_11 : Int) (a0_12 : Int) (a0_13 : Int) (a0_14 : Bool) (l0_15 : List (S104)) (l0_16 : List (S137)) (l0_17 : List (S63)) (a0_18 : Int) (a0_19 : Int) (a0_20 : Int) (a1_0 : Int) (a1_1 : Int) (a1_2 : Int) (a1_3 : Int) (a1_4 : Int) (l1_5 : List (S71)) (a1_6 : Int) (a1_7 : Int) (a1_8 : Int) (a1_9 : Int) (a1_10 : Int) (a1_11 : Int) (a1_12 : Int) (a1_13 : Int) (a1_14 : Bool) (l1_15 : List (S104)) (l1_16 : List (S137)) (l1_17 : List (S63)) (a1_18 : Int) (a1_19 : Int) (a1_20 : Int) : Option (Bool) := (laws_eqCraft.f a0_0 a0_1 a0_2 a0_3 a0_4 a1_0 a1_1 a1_2 a1_3 a1_4).bind fun t368 => (if t368 = true then ((laws_eqLegS.f k l0_5 l1_5).bind fun t369 => (if t369 = true then ((laws_eqPilot.f a0_6 a0_7 a0_8 a0_9 a0_10 a0_11 a0_12 a0_13 a0_14 a1_6 a1_7 a1_8 a1_9 a1_10 a1_11 a1_12 a1_13 a1_14).bind fun t370 => (if t370 = true then ((laws_eqFleet.f k l0_15 l0_16 l0_17 a0_18 a0_19 a0_20 l1_15 l1_16 l1_17 a1_18 a1_19 a1_20).bind fun t371 => (if t371 = true then (some true) else (some false))) else (some false))) else (some false))) else (some false))
theorem laws_eqDesk.mono : ∀ a0 a1 a2 a3 a4 a5 a6 a7 a8 a9 a10 a11 a12 a13 a14 a15 a16 a17 a18 a19 a20 a21 a22 a23 a24 a25 a26 a27 a28 a29 a30 a31 a32 a33 a34 a35 a36 a37 a38 a39 a40 a41 k, LeO (laws_eqDesk.f k a0 a1 a2 a3 a4 a5 a6 a7 a8 a9 a10 a11 a12 a13 a14 a15 a16 a17 a18 a19 a20 a21 a22 a23 a24 a25 a26 a27 a28 a29 a30 a31 a32 a33 a34 a35 a36 a37 a38 a39 a40 a41) (laws_eqDesk.f (k + 1) a0 a1 a2 a3 a4 a5 a6 a7 a8 a9 a10 a11 a12 a13 a14 a15 a16 a17 a18 a19 a20 a21 a22 a23 a24 a25 a26 a27 a28 a29 a30 a31 a32 a33 a34 a35 a36 a37 a38 a39 a40 a41) := by
 intro a0 a1 a2 a3 a4 a5 a6 a7 a8 a9 a10 a11 a12 a13 a14 a15 a16 a17 a18 a19 a20 a21 a22 a23 a24 a25 a26 a27 a28 a29 a30 a31 a32 a33 a34 a35 a36 a37 a38 a39 a40 a41 k
 unfold laws_eqDesk.f
 repeat' first
   | (with_reducible exact laws_eqFleet.mono _ _ _ _ _ _ _ _ _ _ _ _ _)
   | (with_reducible exact laws_eqLegS.mono _ _ _)
   | (with_reducible exact LeO.refl _)
   | (with_reducible exact LeO.none _)
   | (with_reducible refine LeO.ite ?_ ?_)
   | (with_reducible refine LeO.bind ?_ (fun _ => ?_))
   | exact laws_eqFleet.mono _ _ _ _ _ _ _ _ _ _ _ _ _
   | exact laws_eqLegS.mono _ _ _
   | exact LeO.none _
   | refine LeO.ite ?_ ?_
   | refine LeO.bind ?_ (fun _ => ?_)
set_option maxHeartbeats 8000000 in
set_option maxRecDepth 100000 in
theorem laws_eqDesk.calls (k : Nat) (a0_0 : Int) (a0_1 : Int) (a0_2 : Int) (a0_3 : Int) (a0_4 : Int) (A0_5 : Option Addr) (c0_5 : Nat) (l0_5 : List (S71)) (a0_6 : Int) (a0_7 : Int) (a0_8 : Int) (a0_9 : Int) (a0_10 : Int) (a0_11 : Int) (a0_12 : Int) (a0_13 : Int) (a0_14 : Bool) (A0_15 : Option Addr) (c0_15 : Nat) (l0_15 : List (S104)) (A0_16 : Option Addr) (c0_16 : Nat) (l0_16 : List (S137)) (A0_17 : Option Addr) (c0_17 : Nat) (l0_17 : List (S63)) (a0_18 : Int) (a0_19 : Int) (a0_20 : Int) (a1_0 : Int) (a1_1 : Int) (a1_2 : Int) (a1_3 : Int) (a1_4 : Int) (A1_5 : Option Addr) (c1_5 : Nat) (l1_5 : List (S71)) (a1_6 : Int) (a1_7 : Int) (a1_8 : Int) (a1_9 : Int) (a1_10 : Int) (a1_11 : Int) (a1_12 : Int) (a1_13 : Int) (a1_14 : Bool) (A1_15 : Option Addr) (c1_15 : Nat) (l1_15 : List (S104)) (A1_16 : Option Addr) (c1_16 : Nat) (l1_16 : List (S137)) (A1_17 : Option Addr) (c1_17 : Nat) (l1_17 : List (S63)) (a1_18 : Int) (a1_19 : Int) (a1_20 : Int) (r : Bool) (w : World) (hr0_5 : Kd.C k71 w A0_5 l0_5.length l0_5) (hc0_5 : l0_5.length ≤ c0_5) (hr0_15 : Kd.C k104 w A0_15 l0_15.length l0_15) (hc0_15 : l0_15.length ≤ c0_15) (hr0_16 : Kd.C k137 w A0_16 l0_16.length l0_16) (hc0_16 : l0_16.length ≤ c0_16) (hr0_17 : Kd.C k63 w A0_17 l0_17.length l0_17) (hc0_17 : l0_17.length ≤ c0_17) (hr1_5 : Kd.C k71 w A1_5 l1_5.length l1_5) (hc1_5 : l1_5.length ≤ c1_5) (hr1_15 : Kd.C k104 w A1_15 l1_15.length l1_15) (hc1_15 : l1_15.length ≤ c1_15) (hr1_16 : Kd.C k137 w A1_16 l1_16.length l1_16) (hc1_16 : l1_16.length ≤ c1_16) (hr1_17 : Kd.C k63 w A1_17 l1_17.length l1_17) (hc1_17 : l1_17.length ≤ c1_17) (h : laws_eqDesk.f k a0_0 a0_1 a0_2 a0_3 a0_4 l0_5 a0_6 a0_7 a0_8 a0_9 a0_10 a0_11 a0_12 a0_13 a0_14 l0_15 l0_16 l0_17 a0_18 a0_19 a0_20 a1_0 a1_1 a1_2 a1_3 a1_4 l1_5 a1_6 a1_7 a1_8 a1_9 a1_10 a1_11 a1_12 a1_13 a1_14 l1_15 l1_16 l1_17 a1_18 a1_19 a1_20 = some r) :
  Calls Try.prog 9 #[.agg #[.int .i64 a0_0, .int .i64 a0_1, .int .i64 a0_2, .int .i64 a0_3, .int .i64 a0_4, .slice A0_5 l0_5.length c0_5, .int .i64 a0_6, .int .i64 a0_7, .int .i64 a0_8, .int .i64 a0_9, .int .i64 a0_10, .int .i64 a0_11, .int .i64 a0_12, .int .i64 a0_13, .bool a0_14, .slice A0_15 l0_15.length c0_15, .slice A0_16 l0_16.length c0_16, .slice A0_17 l0_17.length c0_17, .int .i64 a0_18, .int .i64 a0_19, .int .i64 a0_20], .agg #[.int .i64 a1_0, .int .i64 a1_1, .int .i64 a1_2, .int .i64 a1_3, .int .i64 a1_4, .slice A1_5 l1_5.length c1_5, .int .i64 a1_6, .int .i64 a1_7, .int .i64 a1_8, .int .i64 a1_9, .int .i64 a1_10, .int .i64 a1_11, .int .i64 a1_12, .int .i64 a1_13, .bool a1_14, .slice A1_15 l1_15.length c1_15, .slice A1_16 l1_16.length c1_16, .slice A1_17 l1_17.length c1_17, .int .i64 a1_18, .int .i64 a1_19, .int .i64 a1_20]] w fun e w' => e = .returned (.bool r) ∧ Below w.heap.size w w' := by
 have hu48 := Try.underlying48
 have hu38 := Try.underlying38
 have hu40 := Try.underlying40
 have hu46 := Try.underlying46
 have HR0_5 := Aside0.mk hr0_5
 have HC0_5 := Aside0.mk hc0_5
 clear hr0_5 hc0_5
 have HR0_15 := Aside0.mk hr0_15
 have HC0_15 := Aside0.mk hc0_15
 clear hr0_15 hc0_15
 have HR0_16 := Aside0.mk hr0_16
 have HC0_16 := Aside0.mk hc0_16
 clear hr0_16 hc0_16
 have HR0_17 := Aside0.mk hr0_17
 have HC0_17 := Aside0.mk hc0_17
 clear hr0_17 hc0_17
 have HR1_5 := Aside0.mk hr1_5
 have HC1_5 := Aside0.mk hc1_5
 clear hr1_5 hc1_5
 have HR1_15 := Aside0.mk hr1_15
 have HC1_15 := Aside0.mk hc1_15
 clear hr1_15 hc1_15
 have HR1_16 := Aside0.mk hr1_16
 have HC1_16 := Aside0.mk hc1_16
 clear hr1_16 hc1_16
 have HR1_17 := Aside0.mk hr1_17
 have HC1_17 := Aside0.mk hc1_17
 clear hr1_17 hc1_17
 have HB := Aside0.mk (Below.refl w.heap.size w)
 have H : ((laws_eqCraft.f a0_0 a0_1 a0_2 a0_3 a0_4 a1_0 a1_1 a1_2 a1_3 a1_4).bind fun t368 => (if t368 = true then ((laws_eqLegS.f k l0_5 l1_5).bind fun t369 => (if t369 = true then ((laws_eqPilot.f a0_6 a0_7 a0_8 a0_9 a0_10 a0_11 a0_12 a0_13 a0_14 a1_6 a1_7 a1_8 a1_9 a1_10 a1_11 a1_12 a1_13 a1_14).bind fun t370 => (if t370 = true then ((laws_eqFleet.f k l0_15 l0_16 l0_17 a0_18 a0_19 a0_20 l1_15 l1_16 l1_17 a1_18 a1_19 a1_20).bind fun t371 => (if t371 = true then (some true) else (some false))) else (some false))) else (some false))) else (some false))) = some r := h
 clear h
 replace H := Option.bind_eq_some_iff.mp H
 obtain ⟨t368, A30, H⟩ := H
 replace H : (if t368 = true then ((laws_eqLegS.f k l0_5 l1_5).bind fun t369 => (if t369 = true then ((laws_eqPilot.f a0_6 a0_7 a0_8 a0_9 a0_10 a0_11 a0_12 a0_13 a0_14 a1_6 a1_7 a1_8 a1_9 a1_10 a1_11 a1_12 a1_13 a1_14).bind fun t370 => (if t370 = true then ((laws_eqFleet.f k l0_15 l0_16 l0_17 a0_18 a0_19 a0_20 l1_15 l1_16 l1_17 a1_18 a1_19 a1_20).bind fun t371 => (if t371 = true then (some true) else (some false))) else (some false))) else (some false))) else (some false)) = some r := H
 have A3 := Aside0.mk A30
 clear A30
 have HC4 := Aside0.mk H
 clear H
 go_enter Try.func9, Try.ntmps9
 go_upto_if 10 with (first | ((with_reducible refine gate_dst (N := 2) rfl ?_); refine box_event ?hg (N := 2) ?hd (cs := #[.int .i64 a0_0, .int .i64 a0_1, .int .i64 a0_2, .int .i64 a0_3, .int .i64 a0_4, .slice A0_5 l0_5.length c0_5, .int .i64 a0_6, .int .i64 a0_7, .int .i64 a0_8, .int .i64 a0_9, .int .i64 a0_10, .int .i64 a0_11, .int .i64 a0_12, .int .i64 a0_13, .bool a0_14, .slice A0_15 l0_15.length c0_15, .slice A0_16 l0_16.length c0_16, .slice A0_17 l0_17.length c0_17, .int .i64 a0_18, .int .i64 a0_19, .int .i64 a0_20]) (t := 48) ?hr ?_; (case hd => rfl); (case hg => rfl); (case hr => first | (go_simp; done) | (go_simp; rfl)); intro gb366 hg w5 hbox hb; have BK366 := Aside0.mk (hbox); have GW366 := Aside0.mk ((by rw [hg]; exact (below_size (bl HB.out)) : w.heap.size ≤ gb366)); have GE366 := GW366; replace HB := Aside0.mk (below_step (bl HB.out) hb); clear hb hbox hg) | ((with_reducible refine gate_dst (N := 3) rfl ?_); refine box_event ?hg (N := 3) ?hd (cs := #[.int .i64 a1_0, .int .i64 a1_1, .int .i64 a1_2, .int .i64 a1_3, .int .i64 a1_4, .slice A1_5 l1_5.length c1_5, .int .i64 a1_6, .int .i64 a1_7, .int .i64 a1_8, .int .i64 a1_9, .int .i64 a1_10, .int .i64 a1_11, .int .i64 a1_12, .int .i64 a1_13, .bool a1_14, .slice A1_15 l1_15.length c1_15, .slice A1_16 l1_16.length c1_16, .slice A1_17 l1_17.length c1_17, .int .i64 a1_18, .int .i64 a1_19, .int .i64 a1_20]) (t := 48) ?hr ?_; (case hd => rfl); (case hg => rfl); (case hr => first | (go_simp; done) | (go_simp; rfl)); intro gb367 hg w6 hbox hb; have BK367 := Aside0.mk (hbox); have GW367 := Aside0.mk ((by rw [hg]; exact (below_size (by repeat with_reducible first | exact bl HB.out | refine below_set ?_ GE366.out | refine bq ?_)) : w.heap.size ≤ gb367)); have GE367 := GW367; replace HB := Aside0.mk (below_step (by repeat with_reducible first | exact bl HB.out | refine below_set ?_ GE366.out | refine bq ?_) hb); have NB366_367 := nb_ hg BK366.out; have NB367_366 := Aside0.mk NB366_367.out.symm; replace BK366 := Aside0.mk (blk_below (bk BK366.out) hb); clear hb hbox hg; have hnb7 := NB366_367.out; have hnc7 := NB367_366.out; obtain ⟨hcz8_0, hcz8_1, hcz8_2, hcz8_3, hcz8_4, hcz8_5, hcz8_6, hcz8_7, hcz8_8, hcz8_9, hcz8_10, hcz8_11, hcz8_12, hcz8_13, hcz8_14, hcz8_15, hcz8_16, hcz8_17, hcz8_18, hcz8_19, hcz8_20⟩ := ck21 BK366.out; obtain ⟨hfz8_0, hfz8_1, hfz8_2, hfz8_3, hfz8_4, hfz8_5, hfz8_6, hfz8_7, hfz8_8, hfz8_9, hfz8_10, hfz8_11, hfz8_12, hfz8_13, hfz8_14, hfz8_15, hfz8_16, hfz8_17, hfz8_18, hfz8_19, hfz8_20⟩ := fz21 BK366.out; obtain ⟨hcz9_0, hcz9_1, hcz9_2, hcz9_3, hcz9_4, hcz9_5, hcz9_6, hcz9_7, hcz9_8, hcz9_9, hcz9_10, hcz9_11, hcz9_12, hcz9_13, hcz9_14, hcz9_15, hcz9_16, hcz9_17, hcz9_18, hcz9_19, hcz9_20⟩ := ck21 BK367.out; obtain ⟨hfz9_0, hfz9_1, hfz9_2, hfz9_3, hfz9_4, hfz9_5, hfz9_6, hfz9_7, hfz9_8, hfz9_9, hfz9_10, hfz9_11, hfz9_12, hfz9_13, hfz9_14, hfz9_15, hfz9_16, hfz9_17, hfz9_18, hfz9_19, hfz9_20⟩ := fz21 BK367.out) | ((with_reducible refine gate_callee (f := 31) rfl ?_); refine goesL_ (some 9) rfl rfl Try.func31 (by kernel_rfl) rfl #[.agg #[.int .i64 a0_0, .int .i64 a0_1, .int .i64 a0_2, .int .i64 a0_3, .int .i64 a0_4], .agg #[.int .i64 a1_0, .int .i64 a1_1, .int .i64 a1_2, .int .i64 a1_3, .int .i64 a1_4]] rfl (by (try simp only [am_]); first | done | rfl) ?_; (with_reducible refine (laws_eqCraft.calls a0_0 a0_1 a0_2 a0_3 a0_4 a1_0 a1_1 a1_2 a1_3 a1_4 t368 _ A3.out).mono ?_); rintro e w10 ⟨rfl, hb⟩; refine ⟨_, rfl, ?_⟩; replace BK366 := Aside0.mk (blk_below (bk BK366.out) hb); replace BK367 := Aside0.mk (blk_below (bk BK367.out) hb); replace HB := Aside0.mk (below_step (by repeat with_reducible first | exact bl HB.out | refine below_set ?_ GE366.out | refine below_set ?_ GE367.out | refine bq ?_) hb); (try clear hb); (try clear hb2); (try clear hk); (try clear hi)))
 have H := HC4.out
 clear HC4
 by_cases c11 : t368 = true
 ·
  subst c11
  have H1 : ((laws_eqLegS.f k l0_5 l1_5).bind fun t369 => (if t369 = true then ((laws_eqPilot.f a0_6 a0_7 a0_8 a0_9 a0_10 a0_11 a0_12 a0_13 a0_14 a1_6 a1_7 a1_8 a1_9 a1_10 a1_11 a1_12 a1_13 a1_14).bind fun t370 => (if t370 = true then ((laws_eqFleet.f k l0_15 l0_16 l0_17 a0_18 a0_19 a0_20 l1_15 l1_16 l1_17 a1_18 a1_19 a1_20).bind fun t371 => (if t371 = true then (some true) else (some false))) else (some false))) else (some false))) = some r := by rw [if_pos rfl] at H; exact H
  clear H
  have H := H1
  clear H1
  replace H := Option.bind_eq_some_iff.mp H
  obtain ⟨t369, A120, H⟩ := H
  replace H : (if t369 = true then ((laws_eqPilot.f a0_6 a0_7 a0_8 a0_9 a0_10 a0_11 a0_12 a0_13 a0_14 a1_6 a1_7 a1_8 a1_9 a1_10 a1_11 a1_12 a1_13 a1_14).bind fun t370 => (if t370 = true then ((laws_eqFleet.f k l0_15 l0_16 l0_17 a0_18 a0_19 a0_20 l1_15 l1_16 l1_17 a1_18 a1_19 a1_20).bind fun t371 => (if t371 = true then (some true) else (some false))) else (some false))) else (some false)) = some r := H
  have A12 := Aside0.mk A120
  clear A120
  have HC13 := Aside0.mk H
  clear H
  have hnb14 := NB366_367.out
  have hnc14 := NB367_366.out
  obtain ⟨hcz15_0, hcz15_1, hcz15_2, hcz15_3, hcz15_4, hcz15_5, hcz15_6, hcz15_7, hcz15_8, hcz15_9, hcz15_10, hcz15_11, hcz15_12, hcz15_13, hcz15_14, hcz15_15, hcz15_16, hcz15_17, hcz15_18, hcz15_19, hcz15_20⟩ := ck21 BK366.out
  obtain ⟨hfz15_0, hfz15_1, hfz15_2, hfz15_3, hfz15_4, hfz15_5, hfz15_6, hfz15_7, hfz15_8, hfz15_9, hfz15_10, hfz15_11, hfz15_12, hfz15_13, hfz15_14, hfz15_15, hfz15_16, hfz15_17, hfz15_18, hfz15_19, hfz15_20⟩ := fz21 BK366.out
  obtain ⟨hcz16_0, hcz16_1, hcz16_2, hcz16_3, hcz16_4, hcz16_5, hcz16_6, hcz16_7, hcz16_8, hcz16_9, hcz16_10, hcz16_11, hcz16_12, hcz16_13, hcz16_14, hcz16_15, hcz16_16, hcz16_17, hcz16_18, hcz16_19, hcz16_20⟩ := ck21 BK367.out
  obtain ⟨hfz16_0, hfz16_1, hfz16_2, hfz16_3, hfz16_4, hfz16_5, hfz16_6, hfz16_7, hfz16_8, hfz16_9, hfz16_10, hfz16_11, hfz16_12, hfz16_13, hfz16_14, hfz16_15, hfz16_16, hfz16_17, hfz16_18, hfz16_19, hfz16_20⟩ := fz21 BK367.out
  go_upto_if 16 with (first | ((with_reducible refine gate_callee (f := 32) rfl ?_); refine goesL_ (some 15) rfl rfl Try.func32 (by kernel_rfl) rfl #[.slice A0_5 l0_5.length c0_5, .slice A1_5 l1_5.length c1_5] rfl (by (try simp only [am_]); first | done | rfl) ?_; (with_reducible refine (laws_eqLegS.calls k _ _ l0_5 _ _ l1_5 t369 _ ?side1 ?side2 ?side3 ?side4 A12.out).mono ?_); (case side1 => exact rc (Kd.C_below HR0_5.out HB.out)); (case side2 => exact HC0_5.out); (case side3 => exact rc (Kd.C_below HR1_5.out HB.out)); (case side4 => exact HC1_5.out); rintro e w17 ⟨rfl, hb⟩; refine ⟨_, rfl, ?_⟩; replace BK366 := Aside0.mk (blk_below (bk BK366.out) hb); replace BK367 := Aside0.mk (blk_below (bk BK367.out) hb); replace HB := Aside0.mk (below_step (by repeat with_reducible first | exact bl HB.out | refine below_set ?_ GE366.out | refine below_set ?_ GE367.out | refine bq ?_) hb); (try clear hb); (try clear hb2); (try clear hk); (try clear hi)))
  have H := HC13.out
  clear HC13
  by_cases c18 : t369 = true
  ·
   subst c18
   have H1 : ((laws_eqPilot.f a0_6 a0_7 a0_8 a0_9 a0_10 a0_11 a0_12 a0_13 a0_14 a1_6 a1_7 a1_8 a1_9 a1_10 a1_11 a1_12 a1_13 a1_14).bind fun t370 => (if t370 = true then ((laws_eqFleet.f k l0_15 l0_16 l0_17 a0_18 a0_19 a0_20 l1_15 l1_16 l1_17 a1_18 a1_19 a1_20).bind fun t371 => (if t371 = true then (some true) else (some false))) else (some false))) = some r := by rw [if_pos rfl] at H; exact H
   clear H
   have H := H1
   clear H1
   replace H := Option.bind_eq_some_iff.mp H
   obtain ⟨t370, A190, H⟩ := H
   replace H : (if t370 = true then ((laws_eqFleet.f k l0_15 l0_16 l0_17 a0_18 a0_19 a0_20 l1_15 l1_16 l1_17 a1_18 a1_19 a1_20).bind fun t371 => (if t371 = true then (some true) else (some false))) else (some false)) = some r := H
   have A19 := Aside0.mk A190
   clear A190
   have HC20 := Aside0.mk H
   clear H
   have hnb21 := NB366_367.out
   have hnc21 := NB367_366.out
   obtain ⟨hcz22_0, hcz22_1, hcz22_2, hcz22_3, hcz22_4, hcz22_5, hcz22_6, hcz22_7, hcz22_8, hcz22_9, hcz22_10, hcz22_11, hcz22_12, hcz22_13, hcz22_14, hcz22_15, hcz22_16, hcz22_17, hcz22_18, hcz22_19, hcz22_20⟩ := ck21 BK366.out
   obtain ⟨hfz22_0, hfz22_1, hfz22_2, hfz22_3, hfz22_4, hfz22_5, hfz22_6, hfz22_7, hfz22_8, hfz22_9, hfz22_10, hfz22_11, hfz22_12, hfz22_13, hfz22_14, hfz22_15, hfz22_16, hfz22_17, hfz22_18, hfz22_19, hfz22_20⟩ := fz21 BK366.out
   obtain ⟨hcz23_0, hcz23_1, hcz23_2, hcz23_3, hcz23_4, hcz23_5, hcz23_6, hcz23_7, hcz23_8, hcz23_9, hcz23_10, hcz23_11, hcz23_12, hcz23_13, hcz23_14, hcz23_15, hcz23_16, hcz23_17, hcz23_18, hcz23_19, hcz23_20⟩ := ck21 BK367.out
   obtain ⟨hfz23_0, hfz23_1, hfz23_2, hfz23_3, hfz23_4, hfz23_5, hfz23_6, hfz23_7, hfz23_8, hfz23_9, hfz23_10, hfz23_11, hfz23_12, hfz23_13, hfz23_14, hfz23_15, hfz23_16, hfz23_17, hfz23_18, hfz23_19, hfz23_20⟩ := fz21 BK367.out
   go_upto_if 22 with (first | ((with_reducible refine gate_callee (f := 33) rfl ?_); refine goesL_ (some 21) rfl rfl Try.func33 (by kernel_rfl) rfl #[.agg #[.int .i64 a0_6, .int .i64 a0_7, .int .i64 a0_8, .int .i64 a0_9, .int .i64 a0_10, .int .i64 a0_11, .int .i64 a0_12, .int .i64 a0_13, .bool a0_14], .agg #[.int .i64 a1_6, .int .i64 a1_7, .int .i64 a1_8, .int .i64 a1_9, .int .i64 a1_10, .int .i64 a1_11, .int .i64 a1_12, .int .i64 a1_13, .bool a1_14]] rfl (by (try simp only [am_]); first | done | rfl) ?_; (with_reducible refine (laws_eqPilot.calls a0_6 a0_7 a0_8 a0_9 a0_10 a0_11 a0_12 a0_13 a0_14 a1_6 a1_7 a1_8 a1_9 a1_10 a1_11 a1_12 a1_13 a1_14 t370 _ A19.out).mono ?_); rintro e w24 ⟨rfl, hb⟩; refine ⟨_, rfl, ?_⟩; replace BK366 := Aside0.mk (blk_below (bk BK366.out) hb); replace BK367 := Aside0.mk (blk_below (bk BK367.out) hb); replace HB := Aside0.mk (below_step (by repeat with_reducible first | exact bl HB.out | refine below_set ?_ GE366.out | refine below_set ?_ GE367.out | refine bq ?_) hb); (try clear hb); (try clear hb2); (try clear hk); (try clear hi)))
   have H := HC20.out
   clear HC20
   by_cases c25 : t370 = true
   ·
    subst c25
    have H1 : ((laws_eqFleet.f k l0_15 l0_16 l0_17 a0_18 a0_19 a0_20 l1_15 l1_16 l1_17 a1_18 a1_19 a1_20).bind fun t371 => (if t371 = true then (some true) else (some false))) = some r := by rw [if_pos rfl] at H; exact H
    clear H
    have H := H1
    clear H1
    replace H := Option.bind_eq_some_iff.mp H
    obtain ⟨t371, A260, H⟩ := H
    replace H : (if t371 = true then (some true) else (some false)) = some r := H
    have A26 := Aside0.mk A260
    clear A260
    have HC27 := Aside0.mk H
    clear H
    have hnb28 := NB366_367.out
    have hnc28 := NB367_366.out
    obtain ⟨hcz29_0, hcz29_1, hcz29_2, hcz29_3, hcz29_4, hcz29_5, hcz29_6, hcz29_7, hcz29_8, hcz29_9, hcz29_10, hcz29_11, hcz29_12, hcz29_13, hcz29_14, hcz29_15, hcz29_16, hcz29_17, hcz29_18, hcz29_19, hcz29_20⟩ := ck21 BK366.out
    obtain ⟨hfz29_0, hfz29_1, hfz29_2, hfz29_3, hfz29_4, hfz29_5, hfz29_6, hfz29_7, hfz29_8, hfz29_9, hfz29_10, hfz29_11, hfz29_12, hfz29_13, hfz29_14, hfz29_15, hfz29_16, hfz29_17, hfz29_18, hfz29_19, hfz29_20⟩ := fz21 BK366.out
    obtain ⟨hcz30_0, hcz30_1, hcz30_2, hcz30_3, hcz30_4, hcz30_5, hcz30_6, hcz30_7, hcz30_8, hcz30_9, hcz30_10, hcz30_11, hcz30_12, hcz30_13, hcz30_14, hcz30_15, hcz30_16, hcz30_17, hcz30_18, hcz30_19, hcz30_20⟩ := ck21 BK367.out
    obtain ⟨hfz30_0, hfz30_1, hfz30_2, hfz30_3, hfz30_4, hfz30_5, hfz30_6, hfz30_7, hfz30_8, hfz30_9, hfz30_10, hfz30_11, hfz30_12, hfz30_13, hfz30_14, hfz30_15, hfz30_16, hfz30_17, hfz30_18, hfz30_19, hfz30_20⟩ := fz21 BK367.out
    go_upto_if 28 with (first | ((with_reducible refine gate_callee (f := 34) rfl ?_); refine goesL_ (some 27) rfl rfl Try.func34 (by kernel_rfl) rfl #[.agg #[.slice A0_15 l0_15.length c0_15, .slice A0_16 l0_16.length c0_16, .slice A0_17 l0_17.length c0_17, .int .i64 a0_18, .int .i64 a0_19, .int .i64 a0_20], .agg #[.slice A1_15 l1_15.length c1_15, .slice A1_16 l1_16.length c1_16, .slice A1_17 l1_17.length c1_17, .int .i64 a1_18, .int .i64 a1_19, .int .i64 a1_20]] rfl (by (try simp only [am_]); first | done | rfl) ?_; (with_reducible refine (laws_eqFleet.calls k _ _ l0_15 _ _ l0_16 _ _ l0_17 a0_18 a0_19 a0_20 _ _ l1_15 _ _ l1_16 _ _ l1_17 a1_18 a1_19 a1_20 t371 _ ?side1 ?side2 ?side3 ?side4 ?side5 ?side6 ?side7 ?side8 ?side9 ?side10 ?side11 ?side12 A26.out).mono ?_); (case side1 => exact rc (Kd.C_below HR0_15.out HB.out)); (case side2 => exact HC0_15.out); (case side3 => exact rc (Kd.C_below HR0_16.out HB.out)); (case side4 => exact HC0_16.out); (case side5 => exact rc (Kd.C_below HR0_17.out HB.out)); (case side6 => exact HC0_17.out); (case side7 => exact rc (Kd.C_below HR1_15.out HB.out)); (case side8 => exact HC1_15.out); (case side9 => exact rc (Kd.C_below HR1_16.out HB.out)); (case side10 => exact HC1_16.out); (case side11 => exact rc (Kd.C_below HR1_17.out HB.out)); (case side12 => exact HC1_17.out); rintro e w31 ⟨rfl, hb⟩; refine ⟨_, rfl, ?_⟩; replace BK366 := Aside0.mk (blk_below (bk BK366.out) hb); replace BK367 := Aside0.mk (blk_below (bk BK367.out) hb); replace HB := Aside0.mk (below_step (by repeat with_reducible first | exact bl HB.out | refine below_set ?_ GE366.out | refine below_set ?_ GE367.out | refine bq ?_) hb); (try clear hb); (try clear hb2); (try clear hk); (try clear hi)))
    have H := HC27.out
    clear HC27
    by_cases c32 : t371 = true
    ·
     subst c32
     have H1 : (some true) = some r := by rw [if_pos rfl] at H; exact H
     clear H
     have H := H1
     clear H1
     obtain rfl := Option.some.inj H
     go_wp2
     go_ret
     exact ⟨by first | rfl | (simp [errW_none, errW_some] <;> rfl) | (simp [*, errW_none, errW_some] <;> rfl), by repeat with_reducible first | exact bl HB.out | refine below_set ?_ GE366.out | refine below_set ?_ GE367.out | refine bq ?_⟩
    ·
     replace c32 := Bool.eq_false_iff.mpr c32
     subst c32
     have H1 : (some false) = some r := by rw [if_neg (show ¬ (false = true) by decide)] at H; exact H
     clear H
     have H := H1
     clear H1
     obtain rfl := Option.some.inj H
     go_wp2
     go_ret
     exact ⟨by first | rfl | (simp [errW_none, errW_some] <;> rfl) | (simp [*, errW_none, errW_some] <;> rfl), by repeat with_reducible first | exact bl HB.out | refine below_set ?_ GE366.out | refine below_set ?_ GE367.out | refine bq ?_⟩
   ·
    replace c25 := Bool.eq_false_iff.mpr c25
    subst c25
    have H1 : (some false) = some r := by rw [if_neg (show ¬ (false = true) by decide)] at H; exact H
    clear H
    have H := H1
    clear H1
    obtain rfl := Option.some.inj H
    go_wp2
    go_ret
    exact ⟨by first | rfl | (simp [errW_none, errW_some] <;> rfl) | (simp [*, errW_none, errW_some] <;> rfl), by repeat with_reducible first | exact bl HB.out | refine below_set ?_ GE366.out | refine below_set ?_ GE367.out | refine bq ?_⟩
  ·
   replace c18 := Bool.eq_false_iff.mpr c18
   subst c18
   have H1 : (some false) = some r := by rw [if_neg (show ¬ (false = true) by decide)] at H; exact H
   clear H
   have H := H1
   clear H1
   obtain rfl := Option.some.inj H
   go_wp2
   go_ret
   exact ⟨by first | rfl | (simp [errW_none, errW_some] <;> rfl) | (simp [*, errW_none, errW_some] <;> rfl), by repeat with_reducible first | exact bl HB.out | refine below_set ?_ GE366.out | refine below_set ?_ GE367.out | refine bq ?_⟩
 ·
  replace c11 := Bool.eq_false_iff.mpr c11
  subst c11
  have H1 : (some false) = some r := by rw [if_neg (show ¬ (false = true) by decide)] at H; exact H
  clear H
  have H := H1
  clear H1
  obtain rfl := Option.some.inj H
  go_wp2
  go_ret
  exact ⟨by first | rfl | (simp [errW_none, errW_some] <;> rfl) | (simp [*, errW_none, errW_some] <;> rfl), by repeat with_reducible first | exact bl HB.out | refine below_set ?_ GE366.out | refine below_set ?_ GE367.out | refine bq ?_⟩

/-! ### laws_FnExactDeskOk: function 3 -/
def laws_FnExactDeskOk.f (k : Nat) (a0_0 : Int) (a0_1 : Int) (a0_2 : Int) (a0_3 : Int) (a0_4 : Int) (l0_5 : List (S109)) (a0_6 : Int) (a0_7 : Int) (a0_8 : Int) (a0_9 : Int) (a0_10 : Int) (a0_11 : Int) (a0_12 : Int) (a0_13 : Int) (a0_14 : Bool) (l0_15 : List (S142)) (l0_16 : List (S144)) (l0_17 : List (S146)) (a0_18 : Int) (a0_19 : Int) (a0_20 : Int) : Option (Bool) := (laws_szDesk.f k a0_0 a0_1 a0_2 a0_3 a0_4 l0_5 a0_6 a0_7 a0_8 a0_9 a0_10 a0_11 a0_12 a0_13 a0_14 l0_15 l0_16 l0_17 a0_18 a0_19 a0_20 1048576).bind fun t373 => (if t373 < 0 then (some true) else ((laws_toDesk.f k a0_0 a0_1 a0_2 a0_3 a0_4 l0_5 a0_6 a0_7 a0_8 a0_9 a0_10 a0_11 a0_12 a0_13 a0_14 l0_15 l0_16 l0_17 a0_18 a0_19 a0_20).bind fun bt374 => ((spec_DeskOk.f k bt374.1 bt374.2.1 bt374.2.2.1 bt374.2.2.2.1 bt374.2.2.2.2.1 bt374.2.2.2.2.2.1 bt374.2.2.2.2.2.2.1 bt374.2.2.2.2.2.2.2.1 bt374.2.2.2.2.2.2.2.2.1 bt374.2.2.2.2.2.2.2.2.2.1 bt374.2.2.2.2.2.2.2.2.2.2.1 bt374.2.2.2.2.2.2.2.2.2.2.2.1 bt374.2.2.2.2.2.2.2.2.2.2.2.2.1 bt374.2.2.2.2.2.2.2.2.2.2.2.2.2.1 bt374.2.2.2.2.2.2.2.2.2.2.2.2.2.2.1 bt374.2.2.2.2.2.2.2.2.2.2.2.2.2.2.2.1 bt374.2.2.2.2.2.2.2.2.2.2.2.2.2.2.2.2.1 bt374.2.2.2.2.2.2.2.2.2.2.2.2.2.2.2.2.2.1 bt374.2.2.2.2.2.2.2.2.2.2.2.2.2.2.2.2.2.2.1 bt374.2.2.2.2.2.2.2.2.2.2.2.2.2.2.2.2.2.2.2.1 bt374.2.2.2.2.2.2.2.2.2.2.2.2.2.2.2.2.2.2.2.2).bind fun t403 => ((laws_toDesk.f k a0_0 a0_1 a0_2 a0_3 a0_4 l0_5 a0_6 a0_7 a0_8 a0_9 a0_10 a0_11 a0_12 a0_13 a0_14 l0_15 l0_16 l0_17 a0_18 a0_19 a0_20).bind fun bt404 => ((impl_DeskOk.f k bt404.1 bt404.2.1 bt404.2.2.1 bt404.2.2.2.1 bt404.2.2.2.2.1 bt404.2.2.2.2.2.1 bt404.2.2.2.2.2.2.1 bt404.2.2.2.2.2.2.2.1 bt404.2.2.2.2.2.2.2.2.1 bt404.2.2.2.2.2.2.2.2.2.1 bt404.2.2.2.2.2.2.2.2.2.2.1 bt404.2.2.2.2.2.2.2.2.2.2.2.1 bt404.2.2.2.2.2.2.2.2.2.2.2.2.1 bt404.2.2.2.2.2.2.2.2.2.2.2.2.2.1 bt404.2.2.2.2.2.2.2.2.2.2.2.2.2.2.1 bt404.2.2.2.2.2.2.2.2.2.2.2.2.2.2.2.1 bt404.2.2.2.2.2.2.2.2.2.2.2.2.2.2.2.2.1 bt404.2.2.2.2.2.2.2.2.2.2.2.2.2.2.2.2.2.1 bt404.2.2.2.2.2.2.2.2.2.2.2.2.2.2.2.2.2.2.1 bt404.2.2.2.2.2.2.2.2.2.2.2.2.2.2.2.2.2.2.2.1 bt404.2.2.2.2.2.2.2.2.2.2.2.2.2.2.2.2.2.2.2.2).bind fun t434 => (if (t434 != t403) = true then (some false) else ((laws_toDesk.f k a0_0 a0_1 a0_2 a0_3 a0_4 l0_5 a0_6 a0_7 a0_8 a0_9 a0_10 a0_11 a0_12 a0_13 a0_14 l0_15 l0_16 l0_17 a0_18 a0_19 a0_20).bind fun bt435 => ((laws_eqDesk.f k bt404.1 bt404.2.1 bt404.2.2.1 bt404.2.2.2.1 bt404.2.2.2.2.1 bt404.2.2.2.2.2.1 bt404.2.2.2.2.2.2.1 bt404.2.2.2.2.2.2.2.1 bt404.2.2.2.2.2.2.2.2.1 bt404.2.2.2.2.2.2.2.2.2.1 bt404.2.2.2.2.2.2.2.2.2.2.1 bt404.2.2.2.2.2.2.2.2.2.2.2.1 bt404.2.2.2.2.2.2.2.2.2.2.2.2.1 bt404.2.2.2.2.2.2.2.2.2.2.2.2.2.1 bt404.2.2.2.2.2.2.2.2.2.2.2.2.2.2.1 bt404.2.2.2.2.2.2.2.2.2.2.2.2.2.2.2.1 bt404.2.2.2.2.2.2.2.2.2.2.2.2.2.2.2.2.1 bt404.2.2.2.2.2.2.2.2.2.2.2.2.2.2.2.2.2.1 bt404.2.2.2.2.2.2.2.2.2.2.2.2.2.2.2.2.2.2.1 bt404.2.2.2.2.2.2.2.2.2.2.2.2.2.2.2.2.2.2.2.1 bt404.2.2.2.2.2.2.2.2.2.2.2.2.2.2.2.2.2.2.2.2 bt435.1 bt435.2.1 bt435.2.2.1 bt435.2.2.2.1 bt435.2.2.2.2.1 bt435.2.2.2.2.2.1 bt435.2.2.2.2.2.2.1 bt435.2.2.2.2.2.2.2.1 bt435.2.2.2.2.2.2.2.2.1 bt435.2.2.2.2.2.2.2.2.2.1 bt435.2.2.2.2.2.2.2.2.2.2.1 bt435.2.2.2.2.2.2.2.2.2.2.2.1 bt435.2.2.2.2.2.2.2.2.2.2.2.2.1 bt435.2.2.2.2.2.2.2.2.2.2.2.2.2.1 bt435.2.2.2.2.2.2.2.2.2.2.2.2.2.2.1 bt435.2.2.2.2.2.2.2.2.2.2.2.2.2.2.2.1 bt435.2.2.2.2.2.2.2.2.2.2.2.2.2.2.2.2.1 bt435.2.2.2.2.2.2.2.2.2.2.2.2.2.2.2.2.2.1 bt435.2.2.2.2.2.2.2.2.2.2.2.2.2.2.2.2.2.2.1 bt435.2.2.2.2.2.2.2.2.2.2.2.2.2.2.2.2.2.2.2.1 bt435.2.2.2.2.2.2.2.2.2.2.2.2.2.2.2.2.2.2.2.2).bind fun t464 => (if t464 = true then (some true) else (some false))))))))))
theorem laws_FnExactDeskOk.mono : ∀ a0 a1 a2 a3 a4 a5 a6 a7 a8 a9 a10 a11 a12 a13 a14 a15 a16 a17 a18 a19 a20 k, LeO (laws_FnExactDeskOk.f k a0 a1 a2 a3 a4 a5 a6 a7 a8 a9 a10 a11 a12 a13 a14 a15 a16 a17 a18 a19 a20) (laws_FnExactDeskOk.f (k + 1) a0 a1 a2 a3 a4 a5 a6 a7 a8 a9 a10 a11 a12 a13 a14 a15 a16 a17 a18 a19 a20) := by
 intro a0 a1 a2 a3 a4 a5 a6 a7 a8 a9 a10 a11 a12 a13 a14 a15 a16 a17 a18 a19 a20 k
 unfold laws_FnExactDeskOk.f
 repeat' first
   | (with_reducible exact impl_DeskOk.mono _ _ _ _ _ _ _ _ _ _ _ _ _ _ _ _ _ _ _ _ _ _)
   | (with_reducible exact laws_eqDesk.mono _ _ _ _ _ _ _ _ _ _ _ _ _ _ _ _ _ _ _ _ _ _ _ _ _ _ _ _ _ _ _ _ _ _ _ _ _ _ _ _ _ _ _)
   | (with_reducible exact laws_szDesk.mono _ _ _ _ _ _ _ _ _ _ _ _ _ _ _ _ _ _ _ _ _ _ _)
   | (with_reducible exact laws_toDesk.mono _ _ _ _ _ _ _ _ _ _ _ _ _ _ _ _ _ _ _ _ _ _)
   | (with_reducible exact spec_DeskOk.mono _ _ _ _ _ _ _ _ _ _ _ _ _ _ _ _ _ _ _ _ _ _)
   | (with_reducible exact LeO.refl _)
   | (with_reducible exact LeO.none _)
   | (with_reducible refine LeO.ite ?_ ?_)
   | (with_reducible refine LeO.bind ?_ (fun _ => ?_))
   | exact impl_DeskOk.mono _ _ _ _ _ _ _ _ _ _ _ _ _ _ _ _ _ _ _ _ _ _
   | exact laws_eqDesk.mono _ _ _ _ _ _ _ _ _ _ _ _ _ _ _ _ _ _ _ _ _ _ _ _ _ _ _ _ _ _ _ _ _ _ _ _ _ _ _ _ _ _ _
   | exact laws_szDesk.mono _ _ _ _ _ _ _ _ _ _ _ _ _ _ _ _ _ _ _ _ _ _ _
   | exact laws_toDesk.mono _ _ _ _ _ _ _ _ _ _ _ _ _ _ _ _ _ _ _ _ _ _
   | exact spec_DeskOk.mono _ _ _ _ _ _ _ _ _ _ _ _ _ _ _ _ _ _ _ _ _ _
   | exact LeO.none _
   | refine LeO.ite ?_ ?_
   | refine LeO.bind ?_ (fun _ => ?_)
theorem row_ {P : Program} {o : Oper} {a : Act} {w : World} {ty : TypeId} {x : Operand} (ho : o.op = .load ty x) (g : Nat) (hx : a.eval x = .pointer (some ⟨g, 0, none⟩)) {t : TypeId} {cs : Array Value} {fr : Nat × Nat} {d : TypeDesc} (hg : w.heap[g]? = some (.cells cs t fr))
 (hu : P.underlying ty = some d) (hd : (match d with | .struct _ | .array _ _ => true | _ => false) = true) (hi : (P.info? ty).map (·.size) = some cs.size) : (execOp a.eval o).run P w = .ok (.value (.agg cs)) w := by
 unfold execOp
 simp only [ho, hx, Instr.loadAt, Instr.sureAddr, Sem.run_bind, Sem.run_pure, Result.andThen_ok, run_loadVar_row w g t ty cs fr d hg hu hd hi]
theorem land_ {P : Program} {md : Region.Mode} {ops : Array Oper} {Q : Exit → Act → World → Prop} {S : World → Prop} {ds : List Nat} {fuel : Nat} {l : Array Bool} {a : Act} {W : World} (F : World → Prop) (h : F W) (k : ∀ w, F w → wpAnyLast P md ops Q S ds fuel l a w) : wpAnyLast P md ops Q S ds fuel l a W := k W h
set_option maxHeartbeats 8000000 in
set_option maxRecDepth 100000 in
theorem laws_FnExactDeskOk.calls (k : Nat) (a0_0 : Int) (a0_1 : Int) (a0_2 : Int) (a0_3 : Int) (a0_4 : Int) (A0_5 : Option Addr) (c0_5 : Nat) (l0_5 : List (S109)) (a0_6 : Int) (a0_7 : Int) (a0_8 : Int) (a0_9 : Int) (a0_10 : Int) (a0_11 : Int) (a0_12 : Int) (a0_13 : Int) (a0_14 : Bool) (A0_15 : Option Addr) (c0_15 : Nat) (l0_15 : List (S142)) (A0_16 : Option Addr) (c0_16 : Nat) (l0_16 : List (S144)) (A0_17 : Option Addr) (c0_17 : Nat) (l0_17 : List (S146)) (a0_18 : Int) (a0_19 : Int) (a0_20 : Int) (r : Bool) (hr_ : r = true) (w : World) (hr0_5 : Kd.C k109 w A0_5 l0_5.length l0_5) (hc0_5 : l0_5.length ≤ c0_5) (hr0_15 : Kd.C k142 w A0_15 l0_15.length l0_15) (hc0_15 : l0_15.length ≤ c0_15) (hr0_16 : Kd.C k144 w A0_16 l0_16.length l0_16) (hc0_16 : l0_16.length ≤ c0_16) (hr0_17 : Kd.C k146 w A0_17 l0_17.length l0_17) (hc0_17 : l0_17.length ≤ c0_17) (h : laws_FnExactDeskOk.f k a0_0 a0_1 a0_2 a0_3 a0_4 l0_5 a0_6 a0_7 a0_8 a0_9 a0_10 a0_11 a0_12 a0_13 a0_14 l0_15 l0_16 l0_17 a0_18 a0_19 a0_20 = some r) :
  Calls Try.prog 3 #[.agg #[.int .i64 a0_0, .int .i64 a0_1, .int .i64 a0_2, .int .i64 a0_3, .int .i64 a0_4, .slice A0_5 l0_5.length c0_5, .int .i64 a0_6, .int .i64 a0_7, .int .i64 a0_8, .int .i64 a0_9, .int .i64 a0_10, .int .i64 a0_11, .int .i64 a0_12, .int .i64 a0_13, .bool a0_14, .slice A0_15 l0_15.length c0_15, .slice A0_16 l0_16.length c0_16, .slice A0_17 l0_17.length c0_17, .int .i64 a0_18, .int .i64 a0_19, .int .i64 a0_20]] w fun e w' => e = .returned (.bool r) ∧ Below w.heap.size w w' := by
 have hu35 := Try.underlying35
 have hu48 := Try.underlying48
 have HR0_5 := Aside0.mk hr0_5
 have HC0_5 := Aside0.mk hc0_5
 clear hr0_5 hc0_5
 have HR0_15 := Aside0.mk hr0_15
 have HC0_15 := Aside0.mk hc0_15
 clear hr0_15 hc0_15
 have HR0_16 := Aside0.mk hr0_16
 have HC0_16 := Aside0.mk hc0_16
 clear hr0_16 hc0_16
 have HR0_17 := Aside0.mk hr0_17
 have HC0_17 := Aside0.mk hc0_17
 clear hr0_17 hc0_17
 have HB := Aside0.mk (Below.refl w.heap.size w)
 have H : ((laws_szDesk.f k a0_0 a0_1 a0_2 a0_3 a0_4 l0_5 a0_6 a0_7 a0_8 a0_9 a0_10 a0_11 a0_12 a0_13 a0_14 l0_15 l0_16 l0_17 a0_18 a0_19 a0_20 1048576).bind fun t373 => (if t373 < 0 then (some true) else ((laws_toDesk.f k a0_0 a0_1 a0_2 a0_3 a0_4 l0_5 a0_6 a0_7 a0_8 a0_9 a0_10 a0_11 a0_12 a0_13 a0_14 l0_15 l0_16 l0_17 a0_18 a0_19 a0_20).bind fun bt374 => ((spec_DeskOk.f k bt374.1 bt374.2.1 bt374.2.2.1 bt374.2.2.2.1 bt374.2.2.2.2.1 bt374.2.2.2.2.2.1 bt374.2.2.2.2.2.2.1 bt374.2.2.2.2.2.2.2.1 bt374.2.2.2.2.2.2.2.2.1 bt374.2.2.2.2.2.2.2.2.2.1 bt374.2.2.2.2.2.2.2.2.2.2.1 bt374.2.2.2.2.2.2.2.2.2.2.2.1 bt374.2.2.2.2.2.2.2.2.2.2.2.2.1 bt374.2.2.2.2.2.2.2.2.2.2.2.2.2.1 bt374.2.2.2.2.2.2.2.2.2.2.2.2.2.2.1 bt374.2.2.2.2.2.2.2.2.2.2.2.2.2.2.2.1 bt374.2.2.2.2.2.2.2.2.2.2.2.2.2.2.2.2.1 bt374.2.2.2.2.2.2.2.2.2.2.2.2.2.2.2.2.2.1 bt374.2.2.2.2.2.2.2.2.2.2.2.2.2.2.2.2.2.2.1 bt374.2.2.2.2.2.2.2.2.2.2.2.2.2.2.2.2.2.2.2.1 bt374.2.2.2.2.2.2.2.2.2.2.2.2.2.2.2.2.2.2.2.2).bind fun t403 => ((laws_toDesk.f k a0_0 a0_1 a0_2 a0_3 a0_4 l0_5 a0_6 a0_7 a0_8 a0_9 a0_10 a0_11 a0_12 a0_13 a0_14 l0_15 l0_16 l0_17 a0_18 a0_19 a0_20).bind fun bt404 => ((impl_DeskOk.f k bt404.1 bt404.2.1 bt404.2.2.1 bt404.2.2.2.1 bt404.2.2.2.2.1 bt404.2.2.2.2.2.1 bt404.2.2.2.2.2.2.1 bt404.2.2.2.2.2.2.2.1 bt404.2.2.2.2.2.2.2.2.1 bt404.2.2.2.2.2.2.2.2.2.1 bt404.2.2.2.2.2.2.2.2.2.2.1 bt404.2.2.2.2.2.2.2.2.2.2.2.1 bt404.2.2.2.2.2.2.2.2.2.2.2.2.1 bt404.2.2.2.2.2.2.2.2.2.2.2.2.2.1 bt404.2.2.2.2.2.2.2.2.2.2.2.2.2.2.1 bt404.2.2.2.2.2.2.2.2.2.2.2.2.2.2.2.1 bt404.2.2.2.2.2.2.2.2.2.2.2.2.2.2.2.2.1 bt404.2.2.2.2.2.2.2.2.2.2.2.2.2.2.2.2.2.1 bt404.2.2.2.2.2.2.2.2.2.2.2.2.2.2.2.2.2.2.1 bt404.2.2.2.2.2.2.2.2.2.2.2.2.2.2.2.2.2.2.2.1 bt404.2.2.2.2.2.2.2.2.2.2.2.2.2.2.2.2.2.2.2.2).bind fun t434 => (if (t434 != t403) = true then (some false) else ((laws_toDesk.f k a0_0 a0_1 a0_2 a0_3 a0_4 l0_5 a0_6 a0_7 a0_8 a0_9 a0_10 a0_11 a0_12 a0_13 a0_14 l0_15 l0_16 l0_17 a0_18 a0_19 a0_20).bind fun bt435 => ((laws_eqDesk.f k bt404.1 bt404.2.1 bt404.2.2.1 bt404.2.2.2.1 bt404.2.2.2.2.1 bt404.2.2.2.2.2.1 bt404.2.2.2.2.2.2.1 bt404.2.2.2.2.2.2.2.1 bt404.2.2.2.2.2.2.2.2.1 bt404.2.2.2.2.2.2.2.2.2.1 bt404.2.2.2.2.2.2.2.2.2.2.1 bt404.2.2.2.2.2.2.2.2.2.2.2.1 bt404.2.2.2.2.2.2.2.2.2.2.2.2.1 bt404.2.2.2.2.2.2.2.2.2.2.2.2.2.1 bt404.2.2.2.2.2.2.2.2.2.2.2.2.2.2.1 bt404.2.2.2.2.2.2.2.2.2.2.2.2.2.2.2.1 bt404.2.2.2.2.2.2.2.2.2.2.2.2.2.2.2.2.1 bt404.2.2.2.2.2.2.2.2.2.2.2.2.2.2.2.2.2.1 bt404.2.2.2.2.2.2.2.2.2.2.2.2.2.2.2.2.2.2.1 bt404.2.2.2.2.2.2.2.2.2.2.2.2.2.2.2.2.2.2.2.1 bt404.2.2.2.2.2.2.2.2.2.2.2.2.2.2.2.2.2.2.2.2 bt435.1 bt435.2.1 bt435.2.2.1 bt435.2.2.2.1 bt435.2.2.2.2.1 bt435.2.2.2.2.2.1 bt435.2.2.2.2.2.2.1 bt435.2.2.2.2.2.2.2.1 bt435.2.2.2.2.2.2.2.2.1 bt435.2.2.2.2.2.2.2.2.2.1 bt435.2.2.2.2.2.2.2.2.2.2.1 bt435.2.2.2.2.2.2.2.2.2.2.2.1 bt435.2.2.2.2.2.2.2.2.2.2.2.2.1 bt435.2.2.2.2.2.2.2.2.2.2.2.2.2.1 bt435.2.2.2.2.2.2.2.2.2.2.2.2.2.2.1 bt435.2.2.2.2.2.2.2.2.2.2.2.2.2.2.2.1 bt435.2.2.2.2.2.2.2.2.2.2.2.2.2.2.2.2.1 bt435.2.2.2.2.2.2.2.2.2.2.2.2.2.2.2.2.2.1 bt435.2.2.2.2.2.2.2.2.2.2.2.2.2.2.2.2.2.2.1 bt435.2.2.2.2.2.2.2.2.2.2.2.2.2.2.2.2.2.2.2.1 bt435.2.2.2.2.2.2.2.2.2.2.2.2.2.2.2.2.2.2.2.2).bind fun t464 => (if t464 = true then (some true) else (some false))))))))))) = some r := h
 clear h
 replace H := Option.bind_eq_some_iff.mp H
 obtain ⟨t373, A20, H⟩ := H
 replace H : (if t373 < 0 then (some true) else ((laws_toDesk.f k a0_0 a0_1 a0_2 a0_3 a0_4 l0_5 a0_6 a0_7 a0_8 a0_9 a0_10 a0_11 a0_12 a0_13 a0_14 l0_15 l0_16 l0_17 a0_18 a0_19 a0_20).bind fun bt374 => ((spec_DeskOk.f k bt374.1 bt374.2.1 bt374.2.2.1 bt374.2.2.2.1 bt374.2.2.2.2.1 bt374.2.2.2.2.2.1 bt374.2.2.2.2.2.2.1 bt374.2.2.2.2.2.2.2.1 bt374.2.2.2.2.2.2.2.2.1 bt374.2.2.2.2.2.2.2.2.2.1 bt374.2.2.2.2.2.2.2.2.2.2.1 bt374.2.2.2.2.2.2.2.2.2.2.2.1 bt374.2.2.2.2.2.2.2.2.2.2.2.2.1 bt374.2.2.2.2.2.2.2.2.2.2.2.2.2.1 bt374.2.2.2.2.2.2.2.2.2.2.2.2.2.2.1 bt374.2.2.2.2.2.2.2.2.2.2.2.2.2.2.2.1 bt374.2.2.2.2.2.2.2.2.2.2.2.2.2.2.2.2.1 bt374.2.2.2.2.2.2.2.2.2.2.2.2.2.2.2.2.2.1 bt374.2.2.2.2.2.2.2.2.2.2.2.2.2.2.2.2.2.2.1 bt374.2.2.2.2.2.2.2.2.2.2.2.2.2.2.2.2.2.2.2.1 bt374.2.2.2.2.2.2.2.2.2.2.2.2.2.2.2.2.2.2.2.2).bind fun t403 => ((laws_toDesk.f k a0_0 a0_1 a0_2 a0_3 a0_4 l0_5 a0_6 a0_7 a0_8 a0_9 a0_10 a0_11 a0_12 a0_13 a0_14 l0_15 l0_16 l0_17 a0_18 a0_19 a0_20).bind fun bt404 => ((impl_DeskOk.f k bt404.1 bt404.2.1 bt404.2.2.1 bt404.2.2.2.1 bt404.2.2.2.2.1 bt404.2.2.2.2.2.1 bt404.2.2.2.2.2.2.1 bt404.2.2.2.2.2.2.2.1 bt404.2.2.2.2.2.2.2.2.1 bt404.2.2.2.2.2.2.2.2.2.1 bt404.2.2.2.2.2.2.2.2.2.2.1 bt404.2.2.2.2.2.2.2.2.2.2.2.1 bt404.2.2.2.2.2.2.2.2.2.2.2.2.1 bt404.2.2.2.2.2.2.2.2.2.2.2.2.2.1 bt404.2.2.2.2.2.2.2.2.2.2.2.2.2.2.1 bt404.2.2.2.2.2.2.2.2.2.2.2.2.2.2.2.1 bt404.2.2.2.2.2.2.2.2.2.2.2.2.2.2.2.2.1 bt404.2.2.2.2.2.2.2.2.2.2.2.2.2.2.2.2.2.1 bt404.2.2.2.2.2.2.2.2.2.2.2.2.2.2.2.2.2.2.1 bt404.2.2.2.2.2.2.2.2.2.2.2.2.2.2.2.2.2.2.2.1 bt404.2.2.2.2.2.2.2.2.2.2.2.2.2.2.2.2.2.2.2.2).bind fun t434 => (if (t434 != t403) = true then (some false) else ((laws_toDesk.f k a0_0 a0_1 a0_2 a0_3 a0_4 l0_5 a0_6 a0_7 a0_8 a0_9 a0_10 a0_11 a0_12 a0_13 a0_14 l0_15 l0_16 l0_17 a0_18 a0_19 a0_20).bind fun bt435 => ((laws_eqDesk.f k bt404.1 bt404.2.1 bt404.2.2.1 bt404.2.2.2.1 bt404.2.2.2.2.1 bt404.2.2.2.2.2.1 bt404.2.2.2.2.2.2.1 bt404.2.2.2.2.2.2.2.1 bt404.2.2.2.2.2.2.2.2.1 bt404.2.2.2.2.2.2.2.2.2.1 bt404.2.2.2.2.2.2.2.2.2.2.1 bt404.2.2.2.2.2.2.2.2.2.2.2.1 bt404.2.2.2.2.2.2.2.2.2.2.2.2.1 bt404.2.2.2.2.2.2.2.2.2.2.2.2.2.1 bt404.2.2.2.2.2.2.2.2.2.2.2.2.2.2.1 bt404.2.2.2.2.2.2.2.2.2.2.2.2.2.2.2.1 bt404.2.2.2.2.2.2.2.2.2.2.2.2.2.2.2.2.1 bt404.2.2.2.2.2.2.2.2.2.2.2.2.2.2.2.2.2.1 bt404.2.2.2.2.2.2.2.2.2.2.2.2.2.2.2.2.2.2.1 bt404.2.2.2.2.2.2.2.2.2.2.2.2.2.2.2.2.2.2.2.1 bt404.2.2.2.2.2.2.2.2.2.2.2.2.2.2.2.2.2.2.2.2 bt435.1 bt435.2.1 bt435.2.2.1 bt435.2.2.2.1 bt435.2.2.2.2.1 bt435.2.2.2.2.2.1 bt435.2.2.2.2.2.2.1 bt435.2.2.2.2.2.2.2.1 bt435.2.2.2.2.2.2.2.2.1 bt435.2.2.2.2.2.2.2.2.2.1 bt435.2.2.2.2.2.2.2.2.2.2.1 bt435.2.2.2.2.2.2.2.2.2.2.2.1 bt435.2.2.2.2.2.2.2.2.2.2.2.2.1 bt435.2.2.2.2.2.2.2.2.2.2.2.2.2.1 bt435.2.2.2.2.2.2.2.2.2.2.2.2.2.2.1 bt435.2.2.2.2.2.2.2.2.2.2.2.2.2.2.2.1 bt435.2.2.2.2.2.2.2.2.2.2.2.2.2.2.2.2.1 bt435.2.2.2.2.2.2.2.2.2.2.2.2.2.2.2.2.2.1 bt435.2.2.2.2.2.2.2.2.2.2.2.2.2.2.2.2.2.2.1 bt435.2.2.2.2.2.2.2.2.2.2.2.2.2.2.2.2.2.2.2.1 bt435.2.2.2.2.2.2.2.2.2.2.2.2.2.2.2.2.2.2.2.2).bind fun t464 => (if t464 = true then (some true) else (some false)))))))))) = some r := H
 have A2 := Aside0.mk A20
 clear A20
 have HC3 := Aside0.mk H
 clear H
 clear HB
 go_enter Try.func3, Try.ntmps3
 go_upto_region 1 with (((with_reducible refine gate_dst (N := 1) rfl ?_); refine box_event ?hg (N := 1) ?hd (cs := #[.int .i64 a0_0, .int .i64 a0_1, .int .i64 a0_2, .int .i64 a0_3, .int .i64 a0_4, .slice A0_5 l0_5.length c0_5, .int .i64 a0_6, .int .i64 a0_7, .int .i64 a0_8, .int .i64 a0_9, .int .i64 a0_10, .int .i64 a0_11, .int .i64 a0_12, .int .i64 a0_13, .bool a0_14, .slice A0_15 l0_15.length c0_15, .slice A0_16 l0_16.length c0_16, .slice A0_17 l0_17.length c0_17, .int .i64 a0_18, .int .i64 a0_19, .int .i64 a0_20]) (t := 35) ?hr ?_; (case hd => rfl); (case hg => rfl); (case hr => first | (go_simp; done) | (go_simp; rfl)); intro g1 hg1 w4 hbox hb; clear hg1))
 have HF := Aside0.mk ((⟨hbox, hb⟩ : (fun W => W.heap[g1]? = some (.cells #[.int .i64 a0_0, .int .i64 a0_1, .int .i64 a0_2, .int .i64 a0_3, .int .i64 a0_4, .slice A0_5 l0_5.length c0_5, .int .i64 a0_6, .int .i64 a0_7, .int .i64 a0_8, .int .i64 a0_9, .int .i64 a0_10, .int .i64 a0_11, .int .i64 a0_12, .int .i64 a0_13, .bool a0_14, .slice A0_15 l0_15.length c0_15, .slice A0_16 l0_16.length c0_16, .slice A0_17 l0_17.length c0_17, .int .i64 a0_18, .int .i64 a0_19, .int .i64 a0_20] 35 (0, 0)) ∧ Below w.heap.size w W) w4))
 refine world_ (fun W => W.heap[g1]? = some (.cells #[.int .i64 a0_0, .int .i64 a0_1, .int .i64 a0_2, .int .i64 a0_3, .int .i64 a0_4, .slice A0_5 l0_5.length c0_5, .int .i64 a0_6, .int .i64 a0_7, .int .i64 a0_8, .int .i64 a0_9, .int .i64 a0_10, .int .i64 a0_11, .int .i64 a0_12, .int .i64 a0_13, .bool a0_14, .slice A0_15 l0_15.length c0_15, .slice A0_16 l0_16.length c0_16, .slice A0_17 l0_17.length c0_17, .int .i64 a0_18, .int .i64 a0_19, .int .i64 a0_20] 35 (0, 0)) ∧ Below w.heap.size w W) HF.out ?_
 clear HF
 rintro W ⟨BA, HB⟩
 clear hbox hb
 go_upto_region 3 with (first | ((with_reducible refine gate_dst (N := 7) rfl ?_); refine wpList_load_row rfl 35 (.tmp 1) rfl g1 rfl 35 #[.int .i64 a0_0, .int .i64 a0_1, .int .i64 a0_2, .int .i64 a0_3, .int .i64 a0_4, .slice A0_5 l0_5.length c0_5, .int .i64 a0_6, .int .i64 a0_7, .int .i64 a0_8, .int .i64 a0_9, .int .i64 a0_10, .int .i64 a0_11, .int .i64 a0_12, .int .i64 a0_13, .bool a0_14, .slice A0_15 l0_15.length c0_15, .slice A0_16 l0_16.length c0_16, .slice A0_17 l0_17.length c0_17, .int .i64 a0_18, .int .i64 a0_19, .int .i64 a0_20] (0, 0) _ BA Try.underlying35 rfl (by kernel_rfl) ?_) | (go_at_call 5; (with_reducible refine (laws_szDesk.calls k a0_0 a0_1 a0_2 a0_3 a0_4 _ _ l0_5 a0_6 a0_7 a0_8 a0_9 a0_10 a0_11 a0_12 a0_13 a0_14 _ _ l0_15 _ _ l0_16 _ _ l0_17 a0_18 a0_19 a0_20 1048576 t373 _ ?side1 ?side2 ?side3 ?side4 ?side5 ?side6 ?side7 ?side8 A2.out).mono ?_); (case side1 => exact Kd.C_below HR0_5.out HB); (case side2 => exact HC0_5.out); (case side3 => exact Kd.C_below HR0_15.out HB); (case side4 => exact HC0_15.out); (case side5 => exact Kd.C_below HR0_16.out HB); (case side6 => exact HC0_16.out); (case side7 => exact Kd.C_below HR0_17.out HB); (case side8 => exact HC0_17.out); rintro e w5 ⟨rfl, hb⟩))
 have HF := Aside0.mk ((⟨blk_below BA hb, below_step HB hb⟩ : (fun W => W.heap[g1]? = some (.cells #[.int .i64 a0_0, .int .i64 a0_1, .int .i64 a0_2, .int .i64 a0_3, .int .i64 a0_4, .slice A0_5 l0_5.length c0_5, .int .i64 a0_6, .int .i64 a0_7, .int .i64 a0_8, .int .i64 a0_9, .int .i64 a0_10, .int .i64 a0_11, .int .i64 a0_12, .int .i64 a0_13, .bool a0_14, .slice A0_15 l0_15.length c0_15, .slice A0_16 l0_16.length c0_16, .slice A0_17 l0_17.length c0_17, .int .i64 a0_18, .int .i64 a0_19, .int .i64 a0_20] 35 (0, 0)) ∧ Below w.heap.size w W) w5))
 refine world_ (fun W => W.heap[g1]? = some (.cells #[.int .i64 a0_0, .int .i64 a0_1, .int .i64 a0_2, .int .i64 a0_3, .int .i64 a0_4, .slice A0_5 l0_5.length c0_5, .int .i64 a0_6, .int .i64 a0_7, .int .i64 a0_8, .int .i64 a0_9, .int .i64 a0_10, .int .i64 a0_11, .int .i64 a0_12, .int .i64 a0_13, .bool a0_14, .slice A0_15 l0_15.length c0_15, .slice A0_16 l0_16.length c0_16, .slice A0_17 l0_17.length c0_17, .int .i64 a0_18, .int .i64 a0_19, .int .i64 a0_20] 35 (0, 0)) ∧ Below w.heap.size w W) HF.out ?_
 clear HF
 rintro W ⟨BA, HB⟩
 go_upto_if 11 with (fail)
 have H := HC3.out
 clear HC3
 by_cases c7 : t373 < 0
 ·
  rw [if_pos c7] at H
  have c7b0 : decide (t373 < 0) = true := decide_eq_true c7
  clear c7
  (first | rw [c7b0] | (simp only [i64_w, i32_w]; rw [c7b0]) | skip)
  obtain rfl := Option.some.inj H
  go_wp2
  go_ret
  exact ⟨rfl, HB⟩
 ·
  rw [if_neg c7] at H
  have c7b0 : decide (t373 < 0) = false := decide_eq_false c7
  clear c7
  (first | rw [c7b0] | (simp only [i64_w, i32_w]; rw [c7b0]) | skip)
  replace H := Option.bind_eq_some_iff.mp H
  obtain ⟨⟨t374, t375, t376, t377, t378, t379, t382, t383, t384, t385, t386, t387, t388, t389, t390, t391, t394, t397, t400, t401, t402⟩, A80, H⟩ := H
  replace H : ((spec_DeskOk.f k t374 t375 t376 t377 t378 t379 t382 t383 t384 t385 t386 t387 t388 t389 t390 t391 t394 t397 t400 t401 t402).bind fun t403 => ((laws_toDesk.f k a0_0 a0_1 a0_2 a0_3 a0_4 l0_5 a0_6 a0_7 a0_8 a0_9 a0_10 a0_11 a0_12 a0_13 a0_14 l0_15 l0_16 l0_17 a0_18 a0_19 a0_20).bind fun bt404 => ((impl_DeskOk.f k bt404.1 bt404.2.1 bt404.2.2.1 bt404.2.2.2.1 bt404.2.2.2.2.1 bt404.2.2.2.2.2.1 bt404.2.2.2.2.2.2.1 bt404.2.2.2.2.2.2.2.1 bt404.2.2.2.2.2.2.2.2.1 bt404.2.2.2.2.2.2.2.2.2.1 bt404.2.2.2.2.2.2.2.2.2.2.1 bt404.2.2.2.2.2.2.2.2.2.2.2.1 bt404.2.2.2.2.2.2.2.2.2.2.2.2.1 bt404.2.2.2.2.2.2.2.2.2.2.2.2.2.1 bt404.2.2.2.2.2.2.2.2.2.2.2.2.2.2.1 bt404.2.2.2.2.2.2.2.2.2.2.2.2.2.2.2.1 bt404.2.2.2.2.2.2.2.2.2.2.2.2.2.2.2.2.1 bt404.2.2.2.2.2.2.2.2.2.2.2.2.2.2.2.2.2.1 bt404.2.2.2.2.2.2.2.2.2.2.2.2.2.2.2.2.2.2.1 bt404.2.2.2.2.2.2.2.2.2.2.2.2.2.2.2.2.2.2.2.1 bt404.2.2.2.2.2.2.2.2.2.2.2.2.2.2.2.2.2.2.2.2).bind fun t434 => (if (t434 != t403) = true then (some false) else ((laws_toDesk.f k a0_0 a0_1 a0_2 a0_3 a0_4 l0_5 a0_6 a0_7 a0_8 a0_9 a0_10 a0_11 a0_12 a0_13 a0_14 l0_15 l0_16 l0_17 a0_18 a0_19 a0_20).bind fun bt435 => ((laws_eqDesk.f k bt404.1 bt404.2.1 bt404.2.2.1 bt404.2.2.2.1 bt404.2.2.2.2.1 bt404.2.2.2.2.2.1 bt404.2.2.2.2.2.2.1 bt404.2.2.2.2.2.2.2.1 bt404.2.2.2.2.2.2.2.2.1 bt404.2.2.2.2.2.2.2.2.2.1 bt404.2.2.2.2.2.2.2.2.2.2.1 bt404.2.2.2.2.2.2.2.2.2.2.2.1 bt404.2.2.2.2.2.2.2.2.2.2.2.2.1 bt404.2.2.2.2.2.2.2.2.2.2.2.2.2.1 bt404.2.2.2.2.2.2.2.2.2.2.2.2.2.2.1 bt404.2.2.2.2.2.2.2.2.2.2.2.2.2.2.2.1 bt404.2.2.2.2.2.2.2.2.2.2.2.2.2.2.2.2.1 bt404.2.2.2.2.2.2.2.2.2.2.2.2.2.2.2.2.2.1 bt404.2.2.2.2.2.2.2.2.2.2.2.2.2.2.2.2.2.2.1 bt404.2.2.2.2.2.2.2.2.2.2.2.2.2.2.2.2.2.2.2.1 bt404.2.2.2.2.2.2.2.2.2.2.2.2.2.2.2.2.2.2.2.2 bt435.1 bt435.2.1 bt435.2.2.1 bt435.2.2.2.1 bt435.2.2.2.2.1 bt435.2.2.2.2.2.1 bt435.2.2.2.2.2.2.1 bt435.2.2.2.2.2.2.2.1 bt435.2.2.2.2.2.2.2.2.1 bt435.2.2.2.2.2.2.2.2.2.1 bt435.2.2.2.2.2.2.2.2.2.2.1 bt435.2.2.2.2.2.2.2.2.2.2.2.1 bt435.2.2.2.2.2.2.2.2.2.2.2.2.1 bt435.2.2.2.2.2.2.2.2.2.2.2.2.2.1 bt435.2.2.2.2.2.2.2.2.2.2.2.2.2.2.1 bt435.2.2.2.2.2.2.2.2.2.2.2.2.2.2.2.1 bt435.2.2.2.2.2.2.2.2.2.2.2.2.2.2.2.2.1 bt435.2.2.2.2.2.2.2.2.2.2.2.2.2.2.2.2.2.1 bt435.2.2.2.2.2.2.2.2.2.2.2.2.2.2.2.2.2.2.1 bt435.2.2.2.2.2.2.2.2.2.2.2.2.2.2.2.2.2.2.2.1 bt435.2.2.2.2.2.2.2.2.2.2.2.2.2.2.2.2.2.2.2.2).bind fun t464 => (if t464 = true then (some true) else (some false)))))))) = some r := H
  have A8 := Aside0.mk A80
  clear A80
  replace H := Option.bind_eq_some_iff.mp H
  obtain ⟨t403, A90, H⟩ := H
  replace H : ((laws_toDesk.f k a0_0 a0_1 a0_2 a0_3 a0_4 l0_5 a0_6 a0_7 a0_8 a0_9 a0_10 a0_11 a0_12 a0_13 a0_14 l0_15 l0_16 l0_17 a0_18 a0_19 a0_20).bind fun bt404 => ((impl_DeskOk.f k bt404.1 bt404.2.1 bt404.2.2.1 bt404.2.2.2.1 bt404.2.2.2.2.1 bt404.2.2.2.2.2.1 bt404.2.2.2.2.2.2.1 bt404.2.2.2.2.2.2.2.1 bt404.2.2.2.2.2.2.2.2.1 bt404.2.2.2.2.2.2.2.2.2.1 bt404.2.2.2.2.2.2.2.2.2.2.1 bt404.2.2.2.2.2.2.2.2.2.2.2.1 bt404.2.2.2.2.2.2.2.2.2.2.2.2.1 bt404.2.2.2.2.2.2.2.2.2.2.2.2.2.1 bt404.2.2.2.2.2.2.2.2.2.2.2.2.2.2.1 bt404.2.2.2.2.2.2.2.2.2.2.2.2.2.2.2.1 bt404.2.2.2.2.2.2.2.2.2.2.2.2.2.2.2.2.1 bt404.2.2.2.2.2.2.2.2.2.2.2.2.2.2.2.2.2.1 bt404.2.2.2.2.2.2.2.2.2.2.2.2.2.2.2.2.2.2.1 bt404.2.2.2.2.2.2.2.2.2.2.2.2.2.2.2.2.2.2.2.1 bt404.2.2.2.2.2.2.2.2.2.2.2.2.2.2.2.2.2.2.2.2).bind fun t434 => (if (t434 != t403) = true then (some false) else ((laws_toDesk.f k a0_0 a0_1 a0_2 a0_3 a0_4 l0_5 a0_6 a0_7 a0_8 a0_9 a0_10 a0_11 a0_12 a0_13 a0_14 l0_15 l0_16 l0_17 a0_18 a0_19 a0_20).bind fun bt435 => ((laws_eqDesk.f k bt404.1 bt404.2.1 bt404.2.2.1 bt404.2.2.2.1 bt404.2.2.2.2.1 bt404.2.2.2.2.2.1 bt404.2.2.2.2.2.2.1 bt404.2.2.2.2.2.2.2.1 bt404.2.2.2.2.2.2.2.2.1 bt404.2.2.2.2.2.2.2.2.2.1 bt404.2.2.2.2.2.2.2.2.2.2.1 bt404.2.2.2.2.2.2.2.2.2.2.2.1 bt404.2.2.2.2.2.2.2.2.2.2.2.2.1 bt404.2.2.2.2.2.2.2.2.2.2.2.2.2.1 bt404.2.2.2.2.2.2.2.2.2.2.2.2.2.2.1 bt404.2.2.2.2.2.2.2.2.2.2.2.2.2.2.2.1 bt404.2.2.2.2.2.2.2.2.2.2.2.2.2.2.2.2.1 bt404.2.2.2.2.2.2.2.2.2.2.2.2.2.2.2.2.2.1 bt404.2.2.2.2.2.2.2.2.2.2.2.2.2.2.2.2.2.2.1 bt404.2.2.2.2.2.2.2.2.2.2.2.2.2.2.2.2.2.2.2.1 bt404.2.2.2.2.2.2.2.2.2.2.2.2.2.2.2.2.2.2.2.2 bt435.1 bt435.2.1 bt435.2.2.1 bt435.2.2.2.1 bt435.2.2.2.2.1 bt435.2.2.2.2.2.1 bt435.2.2.2.2.2.2.1 bt435.2.2.2.2.2.2.2.1 bt435.2.2.2.2.2.2.2.2.1 bt435.2.2.2.2.2.2.2.2.2.1 bt435.2.2.2.2.2.2.2.2.2.2.1 bt435.2.2.2.2.2.2.2.2.2.2.2.1 bt435.2.2.2.2.2.2.2.2.2.2.2.2.1 bt435.2.2.2.2.2.2.2.2.2.2.2.2.2.1 bt435.2.2.2.2.2.2.2.2.2.2.2.2.2.2.1 bt435.2.2.2.2.2.2.2.2.2.2.2.2.2.2.2.1 bt435.2.2.2.2.2.2.2.2.2.2.2.2.2.2.2.2.1 bt435.2.2.2.2.2.2.2.2.2.2.2.2.2.2.2.2.2.1 bt435.2.2.2.2.2.2.2.2.2.2.2.2.2.2.2.2.2.2.1 bt435.2.2.2.2.2.2.2.2.2.2.2.2.2.2.2.2.2.2.2.1 bt435.2.2.2.2.2.2.2.2.2.2.2.2.2.2.2.2.2.2.2.2).bind fun t464 => (if t464 = true then (some true) else (some false))))))) = some r := H
  have A9 := Aside0.mk A90
  clear A90
  replace H := Option.bind_eq_some_iff.mp H
  obtain ⟨⟨t404, t405, t406, t407, t408, t409, t412, t413, t414, t415, t416, t417, t418, t419, t420, t421, t424, t427, t430, t431, t432⟩, A100, H⟩ := H
  replace H : ((impl_DeskOk.f k t404 t405 t406 t407 t408 t409 t412 t413 t414 t415 t416 t417 t418 t419 t420 t421 t424 t427 t430 t431 t432).bind fun t434 => (if (t434 != t403) = true then (some false) else ((laws_toDesk.f k a0_0 a0_1 a0_2 a0_3 a0_4 l0_5 a0_6 a0_7 a0_8 a0_9 a0_10 a0_11 a0_12 a0_13 a0_14 l0_15 l0_16 l0_17 a0_18 a0_19 a0_20).bind fun bt435 => ((laws_eqDesk.f k t404 t405 t406 t407 t408 t409 t412 t413 t414 t415 t416 t417 t418 t419 t420 t421 t424 t427 t430 t431 t432 bt435.1 bt435.2.1 bt435.2.2.1 bt435.2.2.2.1 bt435.2.2.2.2.1 bt435.2.2.2.2.2.1 bt435.2.2.2.2.2.2.1 bt435.2.2.2.2.2.2.2.1 bt435.2.2.2.2.2.2.2.2.1 bt435.2.2.2.2.2.2.2.2.2.1 bt435.2.2.2.2.2.2.2.2.2.2.1 bt435.2.2.2.2.2.2.2.2.2.2.2.1 bt435.2.2.2.2.2.2.2.2.2.2.2.2.1 bt435.2.2.2.2.2.2.2.2.2.2.2.2.2.1 bt435.2.2.2.2.2.2.2.2.2.2.2.2.2.2.1 bt435.2.2.2.2.2.2.2.2.2.2.2.2.2.2.2.1 bt435.2.2.2.2.2.2.2.2.2.2.2.2.2.2.2.2.1 bt435.2.2.2.2.2.2.2.2.2.2.2.2.2.2.2.2.2.1 bt435.2.2.2.2.2.2.2.2.2.2.2.2.2.2.2.2.2.2.1 bt435.2.2.2.2.2.2.2.2.2.2.2.2.2.2.2.2.2.2.2.1 bt435.2.2.2.2.2.2.2.2.2.2.2.2.2.2.2.2.2.2.2.2).bind fun t464 => (if t464 = true then (some true) else (some false)))))) = some r := H
  have A10 := Aside0.mk A100
  clear A100
  replace H := Option.bind_eq_some_iff.mp H
  obtain ⟨t434, A110, H⟩ := H
  replace H : (if (t434 != t403) = true then (some false) else ((laws_toDesk.f k a0_0 a0_1 a0_2 a0_3 a0_4 l0_5 a0_6 a0_7 a0_8 a0_9 a0_10 a0_11 a0_12 a0_13 a0_14 l0_15 l0_16 l0_17 a0_18 a0_19 a0_20).bind fun bt435 => ((laws_eqDesk.f k t404 t405 t406 t407 t408 t409 t412 t413 t414 t415 t416 t417 t418 t419 t420 t421 t424 t427 t430 t431 t432 bt435.1 bt435.2.1 bt435.2.2.1 bt435.2.2.2.1 bt435.2.2.2.2.1 bt435.2.2.2.2.2.1 bt435.2.2.2.2.2.2.1 bt435.2.2.2.2.2.2.2.1 bt435.2.2.2.2.2.2.2.2.1 bt435.2.2.2.2.2.2.2.2.2.1 bt435.2.2.2.2.2.2.2.2.2.2.1 bt435.2.2.2.2.2.2.2.2.2.2.2.1 bt435.2.2.2.2.2.2.2.2.2.2.2.2.1 bt435.2.2.2.2.2.2.2.2.2.2.2.2.2.1 bt435.2.2.2.2.2.2.2.2.2.2.2.2.2.2.1 bt435.2.2.2.2.2.2.2.2.2.2.2.2.2.2.2.1 bt435.2.2.2.2.2.2.2.2.2.2.2.2.2.2.2.2.1 bt435.2.2.2.2.2.2.2.2.2.2.2.2.2.2.2.2.2.1 bt435.2.2.2.2.2.2.2.2.2.2.2.2.2.2.2.2.2.2.1 bt435.2.2.2.2.2.2.2.2.2.2.2.2.2.2.2.2.2.2.2.1 bt435.2.2.2.2.2.2.2.2.2.2.2.2.2.2.2.2.2.2.2.2).bind fun t464 => (if t464 = true then (some true) else (some false))))) = some r := H
  have A11 := Aside0.mk A110
  clear A110
  have HC12 := Aside0.mk H
  clear H
  go_upto_region 6 with (first | ((with_reducible refine gate_dst (N := 12) rfl ?_); refine wpList_load_row rfl 35 (.tmp 1) rfl g1 rfl 35 #[.int .i64 a0_0, .int .i64 a0_1, .int .i64 a0_2, .int .i64 a0_3, .int .i64 a0_4, .slice A0_5 l0_5.length c0_5, .int .i64 a0_6, .int .i64 a0_7, .int .i64 a0_8, .int .i64 a0_9, .int .i64 a0_10, .int .i64 a0_11, .int .i64 a0_12, .int .i64 a0_13, .bool a0_14, .slice A0_15 l0_15.length c0_15, .slice A0_16 l0_16.length c0_16, .slice A0_17 l0_17.length c0_17, .int .i64 a0_18, .int .i64 a0_19, .int .i64 a0_20] (0, 0) _ BA Try.underlying35 rfl (by kernel_rfl) ?_) | (go_at_call 7; (with_reducible refine (laws_toDesk.calls k a0_0 a0_1 a0_2 a0_3 a0_4 _ _ l0_5 a0_6 a0_7 a0_8 a0_9 a0_10 a0_11 a0_12 a0_13 a0_14 _ _ l0_15 _ _ l0_16 _ _ l0_17 a0_18 a0_19 a0_20 t374 t375 t376 t377 t378 t379 t382 t383 t384 t385 t386 t387 t388 t389 t390 t391 t394 t397 t400 t401 t402 _ ?side1 ?side2 ?side3 ?side4 ?side5 ?side6 ?side7 ?side8 A8.out).mono ?_); (case side1 => exact Kd.C_below HR0_5.out HB); (case side2 => exact HC0_5.out); (case side3 => exact Kd.C_below HR0_15.out HB); (case side4 => exact HC0_15.out); (case side5 => exact Kd.C_below HR0_16.out HB); (case side6 => exact HC0_16.out); (case side7 => exact Kd.C_below HR0_17.out HB); (case side8 => exact HC0_17.out); rintro e w5 ⟨v0, v1, v2, v3, rfl, ho0, ho1, ho2, ho3, hb⟩; obtain ⟨Y0, y0, eo⟩ := Kd.R_slice ho0; subst eo; obtain ⟨Y1, y1, eo⟩ := Kd.R_slice ho1; subst eo; obtain ⟨Y2, y2, eo⟩ := Kd.R_slice ho2; subst eo; obtain ⟨Y3, y3, eo⟩ := Kd.R_slice ho3; subst eo) | (go_at_call 6; (with_reducible refine (spec_DeskOk.calls k t374 t375 t376 t377 t378 _ _ t379 t382 t383 t384 t385 t386 t387 t388 t389 t390 _ _ t391 _ _ t394 _ _ t397 t400 t401 t402 t403 _ ?side1 ?side2 ?side3 ?side4 ?side5 ?side6 ?side7 ?side8 A9.out).mono ?_); (case side1 => exact (Kd.R_reads' ho0).2.2); (case side2 => exact (Kd.R_reads' ho0).2.1); (case side3 => exact (Kd.R_reads' ho1).2.2); (case side4 => exact (Kd.R_reads' ho1).2.1); (case side5 => exact (Kd.R_reads' ho2).2.2); (case side6 => exact (Kd.R_reads' ho2).2.1); (case side7 => exact (Kd.R_reads' ho3).2.2); (case side8 => exact (Kd.R_reads' ho3).2.1); rintro e w6 ⟨rfl, hb2⟩))
  have HF := Aside0.mk ((⟨blk_below (blk_below BA hb) hb2, below_step (below_step HB hb) hb2⟩ : (fun W => W.heap[g1]? = some (.cells #[.int .i64 a0_0, .int .i64 a0_1, .int .i64 a0_2, .int .i64 a0_3, .int .i64 a0_4, .slice A0_5 l0_5.length c0_5, .int .i64 a0_6, .int .i64 a0_7, .int .i64 a0_8, .int .i64 a0_9, .int .i64 a0_10, .int .i64 a0_11, .int .i64 a0_12, .int .i64 a0_13, .bool a0_14, .slice A0_15 l0_15.length c0_15, .slice A0_16 l0_16.length c0_16, .slice A0_17 l0_17.length c0_17, .int .i64 a0_18, .int .i64 a0_19, .int .i64 a0_20] 35 (0, 0)) ∧ Below w.heap.size w W) w6))
  refine world_ (fun W => W.heap[g1]? = some (.cells #[.int .i64 a0_0, .int .i64 a0_1, .int .i64 a0_2, .int .i64 a0_3, .int .i64 a0_4, .slice A0_5 l0_5.length c0_5, .int .i64 a0_6, .int .i64 a0_7, .int .i64 a0_8, .int .i64 a0_9, .int .i64 a0_10, .int .i64 a0_11, .int .i64 a0_12, .int .i64 a0_13, .bool a0_14, .slice A0_15 l0_15.length c0_15, .slice A0_16 l0_16.length c0_16, .slice A0_17 l0_17.length c0_17, .int .i64 a0_18, .int .i64 a0_19, .int .i64 a0_20] 35 (0, 0)) ∧ Below w.heap.size w W) HF.out ?_
  clear HF
  rintro W ⟨BA, HB⟩
  go_upto_region 7 with (first | ((with_reducible refine gate_dst (N := 15) rfl ?_); refine wpList_load_row rfl 35 (.tmp 1) rfl g1 rfl 35 #[.int .i64 a0_0, .int .i64 a0_1, .int .i64 a0_2, .int .i64 a0_3, .int .i64 a0_4, .slice A0_5 l0_5.length c0_5, .int .i64 a0_6, .int .i64 a0_7, .int .i64 a0_8, .int .i64 a0_9, .int .i64 a0_10, .int .i64 a0_11, .int .i64 a0_12, .int .i64 a0_13, .bool a0_14, .slice A0_15 l0_15.length c0_15, .slice A0_16 l0_16.length c0_16, .slice A0_17 l0_17.length c0_17, .int .i64 a0_18, .int .i64 a0_19, .int .i64 a0_20] (0, 0) _ BA Try.underlying35 rfl (by kernel_rfl) ?_) | (go_at_call 7; (with_reducible refine (laws_toDesk.calls k a0_0 a0_1 a0_2 a0_3 a0_4 _ _ l0_5 a0_6 a0_7 a0_8 a0_9 a0_10 a0_11 a0_12 a0_13 a0_14 _ _ l0_15 _ _ l0_16 _ _ l0_17 a0_18 a0_19 a0_20 t404 t405 t406 t407 t408 t409 t412 t413 t414 t415 t416 t417 t418 t419 t420 t421 t424 t427 t430 t431 t432 _ ?side1 ?side2 ?side3 ?side4 ?side5 ?side6 ?side7 ?side8 A10.out).mono ?_); (case side1 => exact Kd.C_below HR0_5.out HB); (case side2 => exact HC0_5.out); (case side3 => exact Kd.C_below HR0_15.out HB); (case side4 => exact HC0_15.out); (case side5 => exact Kd.C_below HR0_16.out HB); (case side6 => exact HC0_16.out); (case side7 => exact Kd.C_below HR0_17.out HB); (case side8 => exact HC0_17.out); rintro e w5 ⟨v0, v1, v2, v3, rfl, ho0, ho1, ho2, ho3, hb⟩; obtain ⟨X0, x0, eo⟩ := Kd.R_slice ho0; subst eo; obtain ⟨X1, x1, eo⟩ := Kd.R_slice ho1; subst eo; obtain ⟨X2, x2, eo⟩ := Kd.R_slice ho2; subst eo; obtain ⟨X3, x3, eo⟩ := Kd.R_slice ho3; subst eo) | ((with_reducible refine gate_dst (N := 5) rfl ?_); refine box_event ?hg (N := 5) ?hd (cs := #[.int .i64 0, .int .i64 0, .int .i64 0, .int .i64 0, .int .i64 0, .slice none 0 0, .int .i64 0, .int .i64 0, .int .i64 0, .int .i64 0, .int .i64 0, .int .i64 0, .int .i64 0, .int .i64 0, .bool false, .slice none 0 0, .slice none 0 0, .slice none 0 0, .int .i64 0, .int .i64 0, .int .i64 0]) (t := 48) ?hr ?_; (case hd => rfl); (case hg => rfl); (case hr => first | (go_simp; done) | (go_simp; rfl)); intro g5 hg5 w7 hbox hb2; have HG5 := Aside0.mk hg5; clear hg5) | ((with_reducible refine gate_store (t := 48) (p := 5) rfl ?_); refine stm_ 48 5 (.tmp 16) g5 0 #[.int .i64 t404, .int .i64 t405, .int .i64 t406, .int .i64 t407, .int .i64 t408, .slice X0 t409.length x0, .int .i64 t412, .int .i64 t413, .int .i64 t414, .int .i64 t415, .int .i64 t416, .int .i64 t417, .int .i64 t418, .int .i64 t419, .bool t420, .slice X1 t421.length x1, .slice X2 t424.length x2, .slice X3 t427.length x3, .int .i64 t430, .int .i64 t431, .int .i64 t432] #[.int .i64 0, .int .i64 0, .int .i64 0, .int .i64 0, .int .i64 0, .slice none 0 0, .int .i64 0, .int .i64 0, .int .i64 0, .int .i64 0, .int .i64 0, .int .i64 0, .int .i64 0, .int .i64 0, .bool false, .slice none 0 0, .slice none 0 0, .slice none 0 0, .int .i64 0, .int .i64 0, .int .i64 0] #[.int .i64 t404, .int .i64 t405, .int .i64 t406, .int .i64 t407, .int .i64 t408, .slice X0 t409.length x0, .int .i64 t412, .int .i64 t413, .int .i64 t414, .int .i64 t415, .int .i64 t416, .int .i64 t417, .int .i64 t418, .int .i64 t419, .bool t420, .slice X1 t421.length x1, .slice X2 t424.length x2, .slice X3 t427.length x3, .int .i64 t430, .int .i64 t431, .int .i64 t432] 48 ?e1 ?e2 ?e3 ?e4 ?e5 ?e6 ?e7 ?e8 ?e9 ?e10 ?_; (case e1 => rfl); (case e2 => rfl); (case e3 => rfl); (case e4 => rfl); (case e5 => rfl); (case e6 => exact hbox); (case e7 => kernel_rfl); (case e8 => exact Nat.le_of_ble_eq_true rfl); (case e9 => kernel_rfl); (case e10 => first | kernel_rfl | rfl); intro w8 BN hg6))
  have hg5 := HG5.out
  clear HG5
  have hs1 := blk_lt BA
  have hs2 := HB.size
  have hs3 := hb.size
  have HF := Aside0.mk ((⟨blk_grown (blk_below (blk_below BA hb) hb2) hg6 (by intro e; injection e with e; omega), BN, b_put (below_step (below_step HB hb) hb2) hg6 (by omega), Kd.R_lower (r_put (Kd.R_below ho0 hb2) hbox (by decide) hg6) HB.size, Kd.R_lower (r_put (Kd.R_below ho1 hb2) hbox (by decide) hg6) HB.size, Kd.R_lower (r_put (Kd.R_below ho2 hb2) hbox (by decide) hg6) HB.size, Kd.R_lower (r_put (Kd.R_below ho3 hb2) hbox (by decide) hg6) HB.size⟩ : (fun W => W.heap[g1]? = some (.cells #[.int .i64 a0_0, .int .i64 a0_1, .int .i64 a0_2, .int .i64 a0_3, .int .i64 a0_4, .slice A0_5 l0_5.length c0_5, .int .i64 a0_6, .int .i64 a0_7, .int .i64 a0_8, .int .i64 a0_9, .int .i64 a0_10, .int .i64 a0_11, .int .i64 a0_12, .int .i64 a0_13, .bool a0_14, .slice A0_15 l0_15.length c0_15, .slice A0_16 l0_16.length c0_16, .slice A0_17 l0_17.length c0_17, .int .i64 a0_18, .int .i64 a0_19, .int .i64 a0_20] 35 (0, 0)) ∧ W.heap[g5]? = some (.cells #[.int .i64 t404, .int .i64 t405, .int .i64 t406, .int .i64 t407, .int .i64 t408, .slice X0 t409.length x0, .int .i64 t412, .int .i64 t413, .int .i64 t414, .int .i64 t415, .int .i64 t416, .int .i64 t417, .int .i64 t418, .int .i64 t419, .bool t420, .slice X1 t421.length x1, .slice X2 t424.length x2, .slice X3 t427.length x3, .int .i64 t430, .int .i64 t431, .int .i64 t432] 48 (0, 0)) ∧ Below w.heap.size w W ∧ Kd.R k71 71 W w.heap.size (fun _ => True) (.slice X0 t409.length x0) t409 ∧ Kd.R k104 104 W w.heap.size (fun _ => True) (.slice X1 t421.length x1) t421 ∧ Kd.R k137 137 W w.heap.size (fun _ => True) (.slice X2 t424.length x2) t424 ∧ Kd.R k63 63 W w.heap.size (fun _ => True) (.slice X3 t427.length x3) t427) w8))
  refine world_ (fun W => W.heap[g1]? = some (.cells #[.int .i64 a0_0, .int .i64 a0_1, .int .i64 a0_2, .int .i64 a0_3, .int .i64 a0_4, .slice A0_5 l0_5.length c0_5, .int .i64 a0_6, .int .i64 a0_7, .int .i64 a0_8, .int .i64 a0_9, .int .i64 a0_10, .int .i64 a0_11, .int .i64 a0_12, .int .i64 a0_13, .bool a0_14, .slice A0_15 l0_15.length c0_15, .slice A0_16 l0_16.length c0_16, .slice A0_17 l0_17.length c0_17, .int .i64 a0_18, .int .i64 a0_19, .int .i64 a0_20] 35 (0, 0)) ∧ W.heap[g5]? = some (.cells #[.int .i64 t404, .int .i64 t405, .int .i64 t406, .int .i64 t407, .int .i64 t408, .slice X0 t409.length x0, .int .i64 t412, .int .i64 t413, .int .i64 t414, .int .i64 t415, .int .i64 t416, .int .i64 t417, .int .i64 t418, .int .i64 t419, .bool t420, .slice X1 t421.length x1, .slice X2 t424.length x2, .slice X3 t427.length x3, .int .i64 t430, .int .i64 t431, .int .i64 t432] 48 (0, 0)) ∧ Below w.heap.size w W ∧ Kd.R k71 71 W w.heap.size (fun _ => True) (.slice X0 t409.length x0) t409 ∧ Kd.R k104 104 W w.heap.size (fun _ => True) (.slice X1 t421.length x1) t421 ∧ Kd.R k137 137 W w.heap.size (fun _ => True) (.slice X2 t424.length x2) t424 ∧ Kd.R k63 63 W w.heap.size (fun _ => True) (.slice X3 t427.length x3) t427) HF.out ?_
  clear HF
  rintro W ⟨BA, BX, HB, HO0, HO1, HO2, HO3⟩
  clear hg5 hs1 hs2 hs3 hbox BN hb hb2 hg6
  go_upto_region 8 with (first | ((with_reducible refine gate_dst (N := 17) rfl ?_); refine wpList_load_row rfl 48 (.tmp 5) rfl g5 rfl 48 #[.int .i64 t404, .int .i64 t405, .int .i64 t406, .int .i64 t407, .int .i64 t408, .slice X0 t409.length x0, .int .i64 t412, .int .i64 t413, .int .i64 t414, .int .i64 t415, .int .i64 t416, .int .i64 t417, .int .i64 t418, .int .i64 t419, .bool t420, .slice X1 t421.length x1, .slice X2 t424.length x2, .slice X3 t427.length x3, .int .i64 t430, .int .i64 t431, .int .i64 t432] (0, 0) _ BX Try.underlying48 rfl (by kernel_rfl) ?_) | (go_at_call 8; (with_reducible refine (impl_DeskOk.calls k t404 t405 t406 t407 t408 _ _ t409 t412 t413 t414 t415 t416 t417 t418 t419 t420 _ _ t421 _ _ t424 _ _ t427 t430 t431 t432 t434 _ ?side1 ?side2 ?side3 ?side4 ?side5 ?side6 ?side7 ?side8 A11.out).mono ?_); (case side1 => exact (Kd.R_reads' HO0).2.2); (case side2 => exact (Kd.R_reads' HO0).2.1); (case side3 => exact (Kd.R_reads' HO1).2.2); (case side4 => exact (Kd.R_reads' HO1).2.1); (case side5 => exact (Kd.R_reads' HO2).2.2); (case side6 => exact (Kd.R_reads' HO2).2.1); (case side7 => exact (Kd.R_reads' HO3).2.2); (case side8 => exact (Kd.R_reads' HO3).2.1); rintro e w5 ⟨rfl, hb⟩))
  have HF := Aside0.mk ((⟨blk_below BA hb, blk_below BX hb, below_step HB hb, Kd.R_below HO0 hb, Kd.R_below HO1 hb, Kd.R_below HO2 hb, Kd.R_below HO3 hb⟩ : (fun W => W.heap[g1]? = some (.cells #[.int .i64 a0_0, .int .i64 a0_1, .int .i64 a0_2, .int .i64 a0_3, .int .i64 a0_4, .slice A0_5 l0_5.length c0_5, .int .i64 a0_6, .int .i64 a0_7, .int .i64 a0_8, .int .i64 a0_9, .int .i64 a0_10, .int .i64 a0_11, .int .i64 a0_12, .int .i64 a0_13, .bool a0_14, .slice A0_15 l0_15.length c0_15, .slice A0_16 l0_16.length c0_16, .slice A0_17 l0_17.length c0_17, .int .i64 a0_18, .int .i64 a0_19, .int .i64 a0_20] 35 (0, 0)) ∧ W.heap[g5]? = some (.cells #[.int .i64 t404, .int .i64 t405, .int .i64 t406, .int .i64 t407, .int .i64 t408, .slice X0 t409.length x0, .int .i64 t412, .int .i64 t413, .int .i64 t414, .int .i64 t415, .int .i64 t416, .int .i64 t417, .int .i64 t418, .int .i64 t419, .bool t420, .slice X1 t421.length x1, .slice X2 t424.length x2, .slice X3 t427.length x3, .int .i64 t430, .int .i64 t431, .int .i64 t432] 48 (0, 0)) ∧ Below w.heap.size w W ∧ Kd.R k71 71 W w.heap.size (fun _ => True) (.slice X0 t409.length x0) t409 ∧ Kd.R k104 104 W w.heap.size (fun _ => True) (.slice X1 t421.length x1) t421 ∧ Kd.R k137 137 W w.heap.size (fun _ => True) (.slice X2 t424.length x2) t424 ∧ Kd.R k63 63 W w.heap.size (fun _ => True) (.slice X3 t427.length x3) t427) w5))
  refine world_ (fun W => W.heap[g1]? = some (.cells #[.int .i64 a0_0, .int .i64 a0_1, .int .i64 a0_2, .int .i64 a0_3, .int .i64 a0_4, .slice A0_5 l0_5.length c0_5, .int .i64 a0_6, .int .i64 a0_7, .int .i64 a0_8, .int .i64 a0_9, .int .i64 a0_10, .int .i64 a0_11, .int .i64 a0_12, .int .i64 a0_13, .bool a0_14, .slice A0_15 l0_15.length c0_15, .slice A0_16 l0_16.length c0_16, .slice A0_17 l0_17.length c0_17, .int .i64 a0_18, .int .i64 a0_19, .int .i64 a0_20] 35 (0, 0)) ∧ W.heap[g5]? = some (.cells #[.int .i64 t404, .int .i64 t405, .int .i64 t406, .int .i64 t407, .int .i64 t408, .slice X0 t409.length x0, .int .i64 t412, .int .i64 t413, .int .i64 t414, .int .i64 t415, .int .i64 t416, .int .i64 t417, .int .i64 t418, .int .i64 t419, .bool t420, .slice X1 t421.length x1, .slice X2 t424.length x2, .slice X3 t427.length x3, .int .i64 t430, .int .i64 t431, .int .i64 t432] 48 (0, 0)) ∧ Below w.heap.size w W ∧ Kd.R k71 71 W w.heap.size (fun _ => True) (.slice X0 t409.length x0) t409 ∧ Kd.R k104 104 W w.heap.size (fun _ => True) (.slice X1 t421.length x1) t421 ∧ Kd.R k137 137 W w.heap.size (fun _ => True) (.slice X2 t424.length x2) t424 ∧ Kd.R k63 63 W w.heap.size (fun _ => True) (.slice X3 t427.length x3) t427) HF.out ?_
  clear HF
  rintro W ⟨BA, BX, HB, HO0, HO1, HO2, HO3⟩
  go_upto_if 21 with (fail)
  have H := HC12.out
  clear HC12
  by_cases c30 : (t434 != t403) = true
  ·
   rw [if_pos c30] at H
   have c30b0 : (t434 != t403) = true := c30
   (try (have c30b1 : decide (t434 = t403) = false := by simpa using c30))
   (try (have c30b2 : (t434 == t403) = false := by simpa using c30))
   (try (have c30b3 : ¬ (t434 = t403) := by simpa using c30))
   clear c30
   (first | rw [c30b0] | rw [show (!(t434 == t403)) = _ from c30b0] | (simp only [i64_w, i32_w]; rw [c30b0]) | rw [c30b1] | skip)
   cases H.trans (congrArg some hr_)
  ·
   rw [if_neg c30] at H
   have c30b0 : (t434 != t403) = false := by simpa using c30
   (try (have c30b1 : decide (t434 = t403) = true := by simpa using c30))
   (try (have c30b2 : (t434 == t403) = true := by simpa using c30))
   clear c30
   (first | rw [c30b0] | rw [show (!(t434 == t403)) = _ from c30b0] | (simp only [i64_w, i32_w]; rw [c30b0]) | rw [c30b1] | skip)
   replace H := Option.bind_eq_some_iff.mp H
   obtain ⟨⟨t435, t436, t437, t438, t439, t440, t443, t444, t445, t446, t447, t448, t449, t450, t451, t452, t455, t458, t461, t462, t463⟩, A310, H⟩ := H
   replace H : ((laws_eqDesk.f k t404 t405 t406 t407 t408 t409 t412 t413 t414 t415 t416 t417 t418 t419 t420 t421 t424 t427 t430 t431 t432 t435 t436 t437 t438 t439 t440 t443 t444 t445 t446 t447 t448 t449 t450 t451 t452 t455 t458 t461 t462 t463).bind fun t464 => (if t464 = true then (some true) else (some false))) = some r := H
   have A31 := Aside0.mk A310
   clear A310
   replace H := Option.bind_eq_some_iff.mp H
   obtain ⟨t464, A320, H⟩ := H
   replace H : (if t464 = true then (some true) else (some false)) = some r := H
   have A32 := Aside0.mk A320
   clear A320
   have HC33 := Aside0.mk H
   clear H
   try go_wp2
   refine start_ (n := 5) (S := fun w' => w'.heap[g1]? = some (.cells #[.int .i64 a0_0, .int .i64 a0_1, .int .i64 a0_2, .int .i64 a0_3, .int .i64 a0_4, .slice A0_5 l0_5.length c0_5, .int .i64 a0_6, .int .i64 a0_7, .int .i64 a0_8, .int .i64 a0_9, .int .i64 a0_10, .int .i64 a0_11, .int .i64 a0_12, .int .i64 a0_13, .bool a0_14, .slice A0_15 l0_15.length c0_15, .slice A0_16 l0_16.length c0_16, .slice A0_17 l0_17.length c0_17, .int .i64 a0_18, .int .i64 a0_19, .int .i64 a0_20] 35 (0, 0)) ∧ w'.heap[g5]? = some (.cells #[.int .i64 t404, .int .i64 t405, .int .i64 t406, .int .i64 t407, .int .i64 t408, .slice X0 t409.length x0, .int .i64 t412, .int .i64 t413, .int .i64 t414, .int .i64 t415, .int .i64 t416, .int .i64 t417, .int .i64 t418, .int .i64 t419, .bool t420, .slice X1 t421.length x1, .slice X2 t424.length x2, .slice X3 t427.length x3, .int .i64 t430, .int .i64 t431, .int .i64 t432] 48 (0, 0))) (ds := []) m0_5 (by kernel_rfl) rfl rfl ⟨blk_drew BA, blk_drew BX⟩ (fun hHeld => ?_)
   have HF := Aside0.mk ((⟨blk_drew BA, blk_drew BX, below_drew1 HB, Kd.R_drew HO0, Kd.R_drew HO1, Kd.R_drew HO2, Kd.R_drew HO3⟩ : (fun W => W.heap[g1]? = some (.cells #[.int .i64 a0_0, .int .i64 a0_1, .int .i64 a0_2, .int .i64 a0_3, .int .i64 a0_4, .slice A0_5 l0_5.length c0_5, .int .i64 a0_6, .int .i64 a0_7, .int .i64 a0_8, .int .i64 a0_9, .int .i64 a0_10, .int .i64 a0_11, .int .i64 a0_12, .int .i64 a0_13, .bool a0_14, .slice A0_15 l0_15.length c0_15, .slice A0_16 l0_16.length c0_16, .slice A0_17 l0_17.length c0_17, .int .i64 a0_18, .int .i64 a0_19, .int .i64 a0_20] 35 (0, 0)) ∧ W.heap[g5]? = some (.cells #[.int .i64 t404, .int .i64 t405, .int .i64 t406, .int .i64 t407, .int .i64 t408, .slice X0 t409.length x0, .int .i64 t412, .int .i64 t413, .int .i64 t414, .int .i64 t415, .int .i64 t416, .int .i64 t417, .int .i64 t418, .int .i64 t419, .bool t420, .slice X1 t421.length x1, .slice X2 t424.length x2, .slice X3 t427.length x3, .int .i64 t430, .int .i64 t431, .int .i64 t432] 48 (0, 0)) ∧ Below w.heap.size w W ∧ Kd.R k71 71 W w.heap.size (fun _ => True) (.slice X0 t409.length x0) t409 ∧ Kd.R k104 104 W w.heap.size (fun _ => True) (.slice X1 t421.length x1) t421 ∧ Kd.R k137 137 W w.heap.size (fun _ => True) (.slice X2 t424.length x2) t424 ∧ Kd.R k63 63 W w.heap.size (fun _ => True) (.slice X3 t427.length x3) t427) _))
   refine land_ (fun W => W.heap[g1]? = some (.cells #[.int .i64 a0_0, .int .i64 a0_1, .int .i64 a0_2, .int .i64 a0_3, .int .i64 a0_4, .slice A0_5 l0_5.length c0_5, .int .i64 a0_6, .int .i64 a0_7, .int .i64 a0_8, .int .i64 a0_9, .int .i64 a0_10, .int .i64 a0_11, .int .i64 a0_12, .int .i64 a0_13, .bool a0_14, .slice A0_15 l0_15.length c0_15, .slice A0_16 l0_16.length c0_16, .slice A0_17 l0_17.length c0_17, .int .i64 a0_18, .int .i64 a0_19, .int .i64 a0_20] 35 (0, 0)) ∧ W.heap[g5]? = some (.cells #[.int .i64 t404, .int .i64 t405, .int .i64 t406, .int .i64 t407, .int .i64 t408, .slice X0 t409.length x0, .int .i64 t412, .int .i64 t413, .int .i64 t414, .int .i64 t415, .int .i64 t416, .int .i64 t417, .int .i64 t418, .int .i64 t419, .bool t420, .slice X1 t421.length x1, .slice X2 t424.length x2, .slice X3 t427.length x3, .int .i64 t430, .int .i64 t431, .int .i64 t432] 48 (0, 0)) ∧ Below w.heap.size w W ∧ Kd.R k71 71 W w.heap.size (fun _ => True) (.slice X0 t409.length x0) t409 ∧ Kd.R k104 104 W w.heap.size (fun _ => True) (.slice X1 t421.length x1) t421 ∧ Kd.R k137 137 W w.heap.size (fun _ => True) (.slice X2 t424.length x2) t424 ∧ Kd.R k63 63 W w.heap.size (fun _ => True) (.slice X3 t427.length x3) t427) HF.out ?_
   clear HF hHeld
   rintro W ⟨BA, BX, HB, HO0, HO1, HO2, HO3⟩
   refine take_ (i := 0) (N := some 22) (v := .agg #[.int .i64 t404, .int .i64 t405, .int .i64 t406, .int .i64 t407, .int .i64 t408, .slice X0 t409.length x0, .int .i64 t412, .int .i64 t413, .int .i64 t414, .int .i64 t415, .int .i64 t416, .int .i64 t417, .int .i64 t418, .int .i64 t419, .bool t420, .slice X1 t421.length x1, .slice X2 t424.length x2, .slice X3 t427.length x3, .int .i64 t430, .int .i64 t431, .int .i64 t432]) (a' := ?_) m1_5 rfl rfl (by kernel_rfl) (fun _ _ _ h => h) (Or.inl ⟨by rfl, fun w' hs => row_ rfl g5 rfl (hs.2) Try.underlying48 rfl (by kernel_rfl)⟩) ⟨BA, BX⟩ ?_ ?_
   rotate_left
   ·
    simp only [sp_]
    rfl
   refine take_ (i := 1) (N := some 23) (v := .agg #[.int .i64 a0_0, .int .i64 a0_1, .int .i64 a0_2, .int .i64 a0_3, .int .i64 a0_4, .slice A0_5 l0_5.length c0_5, .int .i64 a0_6, .int .i64 a0_7, .int .i64 a0_8, .int .i64 a0_9, .int .i64 a0_10, .int .i64 a0_11, .int .i64 a0_12, .int .i64 a0_13, .bool a0_14, .slice A0_15 l0_15.length c0_15, .slice A0_16 l0_16.length c0_16, .slice A0_17 l0_17.length c0_17, .int .i64 a0_18, .int .i64 a0_19, .int .i64 a0_20]) (a' := ?_) m2_5 rfl rfl (by kernel_rfl) (fun _ _ _ h => h) (Or.inl ⟨by rfl, fun w' hs => row_ rfl g1 rfl (hs.1) Try.underlying35 rfl (by kernel_rfl)⟩) ⟨BA, BX⟩ ?_ ?_
   rotate_left
   ·
    simp only [sp_]
    rfl
   refine one_ (i := 2) (N := some 24) m3_5 rfl rfl (by kernel_rfl) (by decide) (fun K hK => ?_)
   refine goes_ Try.func7 (by kernel_rfl) rfl #[.agg #[.int .i64 a0_0, .int .i64 a0_1, .int .i64 a0_2, .int .i64 a0_3, .int .i64 a0_4, .slice A0_5 l0_5.length c0_5, .int .i64 a0_6, .int .i64 a0_7, .int .i64 a0_8, .int .i64 a0_9, .int .i64 a0_10, .int .i64 a0_11, .int .i64 a0_12, .int .i64 a0_13, .bool a0_14, .slice A0_15 l0_15.length c0_15, .slice A0_16 l0_16.length c0_16, .slice A0_17 l0_17.length c0_17, .int .i64 a0_18, .int .i64 a0_19, .int .i64 a0_20]] (by rfl) rfl rfl (by (try simp only [am_]); first | done | rfl) ?_
   with_reducible refine (laws_toDesk.calls k a0_0 a0_1 a0_2 a0_3 a0_4 _ _ l0_5 a0_6 a0_7 a0_8 a0_9 a0_10 a0_11 a0_12 a0_13 a0_14 _ _ l0_15 _ _ l0_16 _ _ l0_17 a0_18 a0_19 a0_20 t435 t436 t437 t438 t439 t440 t443 t444 t445 t446 t447 t448 t449 t450 t451 t452 t455 t458 t461 t462 t463 _ ?side1 ?side2 ?side3 ?side4 ?side5 ?side6 ?side7 ?side8 A31.out).mono ?_
   (case side1 => exact Kd.C_below HR0_5.out HB)
   (case side2 => exact HC0_5.out)
   (case side3 => exact Kd.C_below HR0_15.out HB)
   (case side4 => exact HC0_15.out)
   (case side5 => exact Kd.C_below HR0_16.out HB)
   (case side6 => exact HC0_16.out)
   (case side7 => exact Kd.C_below HR0_17.out HB)
   (case side8 => exact HC0_17.out)
   rintro e w5 ⟨v0, v1, v2, v3, rfl, ho0, ho1, ho2, ho3, hb⟩
   refine ⟨_, rfl, ?_⟩
   obtain ⟨U0, u0, eo⟩ := Kd.R_slice ho0
   subst eo
   obtain ⟨U1, u1, eo⟩ := Kd.R_slice ho1
   subst eo
   obtain ⟨U2, u2, eo⟩ := Kd.R_slice ho2
   subst eo
   obtain ⟨U3, u3, eo⟩ := Kd.R_slice ho3
   subst eo
   have HF := Aside0.mk ((⟨blk_below BA hb, blk_below BX hb, below_step HB hb, Kd.R_below HO0 hb, Kd.R_below HO1 hb, Kd.R_below HO2 hb, Kd.R_below HO3 hb, Kd.R_lower ho0 HB.size, Kd.R_lower ho1 HB.size, Kd.R_lower ho2 HB.size, Kd.R_lower ho3 HB.size⟩ : (fun W => W.heap[g1]? = some (.cells #[.int .i64 a0_0, .int .i64 a0_1, .int .i64 a0_2, .int .i64 a0_3, .int .i64 a0_4, .slice A0_5 l0_5.length c0_5, .int .i64 a0_6, .int .i64 a0_7, .int .i64 a0_8, .int .i64 a0_9, .int .i64 a0_10, .int .i64 a0_11, .int .i64 a0_12, .int .i64 a0_13, .bool a0_14, .slice A0_15 l0_15.length c0_15, .slice A0_16 l0_16.length c0_16, .slice A0_17 l0_17.length c0_17, .int .i64 a0_18, .int .i64 a0_19, .int .i64 a0_20] 35 (0, 0)) ∧ W.heap[g5]? = some (.cells #[.int .i64 t404, .int .i64 t405, .int .i64 t406, .int .i64 t407, .int .i64 t408, .slice X0 t409.length x0, .int .i64 t412, .int .i64 t413, .int .i64 t414, .int .i64 t415, .int .i64 t416, .int .i64 t417, .int .i64 t418, .int .i64 t419, .bool t420, .slice X1 t421.length x1, .slice X2 t424.length x2, .slice X3 t427.length x3, .int .i64 t430, .int .i64 t431, .int .i64 t432] 48 (0, 0)) ∧ Below w.heap.size w W ∧ Kd.R k71 71 W w.heap.size (fun _ => True) (.slice X0 t409.length x0) t409 ∧ Kd.R k104 104 W w.heap.size (fun _ => True) (.slice X1 t421.length x1) t421 ∧ Kd.R k137 137 W w.heap.size (fun _ => True) (.slice X2 t424.length x2) t424 ∧ Kd.R k63 63 W w.heap.size (fun _ => True) (.slice X3 t427.length x3) t427 ∧ Kd.R k71 71 W w.heap.size (fun _ => True) (.slice U0 t440.length u0) t440 ∧ Kd.R k104 104 W w.heap.size (fun _ => True) (.slice U1 t452.length u1) t452 ∧ Kd.R k137 137 W w.heap.size (fun _ => True) (.slice U2 t455.length u2) t455 ∧ Kd.R k63 63 W w.heap.size (fun _ => True) (.slice U3 t458.length u3) t458) w5))
   refine hK.out _ _ ⟨blk_below BA hb, blk_below BX hb⟩ (fun hHeld => ?_)
   clear hK K hb ho0 ho1 ho2 ho3
   refine land_ (fun W => W.heap[g1]? = some (.cells #[.int .i64 a0_0, .int .i64 a0_1, .int .i64 a0_2, .int .i64 a0_3, .int .i64 a0_4, .slice A0_5 l0_5.length c0_5, .int .i64 a0_6, .int .i64 a0_7, .int .i64 a0_8, .int .i64 a0_9, .int .i64 a0_10, .int .i64 a0_11, .int .i64 a0_12, .int .i64 a0_13, .bool a0_14, .slice A0_15 l0_15.length c0_15, .slice A0_16 l0_16.length c0_16, .slice A0_17 l0_17.length c0_17, .int .i64 a0_18, .int .i64 a0_19, .int .i64 a0_20] 35 (0, 0)) ∧ W.heap[g5]? = some (.cells #[.int .i64 t404, .int .i64 t405, .int .i64 t406, .int .i64 t407, .int .i64 t408, .slice X0 t409.length x0, .int .i64 t412, .int .i64 t413, .int .i64 t414, .int .i64 t415, .int .i64 t416, .int .i64 t417, .int .i64 t418, .int .i64 t419, .bool t420, .slice X1 t421.length x1, .slice X2 t424.length x2, .slice X3 t427.length x3, .int .i64 t430, .int .i64 t431, .int .i64 t432] 48 (0, 0)) ∧ Below w.heap.size w W ∧ Kd.R k71 71 W w.heap.size (fun _ => True) (.slice X0 t409.length x0) t409 ∧ Kd.R k104 104 W w.heap.size (fun _ => True) (.slice X1 t421.length x1) t421 ∧ Kd.R k137 137 W w.heap.size (fun _ => True) (.slice X2 t424.length x2) t424 ∧ Kd.R k63 63 W w.heap.size (fun _ => True) (.slice X3 t427.length x3) t427 ∧ Kd.R k71 71 W w.heap.size (fun _ => True) (.slice U0 t440.length u0) t440 ∧ Kd.R k104 104 W w.heap.size (fun _ => True) (.slice U1 t452.length u1) t452 ∧ Kd.R k137 137 W w.heap.size (fun _ => True) (.slice U2 t455.length u2) t455 ∧ Kd.R k63 63 W w.heap.size (fun _ => True) (.slice U3 t458.length u3) t458) HF.out ?_
   clear HF hHeld
   rintro W ⟨BA, BX, HB, HO0, HO1, HO2, HO3, HU0, HU1, HU2, HU3⟩
   refine norm_ (a' := ?_) ?_ ?_
   rotate_left
   ·
    show Act.put _ (some 24) _ = _
    simp only [sp_]
    rfl
   refine one_ (i := 3) (N := some 25) m4_5 rfl rfl (by kernel_rfl) (by decide) (fun K hK => ?_)
   refine goes_ Try.func9 (by kernel_rfl) rfl #[.agg #[.int .i64 t404, .int .i64 t405, .int .i64 t406, .int .i64 t407, .int .i64 t408, .slice X0 t409.length x0, .int .i64 t412, .int .i64 t413, .int .i64 t414, .int .i64 t415, .int .i64 t416, .int .i64 t417, .int .i64 t418, .int .i64 t419, .bool t420, .slice X1 t421.length x1, .slice X2 t424.length x2, .slice X3 t427.length x3, .int .i64 t430, .int .i64 t431, .int .i64 t432], .agg #[.int .i64 t435, .int .i64 t436, .int .i64 t437, .int .i64 t438, .int .i64 t439, .slice U0 t440.length u0, .int .i64 t443, .int .i64 t444, .int .i64 t445, .int .i64 t446, .int .i64 t447, .int .i64 t448, .int .i64 t449, .int .i64 t450, .bool t451, .slice U1 t452.length u1, .slice U2 t455.length u2, .slice U3 t458.length u3, .int .i64 t461, .int .i64 t462, .int .i64 t463]] (by rfl) rfl rfl (by (try simp only [am_]); first | done | rfl) ?_
   with_reducible refine (laws_eqDesk.calls k t404 t405 t406 t407 t408 _ _ t409 t412 t413 t414 t415 t416 t417 t418 t419 t420 _ _ t421 _ _ t424 _ _ t427 t430 t431 t432 t435 t436 t437 t438 t439 _ _ t440 t443 t444 t445 t446 t447 t448 t449 t450 t451 _ _ t452 _ _ t455 _ _ t458 t461 t462 t463 t464 _ ?side1 ?side2 ?side3 ?side4 ?side5 ?side6 ?side7 ?side8 ?side9 ?side10 ?side11 ?side12 ?side13 ?side14 ?side15 ?side16 A32.out).mono ?_
   (case side1 => exact (Kd.R_reads' HO0).2.2)
   (case side2 => exact (Kd.R_reads' HO0).2.1)
   (case side3 => exact (Kd.R_reads' HO1).2.2)
   (case side4 => exact (Kd.R_reads' HO1).2.1)
   (case side5 => exact (Kd.R_reads' HO2).2.2)
   (case side6 => exact (Kd.R_reads' HO2).2.1)
   (case side7 => exact (Kd.R_reads' HO3).2.2)
   (case side8 => exact (Kd.R_reads' HO3).2.1)
   (case side9 => exact (Kd.R_reads' HU0).2.2)
   (case side10 => exact (Kd.R_reads' HU0).2.1)
   (case side11 => exact (Kd.R_reads' HU1).2.2)
   (case side12 => exact (Kd.R_reads' HU1).2.1)
   (case side13 => exact (Kd.R_reads' HU2).2.2)
   (case side14 => exact (Kd.R_reads' HU2).2.1)
   (case side15 => exact (Kd.R_reads' HU3).2.2)
   (case side16 => exact (Kd.R_reads' HU3).2.1)
   rintro e w5 ⟨rfl, hb⟩
   refine ⟨_, rfl, ?_⟩
   have HF := Aside0.mk ((⟨blk_below BA hb, below_step HB hb⟩ : (fun W => W.heap[g1]? = some (.cells #[.int .i64 a0_0, .int .i64 a0_1, .int .i64 a0_2, .int .i64 a0_3, .int .i64 a0_4, .slice A0_5 l0_5.length c0_5, .int .i64 a0_6, .int .i64 a0_7, .int .i64 a0_8, .int .i64 a0_9, .int .i64 a0_10, .int .i64 a0_11, .int .i64 a0_12, .int .i64 a0_13, .bool a0_14, .slice A0_15 l0_15.length c0_15, .slice A0_16 l0_16.length c0_16, .slice A0_17 l0_17.length c0_17, .int .i64 a0_18, .int .i64 a0_19, .int .i64 a0_20] 35 (0, 0)) ∧ Below w.heap.size w W) w5))
   refine hK.out _ _ ⟨blk_below BA hb, blk_below BX hb⟩ (fun hHeld => ?_)
   clear hK K hb
   refine land_ (fun W => W.heap[g1]? = some (.cells #[.int .i64 a0_0, .int .i64 a0_1, .int .i64 a0_2, .int .i64 a0_3, .int .i64 a0_4, .slice A0_5 l0_5.length c0_5, .int .i64 a0_6, .int .i64 a0_7, .int .i64 a0_8, .int .i64 a0_9, .int .i64 a0_10, .int .i64 a0_11, .int .i64 a0_12, .int .i64 a0_13, .bool a0_14, .slice A0_15 l0_15.length c0_15, .slice A0_16 l0_16.length c0_16, .slice A0_17 l0_17.length c0_17, .int .i64 a0_18, .int .i64 a0_19, .int .i64 a0_20] 35 (0, 0)) ∧ Below w.heap.size w W) HF.out ?_
   clear HF hHeld
   rintro W ⟨BA, HB⟩
   refine norm_ (a' := ?_) ?_ ?_
   rotate_left
   ·
    show Act.put _ (some 25) _ = _
    simp only [sp_]
    rfl
   refine pure_ (i := 4) (N := some 26) (v := ?_) (a' := ?_) m5_5 rfl rfl (by kernel_rfl) (fun _ _ _ h => h) (Or.inl ⟨by rfl, ?_⟩) ?_ ?_
   rotate_left
   ·
    intro w'
    go_simp
    with_reducible rfl
   rotate_left
   ·
    simp only [sp_]
    rfl
   refine done_ (by kernel_rfl) ?_
   go_upto_if 26 with (fail)
   have H := HC33.out
   clear HC33
   by_cases c41 : t464 = true
   ·
    subst c41
    have H1 : (some true) = some r := by rw [if_pos rfl] at H; exact H
    clear H
    have H := H1
    clear H1
    obtain rfl := Option.some.inj H
    go_wp2
    go_ret
    exact ⟨rfl, HB⟩
   ·
    replace c41 := Bool.eq_false_iff.mpr c41
    subst c41
    have H1 : (some false) = some r := by rw [if_neg (show ¬ (false = true) by decide)] at H; exact H
    clear H
    have H := H1
    clear H1
    cases H.trans (congrArg some hr_)
end Go.Proofs.Ytljceaggilpgbaa.PFnExactDeskOk
