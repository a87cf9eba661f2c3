-- Written by a program of this session (wip/xprint.py) out of the translation; Lean checks it.
import Derived.Test.YtlkphaahkhfgoaaPFnWindowsx0
import Derived.Test.YtlkphaahkhfgoaaPFnWindowsx1
namespace Go.Proofs.Ytlkphaahkhfgoaa.PFnWindows
open Go.RowKit Go.Proofs.YtlkphaahkhfgoaaW.PrintWords Go.Proofs.YtlkphaahkhfgoaaW.PrintLast Go.Proofs.YtlkphaahkhfgoaaW.PrintMore Go.Proofs.Ytlkphaahkhfgoaa.Sq
attribute [local go_sem] max2_int min2_int max_two min_two max_three min_three max_four min_four   -- for this text's walks alone
set_option linter.unusedVariables false
set_option linter.unusedSimpArgs false

/-! ### impl_Share: function 17 -/
mutual
def impl_Share.j0 : Nat → Bool → Int → Int → List (S62) → Int → Option (Int × Int × Bool)
 | 0, _, _, _, _, _ => none
 | k + 1, x24, x123000, x123001, x123002, x124000 => if x24 = true then (some (0, 0, false)) else ((impl_Window_45.f x123002).bind fun t126 => ((slices_DeleteFunc_Share_1.f t126 x124000).bind fun t129 => (if (t129.length : Int) = 0 then (some (0, x123000, true)) else (if 0 ≤ (wrap64 ((t129.length : Int) - 1)) then (if (wrap64 ((t129.length : Int) - 1)) < (t129.length : Int) then (impl_Share.l0 k 0 (wrap64 ((wrap64 (((rd_T62 t129 (wrap64 ((t129.length : Int) - 1))).f1) + ((rd_T62 t129 (wrap64 ((t129.length : Int) - 1))).f2))) - x123000)) 0 t129 (t129.length : Int) 0) else (none)) else (none)))))
def impl_Share.l0 : Nat → Int → Int → Int → List (S62) → Int → Int → Option (Int × Int × Bool)
 | 0, _, _, _, _, _, _ => none
 | k + 1, x8, x10, x11, x49, x50, x51 => if x51 < x50 then (if 0 ≤ x51 then (if x51 < (x49.length : Int) then (impl_Share.l0 k (wrap64 (x8 + ((rd_T62 x49 x51).f2))) (wrap64 (((rd_T62 x49 x51).f1) + ((rd_T62 x49 x51).f2))) (mx x11 (wrap64 (((rd_T62 x49 x51).f1) - x10))) x49 x50 (wrap64 (x51 + 1))) else (none)) else (none)) else (some (x8, x11, true))
end
def impl_Share.f (k : Nat) (a0_0 : Int) (a0_1 : Int) (l0_2 : List (S62)) (a1 : Int) : Option (Int × Int × Bool) := (impl_PlanOk.f k a0_0 a0_1 l0_2).bind fun t124 => (if t124 = true then ((impl_in.f a1 0 (wrap64 (a0_1 - 1))).bind fun t125 => (impl_Share.j0 k (!t125) a0_0 a0_1 l0_2 a1)) else (impl_Share.j0 k true a0_0 a0_1 l0_2 a1))
theorem impl_Share.mono_l : ∀ k, (∀ y0 y1 y2 y3 y4, LeO (impl_Share.j0 k y0 y1 y2 y3 y4) (impl_Share.j0 (k + 1) y0 y1 y2 y3 y4)) ∧ (∀ y0 y1 y2 y3 y4 y5, LeO (impl_Share.l0 k y0 y1 y2 y3 y4 y5) (impl_Share.l0 (k + 1) y0 y1 y2 y3 y4 y5))
 | 0 => ⟨fun _ _ _ _ _ r h => by simp [impl_Share.j0] at h, fun _ _ _ _ _ _ r h => by simp [impl_Share.l0] at h⟩
 | k + 1 => by
  obtain ⟨ih0, ih1⟩ := impl_Share.mono_l k
  refine ⟨?_, ?_⟩
  ·
   intro y0 y1 y2 y3 y4
   unfold impl_Share.j0
   repeat' first
   | (with_reducible exact ih0 _ _ _ _ _)
   | (with_reducible exact ih1 _ _ _ _ _ _)
   | (with_reducible exact impl_PlanOk.mono _ _ _ _)
   | (with_reducible exact LeO.refl _)
   | (with_reducible exact LeO.none _)
   | (with_reducible refine LeO.ite ?_ ?_)
   | (with_reducible refine LeO.bind ?_ (fun _ => ?_))
   | exact ih0 _ _ _ _ _
   | exact ih1 _ _ _ _ _ _
   | exact impl_PlanOk.mono _ _ _ _
   | exact LeO.none _
   | refine LeO.ite ?_ ?_
   | refine LeO.bind ?_ (fun _ => ?_)
  ·
   intro y0 y1 y2 y3 y4 y5
   unfold impl_Share.l0
   repeat' first
   | (with_reducible exact ih0 _ _ _ _ _)
   | (with_reducible exact ih1 _ _ _ _ _ _)
   | (with_reducible exact impl_PlanOk.mono _ _ _ _)
   | (with_reducible exact LeO.refl _)
   | (with_reducible exact LeO.none _)
   | (with_reducible refine LeO.ite ?_ ?_)
   | (with_reducible refine LeO.bind ?_ (fun _ => ?_))
   | exact ih0 _ _ _ _ _
   | exact ih1 _ _ _ _ _ _
   | exact impl_PlanOk.mono _ _ _ _
   | exact LeO.none _
   | refine LeO.ite ?_ ?_
   | refine LeO.bind ?_ (fun _ => ?_)
theorem impl_Share.mono : ∀ a0 a1 a2 a3 k, LeO (impl_Share.f k a0 a1 a2 a3) (impl_Share.f (k + 1) a0 a1 a2 a3) := by
 intro a0 a1 a2 a3 k
 obtain ⟨ih0, ih1⟩ := impl_Share.mono_l k
 unfold impl_Share.f
 repeat' first
   | (with_reducible exact ih0 _ _ _ _ _)
   | (with_reducible exact ih1 _ _ _ _ _ _)
   | (with_reducible exact impl_PlanOk.mono _ _ _ _)
   | (with_reducible exact LeO.refl _)
   | (with_reducible exact LeO.none _)
   | (with_reducible refine LeO.ite ?_ ?_)
   | (with_reducible refine LeO.bind ?_ (fun _ => ?_))
   | exact ih0 _ _ _ _ _
   | exact ih1 _ _ _ _ _ _
   | exact impl_PlanOk.mono _ _ _ _
   | exact LeO.none _
   | refine LeO.ite ?_ ?_
   | refine LeO.bind ?_ (fun _ => ?_)
def impl_Share.T6 : Bool × List (List Nat × List Nat) := (true, [([], []), ([], []), ([1], [1]), ([2], [2]), ([0, 3], [0, 3]), ([4], [4]), ([], []), ([6], []), ([6, 5, 7, 0, 1, 2, 3, 4, 5, 6, 7], [5, 6])])
def impl_Share.B6 : List Nat := [0, 0, 2, 6, 15, 31, 0, 64, 255]
theorem impl_Share.tab6 : rtab .any (opsOf Try.f17 6) = impl_Share.T6 := by kernel_rfl
theorem impl_Share.bits6 : waitsOk impl_Share.T6.2 impl_Share.B6 = true := by kernel_rfl
def impl_Share.T11 : Bool × List (List Nat × List Nat) := (true, [([], []), ([], []), ([1], [1]), ([0, 2], [0, 2]), ([], []), ([], []), ([5], [5]), ([], []), ([6, 7], [6, 7]), ([4, 8], [4, 8]), ([], []), ([10], [10]), ([], []), ([12], [12]), ([11, 13], [11, 13]), ([3, 0, 1, 2, 3], [0, 3]), ([9, 15, 0, 1, 2, 3, 4, 5, 6, 7, 8, 9, 15], [4, 9]), ([14, 16, 0, 1, 2, 3, 4, 5, 6, 7, 8, 9, 10, 11, 12, 13, 14, 15, 16], [7, 14])])
def impl_Share.B11 : List Nat := [0, 0, 2, 7, 0, 0, 32, 0, 224, 496, 0, 1024, 0, 4096, 15360, 15, 33791, 131071]
theorem impl_Share.tab11 : rtab .any (opsOf Try.f17 11) = impl_Share.T11 := by kernel_rfl
theorem impl_Share.bits11 : waitsOk impl_Share.T11.2 impl_Share.B11 = true := by kernel_rfl
set_option maxHeartbeats 8000000 in
set_option maxRecDepth 100000 in
theorem impl_Share.calls (k : Nat) (a0_0 : Int) (a0_1 : Int) (A0_2 : Option Addr) (c0_2 : Nat) (l0_2 : List (S62)) (a1 : Int) (r1 : Int) (r2 : Int) (r3 : Bool) (w : World) (hr0_2 : Kd.C k62 w A0_2 l0_2.length l0_2) (hc0_2 : l0_2.length ≤ c0_2) (h : impl_Share.f k a0_0 a0_1 l0_2 a1 = some (r1, r2, r3)) :
  Calls Try.prog 17 #[.agg #[.int .i64 a0_0, .int .i64 a0_1, .slice A0_2 l0_2.length c0_2], .int .i64 a1] w fun e w' => e = .returned (.tuple #[.int .i64 r1, .int .i64 r2, .bool r3]) ∧ Below w.heap.size w w' := by
 have hu29 := Try.underlying29
 have hu62 := Try.underlying62
 have HR0_2 := Aside0.mk hr0_2
 have HC0_2 := Aside0.mk hc0_2
 clear hr0_2 hc0_2
 have HB := Aside0.mk (Below.refl w.heap.size w)
 have H : ((impl_PlanOk.f k a0_0 a0_1 l0_2).bind fun t124 => (if t124 = true then ((impl_in.f a1 0 (wrap64 (a0_1 - 1))).bind fun t125 => (impl_Share.j0 k (!t125) a0_0 a0_1 l0_2 a1)) else (impl_Share.j0 k true a0_0 a0_1 l0_2 a1))) = some (r1, r2, r3) := h
 clear h
 have HC3 := Aside0.mk H
 clear H
 go_enter Try.func17, Try.ntmps17
 go_upto_region 1 with (first | ((with_reducible refine gate_dst (N := 2) rfl ?_); refine box_event ?hg (N := 2) ?hd (cs := #[.int .i64 a0_0, .int .i64 a0_1, .slice A0_2 l0_2.length c0_2]) (t := 29) ?hr ?_; (case hd => rfl); (case hg => rfl); (case hr => first | (go_simp; done) | (go_simp; rfl)); intro gb122 hg w4 hbox hb; have BK122 := Aside0.mk (hbox); have GW122 := Aside0.mk ((by rw [hg]; exact (below_size (bl HB.out)) : w.heap.size ≤ gb122)); have GE122 := GW122; replace HB := Aside0.mk (below_step (bl HB.out) hb); clear hb hbox hg) | ((with_reducible refine gate_dst (N := 3) rfl ?_); refine box_event ?hg (N := 3) ?hd (cs := #[.int .i64 a1]) (t := 3) ?hr ?_; (case hd => rfl); (case hg => rfl); (case hr => first | (go_simp; done) | (go_simp; rfl)); intro gb123 hg w5 hbox hb; have BK123 := Aside0.mk (hbox); have GW123 := Aside0.mk ((by rw [hg]; exact (below_size (by repeat with_reducible first | exact bl HB.out | refine below_set ?_ GE122.out | refine bq ?_)) : w.heap.size ≤ gb123)); have GE123 := GW123; replace HB := Aside0.mk (below_step (by repeat with_reducible first | exact bl HB.out | refine below_set ?_ GE122.out | refine bq ?_) hb); have NB122_123 := nb_ hg BK122.out; have NB123_122 := Aside0.mk NB122_123.out.symm; replace BK122 := Aside0.mk (blk_below (bk BK122.out) hb); clear hb hbox hg))
 (try simp only [Act.put, List.setIfInBounds_toArray, List.set_cons_zero, List.set_cons_succ])
 go_cut [24] (fun v24 wc => ∃ (kq : Nat) (x24_2 : Bool), v24 = .bool x24_2 ∧ Aside0 (impl_Share.j0 kq x24_2 a0_0 a0_1 l0_2 a1 = some (r1, r2, r3)) ∧ Aside0 (kq ≤ k) ∧ Aside0 (wc.heap[gb122]? = some (.cells #[.int .i64 a0_0, .int .i64 a0_1, (.slice A0_2 l0_2.length c0_2)] 29 (0, 0))) ∧ Aside0 (wc.heap[gb123]? = some (.cells #[.int .i64 a1] 3 (0, 0))) ∧ Aside0 (Below w.heap.size w wc))
 case first =>
  have H := HC3.out
  clear HC3
  replace H := Option.bind_eq_some_iff.mp H
  obtain ⟨t124, A60, H⟩ := H
  replace H : (if t124 = true then ((impl_in.f a1 0 (wrap64 (a0_1 - 1))).bind fun t125 => (impl_Share.j0 k (!t125) a0_0 a0_1 l0_2 a1)) else (impl_Share.j0 k true a0_0 a0_1 l0_2 a1)) = some (r1, r2, r3) := H
  have A6 := Aside0.mk A60
  clear A60
  by_cases c7 : t124 = true
  ·
   subst c7
   have H1 : ((impl_in.f a1 0 (wrap64 (a0_1 - 1))).bind fun t125 => (impl_Share.j0 k (!t125) a0_0 a0_1 l0_2 a1)) = some (r1, r2, r3) := by rw [if_pos rfl] at H; exact H
   clear H
   have H := H1
   clear H1
   replace H := Option.bind_eq_some_iff.mp H
   obtain ⟨t125, A80, H⟩ := H
   replace H : (impl_Share.j0 k (!t125) a0_0 a0_1 l0_2 a1) = some (r1, r2, r3) := H
   have A8 := Aside0.mk A80
   clear A80
   have H' := Aside0.mk H
   clear H
   have hnb9 := NB122_123.out
   have hnc9 := NB123_122.out
   obtain ⟨hcz10_0, hcz10_1, hcz10_2⟩ := ck3 BK122.out
   obtain ⟨hfz10_0, hfz10_1, hfz10_2⟩ := fz3 BK122.out
   go_wp2_with (first | ((with_reducible refine gate_callee (f := 12) rfl ?_); refine goesL_ (some 15) rfl rfl Try.func12 (by kernel_rfl) rfl #[.agg #[.int .i64 a0_0, .int .i64 a0_1, .slice A0_2 l0_2.length c0_2]] rfl (by (try simp only [am_]); first | done | rfl) ?_; (with_reducible refine (impl_PlanOk.calls k a0_0 a0_1 _ _ l0_2 true _ ?side1 ?side2 A6.out).mono ?_); (case side1 => exact rc (Kd.C_below HR0_2.out HB.out)); (case side2 => exact HC0_2.out); rintro e w11 ⟨rfl, hb⟩; refine ⟨_, rfl, ?_⟩; replace BK122 := Aside0.mk (blk_below (bk BK122.out) hb); replace BK123 := Aside0.mk (blk_below (bk BK123.out) hb); replace HB := Aside0.mk (below_step (by repeat with_reducible first | exact bl HB.out | refine below_set ?_ GE122.out | refine below_set ?_ GE123.out | refine bq ?_) hb); (try clear hb); (try clear hb2); (try clear hk); (try clear hi); have hcz12_0 := ck (v := .int .i64 a1) BK123.out 0 rfl; have hfz12_0 := blk_frozen BK123.out 0; obtain ⟨hcz13_0, hcz13_1, hcz13_2⟩ := ck3 BK122.out; obtain ⟨hfz13_0, hfz13_1, hfz13_2⟩ := fz3 BK122.out) | (go_at_call 38; (with_reducible refine (impl_in.calls a1 0 (wrap64 (a0_1 - 1)) t125 _ A8.out).mono ?_); rintro e w' ⟨rfl, ⟨nd, rfl⟩⟩))
   go_meet
   case rel => exact ⟨_, (!t125), (by first | rfl | (simp; done) | (simp [*]; done)), H', ⟨by first | omega | exact Nat.le_refl _⟩, ⟨bk BK122.out⟩, ⟨bk BK123.out⟩, ⟨by repeat with_reducible first | exact bl HB.out | refine below_set ?_ GE122.out | refine below_set ?_ GE123.out | refine bq ?_⟩⟩
  ·
   replace c7 := Bool.eq_false_iff.mpr c7
   subst c7
   have H1 : (impl_Share.j0 k true a0_0 a0_1 l0_2 a1) = some (r1, r2, r3) := by rw [if_neg (show ¬ (false = true) by decide)] at H; exact H
   clear H
   have H := H1
   clear H1
   have H' := Aside0.mk H
   clear H
   have hnb14 := NB122_123.out
   have hnc14 := NB123_122.out
   obtain ⟨hcz15_0, hcz15_1, hcz15_2⟩ := ck3 BK122.out
   obtain ⟨hfz15_0, hfz15_1, hfz15_2⟩ := fz3 BK122.out
   go_wp2_with (first | ((with_reducible refine gate_callee (f := 12) rfl ?_); refine goesL_ (some 15) rfl rfl Try.func12 (by kernel_rfl) rfl #[.agg #[.int .i64 a0_0, .int .i64 a0_1, .slice A0_2 l0_2.length c0_2]] rfl (by (try simp only [am_]); first | done | rfl) ?_; (with_reducible refine (impl_PlanOk.calls k a0_0 a0_1 _ _ l0_2 false _ ?side1 ?side2 A6.out).mono ?_); (case side1 => exact rc (Kd.C_below HR0_2.out HB.out)); (case side2 => exact HC0_2.out); rintro e w16 ⟨rfl, hb⟩; refine ⟨_, rfl, ?_⟩; replace BK122 := Aside0.mk (blk_below (bk BK122.out) hb); replace BK123 := Aside0.mk (blk_below (bk BK123.out) hb); replace HB := Aside0.mk (below_step (by repeat with_reducible first | exact bl HB.out | refine below_set ?_ GE122.out | refine below_set ?_ GE123.out | refine bq ?_) hb); (try clear hb); (try clear hb2); (try clear hk); (try clear hi)))
   go_meet
   case rel => exact ⟨_, (true), (by first | rfl | (simp; done) | (simp [*]; done)), H', ⟨by first | omega | exact Nat.le_refl _⟩, ⟨bk BK122.out⟩, ⟨bk BK123.out⟩, ⟨by repeat with_reducible first | exact bl HB.out | refine below_set ?_ GE122.out | refine below_set ?_ GE123.out | refine bq ?_⟩⟩
 case rest =>
  clear HC3
  try clear c1
  try clear p2
  try clear p6
  try clear c7
  try clear c9
  try clear c12
  try clear c14
  try clear hcz10_0 hcz10_1 hcz10_2 hfz10_0 hfz10_1 hfz10_2
  try clear hcz12_0 hfz12_0
  try clear hcz13_0 hcz13_1 hcz13_2 hfz13_0 hfz13_1 hfz13_2
  try clear hcz15_0 hcz15_1 hcz15_2 hfz15_0 hfz15_1 hfz15_2
  (try clear BK122); (try clear BK123); obtain ⟨kq, x24_2, rfl, HA, HJ2, BK122, BK123, HB⟩ := hcut
  cases kq with
  | zero => exact absurd HA.out (by simp [impl_Share.j0])
  | succ kj2 =>
   have H := HA.out
   clear HA
   simp only [impl_Share.j0] at H
   by_cases c17 : x24_2 = true
   ·
    subst c17
    have H1 : (some (0, 0, false)) = some (r1, r2, r3) := by rw [if_pos rfl] at H; exact H
    clear H
    have H := H1
    clear H1
    simp only [Option.some.injEq, Prod.mk.injEq] at H
    obtain ⟨rfl, rfl, rfl⟩ := H
    go_wp2
    go_ret3
    exact ⟨by first | rfl | (simp [errW_none, errW_some] <;> rfl) | (simp [*, errW_none, errW_some] <;> rfl), by repeat with_reducible first | exact bl HB.out | refine below_set ?_ GE122.out | refine below_set ?_ GE123.out | refine bq ?_⟩
   ·
    replace c17 := Bool.eq_false_iff.mpr c17
    subst c17
    have H1 : ((impl_Window_45.f l0_2).bind fun t126 => ((slices_DeleteFunc_Share_1.f t126 a1).bind fun t129 => (if (t129.length : Int) = 0 then (some (0, a0_0, true)) else (if 0 ≤ (wrap64 ((t129.length : Int) - 1)) then (if (wrap64 ((t129.length : Int) - 1)) < (t129.length : Int) then (impl_Share.l0 kj2 0 (wrap64 ((wrap64 (((rd_T62 t129 (wrap64 ((t129.length : Int) - 1))).f1) + ((rd_T62 t129 (wrap64 ((t129.length : Int) - 1))).f2))) - a0_0)) 0 t129 (t129.length : Int) 0) else (none)) else (none))))) = some (r1, r2, r3) := by rw [if_neg (show ¬ (false = true) by decide)] at H; exact H
    clear H
    have H := H1
    clear H1
    replace H := Option.bind_eq_some_iff.mp H
    obtain ⟨t126, A180, H⟩ := H
    replace H : ((slices_DeleteFunc_Share_1.f t126 a1).bind fun t129 => (if (t129.length : Int) = 0 then (some (0, a0_0, true)) else (if 0 ≤ (wrap64 ((t129.length : Int) - 1)) then (if (wrap64 ((t129.length : Int) - 1)) < (t129.length : Int) then (impl_Share.l0 kj2 0 (wrap64 ((wrap64 (((rd_T62 t129 (wrap64 ((t129.length : Int) - 1))).f1) + ((rd_T62 t129 (wrap64 ((t129.length : Int) - 1))).f2))) - a0_0)) 0 t129 (t129.length : Int) 0) else (none)) else (none)))) = some (r1, r2, r3) := H
    have A18 := Aside0.mk A180
    clear A180
    replace H := Option.bind_eq_some_iff.mp H
    obtain ⟨t129, A190, H⟩ := H
    replace H : (if (t129.length : Int) = 0 then (some (0, a0_0, true)) else (if 0 ≤ (wrap64 ((t129.length : Int) - 1)) then (if (wrap64 ((t129.length : Int) - 1)) < (t129.length : Int) then (impl_Share.l0 kj2 0 (wrap64 ((wrap64 (((rd_T62 t129 (wrap64 ((t129.length : Int) - 1))).f1) + ((rd_T62 t129 (wrap64 ((t129.length : Int) - 1))).f2))) - a0_0)) 0 t129 (t129.length : Int) 0) else (none)) else (none))) = some (r1, r2, r3) := H
    have A19 := Aside0.mk A190
    clear A190
    by_cases c20 : (t129.length : Int) = 0
    ·
     rw [if_pos c20] at H
     have c20b0 : ((t129.length : Int) == 0) = true := beq_iff_eq.mpr c20
     have c20b1 : ((t129.length : Int) != 0) = false := bne_eq_false_iff_eq.mpr c20
     clear c20
     simp only [Option.some.injEq, Prod.mk.injEq] at H
     obtain ⟨rfl, rfl, rfl⟩ := H
     have hnb21 := NB122_123.out
     have hnc21 := NB123_122.out
     obtain ⟨hcz22_0, hcz22_1, hcz22_2⟩ := ck3 BK122.out
     obtain ⟨hfz22_0, hfz22_1, hfz22_2⟩ := fz3 BK122.out
     try go_wp2_with (first | ((with_reducible refine gate_callee (f := 45) rfl ?_); refine goesL_ (some 27) rfl rfl Try.func45 (by kernel_rfl) rfl #[.slice A0_2 l0_2.length c0_2] rfl (by (try simp only [am_]); first | done | rfl) ?_; (with_reducible refine (impl_Window_45.calls _ _ l0_2 t126 _ ?side1 ?side2 A18.out).mono ?_); (case side1 => exact rc (Kd.C_below HR0_2.out HB.out)); (case side2 => exact HC0_2.out); rintro e w23 ⟨v127, rfl, ho0, hb⟩; refine ⟨_, rfl, ?_⟩; have HO128 := Aside0.mk (Kd.R_lower ho0 (below_size (by repeat with_reducible first | exact bl HB.out | refine below_set ?_ GE122.out | refine below_set ?_ GE123.out | refine bq ?_))); replace BK122 := Aside0.mk (blk_below (bk BK122.out) hb); replace BK123 := Aside0.mk (blk_below (bk BK123.out) hb); replace HB := Aside0.mk (below_step (by repeat with_reducible first | exact bl HB.out | refine below_set ?_ GE122.out | refine below_set ?_ GE123.out | refine bq ?_) hb); (try clear hb); (try clear hb2); (try clear hk); (try clear hi); (try clear ho0); obtain ⟨Ao24, co24, eo24⟩ := Kd.R_slice HO128.out; subst eo24) | ((with_reducible refine gate_callee (f := 44) rfl ?_); refine goesL_ (some 29) rfl rfl Try.func44 (by kernel_rfl) rfl #[.slice Ao24 t126.length co24, .func (.func 46) #[] #[.pointer (some ⟨gb123, 0, none⟩)]] rfl (by (try simp only [am_]); first | done | rfl) ?_; (with_reducible refine (slices_DeleteFunc_Share_1.calls (fun k_ => some k_ = (.slice Ao24 t126.length co24 : Value).ownBlock) (.slice Ao24 t126.length co24) t126 a1 t129 w _ ?side1 ?side2 ?side3 A19.out).mono ?_); (case side1 => exact (bk BK123.out)); (case side2 => repeat (first | (with_reducible first | exact HB.out | apply below_alloc | apply pw_below_drewN | apply below_drew1 | refine below_set ?_ GE122.out | refine below_set ?_ GE123.out) | exact HB.out)); (case side3 => exact Kd.R_tight rfl HO128.out); rintro e w25 ⟨v130, rfl, ho0, hb, hkp⟩; refine ⟨_, rfl, ?_⟩; replace BK122 := Aside0.mk (blk_kept (bk BK122.out) hkp (fun hs_ => (fun e_ => (Kd.R_ne HO128.out BK122.out (by decide)) e_) hs_)); replace BK123 := Aside0.mk (blk_kept (bk BK123.out) hkp (fun hs_ => (fun e_ => (Kd.R_ne HO128.out BK123.out (by decide)) e_) hs_)); have HO131 := Aside0.mk (Kd.R_mono (ok' := fun k_ => True) ho0 (fun k_ hk_ => trivial)); replace HB := Aside0.mk (hb); clear HO128; (try clear hb); (try clear hkp); (try clear ho0); obtain ⟨Ao26, co26, eo26⟩ := Kd.R_slice HO131.out; subst eo26))
     have n0_ := Aside0.mk (Kd.R_drew HO131.out)
     have n1_ := Aside0.mk (blk_drew BK122.out)
     have n2_ := Aside0.mk (blk_drew BK123.out)
     have n3_ := Aside0.mk (below_drew1 HB.out)
     clear HO131
     clear BK122
     clear BK123
     clear HB
     have HO131 := n0_
     have BK122 := n1_
     have BK123 := n2_
     have HB := n3_
     clear n0_ n1_ n2_ n3_
     refine start_ (n := 5) (S := fun w' => w'.cell? ⟨gb122, 0, none⟩ = some (.int .i64 a0_0) ∧ w'.cell? ⟨gb122, 1, none⟩ = some (.int .i64 a0_1) ∧ w'.cell? ⟨gb122, 2, none⟩ = some (.slice A0_2 l0_2.length c0_2)) (ds := []) m0_5 (by kernel_rfl) rfl rfl ⟨ck BK122.out 0 rfl, ck BK122.out 1 rfl, ck BK122.out 2 rfl⟩ (fun hHeld => ?_)
     generalize w25.drew = w27 at HO131 BK122 BK123 HB hHeld ⊢
     refine pure_ (i := 0) (N := some 33) (v := ?_) (a' := ?_) m1_5 rfl rfl (by kernel_rfl) (fun _ _ _ h => h) (Or.inl ⟨by rfl, ?_⟩) ?_ ?_
     rotate_left
     ·
      intro w'
      go_simp
      with_reducible rfl
     rotate_left
     ·
      simp only [sp_]
      rfl
     refine pure_ (i := 2) (N := some 4) (v := ?_) (a' := ?_) n27 rfl rfl (by kernel_rfl) (fun _ _ _ h => h) (Or.inl ⟨by rfl, ?_⟩) ?_ ?_
     rotate_left
     ·
      intro w'
      go_simp
      with_reducible rfl
     rotate_left
     ·
      simp only [sp_]
      rfl
     refine take_ (i := 1) (N := some 34) (v := ?_) (a' := ?_) m3_5 rfl rfl (by kernel_rfl) (fun _ _ _ h => h) (Or.inl ⟨by rfl, ?_⟩) hHeld ?_ ?_
     rotate_left
     ·
      rintro w' ⟨s0, s1, s2⟩
      go_simp
      with_reducible rfl
     rotate_left
     ·
      simp only [sp_]
      rfl
     refine pure_ (i := 3) (N := some 5) (v := ?_) (a' := ?_) m4_5 rfl rfl (by kernel_rfl) (fun _ _ _ h => h) (Or.inl ⟨by rfl, ?_⟩) ?_ ?_
     rotate_left
     ·
      intro w'
      go_simp
      with_reducible rfl
     rotate_left
     ·
      simp only [sp_]
      rfl
     refine pure_ (i := 4) (N := some 6) (v := ?_) (a' := ?_) m5_5 rfl rfl (by kernel_rfl) (fun _ _ _ h => h) (Or.inl ⟨by rfl, ?_⟩) ?_ ?_
     rotate_left
     ·
      intro w'
      go_simp
      with_reducible rfl
     rotate_left
     ·
      simp only [sp_]
      rfl
     refine done_ (by kernel_rfl) ?_
     try go_wp2
     go_ret3
     exact ⟨by first | rfl | (simp [errW_none, errW_some] <;> rfl) | (simp [*, errW_none, errW_some] <;> rfl), by repeat with_reducible first | exact bl HB.out | refine below_set ?_ GE122.out | refine below_set ?_ GE123.out | refine bq ?_⟩
    ·
     rw [if_neg c20] at H
     have c20b0 : ((t129.length : Int) == 0) = false := beq_eq_false_iff_ne.mpr c20
     have c20b1 : ((t129.length : Int) != 0) = true := bne_iff_ne.mpr c20
     have c20b2 : ¬ (t129 = []) := fun h_ => c20 (by rw [h_]; rfl)
     obtain ⟨ji28, hji28⟩ : ∃ j_ : Int, (wrap64 ((t129.length : Int) - 1)) = j_ := ⟨_, rfl⟩
     replace H : (if 0 ≤ (ji28) then (if (ji28) < (t129.length : Int) then (impl_Share.l0 kj2 0 (wrap64 ((wrap64 (((rd_T62 t129 (ji28)).f1) + ((rd_T62 t129 (ji28)).f2))) - a0_0)) 0 t129 (t129.length : Int) 0) else (none)) else (none)) = some (r1, r2, r3) := by first | (rw [hji28] at H; exact H) | (simp only [hji28] at H ⊢; exact H)
     (try rw [hji28] at A18)
     (try rw [hji28] at A19)
     have hji28w : (IntKind.i64.wrap ((t129.length : Int) - 1)) = ji28 := (i64_w _).trans hji28
     by_cases c29 : 0 ≤ (ji28)
     ·
      rw [if_pos c29] at H
      have c29b0 : decide (0 ≤ (ji28)) = true := decide_eq_true c29
      clear c29
      by_cases c30 : (ji28) < (t129.length : Int)
      ·
       rw [if_pos c30] at H
       have c30b0 : decide ((ji28) < (t129.length : Int)) = true := decide_eq_true c30
       clear c30
       have H' := Aside0.mk H
       clear H
       have hnb31 := NB122_123.out
       have hnc31 := NB123_122.out
       obtain ⟨hcz32_0, hcz32_1, hcz32_2⟩ := ck3 BK122.out
       obtain ⟨hfz32_0, hfz32_1, hfz32_2⟩ := fz3 BK122.out
       try go_wp2_with (first | ((with_reducible refine gate_callee (f := 45) rfl ?_); refine goesL_ (some 27) rfl rfl Try.func45 (by kernel_rfl) rfl #[.slice A0_2 l0_2.length c0_2] rfl (by (try simp only [am_]); first | done | rfl) ?_; (with_reducible refine (impl_Window_45.calls _ _ l0_2 t126 _ ?side1 ?side2 A18.out).mono ?_); (case side1 => exact rc (Kd.C_below HR0_2.out HB.out)); (case side2 => exact HC0_2.out); rintro e w33 ⟨v127, rfl, ho0, hb⟩; refine ⟨_, rfl, ?_⟩; have HO128 := Aside0.mk (Kd.R_lower ho0 (below_size (by repeat with_reducible first | exact bl HB.out | refine below_set ?_ GE122.out | refine below_set ?_ GE123.out | refine bq ?_))); replace BK122 := Aside0.mk (blk_below (bk BK122.out) hb); replace BK123 := Aside0.mk (blk_below (bk BK123.out) hb); replace HB := Aside0.mk (below_step (by repeat with_reducible first | exact bl HB.out | refine below_set ?_ GE122.out | refine below_set ?_ GE123.out | refine bq ?_) hb); (try clear hb); (try clear hb2); (try clear hk); (try clear hi); (try clear ho0); obtain ⟨Ao34, co34, eo34⟩ := Kd.R_slice HO128.out; subst eo34) | ((with_reducible refine gate_callee (f := 44) rfl ?_); refine goesL_ (some 29) rfl rfl Try.func44 (by kernel_rfl) rfl #[.slice Ao34 t126.length co34, .func (.func 46) #[] #[.pointer (some ⟨gb123, 0, none⟩)]] rfl (by (try simp only [am_]); first | done | rfl) ?_; (with_reducible refine (slices_DeleteFunc_Share_1.calls (fun k_ => some k_ = (.slice Ao34 t126.length co34 : Value).ownBlock) (.slice Ao34 t126.length co34) t126 a1 t129 w _ ?side1 ?side2 ?side3 A19.out).mono ?_); (case side1 => exact (bk BK123.out)); (case side2 => repeat (first | (with_reducible first | exact HB.out | apply below_alloc | apply pw_below_drewN | apply below_drew1 | refine below_set ?_ GE122.out | refine below_set ?_ GE123.out) | exact HB.out)); (case side3 => exact Kd.R_tight rfl HO128.out); rintro e w35 ⟨v130, rfl, ho0, hb, hkp⟩; refine ⟨_, rfl, ?_⟩; replace BK122 := Aside0.mk (blk_kept (bk BK122.out) hkp (fun hs_ => (fun e_ => (Kd.R_ne HO128.out BK122.out (by decide)) e_) hs_)); replace BK123 := Aside0.mk (blk_kept (bk BK123.out) hkp (fun hs_ => (fun e_ => (Kd.R_ne HO128.out BK123.out (by decide)) e_) hs_)); have HO131 := Aside0.mk (Kd.R_mono (ok' := fun k_ => True) ho0 (fun k_ hk_ => trivial)); replace HB := Aside0.mk (hb); clear HO128; (try clear hb); (try clear hkp); (try clear ho0); obtain ⟨Ao36, co36, eo36⟩ := Kd.R_slice HO131.out; subst eo36))
       have n0_ := Aside0.mk (Kd.R_drew HO131.out)
       have n1_ := Aside0.mk (blk_drew BK122.out)
       have n2_ := Aside0.mk (blk_drew BK123.out)
       have n3_ := Aside0.mk (below_drew1 HB.out)
       clear HO131
       clear BK122
       clear BK123
       clear HB
       have HO131 := n0_
       have BK122 := n1_
       have BK123 := n2_
       have HB := n3_
       clear n0_ n1_ n2_ n3_
       have p132 : 0 ≤ ((ji28) : Int) := of_decide_eq_true (by first | (with_reducible assumption) | assumption)
       have q132 : (ji28) < (t129.length : Int) := of_decide_eq_true (by first | (with_reducible assumption) | assumption)
       obtain ⟨ad132, e132, hx132_0, hx132_1, hx132_2⟩ := at_T62 (Kd.R_reads' HO131.out).2.2 (ji28) p132 q132
       cases e132
       replace p132 := eq_true p132
       replace q132 := eq_true q132
       refine start_ (n := 9) (S := fun w' => w'.cell? (ad132.add (((ji28)).toNat * 3)) = some (.int .i64 ((rd_T62 t129 (ji28)).f0)) ∧ w'.cell? ⟨(ad132.add (((ji28)).toNat * 3)).block, (ad132.add (((ji28)).toNat * 3)).off + 1, none⟩ = some (.int .i64 ((rd_T62 t129 (ji28)).f1)) ∧ w'.cell? ⟨(ad132.add (((ji28)).toNat * 3)).block, (ad132.add (((ji28)).toNat * 3)).off + 2, none⟩ = some (.int .i64 ((rd_T62 t129 (ji28)).f2))) (ds := []) m0_9 (by kernel_rfl) rfl rfl ⟨hx132_0, hx132_1, hx132_2⟩ (fun hHeld => ?_); refine with_tabW impl_Share.tab6 impl_Share.bits6 (fun HT_ HW_ => ?_)
       generalize w35.drew = w37 at HO131 BK122 BK123 HB hx132_0 hx132_1 hx132_2 hHeld ⊢
       refine pq_ HT_.out 0 35 m1_9 ?_
       refine pq_ HT_.out 1 36 m2_9 ?_
       refine pq_ HT_.out 2 37 m3_9 ?_
       refine pq_ HT_.out 3 38 m4_9 ?_
       refine pq_ HT_.out 4 39 m5_9 ?_
       refine tk_ HT_.out HW_.out 5 40 m6_9 rfl rfl (by kernel_rfl) (by rfl) (by rintro w' ⟨s0, s1, s2⟩; go_simp; with_reducible rfl) hHeld (by simp only [sp_]; rfl) (fun _ _ _ h => h) ?_
       refine one_ (i := 6) (N := some 9) m7_9 rfl rfl (one_of HT_.out (by kernel_rfl)) (by decide) (fun K hK => ?_)
       refine box_step ?hg (N := 9) ?hd (cs := #[.int .i64 0, .int .i64 0, .int .i64 0]) (t := 62) ?hr ?_; (case hd => rfl); (case hg => rfl); (case hr => first | (go_simp; done) | (go_simp; rfl))
       intro gb133 hg w38 hbox hb
       have HS0_ := (hb.cell (World.block_lt_of_cell? _ _ (hHeld.1))).trans (hHeld.1)
       have HS1_ := (hb.cell (World.block_lt_of_cell? _ _ (hHeld.2.1))).trans (hHeld.2.1)
       have HS2_ := (hb.cell (World.block_lt_of_cell? _ _ (hHeld.2.2))).trans (hHeld.2.2)
       have n0_ := Aside0.mk (Kd.R_below (Kd.R_elderB (rl HO131.out) gb133 (Nat.le_of_eq hg.symm)) hb)
       have n1_ := Aside0.mk (blk_below (bk BK122.out) hb)
       have n2_ := Aside0.mk (blk_below (bk BK123.out) hb)
       have n3_ := Aside0.mk (below_step (by repeat with_reducible first | exact bl HB.out | refine below_set ?_ GE122.out | refine below_set ?_ GE123.out | refine bq ?_) hb)
       have n4_ := Aside0.mk (hbox)
       have n5_ := Aside0.mk ((by rw [hg]; exact (below_size (by repeat with_reducible first | exact bl HB.out | refine below_set ?_ GE122.out | refine below_set ?_ GE123.out | refine bq ?_)) : w.heap.size ≤ gb133))
       have n6_ := Aside0.mk ((by rw [hg]; exact (below_size (by repeat with_reducible first | exact bl HB.out | refine below_set ?_ GE122.out | refine below_set ?_ GE123.out | refine bq ?_)) : w.heap.size ≤ gb133))
       have n7_ := Aside0.mk ((by rw [hg]; exact Nat.ne_of_lt (blk_lt (g := gb122) (o := .cells #[.int .i64 a0_0, .int .i64 a0_1, .slice A0_2 l0_2.length c0_2] 29 (0, 0)) (bk BK122.out)) : gb122 ≠ gb133))
       have n8_ := Aside0.mk ((by rw [hg]; exact Nat.ne_of_gt (blk_lt (g := gb122) (o := .cells #[.int .i64 a0_0, .int .i64 a0_1, .slice A0_2 l0_2.length c0_2] 29 (0, 0)) (bk BK122.out)) : gb133 ≠ gb122))
       have n9_ := Aside0.mk ((by rw [hg]; exact Nat.ne_of_lt (blk_lt (g := gb123) (o := .cells #[.int .i64 a1] 3 (0, 0)) (bk BK123.out)) : gb123 ≠ gb133))
       have n10_ := Aside0.mk ((by rw [hg]; exact Nat.ne_of_gt (blk_lt (g := gb123) (o := .cells #[.int .i64 a1] 3 (0, 0)) (bk BK123.out)) : gb133 ≠ gb123))
       clear HO131
       clear BK122
       clear BK123
       clear HB
       have HO131 := n0_
       have BK122 := n1_
       have BK123 := n2_
       have HB := n3_
       have BK133 := n4_
       have GW133 := n5_
       have GE133 := n6_
       have NB122_133 := n7_
       have NB133_122 := n8_
       have NB123_133 := n9_
       have NB133_123 := n10_
       clear n0_ n1_ n2_ n3_ n4_ n5_ n6_ n7_ n8_ n9_ n10_
       clear hb hbox hg
       refine hK.out _ _ ⟨HS0_, HS1_, HS2_⟩ (fun hHeld => ?_)
       clear hK K
       refine norm_ (a' := ?_) ?_ ?_
       rotate_left
       ·
        show Act.put _ (some 9) _ = _
        simp only [sp_]
        rfl
       refine pq_ HT_.out 7 8 m8_9 ?_
       refine one_ (i := 8) (N := none) m9_9 rfl rfl (one_of HT_.out (by kernel_rfl)) (by decide) (fun K hK => ?_)
       have hs39 : w38.cell? ⟨gb133, 0, none⟩ = some (.int .i64 0) := ck BK133.out 0 rfl
       have hfs39 := blk_frozen BK133.out 0
       have hns39_0 := NB122_133.out
       have hns39_1 := NB123_133.out
       have hms39_0 := NB133_122.out
       have hms39_1 := NB133_123.out
       have hs40 : w38.cell? ⟨gb133, 1, none⟩ = some (.int .i64 0) := ck BK133.out 1 rfl
       have hfs40 := blk_frozen BK133.out 1
       have hns40_0 := NB122_133.out
       have hns40_1 := NB123_133.out
       have hms40_0 := NB133_122.out
       have hms40_1 := NB133_123.out
       have hs41 : w38.cell? ⟨gb133, 2, none⟩ = some (.int .i64 0) := ck BK133.out 2 rfl
       have hfs41 := blk_frozen BK133.out 2
       have hns41_0 := NB122_133.out
       have hns41_1 := NB123_133.out
       have hms41_0 := NB133_122.out
       have hms41_1 := NB133_123.out
       refine skip_ (w1 := ?_) (by rfl) rfl ?_ ?_
       rotate_left
       ·
        go_simp
        rfl
       refine hK.out _ _ ⟨((cell_far (p := ⟨gb133, _, none⟩) (by first | exact Kd.own_blk (Kd.R_away HO131.out (fun _ hk => hk.2)) | (rw [add_block]; exact Kd.own_blk (Kd.R_away HO131.out (fun _ hk => hk.2))) | (show (Addr.add _ _).block ≠ _; rw [add_block]; exact Kd.own_blk (Kd.R_away HO131.out (fun _ hk => hk.2))) | (dsimp only; exact Kd.own_blk (Kd.R_away HO131.out (fun _ hk => hk.2)))) _).trans (((cell_far (p := ⟨gb133, _, none⟩) (by first | exact Kd.own_blk (Kd.R_away HO131.out (fun _ hk => hk.2)) | (rw [add_block]; exact Kd.own_blk (Kd.R_away HO131.out (fun _ hk => hk.2))) | (show (Addr.add _ _).block ≠ _; rw [add_block]; exact Kd.own_blk (Kd.R_away HO131.out (fun _ hk => hk.2))) | (dsimp only; exact Kd.own_blk (Kd.R_away HO131.out (fun _ hk => hk.2)))) _).trans (((cell_far (p := ⟨gb133, _, none⟩) (by first | exact Kd.own_blk (Kd.R_away HO131.out (fun _ hk => hk.2)) | (rw [add_block]; exact Kd.own_blk (Kd.R_away HO131.out (fun _ hk => hk.2))) | (show (Addr.add _ _).block ≠ _; rw [add_block]; exact Kd.own_blk (Kd.R_away HO131.out (fun _ hk => hk.2))) | (dsimp only; exact Kd.own_blk (Kd.R_away HO131.out (fun _ hk => hk.2)))) _).trans (hHeld.1)))))), ((cell_far (p := ⟨gb133, _, none⟩) (by first | exact Kd.own_blk (Kd.R_away HO131.out (fun _ hk => hk.2)) | (rw [add_block]; exact Kd.own_blk (Kd.R_away HO131.out (fun _ hk => hk.2))) | (show (Addr.add _ _).block ≠ _; rw [add_block]; exact Kd.own_blk (Kd.R_away HO131.out (fun _ hk => hk.2))) | (dsimp only; exact Kd.own_blk (Kd.R_away HO131.out (fun _ hk => hk.2)))) _).trans (((cell_far (p := ⟨gb133, _, none⟩) (by first | exact Kd.own_blk (Kd.R_away HO131.out (fun _ hk => hk.2)) | (rw [add_block]; exact Kd.own_blk (Kd.R_away HO131.out (fun _ hk => hk.2))) | (show (Addr.add _ _).block ≠ _; rw [add_block]; exact Kd.own_blk (Kd.R_away HO131.out (fun _ hk => hk.2))) | (dsimp only; exact Kd.own_blk (Kd.R_away HO131.out (fun _ hk => hk.2)))) _).trans (((cell_far (p := ⟨gb133, _, none⟩) (by first | exact Kd.own_blk (Kd.R_away HO131.out (fun _ hk => hk.2)) | (rw [add_block]; exact Kd.own_blk (Kd.R_away HO131.out (fun _ hk => hk.2))) | (show (Addr.add _ _).block ≠ _; rw [add_block]; exact Kd.own_blk (Kd.R_away HO131.out (fun _ hk => hk.2))) | (dsimp only; exact Kd.own_blk (Kd.R_away HO131.out (fun _ hk => hk.2)))) _).trans (hHeld.2.1)))))), ((cell_far (p := ⟨gb133, _, none⟩) (by first | exact Kd.own_blk (Kd.R_away HO131.out (fun _ hk => hk.2)) | (rw [add_block]; exact Kd.own_blk (Kd.R_away HO131.out (fun _ hk => hk.2))) | (show (Addr.add _ _).block ≠ _; rw [add_block]; exact Kd.own_blk (Kd.R_away HO131.out (fun _ hk => hk.2))) | (dsimp only; exact Kd.own_blk (Kd.R_away HO131.out (fun _ hk => hk.2)))) _).trans (((cell_far (p := ⟨gb133, _, none⟩) (by first | exact Kd.own_blk (Kd.R_away HO131.out (fun _ hk => hk.2)) | (rw [add_block]; exact Kd.own_blk (Kd.R_away HO131.out (fun _ hk => hk.2))) | (show (Addr.add _ _).block ≠ _; rw [add_block]; exact Kd.own_blk (Kd.R_away HO131.out (fun _ hk => hk.2))) | (dsimp only; exact Kd.own_blk (Kd.R_away HO131.out (fun _ hk => hk.2)))) _).trans (((cell_far (p := ⟨gb133, _, none⟩) (by first | exact Kd.own_blk (Kd.R_away HO131.out (fun _ hk => hk.2)) | (rw [add_block]; exact Kd.own_blk (Kd.R_away HO131.out (fun _ hk => hk.2))) | (show (Addr.add _ _).block ≠ _; rw [add_block]; exact Kd.own_blk (Kd.R_away HO131.out (fun _ hk => hk.2))) | (dsimp only; exact Kd.own_blk (Kd.R_away HO131.out (fun _ hk => hk.2)))) _).trans (hHeld.2.2))))))⟩ (fun hHeld => ?_)
       clear hK K
       refine done_ (done_of HT_.out (by kernel_rfl)) ?_
       have hnb42 := NB133_122.out
       have hnc42 := NB122_133.out
       have hnb43 := NB133_123.out
       have hnc43 := NB123_133.out
       obtain ⟨hcz44_0, hcz44_1, hcz44_2⟩ := ck3 BK133.out
       obtain ⟨hfz44_0, hfz44_1, hfz44_2⟩ := fz3 BK133.out
       obtain ⟨hcz45_0, hcz45_1, hcz45_2⟩ := ck3 BK122.out
       obtain ⟨hfz45_0, hfz45_1, hfz45_2⟩ := fz3 BK122.out
       try go_wp2
       go_loopg [8, 10, 11, 51] kj2 (fun kq v8 v10 v11 v51 w' => ∃ (x8_2 : Int) (x10_2 : Int) (x11_2 : Int) (x51_2 : Int), v8 = .int .i64 x8_2 ∧ v10 = .int .i64 x10_2 ∧ v11 = .int .i64 x11_2 ∧ v51 = .int .i64 x51_2 ∧ Aside0 (impl_Share.l0 kq x8_2 x10_2 x11_2 t129 (t129.length : Int) x51_2 = some (r1, r2, r3)) ∧ Aside0 (kq ≤ kj2) ∧ Aside0 (Kd.R k62 62 w' w.heap.size (fun k_ => k_ ≠ gb133) (.slice (some ad132) t129.length co36) t129) ∧ Aside0 (w'.heap[gb122]? = some (.cells #[.int .i64 a0_0, .int .i64 a0_1, (.slice A0_2 l0_2.length c0_2)] 29 (0, 0))) ∧ Aside0 (w'.heap[gb123]? = some (.cells #[.int .i64 a1] 3 (0, 0))) ∧ Aside0 (w'.heap[gb133]? = some (.cells #[.int .i64 ((rd_T62 t129 (ji28)).f0), .int .i64 ((rd_T62 t129 (ji28)).f1), .int .i64 ((rd_T62 t129 (ji28)).f2)] 62 (0, 0))) ∧ Aside0 (Below w.heap.size w w'))
       case atStart => exact ⟨(0), (wrap64 ((wrap64 (((rd_T62 t129 (ji28)).f1) + ((rd_T62 t129 (ji28)).f2))) - a0_0)), (0), (0), (by first | rfl | (simp; done) | (simp [*]; done)), (by first | rfl | (simp; done) | (simp only [← hji28] <;> (first | rfl | simp)) | (simp [*]; done)), (by first | rfl | (simp; done) | (simp [*]; done)), (by first | rfl | (simp; done) | (simp [*]; done)), H', ⟨Nat.le_refl _⟩, ⟨by (repeat apply rl1); exact Kd.R_mono (Kd.R_far (p := ⟨gb133, 2, none⟩) (Kd.R_far (p := ⟨gb133, 1, none⟩) (Kd.R_far (p := ⟨gb133, 0, none⟩) (Kd.R_mono HO131.out (fun k_ hk => (⟨hk, hk.2⟩ : _ ∧ k_ ≠ gb133))) (fun _ hk => hk.2) (.int .i64 ((rd_T62 t129 (ji28)).f0))) (fun _ hk => hk.2) (.int .i64 ((rd_T62 t129 (ji28)).f1))) (fun _ hk => hk.2) (.int .i64 ((rd_T62 t129 (ji28)).f2))) (fun _ hk => hk.1.2)⟩, ⟨by (repeat refine bk1 ?_); refine blk_far ?_ NB122_133.out _; (repeat refine bk1 ?_); refine blk_far ?_ NB122_133.out _; (repeat refine bk1 ?_); refine blk_far ?_ NB122_133.out _; (repeat refine bk1 ?_); exact BK122.out⟩, ⟨by (repeat refine bk1 ?_); refine blk_far ?_ NB123_133.out _; (repeat refine bk1 ?_); refine blk_far ?_ NB123_133.out _; (repeat refine bk1 ?_); refine blk_far ?_ NB123_133.out _; (repeat refine bk1 ?_); exact BK123.out⟩, ⟨by (repeat refine bk1 ?_); refine blk_put (cs := #[.int .i64 ((rd_T62 t129 (ji28)).f0), .int .i64 ((rd_T62 t129 (ji28)).f1), .int .i64 0]) ?_ 2 _ rfl; (repeat refine bk1 ?_); refine blk_put (cs := #[.int .i64 ((rd_T62 t129 (ji28)).f0), .int .i64 0, .int .i64 0]) ?_ 1 _ rfl; (repeat refine bk1 ?_); refine blk_put (cs := #[.int .i64 0, .int .i64 0, .int .i64 0]) ?_ 0 _ rfl; (repeat refine bk1 ?_); exact BK133.out⟩, ⟨by repeat with_reducible first | exact bl HB.out | refine below_set ?_ GE122.out | refine below_set ?_ GE123.out | refine below_set ?_ GE133.out | refine bq ?_⟩⟩
       case round =>
        clear H'
        try clear c1
        try clear p1
        try clear q1
        try clear hx1
        try clear c2
        try clear p2
        try clear c3
        try clear c4
        try clear p6
        try clear c7
        try clear c9
        try clear c12
        try clear p13
        try clear q13
        try clear hx13
        try clear c14
        try clear c17
        try clear c20
        try clear c20b0
        try clear c20b1
        try clear c20b2
        try clear c21
        try clear c29
        try clear c29b0
        try clear c30
        try clear c30b0
        try clear c31
        try clear c42
        try clear c43
        try clear c45
        try clear hcz10_0 hcz10_1 hcz10_2 hfz10_0 hfz10_1 hfz10_2
        try clear hcz12_0 hfz12_0
        try clear hcz13_0 hcz13_1 hcz13_2 hfz13_0 hfz13_1 hfz13_2
        try clear hcz15_0 hcz15_1 hcz15_2 hfz15_0 hfz15_1 hfz15_2
        try clear hcz22_0 hcz22_1 hcz22_2 hfz22_0 hfz22_1 hfz22_2
        try clear hcz32_0 hcz32_1 hcz32_2 hfz32_0 hfz32_1 hfz32_2
        try clear hcz44_0 hcz44_1 hcz44_2 hfz44_0 hfz44_1 hfz44_2
        try clear hcz45_0 hcz45_1 hcz45_2 hfz45_0 hfz45_1 hfz45_2
        try clear hx132_0
        try clear hx132_1
        try clear hx132_2
        try clear p132
        try clear p2
        try clear p6
        try clear q132
        (try clear BK122); (try clear BK123); (try clear BK133); obtain ⟨x8_2, x10_2, x11_2, x51_2, rfl, rfl, rfl, rfl, HA, HK2, HO_49, BK122, BK123, BK133, HB⟩ := hrel
        cases gk with
        | zero => exact absurd HA.out (by simp [impl_Share.l0])
        | succ k2 =>
         have H := HA.out
         clear HA
         simp only [impl_Share.l0] at H
         by_cases c46 : x51_2 < (t129.length : Int)
         ·
          rw [if_pos c46] at H
          have c46b0 : decide (x51_2 < (t129.length : Int)) = true := decide_eq_true c46
          clear c46
          by_cases c47 : 0 ≤ x51_2
          ·
           rw [if_pos c47] at H
           have c47b0 : decide (0 ≤ x51_2) = true := decide_eq_true c47
           clear c47
           by_cases c48 : x51_2 < (t129.length : Int)
           ·
            rw [if_pos c48] at H
            have c48b0 : decide (x51_2 < (t129.length : Int)) = true := decide_eq_true c48
            clear c48
            obtain ⟨ji49, hji49⟩ : ∃ j_ : Int, (mx x11_2 (wrap64 (((rd_T62 t129 x51_2).f1) - x10_2))) = j_ := ⟨_, rfl⟩
            replace H : (impl_Share.l0 k2 (wrap64 (x8_2 + ((rd_T62 t129 x51_2).f2))) (wrap64 (((rd_T62 t129 x51_2).f1) + ((rd_T62 t129 x51_2).f2))) ji49 t129 (t129.length : Int) (wrap64 (x51_2 + 1))) = some (r1, r2, r3) := by first | (rw [hji49] at H; exact H) | (simp only [hji49] at H ⊢; exact H)
            have hji49_ : (if x11_2 < (wrap64 (((rd_T62 t129 x51_2).f1) - x10_2)) then (wrap64 (((rd_T62 t129 x51_2).f1) - x10_2)) else x11_2) = ji49 := hji49
            have H' := Aside0.mk H
            clear H
            have p134 : 0 ≤ (x51_2 : Int) := of_decide_eq_true (by first | (with_reducible assumption) | assumption)
            have q134 : x51_2 < (t129.length : Int) := of_decide_eq_true (by first | (with_reducible assumption) | assumption)
            obtain ⟨ad134, e134, hx134_0, hx134_1, hx134_2⟩ := at_T62 (Kd.R_reads' HO_49.out).2.2 x51_2 p134 q134
            obtain rfl : ad132 = ad134 := (by injection e134)
            replace p134 := eq_true p134
            replace q134 := eq_true q134
            try go_wp2_with (first | ((with_reducible refine gate_dst (N := 13) rfl ?_); refine box_event ?hg (N := 13) ?hd (cs := #[.int .i64 0, .int .i64 0, .int .i64 0]) (t := 62) ?hr ?_; (case hd => rfl); (case hg => rfl); (case hr => first | (go_simp; done) | (go_simp; rfl)); intro gb135 hg w50 hbox hb; replace HO_49 := Aside0.mk (Kd.R_below (Kd.R_elderB (rl HO_49.out) gb135 (Nat.le_of_eq hg.symm)) hb); have BK135 := Aside0.mk (hbox); have GW135 := Aside0.mk ((by rw [hg]; exact (below_size (by repeat with_reducible first | exact bl HB.out | refine below_set ?_ GE122.out | refine below_set ?_ GE123.out | refine below_set ?_ GE133.out | refine bq ?_)) : w.heap.size ≤ gb135)); have GE135 := GW135; replace HB := Aside0.mk (below_step (by repeat with_reducible first | exact bl HB.out | refine below_set ?_ GE122.out | refine below_set ?_ GE123.out | refine below_set ?_ GE133.out | refine bq ?_) hb); have NB122_135 := nb_ hg BK122.out; have NB135_122 := Aside0.mk NB122_135.out.symm; replace BK122 := Aside0.mk (blk_below (bk BK122.out) hb); have NB123_135 := nb_ hg BK123.out; have NB135_123 := Aside0.mk NB123_135.out.symm; replace BK123 := Aside0.mk (blk_below (bk BK123.out) hb); have NB133_135 := nb_ hg BK133.out; have NB135_133 := Aside0.mk NB133_135.out.symm; replace BK133 := Aside0.mk (blk_below (bk BK133.out) hb); clear hb hbox hg; have hnb51 := NB135_122.out; have hnc51 := NB122_135.out; have hnb52 := NB135_123.out; have hnc52 := NB123_135.out; have hnb53 := NB135_133.out; have hnc53 := NB133_135.out; obtain ⟨hcz54_0, hcz54_1, hcz54_2⟩ := ck3 BK135.out; obtain ⟨hfz54_0, hfz54_1, hfz54_2⟩ := fz3 BK135.out))
            have n0_ : Aside0 (Kd.R k62 62 (((w50.setCell ⟨gb135, 0, none⟩ (.int .i64 ((rd_T62 t129 x51_2).f0))).setCell ⟨gb135, 1, none⟩ (.int .i64 ((rd_T62 t129 x51_2).f1))).setCell ⟨gb135, 2, none⟩ (.int .i64 ((rd_T62 t129 x51_2).f2))) w.heap.size (fun k_ => k_ ≠ gb133 ∧ k_ ≠ gb135) (.slice (some ad132) t129.length co36) t129) := ⟨by (repeat apply rl1); exact Kd.R_mono (Kd.R_far (p := ⟨gb135, 2, none⟩) (Kd.R_far (p := ⟨gb135, 1, none⟩) (Kd.R_far (p := ⟨gb135, 0, none⟩) (Kd.R_mono HO_49.out (fun k_ hk => (⟨hk, hk.2⟩ : _ ∧ k_ ≠ gb135))) (fun _ hk => hk.2) (.int .i64 ((rd_T62 t129 x51_2).f0))) (fun _ hk => hk.2) (.int .i64 ((rd_T62 t129 x51_2).f1))) (fun _ hk => hk.2) (.int .i64 ((rd_T62 t129 x51_2).f2))) (fun _ hk => ⟨hk.1.1, hk.1.2⟩)⟩
            have n1_ : Aside0 ((((w50.setCell ⟨gb135, 0, none⟩ (.int .i64 ((rd_T62 t129 x51_2).f0))).setCell ⟨gb135, 1, none⟩ (.int .i64 ((rd_T62 t129 x51_2).f1))).setCell ⟨gb135, 2, none⟩ (.int .i64 ((rd_T62 t129 x51_2).f2))).heap[gb122]? = some (.cells #[.int .i64 a0_0, .int .i64 a0_1, .slice A0_2 l0_2.length c0_2] 29 (0, 0))) := ⟨by (repeat refine bk1 ?_); refine blk_far ?_ NB122_135.out _; (repeat refine bk1 ?_); refine blk_far ?_ NB122_135.out _; (repeat refine bk1 ?_); refine blk_far ?_ NB122_135.out _; (repeat refine bk1 ?_); exact BK122.out⟩
            have n2_ : Aside0 ((((w50.setCell ⟨gb135, 0, none⟩ (.int .i64 ((rd_T62 t129 x51_2).f0))).setCell ⟨gb135, 1, none⟩ (.int .i64 ((rd_T62 t129 x51_2).f1))).setCell ⟨gb135, 2, none⟩ (.int .i64 ((rd_T62 t129 x51_2).f2))).heap[gb123]? = some (.cells #[.int .i64 a1] 3 (0, 0))) := ⟨by (repeat refine bk1 ?_); refine blk_far ?_ NB123_135.out _; (repeat refine bk1 ?_); refine blk_far ?_ NB123_135.out _; (repeat refine bk1 ?_); refine blk_far ?_ NB123_135.out _; (repeat refine bk1 ?_); exact BK123.out⟩
            have n3_ : Aside0 ((((w50.setCell ⟨gb135, 0, none⟩ (.int .i64 ((rd_T62 t129 x51_2).f0))).setCell ⟨gb135, 1, none⟩ (.int .i64 ((rd_T62 t129 x51_2).f1))).setCell ⟨gb135, 2, none⟩ (.int .i64 ((rd_T62 t129 x51_2).f2))).heap[gb133]? = some (.cells #[.int .i64 ((rd_T62 t129 (ji28)).f0), .int .i64 ((rd_T62 t129 (ji28)).f1), .int .i64 ((rd_T62 t129 (ji28)).f2)] 62 (0, 0))) := ⟨by (repeat refine bk1 ?_); refine blk_far ?_ NB133_135.out _; (repeat refine bk1 ?_); refine blk_far ?_ NB133_135.out _; (repeat refine bk1 ?_); refine blk_far ?_ NB133_135.out _; (repeat refine bk1 ?_); exact BK133.out⟩
            have n4_ : Aside0 ((((w50.setCell ⟨gb135, 0, none⟩ (.int .i64 ((rd_T62 t129 x51_2).f0))).setCell ⟨gb135, 1, none⟩ (.int .i64 ((rd_T62 t129 x51_2).f1))).setCell ⟨gb135, 2, none⟩ (.int .i64 ((rd_T62 t129 x51_2).f2))).heap[gb135]? = some (.cells #[.int .i64 ((rd_T62 t129 x51_2).f0), .int .i64 ((rd_T62 t129 x51_2).f1), .int .i64 ((rd_T62 t129 x51_2).f2)] 62 (0, 0))) := ⟨by (repeat refine bk1 ?_); refine blk_put (cs := #[.int .i64 ((rd_T62 t129 x51_2).f0), .int .i64 ((rd_T62 t129 x51_2).f1), .int .i64 0]) ?_ 2 _ rfl; (repeat refine bk1 ?_); refine blk_put (cs := #[.int .i64 ((rd_T62 t129 x51_2).f0), .int .i64 0, .int .i64 0]) ?_ 1 _ rfl; (repeat refine bk1 ?_); refine blk_put (cs := #[.int .i64 0, .int .i64 0, .int .i64 0]) ?_ 0 _ rfl; (repeat refine bk1 ?_); exact BK135.out⟩
            have n5_ : Aside0 (Below w.heap.size w (((w50.setCell ⟨gb135, 0, none⟩ (.int .i64 ((rd_T62 t129 x51_2).f0))).setCell ⟨gb135, 1, none⟩ (.int .i64 ((rd_T62 t129 x51_2).f1))).setCell ⟨gb135, 2, none⟩ (.int .i64 ((rd_T62 t129 x51_2).f2)))) := ⟨by repeat with_reducible first | exact bl HB.out | refine below_set ?_ GE122.out | refine below_set ?_ GE123.out | refine below_set ?_ GE133.out | refine below_set ?_ GE135.out | refine bq ?_⟩
            (try clear HO_49)
            (try clear BK122)
            (try clear BK123)
            (try clear BK133)
            (try clear BK135)
            (try clear HB)
            generalize (((w50.setCell ⟨gb135, 0, none⟩ (.int .i64 ((rd_T62 t129 x51_2).f0))).setCell ⟨gb135, 1, none⟩ (.int .i64 ((rd_T62 t129 x51_2).f1))).setCell ⟨gb135, 2, none⟩ (.int .i64 ((rd_T62 t129 x51_2).f2))) = w55 at n0_ n1_ n2_ n3_ n4_ n5_ ⊢
            have HO_49 := n0_
            have BK122 := n1_
            have BK123 := n2_
            have BK133 := n3_
            have BK135 := n4_
            have HB := n5_
            clear n0_ n1_ n2_ n3_ n4_ n5_
            have n0_ := Aside0.mk (Kd.R_drew HO_49.out)
            have n1_ := Aside0.mk (blk_drew BK122.out)
            have n2_ := Aside0.mk (blk_drew BK123.out)
            have n3_ := Aside0.mk (blk_drew BK133.out)
            have n4_ := Aside0.mk (blk_drew BK135.out)
            have n5_ := Aside0.mk (below_drew1 HB.out)
            clear HO_49
            clear BK122
            clear BK123
            clear BK133
            clear BK135
            clear HB
            have HO_49 := n0_
            have BK122 := n1_
            have BK123 := n2_
            have BK133 := n3_
            have BK135 := n4_
            have HB := n5_
            clear n0_ n1_ n2_ n3_ n4_ n5_
            refine start_ (n := 18) (S := fun w' => w'.cell? ⟨gb135, 0, none⟩ = some (.int .i64 ((rd_T62 t129 x51_2).f0)) ∧ w'.cell? ⟨gb135, 1, none⟩ = some (.int .i64 ((rd_T62 t129 x51_2).f1)) ∧ w'.cell? ⟨gb135, 2, none⟩ = some (.int .i64 ((rd_T62 t129 x51_2).f2))) (ds := []) m0_18 (by kernel_rfl) rfl rfl ⟨ck BK135.out 0 rfl, ck BK135.out 1 rfl, ck BK135.out 2 rfl⟩ (fun hHeld => ?_); refine with_tabW impl_Share.tab11 impl_Share.bits11 (fun HT_ HW_ => ?_)
            generalize w55.drew = w56 at HO_49 BK122 BK123 BK133 BK135 HB hHeld ⊢
            refine pq_ HT_.out 0 55 m1_18 ?_
            refine pq_ HT_.out 1 56 m2_18 ?_
            refine pq_ HT_.out 4 59 n8 ?_
            refine pq_ HT_.out 5 60 n9 ?_
            refine pq_ HT_.out 7 62 n10 ?_
            refine pq_ HT_.out 10 65 n11 ?_
            refine pq_ HT_.out 12 67 n12 ?_
            refine tk_ HT_.out HW_.out 2 57 n21 rfl rfl (by kernel_rfl) (by rfl) (by rintro w' ⟨s0, s1, s2⟩; go_simp; with_reducible rfl) hHeld (by simp only [sp_]; rfl) (fun _ _ _ h => h) ?_
            refine pq_ HT_.out 3 58 n13 ?_
            refine pq_ HT_.out 15 8 n14 ?_
            refine tk_ HT_.out HW_.out 6 61 n22 rfl rfl (by kernel_rfl) (by rfl) (by rintro w' ⟨s0, s1, s2⟩; go_simp; with_reducible rfl) hHeld (by simp only [sp_]; rfl) (fun _ _ _ h => h) ?_
            refine pq_ HT_.out 8 63 n15 ?_
            refine pq_ HT_.out 9 64 n16 ?_
            refine pq_ HT_.out 16 11 n17 ?_
            refine tk_ HT_.out HW_.out 11 66 n23 rfl rfl (by kernel_rfl) (by rfl) (by rintro w' ⟨s0, s1, s2⟩; go_simp; with_reducible rfl) hHeld (by simp only [sp_]; rfl) (fun _ _ _ h => h) ?_
            refine tk_ HT_.out HW_.out 13 68 n24 rfl rfl (by kernel_rfl) (by rfl) (by rintro w' ⟨s0, s1, s2⟩; go_simp; with_reducible rfl) hHeld (by simp only [sp_]; rfl) (fun _ _ _ h => h) ?_
            refine pq_ HT_.out 14 69 m17_18 ?_
            refine pq_ HT_.out 17 10 m18_18 ?_
            refine done_ (done_of HT_.out (by kernel_rfl)) ?_
            try go_wp2
            go_roundg k2
            case measure => have := HJ2.out; have := HK2.out; omega
            case rel => exact ⟨(wrap64 (x8_2 + ((rd_T62 t129 x51_2).f2))), (wrap64 (((rd_T62 t129 x51_2).f1) + ((rd_T62 t129 x51_2).f2))), (ji49), (wrap64 (x51_2 + 1)), (by first | rfl | (simp; done) | (simp [*]; done)), (by first | rfl | (simp; done) | (simp [*]; done)), (by first | rfl | (simp; done) | (simp only [← hji49] <;> (first | rfl | simp)) | (simp [*]; done)), (by first | rfl | (simp; done) | (simp [*]; done)), H', ⟨by have := HJ2.out; have := HK2.out; omega⟩, ⟨by (repeat apply rl1); exact Kd.R_mono HO_49.out (fun _ hk => hk.1)⟩, ⟨bk BK122.out⟩, ⟨bk BK123.out⟩, ⟨bk BK133.out⟩, ⟨by repeat with_reducible first | exact bl HB.out | refine below_set ?_ GE122.out | refine below_set ?_ GE123.out | refine below_set ?_ GE133.out | refine below_set ?_ GE135.out | refine bq ?_⟩⟩
           ·
            rw [if_neg c48] at H
            exact absurd H (by simp)
          ·
           rw [if_neg c47] at H
           exact absurd H (by simp)
         ·
          rw [if_neg c46] at H
          have c46b0 : decide (x51_2 < (t129.length : Int)) = false := decide_eq_false c46
          clear c46
          simp only [Option.some.injEq, Prod.mk.injEq] at H
          obtain ⟨rfl, rfl, rfl⟩ := H
          go_wp2
          go_ret3
          exact ⟨by first | rfl | (simp [errW_none, errW_some] <;> rfl) | (simp only [← hji28]; first | rfl | (simp [errW_none, errW_some] <;> rfl)) | (simp [*, errW_none, errW_some] <;> rfl), by repeat with_reducible first | exact bl HB.out | refine below_set ?_ GE122.out | refine below_set ?_ GE123.out | refine below_set ?_ GE133.out | refine bq ?_⟩
      ·
       rw [if_neg c30] at H
       exact absurd H (by simp)
     ·
      rw [if_neg c29] at H
      exact absurd H (by simp)

/-! ### impl_clonePlan: function 47 -/
def impl_clonePlan.f (a0_0 : Int) (a0_1 : Int) (l0_2 : List (S62)) : Option (Int × Int × (List (S62))) := (impl_Window_45.f l0_2).bind fun t138 => (some (a0_0, a0_1, t138))
set_option maxHeartbeats 8000000 in
set_option maxRecDepth 100000 in
theorem impl_clonePlan.calls (a0_0 : Int) (a0_1 : Int) (A0_2 : Option Addr) (c0_2 : Nat) (l0_2 : List (S62)) (r1 : Int) (r2 : Int) (r3 : List (S62)) (w : World) (hr0_2 : Kd.C k62 w A0_2 l0_2.length l0_2) (hc0_2 : l0_2.length ≤ c0_2) (h : impl_clonePlan.f a0_0 a0_1 l0_2 = some (r1, r2, r3)) :
  Calls Try.prog 47 #[.agg #[.int .i64 a0_0, .int .i64 a0_1, .slice A0_2 l0_2.length c0_2]] w fun e w' => ∃ v2_ : Value, e = .returned (.agg #[.int .i64 r1, .int .i64 r2, v2_]) ∧ Kd.R k62 62 w' w.heap.size (fun _ => True) v2_ r3 ∧ Below w.heap.size w w' := by
 have hu29 := Try.underlying29
 have HR0_2 := Aside0.mk hr0_2
 have HC0_2 := Aside0.mk hc0_2
 clear hr0_2 hc0_2
 have HB := Aside0.mk (Below.refl w.heap.size w)
 have H : ((impl_Window_45.f l0_2).bind fun t138 => (some (a0_0, a0_1, t138))) = some (r1, r2, r3) := h
 clear h
 replace H := Option.bind_eq_some_iff.mp H
 obtain ⟨t138, A20, H⟩ := H
 replace H : (some (a0_0, a0_1, t138)) = some (r1, r2, r3) := H
 have A2 := Aside0.mk A20
 clear A20
 simp only [Option.some.injEq, Prod.mk.injEq] at H
 obtain ⟨rfl, rfl, rfl⟩ := H
 go_enter Try.func47, Try.ntmps47
 go_wp2_with (first | ((with_reducible refine gate_dst (N := 1) rfl ?_); refine box_event ?hg (N := 1) ?hd (cs := #[.int .i64 a0_0, .int .i64 a0_1, .slice A0_2 l0_2.length c0_2]) (t := 29) ?hr ?_; (case hd => rfl); (case hg => rfl); (case hr => first | (go_simp; done) | (go_simp; rfl)); intro gb136 hg w3 hbox hb; have BK136 := Aside0.mk (hbox); have GW136 := Aside0.mk ((by rw [hg]; exact (below_size (bl HB.out)) : w.heap.size ≤ gb136)); have GE136 := GW136; replace HB := Aside0.mk (below_step (bl HB.out) hb); clear hb hbox hg) | ((with_reducible refine gate_dst (N := 2) rfl ?_); refine box_event ?hg (N := 2) ?hd (cs := #[.int .i64 0, .int .i64 0, .slice none 0 0]) (t := 29) ?hr ?_; (case hd => rfl); (case hg => rfl); (case hr => first | (go_simp; done) | (go_simp; rfl)); intro gb137 hg w4 hbox hb; have BK137 := Aside0.mk (hbox); have GW137 := Aside0.mk ((by rw [hg]; exact (below_size (by repeat with_reducible first | exact bl HB.out | refine below_set ?_ GE136.out | refine bq ?_)) : w.heap.size ≤ gb137)); have GE137 := GW137; replace HB := Aside0.mk (below_step (by repeat with_reducible first | exact bl HB.out | refine below_set ?_ GE136.out | refine bq ?_) hb); have NB136_137 := nb_ hg BK136.out; have NB137_136 := Aside0.mk NB136_137.out.symm; replace BK136 := Aside0.mk (blk_below (bk BK136.out) hb); clear hb hbox hg; have hnb5 := NB136_137.out; have hnc5 := NB137_136.out; obtain ⟨hcz6_0, hcz6_1, hcz6_2⟩ := ck3 BK136.out; obtain ⟨hfz6_0, hfz6_1, hfz6_2⟩ := fz3 BK136.out) | ((with_reducible refine gate_callee (f := 45) rfl ?_); refine goesL_ (some 5) rfl rfl Try.func45 (by kernel_rfl) rfl #[.slice A0_2 l0_2.length c0_2] rfl (by (try simp only [am_]); first | done | rfl) ?_; (with_reducible refine (impl_Window_45.calls _ _ l0_2 t138 _ ?side1 ?side2 A2.out).mono ?_); (case side1 => exact rc (Kd.C_below HR0_2.out HB.out)); (case side2 => exact HC0_2.out); rintro e w7 ⟨v139, rfl, ho0, hb⟩; refine ⟨_, rfl, ?_⟩; have HO140 := Aside0.mk (Kd.R_lower ho0 (below_size (by repeat with_reducible first | exact bl HB.out | refine below_set ?_ GE136.out | refine below_set ?_ GE137.out | refine bq ?_))); replace BK136 := Aside0.mk (blk_below (bk BK136.out) hb); replace BK137 := Aside0.mk (blk_below (bk BK137.out) hb); replace HB := Aside0.mk (below_step (by repeat with_reducible first | exact bl HB.out | refine below_set ?_ GE136.out | refine below_set ?_ GE137.out | refine bq ?_) hb); (try clear hb); (try clear hb2); (try clear hk); (try clear hi); (try clear ho0); obtain ⟨Ao8, co8, eo8⟩ := Kd.R_slice HO140.out; subst eo8; obtain ⟨hcz9_0, hcz9_1, hcz9_2⟩ := ck3 BK136.out; obtain ⟨hfz9_0, hfz9_1, hfz9_2⟩ := fz3 BK136.out; obtain ⟨hcz10_0, hcz10_1, hcz10_2⟩ := ck3 BK137.out; obtain ⟨hfz10_0, hfz10_1, hfz10_2⟩ := fz3 BK137.out))
 refine bodyPost_ret (results_cell_row rfl _ _ gb137 29 #[.int .i64 a0_0, .int .i64 a0_1, .slice Ao8 t138.length co8] (0, 0) _ rfl (by (repeat refine bk1 ?_); refine blk_put (cs := #[.int .i64 a0_0, .int .i64 a0_1, .slice none 0 0]) ?_ 2 _ rfl; (repeat refine bk1 ?_); refine blk_put (cs := #[.int .i64 a0_0, .int .i64 0, .slice none 0 0]) ?_ 1 _ rfl; (repeat refine bk1 ?_); refine blk_put (cs := #[.int .i64 0, .int .i64 0, .slice none 0 0]) ?_ 0 _ rfl; (repeat refine bk1 ?_); refine blk_far ?_ NB137_136.out _; (repeat refine bk1 ?_); exact BK137.out) Try.underlying29 rfl (by kernel_rfl)) rfl ?_
 exact ⟨_, by first | rfl | (simp [errW_none, errW_some] <;> rfl) | (simp [*, errW_none, errW_some] <;> rfl), by (repeat apply rl1); exact Kd.R_mono (Kd.R_far (p := ⟨gb137, 2, none⟩) (Kd.R_far (p := ⟨gb137, 1, none⟩) (Kd.R_far (p := ⟨gb137, 0, none⟩) (Kd.R_far (p := ⟨gb136, 2, none⟩) (Kd.R_types (Kd.R_types HO140.out BK136.out (by decide)) BK137.out (by decide)) (fun _ hk => hk.1.2) (.slice Ao8 t138.length co8)) (fun _ hk => hk.2) (.int .i64 a0_0)) (fun _ hk => hk.2) (.int .i64 a0_1)) (fun _ hk => hk.2) (.slice Ao8 t138.length co8)) (fun _ hk => trivial), by repeat with_reducible first | exact bl HB.out | refine below_set ?_ GE136.out | refine below_set ?_ GE137.out | refine bq ?_⟩

-- NOT PRINTED: function 61 (impl_Window_61)

/- impl_Window_67: only slices.Insert comes to it, where its contract is told by hand -/

/- impl_Window_65: only slices.Insert comes to it, where its contract is told by hand -/

/- impl_Window_62: only slices.Insert comes to it, where its contract is told by hand -/

end Go.Proofs.Ytlkphaahkhfgoaa.PFnWindows
