-- Written by a program of this session (wip/xprint.py) out of the translation; Lean checks it.
import Derived.Test.YtfhielgfgmcdiaaPFnLivesx0
import Derived.Test.YtfhielgfgmcdiaaPFnLivesx1
namespace Go.Proofs.Ytfhielgfgmcdiaa.PFnLives
open Go.RowKit Go.Proofs.YtfhielgfgmcdiaaW.PrintWords Go.Proofs.YtfhielgfgmcdiaaW.PrintLast Go.Proofs.YtfhielgfgmcdiaaW.PrintMore Go.Proofs.Ytfhielgfgmcdiaa.Sq
attribute [local go_sem] max2_int min2_int max_two min_two max_three min_three max_four min_four   -- for this text's walks alone
set_option linter.unusedVariables false
set_option linter.unusedSimpArgs false

/-! ### impl_Left6: function 11 -/
mutual
def impl_Left6.j0 : Nat → Bool → ByteArray → Int → Int → Int → ByteArray → Int → Int → Int → Option (Int × Int × Bool)
 | 0, _, _, _, _, _, _, _, _, _ => none
 | k + 1, x26, x125000, x125001, x125002, x125003, x126000, x126001, x126002, x126003 => if x26 = true then (some ((-1), 0, false)) else ((impl_Life_numbers.f x125000 x125001 x125002 x125003).bind fun t128 => ((impl_Stay_numbers.f x126000 x126001 x126002 x126003).bind fun t131 => (impl_Left6.l0 k (-1) t128 t131 t128 (t128.length : Int) 0)))
def impl_Left6.l0 : Nat → Int → List Int → List Int → List Int → Int → Int → Option (Int × Int × Bool)
 | 0, _, _, _, _, _, _ => none
 | k + 1, x7, x8, x9, x31, x32, x33 => if x33 < x32 then (if 0 ≤ x33 then (if x33 < (x31.length : Int) then (if (rd x31 x33) > 0 then (if x7 < 0 then (impl_Left6.j2 k x7 x8 x9 x33 x31 x32 x33 true) else (if x33 < (x9.length : Int) then (if 0 ≤ x7 then (if x7 < (x8.length : Int) then (if x7 < (x9.length : Int) then (impl_Left6.j2 k x7 x8 x9 x33 x31 x32 x33 (decide ((wrap64 ((rd x9 x33) * (rd x8 x7))) > (wrap64 ((rd x9 x7) * (rd x31 x33)))))) else (none)) else (none)) else (none)) else (none))) else (impl_Left6.j2 k x7 x8 x9 x33 x31 x32 x33 false)) else (none)) else (none)) else (if x7 < 0 then (some ((-1), 0, false)) else (if 0 ≤ x7 then (if x7 < (x8.length : Int) then (if x7 < (x9.length : Int) then (some (x7, wrap64 ((rd x8 x7) - (rd x9 x7)), true)) else (none)) else (none)) else (none)))
def impl_Left6.j2 : Nat → Int → List Int → List Int → Int → List Int → Int → Int → Bool → Option (Int × Int × Bool)
 | 0, _, _, _, _, _, _, _, _ => none
 | k + 1, x7, x8, x9, x10, x31, x32, x33, x61 => if x61 = true then (impl_Left6.l0 k x10 x8 x9 x31 x32 (wrap64 (x33 + 1))) else (impl_Left6.l0 k x7 x8 x9 x31 x32 (wrap64 (x33 + 1)))
end
def impl_Left6.f (k : Nat) (a0_0 : ByteArray) (a0_1 : Int) (a0_2 : Int) (a0_3 : Int) (a1_0 : ByteArray) (a1_1 : Int) (a1_2 : Int) (a1_3 : Int) : Option (Int × Int × Bool) := (impl_lifeOk.f k a0_0 a0_1 a0_2 a0_3).bind fun t126 => (if t126 = true then ((impl_stayOk.f k a1_0 a1_1 a1_2 a1_3).bind fun t127 => (if t127 = true then (impl_Left6.j0 k (a0_0.toList != a1_0.toList) a0_0 a0_1 a0_2 a0_3 a1_0 a1_1 a1_2 a1_3) else (impl_Left6.j0 k true a0_0 a0_1 a0_2 a0_3 a1_0 a1_1 a1_2 a1_3))) else (impl_Left6.j0 k true a0_0 a0_1 a0_2 a0_3 a1_0 a1_1 a1_2 a1_3))
theorem impl_Left6.mono_l : ∀ k, (∀ y0 y1 y2 y3 y4 y5 y6 y7 y8, LeO (impl_Left6.j0 k y0 y1 y2 y3 y4 y5 y6 y7 y8) (impl_Left6.j0 (k + 1) y0 y1 y2 y3 y4 y5 y6 y7 y8)) ∧ (∀ y0 y1 y2 y3 y4 y5, LeO (impl_Left6.l0 k y0 y1 y2 y3 y4 y5) (impl_Left6.l0 (k + 1) y0 y1 y2 y3 y4 y5)) ∧ (∀ y0 y1 y2 y3 y4 y5 y6 y7, LeO (impl_Left6.j2 k y0 y1 y2 y3 y4 y5 y6 y7) (impl_Left6.j2 (k + 1) y0 y1 y2 y3 y4 y5 y6 y7))
 | 0 => ⟨fun _ _ _ _ _ _ _ _ _ r h => by simp [impl_Left6.j0] at h, fun _ _ _ _ _ _ r h => by simp [impl_Left6.l0] at h, fun _ _ _ _ _ _ _ _ r h => by simp [impl_Left6.j2] at h⟩
 | k + 1 => by
  obtain ⟨ih0, ih1, ih2⟩ := impl_Left6.mono_l k
  refine ⟨?_, ?_, ?_⟩
  ·
   intro y0 y1 y2 y3 y4 y5 y6 y7 y8
   unfold impl_Left6.j0
   repeat' first
   | (with_reducible exact ih0 _ _ _ _ _ _ _ _ _)
   | (with_reducible exact ih1 _ _ _ _ _ _)
   | (with_reducible exact ih2 _ _ _ _ _ _ _ _)
   | (with_reducible exact impl_lifeOk.mono _ _ _ _ _)
   | (with_reducible exact impl_stayOk.mono _ _ _ _ _)
   | (with_reducible exact LeO.refl _)
   | (with_reducible exact LeO.none _)
   | (with_reducible refine LeO.ite ?_ ?_)
   | (with_reducible refine LeO.bind ?_ (fun _ => ?_))
   | exact ih0 _ _ _ _ _ _ _ _ _
   | exact ih1 _ _ _ _ _ _
   | exact ih2 _ _ _ _ _ _ _ _
   | exact impl_lifeOk.mono _ _ _ _ _
   | exact impl_stayOk.mono _ _ _ _ _
   | exact LeO.none _
   | refine LeO.ite ?_ ?_
   | refine LeO.bind ?_ (fun _ => ?_)
  ·
   intro y0 y1 y2 y3 y4 y5
   unfold impl_Left6.l0
   repeat' first
   | (with_reducible exact ih0 _ _ _ _ _ _ _ _ _)
   | (with_reducible exact ih1 _ _ _ _ _ _)
   | (with_reducible exact ih2 _ _ _ _ _ _ _ _)
   | (with_reducible exact impl_lifeOk.mono _ _ _ _ _)
   | (with_reducible exact impl_stayOk.mono _ _ _ _ _)
   | (with_reducible exact LeO.refl _)
   | (with_reducible exact LeO.none _)
   | (with_reducible refine LeO.ite ?_ ?_)
   | (with_reducible refine LeO.bind ?_ (fun _ => ?_))
   | exact ih0 _ _ _ _ _ _ _ _ _
   | exact ih1 _ _ _ _ _ _
   | exact ih2 _ _ _ _ _ _ _ _
   | exact impl_lifeOk.mono _ _ _ _ _
   | exact impl_stayOk.mono _ _ _ _ _
   | exact LeO.none _
   | refine LeO.ite ?_ ?_
   | refine LeO.bind ?_ (fun _ => ?_)
  ·
   intro y0 y1 y2 y3 y4 y5 y6 y7
   unfold impl_Left6.j2
   repeat' first
   | (with_reducible exact ih0 _ _ _ _ _ _ _ _ _)
   | (with_reducible exact ih1 _ _ _ _ _ _)
   | (with_reducible exact ih2 _ _ _ _ _ _ _ _)
   | (with_reducible exact impl_lifeOk.mono _ _ _ _ _)
   | (with_reducible exact impl_stayOk.mono _ _ _ _ _)
   | (with_reducible exact LeO.refl _)
   | (with_reducible exact LeO.none _)
   | (with_reducible refine LeO.ite ?_ ?_)
   | (with_reducible refine LeO.bind ?_ (fun _ => ?_))
   | exact ih0 _ _ _ _ _ _ _ _ _
   | exact ih1 _ _ _ _ _ _
   | exact ih2 _ _ _ _ _ _ _ _
   | exact impl_lifeOk.mono _ _ _ _ _
   | exact impl_stayOk.mono _ _ _ _ _
   | exact LeO.none _
   | refine LeO.ite ?_ ?_
   | refine LeO.bind ?_ (fun _ => ?_)
theorem impl_Left6.mono : ∀ a0 a1 a2 a3 a4 a5 a6 a7 k, LeO (impl_Left6.f k a0 a1 a2 a3 a4 a5 a6 a7) (impl_Left6.f (k + 1) a0 a1 a2 a3 a4 a5 a6 a7) := by
 intro a0 a1 a2 a3 a4 a5 a6 a7 k
 obtain ⟨ih0, ih1, ih2⟩ := impl_Left6.mono_l k
 unfold impl_Left6.f
 repeat' first
   | (with_reducible exact ih0 _ _ _ _ _ _ _ _ _)
   | (with_reducible exact ih1 _ _ _ _ _ _)
   | (with_reducible exact ih2 _ _ _ _ _ _ _ _)
   | (with_reducible exact impl_lifeOk.mono _ _ _ _ _)
   | (with_reducible exact impl_stayOk.mono _ _ _ _ _)
   | (with_reducible exact LeO.refl _)
   | (with_reducible exact LeO.none _)
   | (with_reducible refine LeO.ite ?_ ?_)
   | (with_reducible refine LeO.bind ?_ (fun _ => ?_))
   | exact ih0 _ _ _ _ _ _ _ _ _
   | exact ih1 _ _ _ _ _ _
   | exact ih2 _ _ _ _ _ _ _ _
   | exact impl_lifeOk.mono _ _ _ _ _
   | exact impl_stayOk.mono _ _ _ _ _
   | exact LeO.none _
   | refine LeO.ite ?_ ?_
   | refine LeO.bind ?_ (fun _ => ?_)
def impl_Left6.T7 : Bool × List (List Nat × List Nat) := (true, [([], []), ([0], [0]), ([1], [1]), ([2], [2]), ([3, 2], [2, 3]), ([4, 2, 2], [2, 4]), ([5], [5]), ([5], [5]), ([6, 7, 5], [5, 6, 7]), ([8, 5], [5, 8]), ([5], [5]), ([5], [5]), ([10, 11, 5], [5, 10, 11]), ([12, 5], [5, 12]), ([9, 13, 5], [5, 9, 13]), ([5], [5]), ([5], [5]), ([15, 16, 5], [5, 15, 16]), ([17, 5], [5, 17]), ([5], [5]), ([18, 19, 5], [5, 18, 19]), ([14, 20, 5], [5, 14, 20]), ([5, 21, 2], [2, 5, 21]), ([2, 22], [2, 22])])
def impl_Left6.B7 : List Nat := [0, 1, 3, 7, 15, 31, 63, 63, 255, 511, 63, 63, 3135, 7231, 16383, 63, 63, 98367, 229439, 63, 1015871, 2097151, 4194303, 8388607]
theorem impl_Left6.tab7 : rtab .any (opsOf Try.f11 7) = impl_Left6.T7 := by kernel_rfl
theorem impl_Left6.bits7 : waitsOk impl_Left6.T7.2 impl_Left6.B7 = true := by kernel_rfl
def impl_Left6.T12 : Bool × List (List Nat × List Nat) := (true, [([], []), ([], []), ([], []), ([1, 2], [1, 2]), ([3], [3]), ([], []), ([], []), ([5, 6], [5, 6]), ([7], [7]), ([4, 8], [4, 8]), ([0, 0], [0]), ([9, 10, 0, 1, 2, 3, 4, 5, 6, 7, 8, 9, 10], [9]), ([11, 0, 1, 2, 3, 4, 5, 6, 7, 8, 9, 10, 11], [])])
def impl_Left6.B12 : List Nat := [0, 0, 0, 6, 14, 0, 0, 96, 224, 510, 1, 2047, 4095]
theorem impl_Left6.tab12 : rtab .any (opsOf Try.f11 12) = impl_Left6.T12 := by kernel_rfl
theorem impl_Left6.bits12 : waitsOk impl_Left6.T12.2 impl_Left6.B12 = true := by kernel_rfl
set_option maxHeartbeats 8000000 in
set_option maxRecDepth 100000 in
theorem impl_Left6.calls (k : Nat) (a0_0 : ByteArray) (a0_1 : Int) (a0_2 : Int) (a0_3 : Int) (a1_0 : ByteArray) (a1_1 : Int) (a1_2 : Int) (a1_3 : Int) (r1 : Int) (r2 : Int) (r3 : Bool) (w : World) (h : impl_Left6.f k a0_0 a0_1 a0_2 a0_3 a1_0 a1_1 a1_2 a1_3 = some (r1, r2, r3)) :
  Calls Try.prog 11 #[.agg #[.string a0_0, .int .i64 a0_1, .int .i64 a0_2, .int .i64 a0_3], .agg #[.string a1_0, .int .i64 a1_1, .int .i64 a1_2, .int .i64 a1_3]] w fun e w' => e = .returned (.tuple #[.int .i64 r1, .int .i64 r2, .bool r3]) ∧ Below w.heap.size w w' := by
 have hu29 := Try.underlying29
 have hu31 := Try.underlying31
 have HB := Aside0.mk (Below.refl w.heap.size w)
 have H : ((impl_lifeOk.f k a0_0 a0_1 a0_2 a0_3).bind fun t126 => (if t126 = true then ((impl_stayOk.f k a1_0 a1_1 a1_2 a1_3).bind fun t127 => (if t127 = true then (impl_Left6.j0 k (a0_0.toList != a1_0.toList) a0_0 a0_1 a0_2 a0_3 a1_0 a1_1 a1_2 a1_3) else (impl_Left6.j0 k true a0_0 a0_1 a0_2 a0_3 a1_0 a1_1 a1_2 a1_3))) else (impl_Left6.j0 k true a0_0 a0_1 a0_2 a0_3 a1_0 a1_1 a1_2 a1_3))) = some (r1, r2, r3) := h
 clear h
 have HC3 := Aside0.mk H
 clear H
 go_enter Try.func11, Try.ntmps11
 go_upto_region 1 with (first | ((with_reducible refine gate_dst (N := 2) rfl ?_); refine box_event ?hg (N := 2) ?hd (cs := #[.string a0_0, .int .i64 a0_1, .int .i64 a0_2, .int .i64 a0_3]) (t := 29) ?hr ?_; (case hd => rfl); (case hg => rfl); (case hr => first | (go_simp; done) | (go_simp; rfl)); intro gb124 hg w4 hbox hb; have BK124 := Aside0.mk (hbox); have GW124 := Aside0.mk ((by rw [hg]; exact (below_size (bl HB.out)) : w.heap.size ≤ gb124)); have GE124 := GW124; replace HB := Aside0.mk (below_step (bl HB.out) hb); clear hb hbox hg) | ((with_reducible refine gate_dst (N := 3) rfl ?_); refine box_event ?hg (N := 3) ?hd (cs := #[.string a1_0, .int .i64 a1_1, .int .i64 a1_2, .int .i64 a1_3]) (t := 31) ?hr ?_; (case hd => rfl); (case hg => rfl); (case hr => first | (go_simp; done) | (go_simp; rfl)); intro gb125 hg w5 hbox hb; have BK125 := Aside0.mk (hbox); have GW125 := Aside0.mk ((by rw [hg]; exact (below_size (by repeat with_reducible first | exact bl HB.out | refine below_set ?_ GE124.out | refine bq ?_)) : w.heap.size ≤ gb125)); have GE125 := GW125; replace HB := Aside0.mk (below_step (by repeat with_reducible first | exact bl HB.out | refine below_set ?_ GE124.out | refine bq ?_) hb); have NB124_125 := nb_ hg BK124.out; have NB125_124 := Aside0.mk NB124_125.out.symm; replace BK124 := Aside0.mk (blk_below (bk BK124.out) hb); clear hb hbox hg))
 (try simp only [Act.put, List.setIfInBounds_toArray, List.set_cons_zero, List.set_cons_succ])
 go_cut [26] (fun v26 wc => ∃ (kq : Nat) (x26_2 : Bool), v26 = .bool x26_2 ∧ Aside0 (impl_Left6.j0 kq x26_2 a0_0 a0_1 a0_2 a0_3 a1_0 a1_1 a1_2 a1_3 = some (r1, r2, r3)) ∧ Aside0 (kq ≤ k) ∧ Aside0 (wc.heap[gb124]? = some (.cells #[.string a0_0, .int .i64 a0_1, .int .i64 a0_2, .int .i64 a0_3] 29 (0, 0))) ∧ Aside0 (wc.heap[gb125]? = some (.cells #[.string a1_0, .int .i64 a1_1, .int .i64 a1_2, .int .i64 a1_3] 31 (0, 0))) ∧ Aside0 (Below w.heap.size w wc))
 case first =>
  have H := HC3.out
  clear HC3
  replace H := Option.bind_eq_some_iff.mp H
  obtain ⟨t126, A60, H⟩ := H
  replace H : (if t126 = true then ((impl_stayOk.f k a1_0 a1_1 a1_2 a1_3).bind fun t127 => (if t127 = true then (impl_Left6.j0 k (a0_0.toList != a1_0.toList) a0_0 a0_1 a0_2 a0_3 a1_0 a1_1 a1_2 a1_3) else (impl_Left6.j0 k true a0_0 a0_1 a0_2 a0_3 a1_0 a1_1 a1_2 a1_3))) else (impl_Left6.j0 k true a0_0 a0_1 a0_2 a0_3 a1_0 a1_1 a1_2 a1_3)) = some (r1, r2, r3) := H
  have A6 := Aside0.mk A60
  clear A60
  by_cases c7 : t126 = true
  ·
   subst c7
   have H1 : ((impl_stayOk.f k a1_0 a1_1 a1_2 a1_3).bind fun t127 => (if t127 = true then (impl_Left6.j0 k (a0_0.toList != a1_0.toList) a0_0 a0_1 a0_2 a0_3 a1_0 a1_1 a1_2 a1_3) else (impl_Left6.j0 k true a0_0 a0_1 a0_2 a0_3 a1_0 a1_1 a1_2 a1_3))) = some (r1, r2, r3) := by rw [if_pos rfl] at H; exact H
   clear H
   have H := H1
   clear H1
   replace H := Option.bind_eq_some_iff.mp H
   obtain ⟨t127, A80, H⟩ := H
   replace H : (if t127 = true then (impl_Left6.j0 k (a0_0.toList != a1_0.toList) a0_0 a0_1 a0_2 a0_3 a1_0 a1_1 a1_2 a1_3) else (impl_Left6.j0 k true a0_0 a0_1 a0_2 a0_3 a1_0 a1_1 a1_2 a1_3)) = some (r1, r2, r3) := H
   have A8 := Aside0.mk A80
   clear A80
   by_cases c9 : t127 = true
   ·
    subst c9
    have H1 : (impl_Left6.j0 k (a0_0.toList != a1_0.toList) a0_0 a0_1 a0_2 a0_3 a1_0 a1_1 a1_2 a1_3) = some (r1, r2, r3) := by rw [if_pos rfl] at H; exact H
    clear H
    have H := H1
    clear H1
    have H' := Aside0.mk H
    clear H
    have hnb10 := NB124_125.out
    have hnc10 := NB125_124.out
    obtain ⟨hcz11_0, hcz11_1, hcz11_2, hcz11_3⟩ := ck4 BK124.out
    obtain ⟨hfz11_0, hfz11_1, hfz11_2, hfz11_3⟩ := fz4 BK124.out
    go_wp2_with (first | ((with_reducible refine gate_callee (f := 29) rfl ?_); refine goesL_ (some 13) rfl rfl Try.func29 (by kernel_rfl) rfl #[.agg #[.string a0_0, .int .i64 a0_1, .int .i64 a0_2, .int .i64 a0_3]] rfl (by (try simp only [am_]); first | done | rfl) ?_; (with_reducible refine (impl_lifeOk.calls k a0_0 a0_1 a0_2 a0_3 true _ A6.out).mono ?_); rintro e w12 ⟨rfl, hb⟩; refine ⟨_, rfl, ?_⟩; replace BK124 := Aside0.mk (blk_below (bk BK124.out) hb); replace BK125 := Aside0.mk (blk_below (bk BK125.out) hb); replace HB := Aside0.mk (below_step (by repeat with_reducible first | exact bl HB.out | refine below_set ?_ GE124.out | refine below_set ?_ GE125.out | refine bq ?_) hb); (try clear hb); (try clear hb2); (try clear hk); (try clear hi); obtain ⟨hcz13_0, hcz13_1, hcz13_2, hcz13_3⟩ := ck4 BK125.out; obtain ⟨hfz13_0, hfz13_1, hfz13_2, hfz13_3⟩ := fz4 BK125.out) | (go_at_call 30; (with_reducible refine (impl_stayOk.calls k a1_0 a1_1 a1_2 a1_3 true _ A8.out).mono ?_); rintro e w14 ⟨rfl, hb⟩; replace BK124 := Aside0.mk (blk_below (bk BK124.out) hb); replace BK125 := Aside0.mk (blk_below (bk BK125.out) hb); replace HB := Aside0.mk (below_step (by repeat with_reducible first | exact bl HB.out | refine below_set ?_ GE124.out | refine below_set ?_ GE125.out | refine bq ?_) hb); (try clear hb); (try clear hb2); (try clear hk); (try clear hi); obtain ⟨hcz15_0, hcz15_1, hcz15_2, hcz15_3⟩ := ck4 BK124.out; obtain ⟨hfz15_0, hfz15_1, hfz15_2, hfz15_3⟩ := fz4 BK124.out; obtain ⟨hcz16_0, hcz16_1, hcz16_2, hcz16_3⟩ := ck4 BK125.out; obtain ⟨hfz16_0, hfz16_1, hfz16_2, hfz16_3⟩ := fz4 BK125.out))
    go_meet
    case rel => exact ⟨_, ((a0_0.toList != a1_0.toList)), (by first | rfl | (simp; done) | (simp [*]; done)), H', ⟨by first | omega | exact Nat.le_refl _⟩, ⟨bk BK124.out⟩, ⟨bk BK125.out⟩, ⟨by repeat with_reducible first | exact bl HB.out | refine below_set ?_ GE124.out | refine below_set ?_ GE125.out | refine bq ?_⟩⟩
   ·
    replace c9 := Bool.eq_false_iff.mpr c9
    subst c9
    have H1 : (impl_Left6.j0 k true a0_0 a0_1 a0_2 a0_3 a1_0 a1_1 a1_2 a1_3) = some (r1, r2, r3) := by rw [if_neg (show ¬ (false = true) by decide)] at H; exact H
    clear H
    have H := H1
    clear H1
    have H' := Aside0.mk H
    clear H
    have hnb17 := NB124_125.out
    have hnc17 := NB125_124.out
    obtain ⟨hcz18_0, hcz18_1, hcz18_2, hcz18_3⟩ := ck4 BK124.out
    obtain ⟨hfz18_0, hfz18_1, hfz18_2, hfz18_3⟩ := fz4 BK124.out
    go_wp2_with (first | ((with_reducible refine gate_callee (f := 29) rfl ?_); refine goesL_ (some 13) rfl rfl Try.func29 (by kernel_rfl) rfl #[.agg #[.string a0_0, .int .i64 a0_1, .int .i64 a0_2, .int .i64 a0_3]] rfl (by (try simp only [am_]); first | done | rfl) ?_; (with_reducible refine (impl_lifeOk.calls k a0_0 a0_1 a0_2 a0_3 true _ A6.out).mono ?_); rintro e w19 ⟨rfl, hb⟩; refine ⟨_, rfl, ?_⟩; replace BK124 := Aside0.mk (blk_below (bk BK124.out) hb); replace BK125 := Aside0.mk (blk_below (bk BK125.out) hb); replace HB := Aside0.mk (below_step (by repeat with_reducible first | exact bl HB.out | refine below_set ?_ GE124.out | refine below_set ?_ GE125.out | refine bq ?_) hb); (try clear hb); (try clear hb2); (try clear hk); (try clear hi); obtain ⟨hcz20_0, hcz20_1, hcz20_2, hcz20_3⟩ := ck4 BK125.out; obtain ⟨hfz20_0, hfz20_1, hfz20_2, hfz20_3⟩ := fz4 BK125.out) | (go_at_call 30; (with_reducible refine (impl_stayOk.calls k a1_0 a1_1 a1_2 a1_3 false _ A8.out).mono ?_); rintro e w21 ⟨rfl, hb⟩; replace BK124 := Aside0.mk (blk_below (bk BK124.out) hb); replace BK125 := Aside0.mk (blk_below (bk BK125.out) hb); replace HB := Aside0.mk (below_step (by repeat with_reducible first | exact bl HB.out | refine below_set ?_ GE124.out | refine below_set ?_ GE125.out | refine bq ?_) hb); (try clear hb); (try clear hb2); (try clear hk); (try clear hi)))
    go_meet
    case rel => exact ⟨_, (true), (by first | rfl | (simp; done) | (simp [*]; done)), H', ⟨by first | omega | exact Nat.le_refl _⟩, ⟨bk BK124.out⟩, ⟨bk BK125.out⟩, ⟨by repeat with_reducible first | exact bl HB.out | refine below_set ?_ GE124.out | refine below_set ?_ GE125.out | refine bq ?_⟩⟩
  ·
   replace c7 := Bool.eq_false_iff.mpr c7
   subst c7
   have H1 : (impl_Left6.j0 k true a0_0 a0_1 a0_2 a0_3 a1_0 a1_1 a1_2 a1_3) = some (r1, r2, r3) := by rw [if_neg (show ¬ (false = true) by decide)] at H; exact H
   clear H
   have H := H1
   clear H1
   have H' := Aside0.mk H
   clear H
   have hnb22 := NB124_125.out
   have hnc22 := NB125_124.out
   obtain ⟨hcz23_0, hcz23_1, hcz23_2, hcz23_3⟩ := ck4 BK124.out
   obtain ⟨hfz23_0, hfz23_1, hfz23_2, hfz23_3⟩ := fz4 BK124.out
   go_wp2_with (first | ((with_reducible refine gate_callee (f := 29) rfl ?_); refine goesL_ (some 13) rfl rfl Try.func29 (by kernel_rfl) rfl #[.agg #[.string a0_0, .int .i64 a0_1, .int .i64 a0_2, .int .i64 a0_3]] rfl (by (try simp only [am_]); first | done | rfl) ?_; (with_reducible refine (impl_lifeOk.calls k a0_0 a0_1 a0_2 a0_3 false _ A6.out).mono ?_); rintro e w24 ⟨rfl, hb⟩; refine ⟨_, rfl, ?_⟩; replace BK124 := Aside0.mk (blk_below (bk BK124.out) hb); replace BK125 := Aside0.mk (blk_below (bk BK125.out) hb); replace HB := Aside0.mk (below_step (by repeat with_reducible first | exact bl HB.out | refine below_set ?_ GE124.out | refine below_set ?_ GE125.out | refine bq ?_) hb); (try clear hb); (try clear hb2); (try clear hk); (try clear hi)))
   go_meet
   case rel => exact ⟨_, (true), (by first | rfl | (simp; done) | (simp [*]; done)), H', ⟨by first | omega | exact Nat.le_refl _⟩, ⟨bk BK124.out⟩, ⟨bk BK125.out⟩, ⟨by repeat with_reducible first | exact bl HB.out | refine below_set ?_ GE124.out | refine below_set ?_ GE125.out | refine bq ?_⟩⟩
 case rest =>
  clear HC3
  try clear c1
  try clear c2
  try clear p2
  try clear c7
  try clear c9
  try clear c10
  try clear c11
  try clear c17
  try clear c22
  try clear hcz11_0 hcz11_1 hcz11_2 hcz11_3 hfz11_0 hfz11_1 hfz11_2 hfz11_3
  try clear hcz13_0 hcz13_1 hcz13_2 hcz13_3 hfz13_0 hfz13_1 hfz13_2 hfz13_3
  try clear hcz15_0 hcz15_1 hcz15_2 hcz15_3 hfz15_0 hfz15_1 hfz15_2 hfz15_3
  try clear hcz16_0 hcz16_1 hcz16_2 hcz16_3 hfz16_0 hfz16_1 hfz16_2 hfz16_3
  try clear hcz18_0 hcz18_1 hcz18_2 hcz18_3 hfz18_0 hfz18_1 hfz18_2 hfz18_3
  try clear hcz20_0 hcz20_1 hcz20_2 hcz20_3 hfz20_0 hfz20_1 hfz20_2 hfz20_3
  try clear hcz23_0 hcz23_1 hcz23_2 hcz23_3 hfz23_0 hfz23_1 hfz23_2 hfz23_3
  obtain ⟨kq, x26_2, rfl, HA, HJ2, BK124, BK125, HB⟩ := hcut
  cases kq with
  | zero => exact absurd HA.out (by simp [impl_Left6.j0])
  | succ kj2 =>
   have H := HA.out
   clear HA
   simp only [impl_Left6.j0] at H
   by_cases c25 : x26_2 = true
   ·
    subst c25
    have H1 : (some ((-1), 0, false)) = some (r1, r2, r3) := by rw [if_pos rfl] at H; exact H
    clear H
    have H := H1
    clear H1
    simp only [Option.some.injEq, Prod.mk.injEq] at H
    obtain ⟨rfl, rfl, rfl⟩ := H
    go_wp2
    go_ret3
    exact ⟨by first | rfl | (simp [errW_none, errW_some] <;> rfl) | (simp [*, errW_none, errW_some] <;> rfl), by repeat with_reducible first | exact bl HB.out | refine below_set ?_ GE124.out | refine below_set ?_ GE125.out | refine bq ?_⟩
   ·
    replace c25 := Bool.eq_false_iff.mpr c25
    subst c25
    have H1 : ((impl_Life_numbers.f a0_0 a0_1 a0_2 a0_3).bind fun t128 => ((impl_Stay_numbers.f a1_0 a1_1 a1_2 a1_3).bind fun t131 => (impl_Left6.l0 kj2 (-1) t128 t131 t128 (t128.length : Int) 0))) = some (r1, r2, r3) := by rw [if_neg (show ¬ (false = true) by decide)] at H; exact H
    clear H
    have H := H1
    clear H1
    replace H := Option.bind_eq_some_iff.mp H
    obtain ⟨t128, A260, H⟩ := H
    replace H : ((impl_Stay_numbers.f a1_0 a1_1 a1_2 a1_3).bind fun t131 => (impl_Left6.l0 kj2 (-1) t128 t131 t128 (t128.length : Int) 0)) = some (r1, r2, r3) := H
    have A26 := Aside0.mk A260
    clear A260
    replace H := Option.bind_eq_some_iff.mp H
    obtain ⟨t131, A270, H⟩ := H
    replace H : (impl_Left6.l0 kj2 (-1) t128 t131 t128 (t128.length : Int) 0) = some (r1, r2, r3) := H
    have A27 := Aside0.mk A270
    clear A270
    have H' := Aside0.mk H
    clear H
    try go_wp2
    have n0_ := Aside0.mk (blk_drew BK124.out)
    have n1_ := Aside0.mk (blk_drew BK125.out)
    have n2_ := Aside0.mk (below_drew1 HB.out)
    clear BK124
    clear BK125
    clear HB
    have BK124 := n0_
    have BK125 := n1_
    have HB := n2_
    clear n0_ n1_ n2_
    refine start_ (n := 7) (S := fun w' => w'.cell? ⟨gb124, 0, none⟩ = some (.string a0_0) ∧ w'.cell? ⟨gb124, 1, none⟩ = some (.int .i64 a0_1) ∧ w'.cell? ⟨gb124, 2, none⟩ = some (.int .i64 a0_2) ∧ w'.cell? ⟨gb124, 3, none⟩ = some (.int .i64 a0_3) ∧ w'.cell? ⟨gb125, 0, none⟩ = some (.string a1_0) ∧ w'.cell? ⟨gb125, 1, none⟩ = some (.int .i64 a1_1) ∧ w'.cell? ⟨gb125, 2, none⟩ = some (.int .i64 a1_2) ∧ w'.cell? ⟨gb125, 3, none⟩ = some (.int .i64 a1_3)) (ds := []) m0_7 (by kernel_rfl) rfl rfl ⟨ck BK124.out 0 rfl, ck BK124.out 1 rfl, ck BK124.out 2 rfl, ck BK124.out 3 rfl, ck BK125.out 0 rfl, ck BK125.out 1 rfl, ck BK125.out 2 rfl, ck BK125.out 3 rfl⟩ (fun hHeld => ?_)
    generalize wc.drew = w28 at BK124 BK125 HB hHeld ⊢
    refine take_ (i := 0) (N := some 27) (v := ?_) (a' := ?_) m1_7 rfl rfl (by kernel_rfl) (fun _ _ _ h => h) (Or.inl ⟨by rfl, ?_⟩) hHeld ?_ ?_
    rotate_left
    ·
     rintro w' ⟨s0, s1, s2, s3, s4, s5, s6, s7⟩
     go_simp
     with_reducible rfl
    rotate_left
    ·
     simp only [sp_]
     rfl
    refine take_ (i := 2) (N := some 29) (v := ?_) (a' := ?_) n49 rfl rfl (by kernel_rfl) (fun _ _ _ h => h) (Or.inl ⟨by rfl, ?_⟩) hHeld ?_ ?_
    rotate_left
    ·
     rintro w' ⟨s0, s1, s2, s3, s4, s5, s6, s7⟩
     go_simp
     with_reducible rfl
    rotate_left
    ·
     simp only [sp_]
     rfl
    refine one_ (i := 1) (N := some 28) m3_7 rfl rfl (by kernel_rfl) (by decide) (fun K hK => ?_)
    refine goes_ Try.func31 (by kernel_rfl) rfl #[.agg #[.string a0_0, .int .i64 a0_1, .int .i64 a0_2, .int .i64 a0_3]] (by rfl) rfl rfl (by (try simp only [am_]); first | done | rfl) ?_
    with_reducible refine (impl_Life_numbers.calls a0_0 a0_1 a0_2 a0_3 t128 _ A26.out).mono ?_
    rintro e w29 ⟨v129, rfl, ho0, hb⟩
    refine ⟨_, rfl, ?_⟩
    have n0_ := Aside0.mk (Kd.R_lower ho0 (below_size (by repeat with_reducible first | exact bl HB.out | refine below_set ?_ GE124.out | refine below_set ?_ GE125.out | refine bq ?_)))
    have n1_ := Aside0.mk (blk_below (bk BK124.out) hb)
    have n2_ := Aside0.mk (blk_below (bk BK125.out) hb)
    have n3_ := Aside0.mk (below_step (by repeat with_reducible first | exact bl HB.out | refine below_set ?_ GE124.out | refine below_set ?_ GE125.out | refine bq ?_) hb)
    clear BK124
    clear BK125
    clear HB
    have HO130 := n0_
    have BK124 := n1_
    have BK125 := n2_
    have HB := n3_
    clear n0_ n1_ n2_ n3_
    (try clear hb)
    (try clear hb2)
    (try clear hk)
    (try clear hi)
    (try clear ho0)
    refine hK.out _ _ ⟨ck BK124.out 0 rfl, ck BK124.out 1 rfl, ck BK124.out 2 rfl, ck BK124.out 3 rfl, ck BK125.out 0 rfl, ck BK125.out 1 rfl, ck BK125.out 2 rfl, ck BK125.out 3 rfl⟩ (fun hHeld => ?_)
    clear hK K
    refine norm_ (a' := ?_) ?_ ?_
    rotate_left
    ·
     show Act.put _ (some 28) _ = _
     simp only [sp_]
     rfl
    refine one_ (i := 3) (N := some 30) m4_7 rfl rfl (by kernel_rfl) (by decide) (fun K hK => ?_)
    refine goes_ Try.func32 (by kernel_rfl) rfl #[.agg #[.string a1_0, .int .i64 a1_1, .int .i64 a1_2, .int .i64 a1_3]] (by rfl) rfl rfl (by (try simp only [am_]); first | done | rfl) ?_
    with_reducible refine (impl_Stay_numbers.calls a1_0 a1_1 a1_2 a1_3 t131 _ A27.out).mono ?_
    rintro e w30 ⟨v132, rfl, ho0, hb⟩
    refine ⟨_, rfl, ?_⟩
    have n0_ := Aside0.mk (Kd.R_elder' (rl HO130.out) (Kd.R_base ho0) hb)
    have n1_ := Aside0.mk (Kd.R_lower (Kd.R_new' ho0 (Kd.R_lt (by (repeat apply rl1); exact HO130.out))) (below_size (by repeat with_reducible first | exact bl HB.out | refine below_set ?_ GE124.out | refine below_set ?_ GE125.out | refine bq ?_)))
    have n2_ := Aside0.mk (blk_below (bk BK124.out) hb)
    have n3_ := Aside0.mk (blk_below (bk BK125.out) hb)
    have n4_ := Aside0.mk (below_step (by repeat with_reducible first | exact bl HB.out | refine below_set ?_ GE124.out | refine below_set ?_ GE125.out | refine bq ?_) hb)
    clear HO130
    clear BK124
    clear BK125
    clear HB
    have HO130 := n0_
    have HO133 := n1_
    have BK124 := n2_
    have BK125 := n3_
    have HB := n4_
    clear n0_ n1_ n2_ n3_ n4_
    (try clear hb)
    (try clear hb2)
    (try clear hk)
    (try clear hi)
    (try clear ho0)
    refine hK.out _ _ ⟨ck BK124.out 0 rfl, ck BK124.out 1 rfl, ck BK124.out 2 rfl, ck BK124.out 3 rfl, ck BK125.out 0 rfl, ck BK125.out 1 rfl, ck BK125.out 2 rfl, ck BK125.out 3 rfl⟩ (fun hHeld => ?_)
    clear hK K
    refine norm_ (a' := ?_) ?_ ?_
    rotate_left
    ·
     show Act.put _ (some 30) _ = _
     simp only [sp_]
     rfl
    refine pure_ (i := 4) (N := some 7) (v := ?_) (a' := ?_) m5_7 rfl rfl (by kernel_rfl) (fun _ _ _ h => h) (Or.inl ⟨by rfl, ?_⟩) ?_ ?_
    rotate_left
    ·
     intro w'
     go_simp
     with_reducible rfl
    rotate_left
    ·
     simp only [sp_]
     rfl
    refine pure_ (i := 5) (N := some 8) (v := ?_) (a' := ?_) m6_7 rfl rfl (by kernel_rfl) (fun _ _ _ h => h) (Or.inl ⟨by rfl, ?_⟩) ?_ ?_
    rotate_left
    ·
     intro w'
     go_simp
     with_reducible rfl
    rotate_left
    ·
     simp only [sp_]
     rfl
    refine pure_ (i := 6) (N := some 9) (v := ?_) (a' := ?_) m7_7 rfl rfl (by kernel_rfl) (fun _ _ _ h => h) (Or.inl ⟨by rfl, ?_⟩) ?_ ?_
    rotate_left
    ·
     intro w'
     go_simp
     with_reducible rfl
    rotate_left
    ·
     simp only [sp_]
     rfl
    refine done_ (by kernel_rfl) ?_
    obtain ⟨Ao31, co31, eo31⟩ := Kd.R_slice HO130.out
    subst eo31
    try go_wp2
    go_loopg [7, 33] kj2 (fun kq v7 v33 w' => ∃ (x7_2 : Int) (x33_2 : Int), v7 = .int .i64 x7_2 ∧ v33 = .int .i64 x33_2 ∧ Aside0 (impl_Left6.l0 kq x7_2 t128 t131 t128 (t128.length : Int) x33_2 = some (r1, r2, r3)) ∧ Aside0 (kq ≤ kj2) ∧ Aside0 (Kd.R (Kd.int .i64) 3 w' w.heap.size (fun k_ => some k_ ≠ (v132 : Value).ownBlock) (.slice Ao31 t128.length co31) t128) ∧ Aside0 (Kd.R (Kd.int .i64) 3 w' w.heap.size (fun k_ => some k_ ≠ ((.slice Ao31 t128.length co31) : Value).ownBlock ∧ some k_ ≠ ((.slice Ao31 t128.length co31) : Value).ownBlock) v132 t131) ∧ Aside0 (Kd.R (Kd.int .i64) 3 w' w.heap.size (fun k_ => some k_ ≠ (v132 : Value).ownBlock) (.slice Ao31 t128.length co31) t128) ∧ Aside0 (w'.heap[gb124]? = some (.cells #[.string a0_0, .int .i64 a0_1, .int .i64 a0_2, .int .i64 a0_3] 29 (0, 0))) ∧ Aside0 (w'.heap[gb125]? = some (.cells #[.string a1_0, .int .i64 a1_1, .int .i64 a1_2, .int .i64 a1_3] 31 (0, 0))) ∧ Aside0 (Below w.heap.size w w'))
    case atStart => exact ⟨((-1)), (0), (by first | rfl | (simp; done) | (simp [*]; done)), (by first | rfl | (simp; done) | (simp [*]; done)), H', ⟨Nat.le_refl _⟩, ⟨by (repeat apply rl1); exact Kd.R_mono HO130.out (fun _ hk => hk.2)⟩, ⟨by (repeat apply rl1); exact Kd.R_mono HO133.out (fun _ hk => ⟨hk.2, hk.2⟩)⟩, ⟨by (repeat apply rl1); exact Kd.R_mono HO130.out (fun _ hk => hk.2)⟩, ⟨bk BK124.out⟩, ⟨bk BK125.out⟩, ⟨by repeat with_reducible first | exact bl HB.out | refine below_set ?_ GE124.out | refine below_set ?_ GE125.out | refine bq ?_⟩⟩
    case round =>
     clear H'
     try clear c1
     try clear c2
     try clear p2
     try clear c3
     try clear c7
     try clear c9
     try clear c10
     try clear c11
     try clear c17
     try clear c22
     try clear c25
     try clear c29
     try clear c31
     try clear hcz11_0 hcz11_1 hcz11_2 hcz11_3 hfz11_0 hfz11_1 hfz11_2 hfz11_3
     try clear hcz13_0 hcz13_1 hcz13_2 hcz13_3 hfz13_0 hfz13_1 hfz13_2 hfz13_3
     try clear hcz15_0 hcz15_1 hcz15_2 hcz15_3 hfz15_0 hfz15_1 hfz15_2 hfz15_3
     try clear hcz16_0 hcz16_1 hcz16_2 hcz16_3 hfz16_0 hfz16_1 hfz16_2 hfz16_3
     try clear hcz18_0 hcz18_1 hcz18_2 hcz18_3 hfz18_0 hfz18_1 hfz18_2 hfz18_3
     try clear hcz20_0 hcz20_1 hcz20_2 hcz20_3 hfz20_0 hfz20_1 hfz20_2 hfz20_3
     try clear hcz23_0 hcz23_1 hcz23_2 hcz23_3 hfz23_0 hfz23_1 hfz23_2 hfz23_3
     try clear p2
     obtain ⟨x7_2, x33_2, rfl, rfl, HA, HK2, HO_8, HO_9, HO_31, BK124, BK125, HB⟩ := hrel
     cases gk with
     | zero => exact absurd HA.out (by simp [impl_Left6.l0])
     | succ k2 =>
      have H := HA.out
      clear HA
      simp only [impl_Left6.l0] at H
      by_cases c32 : x33_2 < (t128.length : Int)
      ·
       rw [if_pos c32] at H
       have c32b0 : decide (x33_2 < (t128.length : Int)) = true := decide_eq_true c32
       clear c32
       by_cases c33 : 0 ≤ x33_2
       ·
        rw [if_pos c33] at H
        have c33b0 : decide (0 ≤ x33_2) = true := decide_eq_true c33
        clear c33
        by_cases c34 : x33_2 < (t128.length : Int)
        ·
         rw [if_pos c34] at H
         have c34b0 : decide (x33_2 < (t128.length : Int)) = true := decide_eq_true c34
         clear c34
         have HC35 := Aside0.mk H
         clear H
         have p134 : 0 ≤ (x33_2 : Int) := of_decide_eq_true (by first | (with_reducible assumption) | assumption)
         have q134 : x33_2 < (t128.length : Int) := of_decide_eq_true (by first | (with_reducible assumption) | assumption)
         obtain ⟨ad134, e134, hx134_0⟩ := Kd.at_int (Kd.R_reads' HO_31.out).2.2 x33_2 p134 q134
         cases e134
         replace p134 := eq_true p134
         replace q134 := eq_true q134
         go_upto_region 7 with (fail)
         go_cut [61] (fun v61 wc => ∃ (kq : Nat) (x61_34 : Bool), v61 = .bool x61_34 ∧ Aside0 (impl_Left6.j2 kq x7_2 t128 t131 x33_2 t128 (t128.length : Int) x33_2 x61_34 = some (r1, r2, r3)) ∧ Aside0 (kq ≤ k2) ∧ Aside0 (Kd.R (Kd.int .i64) 3 wc w.heap.size (fun k_ => some k_ ≠ (v132 : Value).ownBlock) (.slice (some ad134) t128.length co31) t128) ∧ Aside0 (Kd.R (Kd.int .i64) 3 wc w.heap.size (fun k_ => some k_ ≠ ((.slice (some ad134) t128.length co31) : Value).ownBlock ∧ some k_ ≠ ((.slice (some ad134) t128.length co31) : Value).ownBlock) v132 t131) ∧ Aside0 (Kd.R (Kd.int .i64) 3 wc w.heap.size (fun k_ => some k_ ≠ (v132 : Value).ownBlock) (.slice (some ad134) t128.length co31) t128) ∧ Aside0 (wc.heap[gb124]? = some (.cells #[.string a0_0, .int .i64 a0_1, .int .i64 a0_2, .int .i64 a0_3] 29 (0, 0))) ∧ Aside0 (wc.heap[gb125]? = some (.cells #[.string a1_0, .int .i64 a1_1, .int .i64 a1_2, .int .i64 a1_3] 31 (0, 0))) ∧ Aside0 (Below w.heap.size w wc))
         case first =>
          have H := HC35.out
          clear HC35
          by_cases c36 : (rd t128 x33_2) > 0
          ·
           rw [if_pos c36] at H
           have c36b0 : decide (0 < (rd t128 x33_2)) = true := decide_eq_true c36
           clear c36
           (first | rw [c36b0] | (simp only [i64_w, i32_w]; rw [c36b0]) | skip)
           by_cases c37 : x7_2 < 0
           ·
            rw [if_pos c37] at H
            have c37b0 : decide (x7_2 < 0) = true := decide_eq_true c37
            clear c37
            have H' := Aside0.mk H
            clear H
            try go_wp2
            have n0_ := Aside0.mk (Kd.R_drew HO_8.out)
            have n1_ := Aside0.mk (Kd.R_drew HO_9.out)
            have n2_ := Aside0.mk (Kd.R_drew HO_31.out)
            have n3_ := Aside0.mk (blk_drew BK124.out)
            have n4_ := Aside0.mk (blk_drew BK125.out)
            have n5_ := Aside0.mk (below_drew1 HB.out)
            clear HO_8
            clear HO_9
            clear HO_31
            clear BK124
            clear BK125
            clear HB
            have HO_8 := n0_
            have HO_9 := n1_
            have HO_31 := n2_
            have BK124 := n3_
            have BK125 := n4_
            have HB := n5_
            clear n0_ n1_ n2_ n3_ n4_ n5_
            refine start_ (n := 24) (S := fun w' => True) (ds := []) m0_24 (by kernel_rfl) rfl rfl trivial (fun hHeld => ?_); refine with_tabW impl_Left6.tab7 impl_Left6.bits7 (fun HT_ HW_ => ?_)
            generalize wr.drew = w38 at HO_8 HO_9 HO_31 BK124 BK125 HB hHeld ⊢
            refine pq_ HT_.out 0 38 m1_24 ?_
            refine pq_ HT_.out 1 39 m2_24 ?_
            refine pq_ HT_.out 2 40 m3_24 ?_
            refine pq_ HT_.out 3 41 m4_24 ?_
            refine pq_ HT_.out 4 42 m5_24 ?_
            refine pq_ HT_.out 5 43 m6_24 ?_
            refine pv_ HT_.out 6 44 m7_24 ?_
            refine pv_ HT_.out 7 45 m8_24 ?_
            refine pv_ HT_.out 8 46 m9_24 ?_
            refine pv_ HT_.out 9 47 m10_24 ?_
            refine pv_ HT_.out 10 48 m11_24 ?_
            refine pv_ HT_.out 11 49 m12_24 ?_
            refine pv_ HT_.out 12 50 m13_24 ?_
            refine pv_ HT_.out 13 51 m14_24 ?_
            refine pv_ HT_.out 14 52 m15_24 ?_
            refine pv_ HT_.out 15 53 m16_24 ?_
            refine pv_ HT_.out 16 54 m17_24 ?_
            refine pv_ HT_.out 17 55 m18_24 ?_
            refine pv_ HT_.out 18 56 m19_24 ?_
            refine pv_ HT_.out 19 57 m20_24 ?_
            refine pv_ HT_.out 20 58 m21_24 ?_
            refine pv_ HT_.out 21 59 m22_24 ?_
            refine pq_ HT_.out 22 60 m23_24 ?_
            refine pq_ HT_.out 23 61 m24_24 ?_
            refine done_ (done_of HT_.out (by kernel_rfl)) ?_
            try go_wp2
            go_meet
            case rel => exact ⟨_, (true), (by first | rfl | (simp; done) | (simp [*]; done)), H', ⟨by have := HJ2.out; have := HK2.out; first | omega | exact Nat.le_refl _⟩, ⟨rl HO_8.out⟩, ⟨rl HO_9.out⟩, ⟨rl HO_31.out⟩, ⟨bk BK124.out⟩, ⟨bk BK125.out⟩, ⟨by repeat with_reducible first | exact bl HB.out | refine below_set ?_ GE124.out | refine below_set ?_ GE125.out | refine bq ?_⟩⟩
           ·
            rw [if_neg c37] at H
            have c37b0 : decide (x7_2 < 0) = false := decide_eq_false c37
            clear c37
            by_cases c39 : x33_2 < (t131.length : Int)
            ·
             rw [if_pos c39] at H
             have c39b0 : decide (x33_2 < (t131.length : Int)) = true := decide_eq_true c39
             clear c39
             by_cases c40 : 0 ≤ x7_2
             ·
              rw [if_pos c40] at H
              have c40b0 : decide (0 ≤ x7_2) = true := decide_eq_true c40
              clear c40
              by_cases c41 : x7_2 < (t128.length : Int)
              ·
               rw [if_pos c41] at H
               have c41b0 : decide (x7_2 < (t128.length : Int)) = true := decide_eq_true c41
               clear c41
               by_cases c42 : x7_2 < (t131.length : Int)
               ·
                rw [if_pos c42] at H
                have c42b0 : decide (x7_2 < (t131.length : Int)) = true := decide_eq_true c42
                clear c42
                have H' := Aside0.mk H
                clear H
                try go_wp2
                have n0_ := Aside0.mk (Kd.R_drew HO_8.out)
                have n1_ := Aside0.mk (Kd.R_drew HO_9.out)
                have n2_ := Aside0.mk (Kd.R_drew HO_31.out)
                have n3_ := Aside0.mk (blk_drew BK124.out)
                have n4_ := Aside0.mk (blk_drew BK125.out)
                have n5_ := Aside0.mk (below_drew1 HB.out)
                clear HO_8
                clear HO_9
                clear HO_31
                clear BK124
                clear BK125
                clear HB
                have HO_8 := n0_
                have HO_9 := n1_
                have HO_31 := n2_
                have BK124 := n3_
                have BK125 := n4_
                have HB := n5_
                clear n0_ n1_ n2_ n3_ n4_ n5_
                obtain ⟨Ao44, co44, eo44⟩ := Kd.R_slice HO_9.out
                (first | subst eo44 | (injection eo44 with f1_ f2_ f3_; have f4_ := f1_.symm; have f5_ := f3_.symm; clear f1_ f2_ f3_; subst f4_; subst f5_))
                have p135 : 0 ≤ (x33_2 : Int) := of_decide_eq_true (by first | (with_reducible assumption) | assumption)
                have q135 : x33_2 < (t131.length : Int) := of_decide_eq_true (by first | (with_reducible assumption) | assumption)
                obtain ⟨ad135, e135, hx135_0⟩ := Kd.at_int (Kd.R_reads' HO_9.out).2.2 x33_2 p135 q135
                cases e135
                replace p135 := eq_true p135
                replace q135 := eq_true q135
                have p136 : 0 ≤ (x7_2 : Int) := of_decide_eq_true (by first | (with_reducible assumption) | assumption)
                have q136 : x7_2 < (t128.length : Int) := of_decide_eq_true (by first | (with_reducible assumption) | assumption)
                obtain ⟨ad136, e136, hx136_0⟩ := Kd.at_int (Kd.R_reads' HO_8.out).2.2 x7_2 p136 q136
                obtain rfl : ad134 = ad136 := (by injection e136)
                replace p136 := eq_true p136
                replace q136 := eq_true q136
                have p137 : 0 ≤ (x7_2 : Int) := of_decide_eq_true (by first | (with_reducible assumption) | assumption)
                have q137 : x7_2 < (t131.length : Int) := of_decide_eq_true (by first | (with_reducible assumption) | assumption)
                obtain ⟨ad137, e137, hx137_0⟩ := Kd.at_int (Kd.R_reads' HO_9.out).2.2 x7_2 p137 q137
                obtain rfl : ad135 = ad137 := (by injection e137)
                replace p137 := eq_true p137
                replace q137 := eq_true q137
                refine start_ (n := 24) (S := fun w' => w'.cell? (ad135.add (x33_2).toNat) = some (.int .i64 (rd t131 x33_2)) ∧ w'.cell? (ad134.add (x7_2).toNat) = some (.int .i64 (rd t128 x7_2)) ∧ w'.cell? (ad135.add (x7_2).toNat) = some (.int .i64 (rd t131 x7_2))) (ds := []) m0_24 (by kernel_rfl) rfl rfl ⟨hx135_0, hx136_0, hx137_0⟩ (fun hHeld => ?_); refine with_tabW impl_Left6.tab7 impl_Left6.bits7 (fun HT_ HW_ => ?_)
                generalize wr.drew = w43 at HO_8 HO_9 HO_31 BK124 BK125 HB hx135_0 hx136_0 hx137_0 hHeld ⊢
                refine pq_ HT_.out 0 38 m1_24 ?_
                refine pq_ HT_.out 1 39 m2_24 ?_
                refine pq_ HT_.out 2 40 m3_24 ?_
                refine pq_ HT_.out 3 41 m4_24 ?_
                refine pq_ HT_.out 4 42 m5_24 ?_
                refine pq_ HT_.out 5 43 m6_24 ?_
                refine pq_ HT_.out 6 44 m7_24 ?_
                refine pq_ HT_.out 7 45 m8_24 ?_
                refine pq_ HT_.out 8 46 m9_24 ?_
                refine pq_ HT_.out 10 48 n11 ?_
                refine pq_ HT_.out 11 49 n12 ?_
                refine pq_ HT_.out 12 50 n13 ?_
                refine pq_ HT_.out 15 53 n14 ?_
                refine pq_ HT_.out 16 54 n15 ?_
                refine pq_ HT_.out 17 55 n16 ?_
                refine pq_ HT_.out 19 57 n17 ?_
                refine tk_ HT_.out HW_.out 9 47 n43 rfl rfl (by kernel_rfl) (by rfl) (by rintro w' ⟨s0, s1, s2⟩; go_simp; with_reducible rfl) hHeld (by simp only [sp_]; rfl) (fun _ _ _ h => h) ?_
                refine tk_ HT_.out HW_.out 13 51 n44 rfl rfl (by kernel_rfl) (by rfl) (by rintro w' ⟨s0, s1, s2⟩; go_simp; with_reducible rfl) hHeld (by simp only [sp_]; rfl) (fun _ _ _ h => h) ?_
                refine pq_ HT_.out 14 52 n18 ?_
                refine tk_ HT_.out HW_.out 18 56 m20_24 rfl rfl (by kernel_rfl) (by rfl) (by rintro w' ⟨s0, s1, s2⟩; go_simp; with_reducible rfl) hHeld (by simp only [sp_]; rfl) (fun _ _ _ h => h) ?_
                refine pq_ HT_.out 20 58 m21_24 ?_
                refine pq_ HT_.out 21 59 m22_24 ?_
                refine pq_ HT_.out 22 60 m23_24 ?_
                refine pq_ HT_.out 23 61 m24_24 ?_
                refine done_ (done_of HT_.out (by kernel_rfl)) ?_
                try go_wp2
                go_meet
                case rel => exact ⟨_, (decide ((wrap64 ((rd t131 x33_2) * (rd t128 x7_2))) > (wrap64 ((rd t131 x7_2) * (rd t128 x33_2))))), (by first | rfl | (simp; done) | (simp [*]; done)), H', ⟨by have := HJ2.out; have := HK2.out; first | omega | exact Nat.le_refl _⟩, ⟨rl HO_8.out⟩, ⟨rl HO_9.out⟩, ⟨rl HO_31.out⟩, ⟨bk BK124.out⟩, ⟨bk BK125.out⟩, ⟨by repeat with_reducible first | exact bl HB.out | refine below_set ?_ GE124.out | refine below_set ?_ GE125.out | refine bq ?_⟩⟩
               ·
                rw [if_neg c42] at H
                exact absurd H (by simp)
              ·
               rw [if_neg c41] at H
               exact absurd H (by simp)
             ·
              rw [if_neg c40] at H
              exact absurd H (by simp)
            ·
             rw [if_neg c39] at H
             exact absurd H (by simp)
          ·
           rw [if_neg c36] at H
           have c36b0 : decide (0 < (rd t128 x33_2)) = false := decide_eq_false c36
           clear c36
           (first | rw [c36b0] | (simp only [i64_w, i32_w]; rw [c36b0]) | skip)
           have H' := Aside0.mk H
           clear H
           try go_wp2
           have n0_ := Aside0.mk (Kd.R_drew HO_8.out)
           have n1_ := Aside0.mk (Kd.R_drew HO_9.out)
           have n2_ := Aside0.mk (Kd.R_drew HO_31.out)
           have n3_ := Aside0.mk (blk_drew BK124.out)
           have n4_ := Aside0.mk (blk_drew BK125.out)
           have n5_ := Aside0.mk (below_drew1 HB.out)
           clear HO_8
           clear HO_9
           clear HO_31
           clear BK124
           clear BK125
           clear HB
           have HO_8 := n0_
           have HO_9 := n1_
           have HO_31 := n2_
           have BK124 := n3_
           have BK125 := n4_
           have HB := n5_
           clear n0_ n1_ n2_ n3_ n4_ n5_
           refine start_ (n := 24) (S := fun w' => True) (ds := []) m0_24 (by kernel_rfl) rfl rfl trivial (fun hHeld => ?_); refine with_tabW impl_Left6.tab7 impl_Left6.bits7 (fun HT_ HW_ => ?_)
           generalize wr.drew = w45 at HO_8 HO_9 HO_31 BK124 BK125 HB hHeld ⊢
           refine pq_ HT_.out 0 38 m1_24 ?_
           refine pq_ HT_.out 1 39 m2_24 ?_
           refine pq_ HT_.out 2 40 m3_24 ?_
           refine pv_ HT_.out 3 41 m4_24 ?_
           refine pv_ HT_.out 4 42 m5_24 ?_
           refine pv_ HT_.out 5 43 m6_24 ?_
           refine pv_ HT_.out 6 44 m7_24 ?_
           refine pv_ HT_.out 7 45 m8_24 ?_
           refine pv_ HT_.out 8 46 m9_24 ?_
           refine pv_ HT_.out 9 47 m10_24 ?_
           refine pv_ HT_.out 10 48 m11_24 ?_
           refine pv_ HT_.out 11 49 m12_24 ?_
           refine pv_ HT_.out 12 50 m13_24 ?_
           refine pv_ HT_.out 13 51 m14_24 ?_
           refine pv_ HT_.out 14 52 m15_24 ?_
           refine pv_ HT_.out 15 53 m16_24 ?_
           refine pv_ HT_.out 16 54 m17_24 ?_
           refine pv_ HT_.out 17 55 m18_24 ?_
           refine pv_ HT_.out 18 56 m19_24 ?_
           refine pv_ HT_.out 19 57 m20_24 ?_
           refine pv_ HT_.out 20 58 m21_24 ?_
           refine pv_ HT_.out 21 59 m22_24 ?_
           refine pv_ HT_.out 22 60 m23_24 ?_
           refine pq_ HT_.out 23 61 m24_24 ?_
           refine done_ (done_of HT_.out (by kernel_rfl)) ?_
           try go_wp2
           go_meet
           case rel => exact ⟨_, (false), (by first | rfl | (simp; done) | (simp [*]; done)), H', ⟨by have := HJ2.out; have := HK2.out; first | omega | exact Nat.le_refl _⟩, ⟨rl HO_8.out⟩, ⟨rl HO_9.out⟩, ⟨rl HO_31.out⟩, ⟨bk BK124.out⟩, ⟨bk BK125.out⟩, ⟨by repeat with_reducible first | exact bl HB.out | refine below_set ?_ GE124.out | refine below_set ?_ GE125.out | refine bq ?_⟩⟩
         case rest =>
          clear HC35
          try clear p1
          try clear q1
          try clear hx1
          try clear p2
          try clear c3
          try clear c4
          try clear p6
          try clear p13
          try clear q13
          try clear hx13
          try clear c32
          try clear c33
          try clear c33b0
          try clear c34
          try clear c34b0
          try clear c36
          try clear c36b0
          try clear c37
          try clear c37b0
          try clear c39
          try clear c39b0
          try clear c40
          try clear c40b0
          try clear c41
          try clear c41b0
          try clear c42
          try clear c42b0
          try clear hx134_0
          try clear hx135_0
          try clear hx136_0
          try clear hx137_0
          try clear p134
          try clear p135
          try clear p136
          try clear p137
          try clear q134
          try clear q135
          try clear q136
          try clear q137
          obtain ⟨kq, x61_34, rfl, HA, HJ34, HO_8, HO_9, HO_31, BK124, BK125, HB⟩ := hcut
          cases kq with
          | zero => exact absurd HA.out (by simp [impl_Left6.j2])
          | succ kj34 =>
           have H := HA.out
           clear HA
           simp only [impl_Left6.j2] at H
           by_cases c46 : x61_34 = true
           ·
            subst c46
            have H1 : (impl_Left6.l0 kj34 x33_2 t128 t131 t128 (t128.length : Int) (wrap64 (x33_2 + 1))) = some (r1, r2, r3) := by rw [if_pos rfl] at H; exact H
            clear H
            have H := H1
            clear H1
            have H' := Aside0.mk H
            clear H
            go_wp2
            go_roundg kj34
            case measure => have := HJ2.out; have := HK2.out; have := HJ34.out; omega
            case rel => exact ⟨(x33_2), (wrap64 (x33_2 + 1)), (by first | rfl | (simp; done) | (simp [*]; done)), (by first | rfl | (simp; done) | (simp [*]; done)), H', ⟨by have := HJ2.out; have := HK2.out; have := HJ34.out; omega⟩, ⟨rl HO_8.out⟩, ⟨rl HO_9.out⟩, ⟨rl HO_31.out⟩, ⟨bk BK124.out⟩, ⟨bk BK125.out⟩, ⟨by repeat with_reducible first | exact bl HB.out | refine below_set ?_ GE124.out | refine below_set ?_ GE125.out | refine bq ?_⟩⟩
           ·
            replace c46 := Bool.eq_false_iff.mpr c46
            subst c46
            have H1 : (impl_Left6.l0 kj34 x7_2 t128 t131 t128 (t128.length : Int) (wrap64 (x33_2 + 1))) = some (r1, r2, r3) := by rw [if_neg (show ¬ (false = true) by decide)] at H; exact H
            clear H
            have H := H1
            clear H1
            have H' := Aside0.mk H
            clear H
            go_wp2
            go_roundg kj34
            case measure => have := HJ2.out; have := HK2.out; have := HJ34.out; omega
            case rel => exact ⟨(x7_2), (wrap64 (x33_2 + 1)), (by first | rfl | (simp; done) | (simp [*]; done)), (by first | rfl | (simp; done) | (simp [*]; done)), H', ⟨by have := HJ2.out; have := HK2.out; have := HJ34.out; omega⟩, ⟨rl HO_8.out⟩, ⟨rl HO_9.out⟩, ⟨rl HO_31.out⟩, ⟨bk BK124.out⟩, ⟨bk BK125.out⟩, ⟨by repeat with_reducible first | exact bl HB.out | refine below_set ?_ GE124.out | refine below_set ?_ GE125.out | refine bq ?_⟩⟩
        ·
         rw [if_neg c34] at H
         exact absurd H (by simp)
       ·
        rw [if_neg c33] at H
        exact absurd H (by simp)
      ·
       rw [if_neg c32] at H
       have c32b0 : decide (x33_2 < (t128.length : Int)) = false := decide_eq_false c32
       clear c32
       by_cases c47 : x7_2 < 0
       ·
        rw [if_pos c47] at H
        have c47b0 : decide (x7_2 < 0) = true := decide_eq_true c47
        clear c47
        simp only [Option.some.injEq, Prod.mk.injEq] at H
        obtain ⟨rfl, rfl, rfl⟩ := H
        go_wp2
        go_ret3
        exact ⟨by first | rfl | (simp [errW_none, errW_some] <;> rfl) | (simp [*, errW_none, errW_some] <;> rfl), by repeat with_reducible first | exact bl HB.out | refine below_set ?_ GE124.out | refine below_set ?_ GE125.out | refine bq ?_⟩
       ·
        rw [if_neg c47] at H
        have c47b0 : decide (x7_2 < 0) = false := decide_eq_false c47
        clear c47
        by_cases c48 : 0 ≤ x7_2
        ·
         rw [if_pos c48] at H
         have c48b0 : decide (0 ≤ x7_2) = true := decide_eq_true c48
         clear c48
         by_cases c49 : x7_2 < (t128.length : Int)
         ·
          rw [if_pos c49] at H
          have c49b0 : decide (x7_2 < (t128.length : Int)) = true := decide_eq_true c49
          clear c49
          by_cases c50 : x7_2 < (t131.length : Int)
          ·
           rw [if_pos c50] at H
           have c50b0 : decide (x7_2 < (t131.length : Int)) = true := decide_eq_true c50
           clear c50
           simp only [Option.some.injEq, Prod.mk.injEq] at H
           obtain ⟨rfl, rfl, rfl⟩ := H
           try go_wp2
           have n0_ := Aside0.mk (Kd.R_drew HO_8.out)
           have n1_ := Aside0.mk (Kd.R_drew HO_9.out)
           have n2_ := Aside0.mk (Kd.R_drew HO_31.out)
           have n3_ := Aside0.mk (blk_drew BK124.out)
           have n4_ := Aside0.mk (blk_drew BK125.out)
           have n5_ := Aside0.mk (below_drew1 HB.out)
           clear HO_8
           clear HO_9
           clear HO_31
           clear BK124
           clear BK125
           clear HB
           have HO_8 := n0_
           have HO_9 := n1_
           have HO_31 := n2_
           have BK124 := n3_
           have BK125 := n4_
           have HB := n5_
           clear n0_ n1_ n2_ n3_ n4_ n5_
           have p138 : 0 ≤ (x7_2 : Int) := of_decide_eq_true (by first | (with_reducible assumption) | assumption)
           have q138 : x7_2 < (t128.length : Int) := of_decide_eq_true (by first | (with_reducible assumption) | assumption)
           obtain ⟨ad138, e138, hx138_0⟩ := Kd.at_int (Kd.R_reads' HO_8.out).2.2 x7_2 p138 q138
           cases e138
           replace p138 := eq_true p138
           replace q138 := eq_true q138
           obtain ⟨Ao52, co52, eo52⟩ := Kd.R_slice HO_9.out
           (first | subst eo52 | (injection eo52 with f1_ f2_ f3_; have f4_ := f1_.symm; have f5_ := f3_.symm; clear f1_ f2_ f3_; subst f4_; subst f5_))
           have p139 : 0 ≤ (x7_2 : Int) := of_decide_eq_true (by first | (with_reducible assumption) | assumption)
           have q139 : x7_2 < (t131.length : Int) := of_decide_eq_true (by first | (with_reducible assumption) | assumption)
           obtain ⟨ad139, e139, hx139_0⟩ := Kd.at_int (Kd.R_reads' HO_9.out).2.2 x7_2 p139 q139
           cases e139
           replace p139 := eq_true p139
           replace q139 := eq_true q139
           refine start_ (n := 13) (S := fun w' => w'.cell? (ad138.add (x7_2).toNat) = some (.int .i64 (rd t128 x7_2)) ∧ w'.cell? (ad139.add (x7_2).toNat) = some (.int .i64 (rd t131 x7_2))) (ds := []) m0_13 (by kernel_rfl) rfl rfl ⟨hx138_0, hx139_0⟩ (fun hHeld => ?_); refine with_tabW impl_Left6.tab12 impl_Left6.bits12 (fun HT_ HW_ => ?_)
           generalize wr.drew = w51 at HO_8 HO_9 HO_31 BK124 BK125 HB hx138_0 hx139_0 hHeld ⊢
           refine pq_ HT_.out 0 66 m1_13 ?_
           refine pq_ HT_.out 1 67 m2_13 ?_
           refine pq_ HT_.out 2 68 m3_13 ?_
           refine pq_ HT_.out 3 69 m4_13 ?_
           refine pq_ HT_.out 5 71 n25 ?_
           refine pq_ HT_.out 6 72 n26 ?_
           refine pq_ HT_.out 7 73 n27 ?_
           refine pq_ HT_.out 10 4 n28 ?_
           refine tk_ HT_.out HW_.out 4 70 n45 rfl rfl (by kernel_rfl) (by rfl) (by rintro w' ⟨s0, s1⟩; go_simp; with_reducible rfl) hHeld (by simp only [sp_]; rfl) (fun _ _ _ h => h) ?_
           refine tk_ HT_.out HW_.out 8 74 n46 rfl rfl (by kernel_rfl) (by rfl) (by rintro w' ⟨s0, s1⟩; go_simp; with_reducible rfl) hHeld (by simp only [sp_]; rfl) (fun _ _ _ h => h) ?_
           refine pq_ HT_.out 9 75 m11_13 ?_
           refine pq_ HT_.out 11 5 m12_13 ?_
           refine pq_ HT_.out 12 6 m13_13 ?_
           refine done_ (done_of HT_.out (by kernel_rfl)) ?_
           try go_wp2
           go_ret3
           exact ⟨by first | rfl | (simp [errW_none, errW_some] <;> rfl) | (simp [*, errW_none, errW_some] <;> rfl), by repeat with_reducible first | exact bl HB.out | refine below_set ?_ GE124.out | refine below_set ?_ GE125.out | refine bq ?_⟩
          ·
           rw [if_neg c50] at H
           exact absurd H (by simp)
         ·
          rw [if_neg c49] at H
          exact absurd H (by simp)
        ·
         rw [if_neg c48] at H
         exact absurd H (by simp)

end Go.Proofs.Ytfhielgfgmcdiaa.PFnLives
