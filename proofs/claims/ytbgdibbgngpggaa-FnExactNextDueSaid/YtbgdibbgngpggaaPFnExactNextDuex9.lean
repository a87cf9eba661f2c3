-- Written by a program of this session (wip/xprint.py) out of the translation; Lean checks it.
import Derived.Test.YtbgdibbgngpggaaPFnExactNextDuex0
import Derived.Test.YtbgdibbgngpggaaPFnExactNextDuex6
import Derived.Test.YtbgdibbgngpggaaPFnExactNextDuex8
namespace Go.Proofs.Ytbgdibbgngpggaa.PFnExactNextDue
open Go.RowKit Go.Proofs.YtbgdibbgngpggaaW.PrintWords Go.Proofs.YtbgdibbgngpggaaW.PrintLast Go.Proofs.YtbgdibbgngpggaaW.PrintMore Go.Proofs.Ytbgdibbgngpggaa.Sq
attribute [local go_sem] max2_int min2_int max_two min_two max_three min_three max_four min_four   -- for this text's walks alone
set_option linter.unusedVariables false
set_option linter.unusedSimpArgs false

theorem cg2 {w : World} {a p : Addr} {r : Option Value} {b : Nat} (e : w.cell? a = r) (h : b ≠ p.block) (u : Value) (hb : a.block = b := by first | rfl | exact add_block _ _ | simp only [add_block]) : (w.setCell p u).cell? a = r := (cell_far (by rw [hb]; exact h) u).trans e
/-! ### spec_NextDue: function 33 -/
mutual
def spec_NextDue.l0 : Nat → ByteArray → Int → Bool → Int → List (S33) → List (S70) → List (S72) → Int → Int → Int → Option (ByteArray × Int × Bool)
 | 0, _, _, _, _, _, _, _, _, _, _ => none
 | k + 1, x5, x6, x7, x8, x246000, x246001, x246002, x246003, x246004, x246005 => if x8 < (x246000.length : Int) then ((spec_FleetOk.f k x246000 x246001 x246002 x246003 x246004 x246005).bind fun t246 => (spec_NextDue.j1 k x5 x6 x7 x8 t246 x246000 x246001 x246002 x246003 x246004 x246005)) else (spec_NextDue.j1 k x5 x6 x7 x8 false x246000 x246001 x246002 x246003 x246004 x246005)
def spec_NextDue.j1 : Nat → ByteArray → Int → Bool → Int → Bool → List (S33) → List (S70) → List (S72) → Int → Int → Int → Option (ByteArray × Int × Bool)
 | 0, _, _, _, _, _, _, _, _, _, _, _ => none
 | k + 1, x5, x6, x7, x8, x20, x246000, x246001, x246002, x246003, x246004, x246005 => if x20 = true then (if 0 ≤ x8 then (if x8 < (x246000.length : Int) then ((spec_Due19.f k ((rd_T33 x246000 x8).f0) ((rd_T33 x246000 x8).f1) ((rd_T33 x246000 x8).f2) ((rd_T33 x246000 x8).f3) ((rd_T33 x246000 x8).f4.f0) ((rd_T33 x246000 x8).f4.f1) ((rd_T33 x246000 x8).f4.f2) x246003 x246004 x246005).bind fun bt248 => (if bt248.1 = true then (spec_NextDue.j2 k x5 x6 x7 x8 false x246000 x246001 x246002 x246003 x246004 x246005 bt248.2.1 bt248.2.2.1 bt248.2.2.2.1) else (if ((rd_T33 x246000 x8).f2) > 0 then (if x7 = true then (spec_NextDue.j2 k x5 x6 x7 x8 (decide (bt248.2.2.1 < x6)) x246000 x246001 x246002 x246003 x246004 x246005 bt248.2.1 bt248.2.2.1 bt248.2.2.2.1) else (spec_NextDue.j2 k x5 x6 x7 x8 true x246000 x246001 x246002 x246003 x246004 x246005 bt248.2.1 bt248.2.2.1 bt248.2.2.2.1)) else (spec_NextDue.j2 k x5 x6 x7 x8 false x246000 x246001 x246002 x246003 x246004 x246005 bt248.2.1 bt248.2.2.1 bt248.2.2.2.1)))) else (none)) else (none)) else (some (x5, x6, x7))
def spec_NextDue.j2 : Nat → ByteArray → Int → Bool → Int → Bool → List (S33) → List (S70) → List (S72) → Int → Int → Int → Int → Int → Int → Option (ByteArray × Int × Bool)
 | 0, _, _, _, _, _, _, _, _, _, _, _, _, _, _ => none
 | k + 1, x5, x6, x7, x8, x55, x246000, x246001, x246002, x246003, x246004, x246005, x254000, x254001, x254002 => if x55 = true then (if 0 ≤ x8 then (if x8 < (x246000.length : Int) then (spec_NextDue.l0 k ((rd_T33 x246000 x8).f0) x254001 true (wrap64 (x8 + 1)) x246000 x246001 x246002 x246003 x246004 x246005) else (none)) else (none)) else (spec_NextDue.l0 k x5 x6 x7 (wrap64 (x8 + 1)) x246000 x246001 x246002 x246003 x246004 x246005)
end
def spec_NextDue.f (k : Nat) (l0_0 : List (S33)) (l0_1 : List (S70)) (l0_2 : List (S72)) (a0_3 : Int) (a0_4 : Int) (a0_5 : Int) : Option (ByteArray × Int × Bool) := spec_NextDue.l0 k (⟨#[]⟩ : ByteArray) 0 false 0 l0_0 l0_1 l0_2 a0_3 a0_4 a0_5
theorem spec_NextDue.mono_l : ∀ k, (∀ y0 y1 y2 y3 y4 y5 y6 y7 y8 y9, LeO (spec_NextDue.l0 k y0 y1 y2 y3 y4 y5 y6 y7 y8 y9) (spec_NextDue.l0 (k + 1) y0 y1 y2 y3 y4 y5 y6 y7 y8 y9)) ∧ (∀ y0 y1 y2 y3 y4 y5 y6 y7 y8 y9 y10, LeO (spec_NextDue.j1 k y0 y1 y2 y3 y4 y5 y6 y7 y8 y9 y10) (spec_NextDue.j1 (k + 1) y0 y1 y2 y3 y4 y5 y6 y7 y8 y9 y10)) ∧ (∀ y0 y1 y2 y3 y4 y5 y6 y7 y8 y9 y10 y11 y12 y13, LeO (spec_NextDue.j2 k y0 y1 y2 y3 y4 y5 y6 y7 y8 y9 y10 y11 y12 y13) (spec_NextDue.j2 (k + 1) y0 y1 y2 y3 y4 y5 y6 y7 y8 y9 y10 y11 y12 y13))
 | 0 => ⟨fun _ _ _ _ _ _ _ _ _ _ r h => by simp [spec_NextDue.l0] at h, fun _ _ _ _ _ _ _ _ _ _ _ r h => by simp [spec_NextDue.j1] at h, fun _ _ _ _ _ _ _ _ _ _ _ _ _ _ r h => by simp [spec_NextDue.j2] at h⟩
 | k + 1 => by
  obtain ⟨ih0, ih1, ih2⟩ := spec_NextDue.mono_l k
  refine ⟨?_, ?_, ?_⟩
  ·
   intro y0 y1 y2 y3 y4 y5 y6 y7 y8 y9
   unfold spec_NextDue.l0
   repeat' first
   | (with_reducible exact ih0 _ _ _ _ _ _ _ _ _ _)
   | (with_reducible exact ih1 _ _ _ _ _ _ _ _ _ _ _)
   | (with_reducible exact ih2 _ _ _ _ _ _ _ _ _ _ _ _ _ _)
   | (with_reducible exact spec_Due19.mono _ _ _ _ _ _ _ _ _ _ _)
   | (with_reducible exact spec_FleetOk.mono _ _ _ _ _ _ _)
   | (with_reducible exact LeO.refl _)
   | (with_reducible exact LeO.none _)
   | (with_reducible refine LeO.ite ?_ ?_)
   | (with_reducible refine LeO.bind ?_ (fun _ => ?_))
   | exact ih0 _ _ _ _ _ _ _ _ _ _
   | exact ih1 _ _ _ _ _ _ _ _ _ _ _
   | exact ih2 _ _ _ _ _ _ _ _ _ _ _ _ _ _
   | exact spec_Due19.mono _ _ _ _ _ _ _ _ _ _ _
   | exact spec_FleetOk.mono _ _ _ _ _ _ _
   | exact LeO.none _
   | refine LeO.ite ?_ ?_
   | refine LeO.bind ?_ (fun _ => ?_)
  ·
   intro y0 y1 y2 y3 y4 y5 y6 y7 y8 y9 y10
   unfold spec_NextDue.j1
   repeat' first
   | (with_reducible exact ih0 _ _ _ _ _ _ _ _ _ _)
   | (with_reducible exact ih1 _ _ _ _ _ _ _ _ _ _ _)
   | (with_reducible exact ih2 _ _ _ _ _ _ _ _ _ _ _ _ _ _)
   | (with_reducible exact spec_Due19.mono _ _ _ _ _ _ _ _ _ _ _)
   | (with_reducible exact spec_FleetOk.mono _ _ _ _ _ _ _)
   | (with_reducible exact LeO.refl _)
   | (with_reducible exact LeO.none _)
   | (with_reducible refine LeO.ite ?_ ?_)
   | (with_reducible refine LeO.bind ?_ (fun _ => ?_))
   | exact ih0 _ _ _ _ _ _ _ _ _ _
   | exact ih1 _ _ _ _ _ _ _ _ _ _ _
   | exact ih2 _ _ _ _ _ _ _ _ _ _ _ _ _ _
   | exact spec_Due19.mono _ _ _ _ _ _ _ _ _ _ _
   | exact spec_FleetOk.mono _ _ _ _ _ _ _
   | exact LeO.none _
   | refine LeO.ite ?_ ?_
   | refine LeO.bind ?_ (fun _ => ?_)
  ·
   intro y0 y1 y2 y3 y4 y5 y6 y7 y8 y9 y10 y11 y12 y13
   unfold spec_NextDue.j2
   repeat' first
   | (with_reducible exact ih0 _ _ _ _ _ _ _ _ _ _)
   | (with_reducible exact ih1 _ _ _ _ _ _ _ _ _ _ _)
   | (with_reducible exact ih2 _ _ _ _ _ _ _ _ _ _ _ _ _ _)
   | (with_reducible exact spec_Due19.mono _ _ _ _ _ _ _ _ _ _ _)
   | (with_reducible exact spec_FleetOk.mono _ _ _ _ _ _ _)
   | (with_reducible exact LeO.refl _)
   | (with_reducible exact LeO.none _)
   | (with_reducible refine LeO.ite ?_ ?_)
   | (with_reducible refine LeO.bind ?_ (fun _ => ?_))
   | exact ih0 _ _ _ _ _ _ _ _ _ _
   | exact ih1 _ _ _ _ _ _ _ _ _ _ _
   | exact ih2 _ _ _ _ _ _ _ _ _ _ _ _ _ _
   | exact spec_Due19.mono _ _ _ _ _ _ _ _ _ _ _
   | exact spec_FleetOk.mono _ _ _ _ _ _ _
   | exact LeO.none _
   | refine LeO.ite ?_ ?_
   | refine LeO.bind ?_ (fun _ => ?_)
theorem spec_NextDue.mono : ∀ a0 a1 a2 a3 a4 a5 k, LeO (spec_NextDue.f k a0 a1 a2 a3 a4 a5) (spec_NextDue.f (k + 1) a0 a1 a2 a3 a4 a5) := by
 intro a0 a1 a2 a3 a4 a5 k
 obtain ⟨ih0, ih1, ih2⟩ := spec_NextDue.mono_l k
 unfold spec_NextDue.f
 repeat' first
   | (with_reducible exact ih0 _ _ _ _ _ _ _ _ _ _)
   | (with_reducible exact ih1 _ _ _ _ _ _ _ _ _ _ _)
   | (with_reducible exact ih2 _ _ _ _ _ _ _ _ _ _ _ _ _ _)
   | (with_reducible exact spec_Due19.mono _ _ _ _ _ _ _ _ _ _ _)
   | (with_reducible exact spec_FleetOk.mono _ _ _ _ _ _ _)
   | (with_reducible exact LeO.refl _)
   | (with_reducible exact LeO.none _)
   | (with_reducible refine LeO.ite ?_ ?_)
   | (with_reducible refine LeO.bind ?_ (fun _ => ?_))
   | exact ih0 _ _ _ _ _ _ _ _ _ _
   | exact ih1 _ _ _ _ _ _ _ _ _ _ _
   | exact ih2 _ _ _ _ _ _ _ _ _ _ _ _ _ _
   | exact spec_Due19.mono _ _ _ _ _ _ _ _ _ _ _
   | exact spec_FleetOk.mono _ _ _ _ _ _ _
   | exact LeO.none _
   | refine LeO.ite ?_ ?_
   | refine LeO.bind ?_ (fun _ => ?_)
def spec_NextDue.T5 : Bool × List (List Nat × List Nat) := (true, [([], []), ([0], [0]), ([], []), ([1, 2], [1, 2]), ([3], [3]), ([], []), ([5], [5]), ([4, 6], [4, 6]), ([7], [7]), ([8], [8]), ([8], [8]), ([8], [8]), ([], []), ([9, 7, 0, 1, 2, 3, 4, 5, 6, 7, 8, 9, 12], [9]), ([12, 10, 13, 0, 1, 2, 3, 4, 5, 6, 7, 8, 9, 10, 12, 13], [10, 12]), ([11, 14, 0, 1, 2, 3, 4, 5, 6, 7, 8, 9, 10, 11, 12, 13, 14], [11])])
def spec_NextDue.B5 : List Nat := [0, 1, 0, 7, 15, 0, 32, 127, 255, 511, 511, 511, 0, 5119, 14335, 32767]
theorem spec_NextDue.tab5 : rtab .any (opsOf Try.f33 5) = spec_NextDue.T5 := by kernel_rfl
theorem spec_NextDue.bits5 : waitsOk spec_NextDue.T5.2 spec_NextDue.B5 = true := by kernel_rfl
set_option maxHeartbeats 8000000 in
set_option maxRecDepth 100000 in
theorem spec_NextDue.calls (k : Nat) (A0_0 : Option Addr) (c0_0 : Nat) (l0_0 : List (S33)) (A0_1 : Option Addr) (c0_1 : Nat) (l0_1 : List (S70)) (A0_2 : Option Addr) (c0_2 : Nat) (l0_2 : List (S72)) (a0_3 : Int) (a0_4 : Int) (a0_5 : Int) (r1 : ByteArray) (r2 : Int) (r3 : Bool) (w : World) (hr0_0 : Kd.C k33 w A0_0 l0_0.length l0_0) (hc0_0 : l0_0.length ≤ c0_0) (hr0_1 : Kd.C k70 w A0_1 l0_1.length l0_1) (hc0_1 : l0_1.length ≤ c0_1) (hr0_2 : Kd.C k72 w A0_2 l0_2.length l0_2) (hc0_2 : l0_2.length ≤ c0_2) (h : spec_NextDue.f k l0_0 l0_1 l0_2 a0_3 a0_4 a0_5 = some (r1, r2, r3)) :
  Calls Try.prog 33 #[.agg #[.slice A0_0 l0_0.length c0_0, .slice A0_1 l0_1.length c0_1, .slice A0_2 l0_2.length c0_2, .int .i64 a0_3, .int .i64 a0_4, .int .i64 a0_5]] w fun e w' => e = .returned (.tuple #[.string r1, .int .i64 r2, .bool r3]) ∧ Below w.heap.size w w' := by
 have hu56 := Try.underlying56
 have hu33 := Try.underlying33
 have hu25 := Try.underlying25
 have HR0_0 := Aside0.mk hr0_0
 have HC0_0 := Aside0.mk hc0_0
 clear hr0_0 hc0_0
 have HR0_1 := Aside0.mk hr0_1
 have HC0_1 := Aside0.mk hc0_1
 clear hr0_1 hc0_1
 have HR0_2 := Aside0.mk hr0_2
 have HC0_2 := Aside0.mk hc0_2
 clear hr0_2 hc0_2
 have HB := Aside0.mk (Below.refl w.heap.size w)
 have H : (spec_NextDue.l0 k (⟨#[]⟩ : ByteArray) 0 false 0 l0_0 l0_1 l0_2 a0_3 a0_4 a0_5) = some (r1, r2, r3) := h
 clear h
 have H' := Aside0.mk H
 clear H
 go_enter Try.func33, Try.ntmps33
 go_wp2_with (first | ((with_reducible refine gate_dst (N := 1) rfl ?_); refine box_event ?hg (N := 1) ?hd (cs := #[.slice A0_0 l0_0.length c0_0, .slice A0_1 l0_1.length c0_1, .slice A0_2 l0_2.length c0_2, .int .i64 a0_3, .int .i64 a0_4, .int .i64 a0_5]) (t := 56) ?hr ?_; (case hd => rfl); (case hg => rfl); (case hr => first | (go_simp; done) | (go_simp; rfl)); intro gb245 hg w2 hbox hb; have BK245 := Aside0.mk (hbox); have GW245 := Aside0.mk ((by rw [hg]; exact (below_size (bl HB.out)) : w.heap.size ≤ gb245)); have GE245 := GW245; replace HB := Aside0.mk (below_step (bl HB.out) hb); clear hb hbox hg))
 go_loopg [5, 6, 7, 8] k (fun kq v5 v6 v7 v8 w' => ∃ (x5_1 : ByteArray) (x6_1 : Int) (x7_1 : Bool) (x8_1 : Int), v5 = .string x5_1 ∧ v6 = .int .i64 x6_1 ∧ v7 = .bool x7_1 ∧ v8 = .int .i64 x8_1 ∧ Aside0 (spec_NextDue.l0 kq x5_1 x6_1 x7_1 x8_1 l0_0 l0_1 l0_2 a0_3 a0_4 a0_5 = some (r1, r2, r3)) ∧ Aside0 (kq ≤ k) ∧ Aside0 (w'.heap[gb245]? = some (.cells #[(.slice A0_0 l0_0.length c0_0), (.slice A0_1 l0_1.length c0_1), (.slice A0_2 l0_2.length c0_2), .int .i64 a0_3, .int .i64 a0_4, .int .i64 a0_5] 56 (0, 0))) ∧ Aside0 (Below w.heap.size w w'))
 case atStart => exact ⟨((⟨#[]⟩ : ByteArray)), (0), (false), (0), (by first | rfl | (simp; done) | (simp [*]; done)), (by first | rfl | (simp; done) | (simp [*]; done)), (by first | rfl | (simp; done) | (simp [*]; done)), (by first | rfl | (simp; done) | (simp [*]; done)), H', ⟨Nat.le_refl _⟩, ⟨bk BK245.out⟩, ⟨by repeat with_reducible first | exact bl HB.out | refine below_set ?_ GE245.out | refine bq ?_⟩⟩
 case round =>
  clear H'
  try clear p2
  obtain ⟨x5_1, x6_1, x7_1, x8_1, rfl, rfl, rfl, rfl, HA, HK1, BK245, HB⟩ := hrel
  cases gk with
  | zero => exact absurd HA.out (by simp [spec_NextDue.l0])
  | succ k1 =>
   have H := HA.out
   clear HA
   simp only [spec_NextDue.l0] at H
   have HC3 := Aside0.mk H
   clear H
   go_upto_region 3 with (fail)
   go_cut [20] (fun v20 wc => ∃ (kq : Nat) (x20_2 : Bool), v20 = .bool x20_2 ∧ Aside0 (spec_NextDue.j1 kq x5_1 x6_1 x7_1 x8_1 x20_2 l0_0 l0_1 l0_2 a0_3 a0_4 a0_5 = some (r1, r2, r3)) ∧ Aside0 (kq ≤ k1) ∧ Aside0 (wc.heap[gb245]? = some (.cells #[(.slice A0_0 l0_0.length c0_0), (.slice A0_1 l0_1.length c0_1), (.slice A0_2 l0_2.length c0_2), .int .i64 a0_3, .int .i64 a0_4, .int .i64 a0_5] 56 (0, 0))) ∧ Aside0 (Below w.heap.size w wc))
   case first =>
    have H := HC3.out
    clear HC3
    by_cases c4 : x8_1 < (l0_0.length : Int)
    ·
     rw [if_pos c4] at H
     have c4b0 : decide (x8_1 < (l0_0.length : Int)) = true := decide_eq_true c4
     clear c4
     (first | rw [c4b0] | (simp only [i64_w, i32_w]; rw [c4b0]) | skip)
     replace H := Option.bind_eq_some_iff.mp H
     obtain ⟨t246, A50, H⟩ := H
     replace H : (spec_NextDue.j1 k1 x5_1 x6_1 x7_1 x8_1 t246 l0_0 l0_1 l0_2 a0_3 a0_4 a0_5) = some (r1, r2, r3) := H
     have A5 := Aside0.mk A50
     clear A50
     have H' := Aside0.mk H
     clear H
     obtain ⟨hcz6_0, hcz6_1, hcz6_2, hcz6_3, hcz6_4, hcz6_5⟩ := ck6 BK245.out
     obtain ⟨hfz6_0, hfz6_1, hfz6_2, hfz6_3, hfz6_4, hfz6_5⟩ := fz6 BK245.out
     go_wp2_with (first | (go_at_call 29; (with_reducible refine (spec_FleetOk.calls k1 _ _ l0_0 _ _ l0_1 _ _ l0_2 a0_3 a0_4 a0_5 t246 _ ?side1 ?side2 ?side3 ?side4 ?side5 ?side6 A5.out).mono ?_); (case side1 => exact rc (Kd.C_below HR0_0.out HB.out)); (case side2 => exact HC0_0.out); (case side3 => exact rc (Kd.C_below HR0_1.out HB.out)); (case side4 => exact HC0_1.out); (case side5 => exact rc (Kd.C_below HR0_2.out HB.out)); (case side6 => exact HC0_2.out); rintro e w7 ⟨rfl, hb⟩; replace BK245 := Aside0.mk (blk_below (bk BK245.out) hb); replace HB := Aside0.mk (below_step (by repeat with_reducible first | exact bl HB.out | refine below_set ?_ GE245.out | refine bq ?_) hb); (try clear hb); (try clear hb2); (try clear hk); (try clear hi)))
     go_meet
     case rel => exact ⟨_, (t246), (by first | rfl | (simp; done) | (simp [*]; done)), H', ⟨by have := HK1.out; first | omega | exact Nat.le_refl _⟩, ⟨bk BK245.out⟩, ⟨by repeat with_reducible first | exact bl HB.out | refine below_set ?_ GE245.out | refine bq ?_⟩⟩
    ·
     rw [if_neg c4] at H
     have c4b0 : decide (x8_1 < (l0_0.length : Int)) = false := decide_eq_false c4
     clear c4
     (first | rw [c4b0] | (simp only [i64_w, i32_w]; rw [c4b0]) | skip)
     have H' := Aside0.mk H
     clear H
     obtain ⟨hcz8_0, hcz8_1, hcz8_2, hcz8_3, hcz8_4, hcz8_5⟩ := ck6 BK245.out
     obtain ⟨hfz8_0, hfz8_1, hfz8_2, hfz8_3, hfz8_4, hfz8_5⟩ := fz6 BK245.out
     go_wp2
     go_meet
     case rel => exact ⟨_, (false), (by first | rfl | (simp; done) | (simp [*]; done)), H', ⟨by have := HK1.out; first | omega | exact Nat.le_refl _⟩, ⟨bk BK245.out⟩, ⟨by repeat with_reducible first | exact bl HB.out | refine below_set ?_ GE245.out | refine bq ?_⟩⟩
   case rest =>
    clear HC3
    try clear p2
    try clear c3
    try clear c4
    try clear c4b0
    try clear hcz6_0 hcz6_1 hcz6_2 hcz6_3 hcz6_4 hcz6_5 hfz6_0 hfz6_1 hfz6_2 hfz6_3 hfz6_4 hfz6_5
    try clear hcz8_0 hcz8_1 hcz8_2 hcz8_3 hcz8_4 hcz8_5 hfz8_0 hfz8_1 hfz8_2 hfz8_3 hfz8_4 hfz8_5
    try clear p2
    obtain ⟨kq, x20_2, rfl, HA, HJ2, BK245, HB⟩ := hcut
    cases kq with
    | zero => exact absurd HA.out (by simp [spec_NextDue.j1])
    | succ kj2 =>
     have H := HA.out
     clear HA
     simp only [spec_NextDue.j1] at H
     by_cases c9 : x20_2 = true
     ·
      subst c9
      have H1 : (if 0 ≤ x8_1 then (if x8_1 < (l0_0.length : Int) then ((spec_Due19.f kj2 ((rd_T33 l0_0 x8_1).f0) ((rd_T33 l0_0 x8_1).f1) ((rd_T33 l0_0 x8_1).f2) ((rd_T33 l0_0 x8_1).f3) ((rd_T33 l0_0 x8_1).f4.f0) ((rd_T33 l0_0 x8_1).f4.f1) ((rd_T33 l0_0 x8_1).f4.f2) a0_3 a0_4 a0_5).bind fun bt248 => (if bt248.1 = true then (spec_NextDue.j2 kj2 x5_1 x6_1 x7_1 x8_1 false l0_0 l0_1 l0_2 a0_3 a0_4 a0_5 bt248.2.1 bt248.2.2.1 bt248.2.2.2.1) else (if ((rd_T33 l0_0 x8_1).f2) > 0 then (if x7_1 = true then (spec_NextDue.j2 kj2 x5_1 x6_1 x7_1 x8_1 (decide (bt248.2.2.1 < x6_1)) l0_0 l0_1 l0_2 a0_3 a0_4 a0_5 bt248.2.1 bt248.2.2.1 bt248.2.2.2.1) else (spec_NextDue.j2 kj2 x5_1 x6_1 x7_1 x8_1 true l0_0 l0_1 l0_2 a0_3 a0_4 a0_5 bt248.2.1 bt248.2.2.1 bt248.2.2.2.1)) else (spec_NextDue.j2 kj2 x5_1 x6_1 x7_1 x8_1 false l0_0 l0_1 l0_2 a0_3 a0_4 a0_5 bt248.2.1 bt248.2.2.1 bt248.2.2.2.1)))) else (none)) else (none)) = some (r1, r2, r3) := by rw [if_pos rfl] at H; exact H
      clear H
      have H := H1
      clear H1
      by_cases c10 : 0 ≤ x8_1
      ·
       rw [if_pos c10] at H
       have c10b0 : decide (0 ≤ x8_1) = true := decide_eq_true c10
       clear c10
       by_cases c11 : x8_1 < (l0_0.length : Int)
       ·
        rw [if_pos c11] at H
        have c11b0 : decide (x8_1 < (l0_0.length : Int)) = true := decide_eq_true c11
        clear c11
        replace H := Option.bind_eq_some_iff.mp H
        obtain ⟨⟨t248, t249, t250, t251, t252⟩, A120, H⟩ := H
        replace H : (if t248 = true then (spec_NextDue.j2 kj2 x5_1 x6_1 x7_1 x8_1 false l0_0 l0_1 l0_2 a0_3 a0_4 a0_5 t249 t250 t251) else (if ((rd_T33 l0_0 x8_1).f2) > 0 then (if x7_1 = true then (spec_NextDue.j2 kj2 x5_1 x6_1 x7_1 x8_1 (decide (t250 < x6_1)) l0_0 l0_1 l0_2 a0_3 a0_4 a0_5 t249 t250 t251) else (spec_NextDue.j2 kj2 x5_1 x6_1 x7_1 x8_1 true l0_0 l0_1 l0_2 a0_3 a0_4 a0_5 t249 t250 t251)) else (spec_NextDue.j2 kj2 x5_1 x6_1 x7_1 x8_1 false l0_0 l0_1 l0_2 a0_3 a0_4 a0_5 t249 t250 t251))) = some (r1, r2, r3) := H
        have A12 := Aside0.mk A120
        clear A120
        have HC13 := Aside0.mk H
        clear H
        try go_wp2
        have n0_ := Aside0.mk (blk_drew BK245.out)
        have n1_ := Aside0.mk (below_drew1 HB.out)
        clear BK245
        clear HB
        have BK245 := n0_
        have HB := n1_
        clear n0_ n1_
        have p247 : 0 ≤ (x8_1 : Int) := of_decide_eq_true (by first | (with_reducible assumption) | assumption)
        have q247 : x8_1 < (l0_0.length : Int) := of_decide_eq_true (by first | (with_reducible assumption) | assumption)
        obtain ⟨ad247, e247, hx247_0, hx247_1, hx247_2, hx247_3, hx247_4, hx247_5, hx247_6⟩ := at_T33 HR0_0.out x8_1 p247 q247
        have hw247_6 := hx247_6
        have hw247_5 := hx247_5
        have hw247_4 := hx247_4
        have hw247_3 := hx247_3
        have hw247_2 := hx247_2
        have hw247_1 := hx247_1
        have hw247_0 := hx247_0
        cases e247
        replace hx247_0 := bc HB.out hx247_0
        replace hx247_1 := bc HB.out hx247_1
        replace hx247_2 := bc HB.out hx247_2
        replace hx247_3 := bc HB.out hx247_3
        replace hx247_4 := bc HB.out hx247_4
        replace hx247_5 := bc HB.out hx247_5
        replace hx247_6 := bc HB.out hx247_6
        replace p247 := eq_true p247
        replace q247 := eq_true q247
        refine start_ (n := 16) (S := fun w' => w'.cell? ⟨gb245, 0, none⟩ = some (.slice (some ad247) l0_0.length c0_0) ∧ w'.cell? ⟨gb245, 1, none⟩ = some (.slice A0_1 l0_1.length c0_1) ∧ w'.cell? ⟨gb245, 2, none⟩ = some (.slice A0_2 l0_2.length c0_2) ∧ w'.cell? ⟨gb245, 3, none⟩ = some (.int .i64 a0_3) ∧ w'.cell? ⟨gb245, 4, none⟩ = some (.int .i64 a0_4) ∧ w'.cell? ⟨gb245, 5, none⟩ = some (.int .i64 a0_5) ∧ w'.cell? (ad247.add ((x8_1).toNat * 7)) = some (.string ((rd_T33 l0_0 x8_1).f0)) ∧ w'.cell? ⟨(ad247.add ((x8_1).toNat * 7)).block, (ad247.add ((x8_1).toNat * 7)).off + 1, none⟩ = some (.int .i64 ((rd_T33 l0_0 x8_1).f1)) ∧ w'.cell? ⟨(ad247.add ((x8_1).toNat * 7)).block, (ad247.add ((x8_1).toNat * 7)).off + 2, none⟩ = some (.int .i64 ((rd_T33 l0_0 x8_1).f2)) ∧ w'.cell? ⟨(ad247.add ((x8_1).toNat * 7)).block, (ad247.add ((x8_1).toNat * 7)).off + 3, none⟩ = some (.int .i64 ((rd_T33 l0_0 x8_1).f3)) ∧ w'.cell? ⟨(ad247.add ((x8_1).toNat * 7)).block, (ad247.add ((x8_1).toNat * 7)).off + 4, none⟩ = some (.int .i64 ((rd_T33 l0_0 x8_1).f4.f0)) ∧ w'.cell? ⟨(ad247.add ((x8_1).toNat * 7)).block, (ad247.add ((x8_1).toNat * 7)).off + 5, none⟩ = some (.int .i64 ((rd_T33 l0_0 x8_1).f4.f1)) ∧ w'.cell? ⟨(ad247.add ((x8_1).toNat * 7)).block, (ad247.add ((x8_1).toNat * 7)).off + 6, none⟩ = some (.int .i64 ((rd_T33 l0_0 x8_1).f4.f2))) (ds := []) m0_16 (by kernel_rfl) rfl rfl ⟨ck BK245.out 0 rfl, ck BK245.out 1 rfl, ck BK245.out 2 rfl, ck BK245.out 3 rfl, ck BK245.out 4 rfl, ck BK245.out 5 rfl, ((HB.out.cell (World.block_lt_of_cell? w _ hw247_0)).trans hw247_0), ((HB.out.cell (World.block_lt_of_cell? w _ hw247_1)).trans hw247_1), ((HB.out.cell (World.block_lt_of_cell? w _ hw247_2)).trans hw247_2), ((HB.out.cell (World.block_lt_of_cell? w _ hw247_3)).trans hw247_3), ((HB.out.cell (World.block_lt_of_cell? w _ hw247_4)).trans hw247_4), ((HB.out.cell (World.block_lt_of_cell? w _ hw247_5)).trans hw247_5), ((HB.out.cell (World.block_lt_of_cell? w _ hw247_6)).trans hw247_6)⟩ (fun hHeld => ?_); refine with_tabW spec_NextDue.tab5 spec_NextDue.bits5 (fun HT_ HW_ => ?_)
        generalize wc.drew = w14 at BK245 HB hx247_0 hx247_1 hx247_2 hx247_3 hx247_4 hx247_5 hx247_6 hHeld ⊢
        refine pq_ HT_.out 0 24 m1_16 ?_
        refine pq_ HT_.out 2 26 n164 ?_
        refine pq_ HT_.out 5 29 n165 ?_
        refine tk_ HT_.out HW_.out 1 25 n177 rfl rfl (by kernel_rfl) (by rfl) (by rintro w' ⟨s0, s1, s2, s3, s4, s5, s6, s7, s8, s9, s10, s11, s12⟩; go_simp; with_reducible rfl) hHeld (by simp only [sp_]; rfl) (fun _ _ _ h => h) ?_
        refine pq_ HT_.out 3 27 n166 ?_
        refine tk_ HT_.out HW_.out 4 28 m6_16 rfl rfl (by kernel_rfl) (by rfl) (by rintro w' ⟨s0, s1, s2, s3, s4, s5, s6, s7, s8, s9, s10, s11, s12⟩; go_simp; with_reducible rfl) hHeld (by simp only [sp_]; rfl) (fun _ _ _ h => h) ?_
        refine tk_ HT_.out HW_.out 6 30 m7_16 rfl rfl (by kernel_rfl) (by rfl) (by rintro w' ⟨s0, s1, s2, s3, s4, s5, s6, s7, s8, s9, s10, s11, s12⟩; go_simp; with_reducible rfl) hHeld (by simp only [sp_]; rfl) (fun _ _ _ h => h) ?_
        refine join_ (σ := Nat) 3 m13_16 (fun s_ => [(31, .tuple #[.bool t248, .agg #[.int .i64 t249, .int .i64 t250, .int .i64 t251], .bool t252]), (10, .pointer (some ⟨s_, 0, none⟩)), (23, .tuple #[.bool t248, .agg #[.int .i64 t249, .int .i64 t250, .int .i64 t251], .bool t252]), (32, .bool t248), (33, .agg #[.int .i64 t249, .int .i64 t250, .int .i64 t251]), (34, .bool t252)]) (fun s_ w' => (w'.cell? ⟨gb245, 0, none⟩ = some (.slice (some ad247) l0_0.length c0_0) ∧ w'.cell? ⟨gb245, 1, none⟩ = some (.slice A0_1 l0_1.length c0_1) ∧ w'.cell? ⟨gb245, 2, none⟩ = some (.slice A0_2 l0_2.length c0_2) ∧ w'.cell? ⟨gb245, 3, none⟩ = some (.int .i64 a0_3) ∧ w'.cell? ⟨gb245, 4, none⟩ = some (.int .i64 a0_4) ∧ w'.cell? ⟨gb245, 5, none⟩ = some (.int .i64 a0_5) ∧ w'.cell? (ad247.add ((x8_1).toNat * 7)) = some (.string ((rd_T33 l0_0 x8_1).f0)) ∧ w'.cell? ⟨(ad247.add ((x8_1).toNat * 7)).block, (ad247.add ((x8_1).toNat * 7)).off + 1, none⟩ = some (.int .i64 ((rd_T33 l0_0 x8_1).f1)) ∧ w'.cell? ⟨(ad247.add ((x8_1).toNat * 7)).block, (ad247.add ((x8_1).toNat * 7)).off + 2, none⟩ = some (.int .i64 ((rd_T33 l0_0 x8_1).f2)) ∧ w'.cell? ⟨(ad247.add ((x8_1).toNat * 7)).block, (ad247.add ((x8_1).toNat * 7)).off + 3, none⟩ = some (.int .i64 ((rd_T33 l0_0 x8_1).f3)) ∧ w'.cell? ⟨(ad247.add ((x8_1).toNat * 7)).block, (ad247.add ((x8_1).toNat * 7)).off + 4, none⟩ = some (.int .i64 ((rd_T33 l0_0 x8_1).f4.f0)) ∧ w'.cell? ⟨(ad247.add ((x8_1).toNat * 7)).block, (ad247.add ((x8_1).toNat * 7)).off + 5, none⟩ = some (.int .i64 ((rd_T33 l0_0 x8_1).f4.f1)) ∧ w'.cell? ⟨(ad247.add ((x8_1).toNat * 7)).block, (ad247.add ((x8_1).toNat * 7)).off + 6, none⟩ = some (.int .i64 ((rd_T33 l0_0 x8_1).f4.f2))) ∧ (w'.heap[gb245]? = some (.cells #[.slice (some ad247) l0_0.length c0_0, .slice A0_1 l0_1.length c0_1, .slice A0_2 l0_2.length c0_2, .int .i64 a0_3, .int .i64 a0_4, .int .i64 a0_5] 56 (0, 0))) ∧ (w'.heap[s_]? = some (.cells #[.int .i64 0, .int .i64 0, .int .i64 0] 25 (0, 0))) ∧ (w.heap.size ≤ s_) ∧ (w.heap.size ≤ s_) ∧ (gb245 ≠ s_) ∧ (s_ ≠ gb245) ∧ (Below w.heap.size w w')) ?_ ?_
        rotate_left
        ·
         intro hCont
         refine two_ (i := 7) (j := 12) (Ni := some 31) (Nj := some 10) m8_16 n182 rfl rfl rfl rfl (two_of HT_.out (by kernel_rfl)) (by decide) (by decide) (fun K hK => ?_) (fun K hK => ?_)
         ·
          skip
          refine goes_ Try.func25 (by kernel_rfl) rfl #[.agg #[.string ((rd_T33 l0_0 x8_1).f0), .int .i64 ((rd_T33 l0_0 x8_1).f1), .int .i64 ((rd_T33 l0_0 x8_1).f2), .int .i64 ((rd_T33 l0_0 x8_1).f3), .int .i64 ((rd_T33 l0_0 x8_1).f4.f0), .int .i64 ((rd_T33 l0_0 x8_1).f4.f1), .int .i64 ((rd_T33 l0_0 x8_1).f4.f2)], .agg #[.int .i64 a0_3, .int .i64 a0_4, .int .i64 a0_5]] (by rfl) rfl rfl (by (try simp only [am_]); first | done | rfl) ?_
          with_reducible refine (spec_Due19.calls kj2 ((rd_T33 l0_0 x8_1).f0) ((rd_T33 l0_0 x8_1).f1) ((rd_T33 l0_0 x8_1).f2) ((rd_T33 l0_0 x8_1).f3) ((rd_T33 l0_0 x8_1).f4.f0) ((rd_T33 l0_0 x8_1).f4.f1) ((rd_T33 l0_0 x8_1).f4.f2) a0_3 a0_4 a0_5 t248 t249 t250 t251 t252 _ A12.out).mono ?_
          rintro e w15 ⟨rfl, hb⟩
          refine ⟨_, rfl, ?_⟩
          have n0_ := Aside0.mk (blk_below (bk BK245.out) hb)
          have n1_ := Aside0.mk (below_step (by repeat with_reducible first | exact bl HB.out | refine below_set ?_ GE245.out | refine bq ?_) hb)
          clear BK245
          clear HB
          have BK245 := n0_
          have HB := n1_
          clear n0_ n1_
          (try clear hb)
          (try clear hb2)
          (try clear hk)
          (try clear hi)
          refine hK.out _ _ ⟨ck BK245.out 0 rfl, ck BK245.out 1 rfl, ck BK245.out 2 rfl, ck BK245.out 3 rfl, ck BK245.out 4 rfl, ck BK245.out 5 rfl, ((HB.out.cell (World.block_lt_of_cell? w _ hw247_0)).trans hw247_0), ((HB.out.cell (World.block_lt_of_cell? w _ hw247_1)).trans hw247_1), ((HB.out.cell (World.block_lt_of_cell? w _ hw247_2)).trans hw247_2), ((HB.out.cell (World.block_lt_of_cell? w _ hw247_3)).trans hw247_3), ((HB.out.cell (World.block_lt_of_cell? w _ hw247_4)).trans hw247_4), ((HB.out.cell (World.block_lt_of_cell? w _ hw247_5)).trans hw247_5), ((HB.out.cell (World.block_lt_of_cell? w _ hw247_6)).trans hw247_6)⟩ (fun hHeld => ?_)
          clear hK K
          refine norm_ (a' := ?_) ?_ ?_
          rotate_left
          ·
           show Act.put _ (some 31) _ = _
           simp only [sp_]
           rfl
          refine pq_ HT_.out 8 23 m9_16 ?_
          refine pq_ HT_.out 9 32 m10_16 ?_
          refine pq_ HT_.out 10 33 m11_16 ?_
          refine pq_ HT_.out 11 34 m12_16 ?_
          refine one_ (i := 12) (N := some 10) m13_16 rfl rfl (one_of HT_.out (by kernel_rfl)) (by decide) (fun K hK => ?_)
          refine box_step ?hg (N := 10) ?hd (cs := #[.int .i64 0, .int .i64 0, .int .i64 0]) (t := 25) ?hr ?_; (case hd => rfl); (case hg => rfl); (case hr => first | (go_simp; done) | (go_simp; rfl))
          intro gb253 hg w16 hbox hb
          have n0_ := Aside0.mk (blk_below (bk BK245.out) hb)
          have n1_ := Aside0.mk (below_step (by repeat with_reducible first | exact bl HB.out | refine below_set ?_ GE245.out | refine bq ?_) hb)
          have n2_ := Aside0.mk (hbox)
          have n3_ := Aside0.mk ((by rw [hg]; exact (below_size (by repeat with_reducible first | exact bl HB.out | refine below_set ?_ GE245.out | refine bq ?_)) : w.heap.size ≤ gb253))
          have n4_ := Aside0.mk ((by rw [hg]; exact (below_size (by repeat with_reducible first | exact bl HB.out | refine below_set ?_ GE245.out | refine bq ?_)) : w.heap.size ≤ gb253))
          have n5_ := Aside0.mk ((by rw [hg]; exact Nat.ne_of_lt (blk_lt (g := gb245) (o := .cells #[.slice (some ad247) l0_0.length c0_0, .slice A0_1 l0_1.length c0_1, .slice A0_2 l0_2.length c0_2, .int .i64 a0_3, .int .i64 a0_4, .int .i64 a0_5] 56 (0, 0)) (bk BK245.out)) : gb245 ≠ gb253))
          have n6_ := Aside0.mk ((by rw [hg]; exact Nat.ne_of_gt (blk_lt (g := gb245) (o := .cells #[.slice (some ad247) l0_0.length c0_0, .slice A0_1 l0_1.length c0_1, .slice A0_2 l0_2.length c0_2, .int .i64 a0_3, .int .i64 a0_4, .int .i64 a0_5] 56 (0, 0)) (bk BK245.out)) : gb253 ≠ gb245))
          clear BK245
          clear HB
          have BK245 := n0_
          have HB := n1_
          have BK253 := n2_
          have GW253 := n3_
          have GE253 := n4_
          have NB245_253 := n5_
          have NB253_245 := n6_
          clear n0_ n1_ n2_ n3_ n4_ n5_ n6_
          clear hb hbox hg
          refine hK.out _ _ ⟨ck BK245.out 0 rfl, ck BK245.out 1 rfl, ck BK245.out 2 rfl, ck BK245.out 3 rfl, ck BK245.out 4 rfl, ck BK245.out 5 rfl, ((HB.out.cell (World.block_lt_of_cell? w _ hw247_0)).trans hw247_0), ((HB.out.cell (World.block_lt_of_cell? w _ hw247_1)).trans hw247_1), ((HB.out.cell (World.block_lt_of_cell? w _ hw247_2)).trans hw247_2), ((HB.out.cell (World.block_lt_of_cell? w _ hw247_3)).trans hw247_3), ((HB.out.cell (World.block_lt_of_cell? w _ hw247_4)).trans hw247_4), ((HB.out.cell (World.block_lt_of_cell? w _ hw247_5)).trans hw247_5), ((HB.out.cell (World.block_lt_of_cell? w _ hw247_6)).trans hw247_6)⟩ (fun hHeld => ?_)
          clear hK K
          refine norm_ (a' := ?_) ?_ ?_
          rotate_left
          ·
           show Act.put _ (some 10) _ = _
           simp only [sp_]
           rfl
          exact norm_ (by simp only [putAll, Act.put, List.setIfInBounds_toArray, List.set_cons_zero, List.set_cons_succ]) (hCont (gb253) _ ⟨hHeld, (bk BK245.out), (bk BK253.out), GW253.out, GE253.out, NB245_253.out, NB253_245.out, (by repeat with_reducible first | exact bl HB.out | refine below_set ?_ GE245.out | refine below_set ?_ GE253.out | refine bq ?_)⟩)
         ·
          skip
          refine box_step ?hg (N := 10) ?hd (cs := #[.int .i64 0, .int .i64 0, .int .i64 0]) (t := 25) ?hr ?_; (case hd => rfl); (case hg => rfl); (case hr => first | (go_simp; done) | (go_simp; rfl))
          intro gb253 hg w15 hbox hb
          have n0_ := Aside0.mk (blk_below (bk BK245.out) hb)
          have n1_ := Aside0.mk (below_step (by repeat with_reducible first | exact bl HB.out | refine below_set ?_ GE245.out | refine bq ?_) hb)
          have n2_ := Aside0.mk (hbox)
          have n3_ := Aside0.mk ((by rw [hg]; exact (below_size (by repeat with_reducible first | exact bl HB.out | refine below_set ?_ GE245.out | refine bq ?_)) : w.heap.size ≤ gb253))
          have n4_ := Aside0.mk ((by rw [hg]; exact (below_size (by repeat with_reducible first | exact bl HB.out | refine below_set ?_ GE245.out | refine bq ?_)) : w.heap.size ≤ gb253))
          have n5_ := Aside0.mk ((by rw [hg]; exact Nat.ne_of_lt (blk_lt (g := gb245) (o := .cells #[.slice (some ad247) l0_0.length c0_0, .slice A0_1 l0_1.length c0_1, .slice A0_2 l0_2.length c0_2, .int .i64 a0_3, .int .i64 a0_4, .int .i64 a0_5] 56 (0, 0)) (bk BK245.out)) : gb245 ≠ gb253))
          have n6_ := Aside0.mk ((by rw [hg]; exact Nat.ne_of_gt (blk_lt (g := gb245) (o := .cells #[.slice (some ad247) l0_0.length c0_0, .slice A0_1 l0_1.length c0_1, .slice A0_2 l0_2.length c0_2, .int .i64 a0_3, .int .i64 a0_4, .int .i64 a0_5] 56 (0, 0)) (bk BK245.out)) : gb253 ≠ gb245))
          clear BK245
          clear HB
          have BK245 := n0_
          have HB := n1_
          have BK253 := n2_
          have GW253 := n3_
          have GE253 := n4_
          have NB245_253 := n5_
          have NB253_245 := n6_
          clear n0_ n1_ n2_ n3_ n4_ n5_ n6_
          clear hb hbox hg
          refine hK.out _ _ ⟨ck BK245.out 0 rfl, ck BK245.out 1 rfl, ck BK245.out 2 rfl, ck BK245.out 3 rfl, ck BK245.out 4 rfl, ck BK245.out 5 rfl, ((HB.out.cell (World.block_lt_of_cell? w _ hw247_0)).trans hw247_0), ((HB.out.cell (World.block_lt_of_cell? w _ hw247_1)).trans hw247_1), ((HB.out.cell (World.block_lt_of_cell? w _ hw247_2)).trans hw247_2), ((HB.out.cell (World.block_lt_of_cell? w _ hw247_3)).trans hw247_3), ((HB.out.cell (World.block_lt_of_cell? w _ hw247_4)).trans hw247_4), ((HB.out.cell (World.block_lt_of_cell? w _ hw247_5)).trans hw247_5), ((HB.out.cell (World.block_lt_of_cell? w _ hw247_6)).trans hw247_6)⟩ (fun hHeld => ?_)
          clear hK K
          refine norm_ (a' := ?_) ?_ ?_
          rotate_left
          ·
           show Act.put _ (some 10) _ = _
           simp only [sp_]
           rfl
          refine one_ (i := 7) (N := some 31) n183 rfl rfl (one_of HT_.out (by kernel_rfl)) (by decide) (fun K hK => ?_)
          refine goes_ Try.func25 (by kernel_rfl) rfl #[.agg #[.string ((rd_T33 l0_0 x8_1).f0), .int .i64 ((rd_T33 l0_0 x8_1).f1), .int .i64 ((rd_T33 l0_0 x8_1).f2), .int .i64 ((rd_T33 l0_0 x8_1).f3), .int .i64 ((rd_T33 l0_0 x8_1).f4.f0), .int .i64 ((rd_T33 l0_0 x8_1).f4.f1), .int .i64 ((rd_T33 l0_0 x8_1).f4.f2)], .agg #[.int .i64 a0_3, .int .i64 a0_4, .int .i64 a0_5]] (by rfl) rfl rfl (by (try simp only [am_]); first | done | rfl) ?_
          with_reducible refine (spec_Due19.calls kj2 ((rd_T33 l0_0 x8_1).f0) ((rd_T33 l0_0 x8_1).f1) ((rd_T33 l0_0 x8_1).f2) ((rd_T33 l0_0 x8_1).f3) ((rd_T33 l0_0 x8_1).f4.f0) ((rd_T33 l0_0 x8_1).f4.f1) ((rd_T33 l0_0 x8_1).f4.f2) a0_3 a0_4 a0_5 t248 t249 t250 t251 t252 _ A12.out).mono ?_
          rintro e w16 ⟨rfl, hb⟩
          refine ⟨_, rfl, ?_⟩
          have n0_ := Aside0.mk (blk_below (bk BK245.out) hb)
          have n1_ := Aside0.mk (blk_below (bk BK253.out) hb)
          have n2_ := Aside0.mk (below_step (by repeat with_reducible first | exact bl HB.out | refine below_set ?_ GE245.out | refine below_set ?_ GE253.out | refine bq ?_) hb)
          clear BK245
          clear BK253
          clear HB
          have BK245 := n0_
          have BK253 := n1_
          have HB := n2_
          clear n0_ n1_ n2_
          (try clear hb)
          (try clear hb2)
          (try clear hk)
          (try clear hi)
          refine hK.out _ _ ⟨ck BK245.out 0 rfl, ck BK245.out 1 rfl, ck BK245.out 2 rfl, ck BK245.out 3 rfl, ck BK245.out 4 rfl, ck BK245.out 5 rfl, ((HB.out.cell (World.block_lt_of_cell? w _ hw247_0)).trans hw247_0), ((HB.out.cell (World.block_lt_of_cell? w _ hw247_1)).trans hw247_1), ((HB.out.cell (World.block_lt_of_cell? w _ hw247_2)).trans hw247_2), ((HB.out.cell (World.block_lt_of_cell? w _ hw247_3)).trans hw247_3), ((HB.out.cell (World.block_lt_of_cell? w _ hw247_4)).trans hw247_4), ((HB.out.cell (World.block_lt_of_cell? w _ hw247_5)).trans hw247_5), ((HB.out.cell (World.block_lt_of_cell? w _ hw247_6)).trans hw247_6)⟩ (fun hHeld => ?_)
          clear hK K
          refine norm_ (a' := ?_) ?_ ?_
          rotate_left
          ·
           show Act.put _ (some 31) _ = _
           simp only [sp_]
           rfl
          refine pq_ HT_.out 8 23 n171 ?_
          refine pq_ HT_.out 9 32 n172 ?_
          refine pq_ HT_.out 10 33 n173 ?_
          refine pq_ HT_.out 11 34 m13_16 ?_
          exact norm_ (by simp only [putAll, Act.put, List.setIfInBounds_toArray, List.set_cons_zero, List.set_cons_succ]) (hCont (gb253) _ ⟨hHeld, (bk BK245.out), (bk BK253.out), GW253.out, GE253.out, NB245_253.out, NB253_245.out, (by repeat with_reducible first | exact bl HB.out | refine below_set ?_ GE245.out | refine below_set ?_ GE253.out | refine bq ?_)⟩)
        rintro gb253 w17 ⟨hS_, h0_, h1_, h2_, h3_, h4_, h5_, h6_⟩
        have n0_ : Aside0 (w17.heap[gb245]? = some (.cells #[.slice (some ad247) l0_0.length c0_0, .slice A0_1 l0_1.length c0_1, .slice A0_2 l0_2.length c0_2, .int .i64 a0_3, .int .i64 a0_4, .int .i64 a0_5] 56 (0, 0))) := ⟨h0_⟩
        have n1_ : Aside0 (w17.heap[gb253]? = some (.cells #[.int .i64 0, .int .i64 0, .int .i64 0] 25 (0, 0))) := ⟨h1_⟩
        have n2_ : Aside0 (w.heap.size ≤ gb253) := ⟨h2_⟩
        have n3_ : Aside0 (w.heap.size ≤ gb253) := ⟨h3_⟩
        have n4_ : Aside0 (gb245 ≠ gb253) := ⟨h4_⟩
        have n5_ : Aside0 (gb253 ≠ gb245) := ⟨h5_⟩
        have n6_ : Aside0 (Below w.heap.size w w17) := ⟨h6_⟩
        clear BK245
        clear HB
        clear h0_ h1_ h2_ h3_ h4_ h5_ h6_
        have BK245 := n0_
        have BK253 := n1_
        have GW253 := n2_
        have GE253 := n3_
        have NB245_253 := n4_
        have NB253_245 := n5_
        have HB := n6_
        clear n0_ n1_ n2_ n3_ n4_ n5_ n6_
        have hHeld : w17.cell? ⟨gb245, 0, none⟩ = some (.slice (some ad247) l0_0.length c0_0) ∧ w17.cell? ⟨gb245, 1, none⟩ = some (.slice A0_1 l0_1.length c0_1) ∧ w17.cell? ⟨gb245, 2, none⟩ = some (.slice A0_2 l0_2.length c0_2) ∧ w17.cell? ⟨gb245, 3, none⟩ = some (.int .i64 a0_3) ∧ w17.cell? ⟨gb245, 4, none⟩ = some (.int .i64 a0_4) ∧ w17.cell? ⟨gb245, 5, none⟩ = some (.int .i64 a0_5) ∧ w17.cell? (ad247.add ((x8_1).toNat * 7)) = some (.string ((rd_T33 l0_0 x8_1).f0)) ∧ w17.cell? ⟨(ad247.add ((x8_1).toNat * 7)).block, (ad247.add ((x8_1).toNat * 7)).off + 1, none⟩ = some (.int .i64 ((rd_T33 l0_0 x8_1).f1)) ∧ w17.cell? ⟨(ad247.add ((x8_1).toNat * 7)).block, (ad247.add ((x8_1).toNat * 7)).off + 2, none⟩ = some (.int .i64 ((rd_T33 l0_0 x8_1).f2)) ∧ w17.cell? ⟨(ad247.add ((x8_1).toNat * 7)).block, (ad247.add ((x8_1).toNat * 7)).off + 3, none⟩ = some (.int .i64 ((rd_T33 l0_0 x8_1).f3)) ∧ w17.cell? ⟨(ad247.add ((x8_1).toNat * 7)).block, (ad247.add ((x8_1).toNat * 7)).off + 4, none⟩ = some (.int .i64 ((rd_T33 l0_0 x8_1).f4.f0)) ∧ w17.cell? ⟨(ad247.add ((x8_1).toNat * 7)).block, (ad247.add ((x8_1).toNat * 7)).off + 5, none⟩ = some (.int .i64 ((rd_T33 l0_0 x8_1).f4.f1)) ∧ w17.cell? ⟨(ad247.add ((x8_1).toNat * 7)).block, (ad247.add ((x8_1).toNat * 7)).off + 6, none⟩ = some (.int .i64 ((rd_T33 l0_0 x8_1).f4.f2)) := hS_
        refine norm_ (a' := ?_) ?_ ?_
        rotate_left
        ·
         simp only [putAll, Act.put, List.setIfInBounds_toArray, List.set_cons_zero, List.set_cons_succ]
         rfl
        refine pq_ HT_.out 13 9 m14_16 ?_
        refine one_ (i := 14) (N := none) m15_16 rfl rfl (one_of HT_.out (by kernel_rfl)) (by decide) (fun K hK => ?_)
        have hs18 : w17.cell? ⟨gb253, 0, none⟩ = some (.int .i64 0) := ck BK253.out 0 rfl
        have hfs18 := blk_frozen BK253.out 0
        have hns18_0 := NB245_253.out
        have hms18_0 := NB253_245.out
        have hs19 : w17.cell? ⟨gb253, 1, none⟩ = some (.int .i64 0) := ck BK253.out 1 rfl
        have hfs19 := blk_frozen BK253.out 1
        have hns19_0 := NB245_253.out
        have hms19_0 := NB253_245.out
        have hs20 : w17.cell? ⟨gb253, 2, none⟩ = some (.int .i64 0) := ck BK253.out 2 rfl
        have hfs20 := blk_frozen BK253.out 2
        have hns20_0 := NB245_253.out
        have hms20_0 := NB253_245.out
        refine skip_ (w1 := ?_) (by rfl) rfl ?_ ?_
        rotate_left
        ·
         go_simp
         rfl
        refine hK.out _ _ ⟨((cell_far (p := ⟨gb253, _, none⟩) NB245_253.out _).trans (((cell_far (p := ⟨gb253, _, none⟩) NB245_253.out _).trans (((cell_far (p := ⟨gb253, _, none⟩) NB245_253.out _).trans (hHeld.1)))))), ((cell_far (p := ⟨gb253, _, none⟩) NB245_253.out _).trans (((cell_far (p := ⟨gb253, _, none⟩) NB245_253.out _).trans (((cell_far (p := ⟨gb253, _, none⟩) NB245_253.out _).trans (hHeld.2.1)))))), ((cell_far (p := ⟨gb253, _, none⟩) NB245_253.out _).trans (((cell_far (p := ⟨gb253, _, none⟩) NB245_253.out _).trans (((cell_far (p := ⟨gb253, _, none⟩) NB245_253.out _).trans (hHeld.2.2.1)))))), ((cell_far (p := ⟨gb253, _, none⟩) NB245_253.out _).trans (((cell_far (p := ⟨gb253, _, none⟩) NB245_253.out _).trans (((cell_far (p := ⟨gb253, _, none⟩) NB245_253.out _).trans (hHeld.2.2.2.1)))))), ((cell_far (p := ⟨gb253, _, none⟩) NB245_253.out _).trans (((cell_far (p := ⟨gb253, _, none⟩) NB245_253.out _).trans (((cell_far (p := ⟨gb253, _, none⟩) NB245_253.out _).trans (hHeld.2.2.2.2.1)))))), ((cell_far (p := ⟨gb253, _, none⟩) NB245_253.out _).trans (((cell_far (p := ⟨gb253, _, none⟩) NB245_253.out _).trans (((cell_far (p := ⟨gb253, _, none⟩) NB245_253.out _).trans (hHeld.2.2.2.2.2.1)))))), ((cell_far (p := ⟨gb253, _, none⟩) (by first | exact Nat.ne_of_lt (Nat.lt_of_lt_of_le (by have := World.block_lt_of_cell? _ _ hw247_0; first | rwa [add_block] at this | exact this) GW253.out) | (rw [add_block]; exact Nat.ne_of_lt (Nat.lt_of_lt_of_le (by have := World.block_lt_of_cell? _ _ hw247_0; first | rwa [add_block] at this | exact this) GW253.out)) | (show (Addr.add _ _).block ≠ _; rw [add_block]; exact Nat.ne_of_lt (Nat.lt_of_lt_of_le (by have := World.block_lt_of_cell? _ _ hw247_0; first | rwa [add_block] at this | exact this) GW253.out)) | (dsimp only; exact Nat.ne_of_lt (Nat.lt_of_lt_of_le (by have := World.block_lt_of_cell? _ _ hw247_0; first | rwa [add_block] at this | exact this) GW253.out))) _).trans (((cell_far (p := ⟨gb253, _, none⟩) (by first | exact Nat.ne_of_lt (Nat.lt_of_lt_of_le (by have := World.block_lt_of_cell? _ _ hw247_0; first | rwa [add_block] at this | exact this) GW253.out) | (rw [add_block]; exact Nat.ne_of_lt (Nat.lt_of_lt_of_le (by have := World.block_lt_of_cell? _ _ hw247_0; first | rwa [add_block] at this | exact this) GW253.out)) | (show (Addr.add _ _).block ≠ _; rw [add_block]; exact Nat.ne_of_lt (Nat.lt_of_lt_of_le (by have := World.block_lt_of_cell? _ _ hw247_0; first | rwa [add_block] at this | exact this) GW253.out)) | (dsimp only; exact Nat.ne_of_lt (Nat.lt_of_lt_of_le (by have := World.block_lt_of_cell? _ _ hw247_0; first | rwa [add_block] at this | exact this) GW253.out))) _).trans (((cell_far (p := ⟨gb253, _, none⟩) (by first | exact Nat.ne_of_lt (Nat.lt_of_lt_of_le (by have := World.block_lt_of_cell? _ _ hw247_0; first | rwa [add_block] at this | exact this) GW253.out) | (rw [add_block]; exact Nat.ne_of_lt (Nat.lt_of_lt_of_le (by have := World.block_lt_of_cell? _ _ hw247_0; first | rwa [add_block] at this | exact this) GW253.out)) | (show (Addr.add _ _).block ≠ _; rw [add_block]; exact Nat.ne_of_lt (Nat.lt_of_lt_of_le (by have := World.block_lt_of_cell? _ _ hw247_0; first | rwa [add_block] at this | exact this) GW253.out)) | (dsimp only; exact Nat.ne_of_lt (Nat.lt_of_lt_of_le (by have := World.block_lt_of_cell? _ _ hw247_0; first | rwa [add_block] at this | exact this) GW253.out))) _).trans (hHeld.2.2.2.2.2.2.1)))))), ((cell_far (p := ⟨gb253, _, none⟩) (by first | exact Nat.ne_of_lt (Nat.lt_of_lt_of_le (by have := World.block_lt_of_cell? _ _ hw247_1; first | rwa [add_block] at this | exact this) GW253.out) | (rw [add_block]; exact Nat.ne_of_lt (Nat.lt_of_lt_of_le (by have := World.block_lt_of_cell? _ _ hw247_1; first | rwa [add_block] at this | exact this) GW253.out)) | (show (Addr.add _ _).block ≠ _; rw [add_block]; exact Nat.ne_of_lt (Nat.lt_of_lt_of_le (by have := World.block_lt_of_cell? _ _ hw247_1; first | rwa [add_block] at this | exact this) GW253.out)) | (dsimp only; exact Nat.ne_of_lt (Nat.lt_of_lt_of_le (by have := World.block_lt_of_cell? _ _ hw247_1; first | rwa [add_block] at this | exact this) GW253.out))) _).trans (((cell_far (p := ⟨gb253, _, none⟩) (by first | exact Nat.ne_of_lt (Nat.lt_of_lt_of_le (by have := World.block_lt_of_cell? _ _ hw247_1; first | rwa [add_block] at this | exact this) GW253.out) | (rw [add_block]; exact Nat.ne_of_lt (Nat.lt_of_lt_of_le (by have := World.block_lt_of_cell? _ _ hw247_1; first | rwa [add_block] at this | exact this) GW253.out)) | (show (Addr.add _ _).block ≠ _; rw [add_block]; exact Nat.ne_of_lt (Nat.lt_of_lt_of_le (by have := World.block_lt_of_cell? _ _ hw247_1; first | rwa [add_block] at this | exact this) GW253.out)) | (dsimp only; exact Nat.ne_of_lt (Nat.lt_of_lt_of_le (by have := World.block_lt_of_cell? _ _ hw247_1; first | rwa [add_block] at this | exact this) GW253.out))) _).trans (((cell_far (p := ⟨gb253, _, none⟩) (by first | exact Nat.ne_of_lt (Nat.lt_of_lt_of_le (by have := World.block_lt_of_cell? _ _ hw247_1; first | rwa [add_block] at this | exact this) GW253.out) | (rw [add_block]; exact Nat.ne_of_lt (Nat.lt_of_lt_of_le (by have := World.block_lt_of_cell? _ _ hw247_1; first | rwa [add_block] at this | exact this) GW253.out)) | (show (Addr.add _ _).block ≠ _; rw [add_block]; exact Nat.ne_of_lt (Nat.lt_of_lt_of_le (by have := World.block_lt_of_cell? _ _ hw247_1; first | rwa [add_block] at this | exact this) GW253.out)) | (dsimp only; exact Nat.ne_of_lt (Nat.lt_of_lt_of_le (by have := World.block_lt_of_cell? _ _ hw247_1; first | rwa [add_block] at this | exact this) GW253.out))) _).trans (hHeld.2.2.2.2.2.2.2.1)))))), ((cell_far (p := ⟨gb253, _, none⟩) (by first | exact Nat.ne_of_lt (Nat.lt_of_lt_of_le (by have := World.block_lt_of_cell? _ _ hw247_2; first | rwa [add_block] at this | exact this) GW253.out) | (rw [add_block]; exact Nat.ne_of_lt (Nat.lt_of_lt_of_le (by have := World.block_lt_of_cell? _ _ hw247_2; first | rwa [add_block] at this | exact this) GW253.out)) | (show (Addr.add _ _).block ≠ _; rw [add_block]; exact Nat.ne_of_lt (Nat.lt_of_lt_of_le (by have := World.block_lt_of_cell? _ _ hw247_2; first | rwa [add_block] at this | exact this) GW253.out)) | (dsimp only; exact Nat.ne_of_lt (Nat.lt_of_lt_of_le (by have := World.block_lt_of_cell? _ _ hw247_2; first | rwa [add_block] at this | exact this) GW253.out))) _).trans (((cell_far (p := ⟨gb253, _, none⟩) (by first | exact Nat.ne_of_lt (Nat.lt_of_lt_of_le (by have := World.block_lt_of_cell? _ _ hw247_2; first | rwa [add_block] at this | exact this) GW253.out) | (rw [add_block]; exact Nat.ne_of_lt (Nat.lt_of_lt_of_le (by have := World.block_lt_of_cell? _ _ hw247_2; first | rwa [add_block] at this | exact this) GW253.out)) | (show (Addr.add _ _).block ≠ _; rw [add_block]; exact Nat.ne_of_lt (Nat.lt_of_lt_of_le (by have := World.block_lt_of_cell? _ _ hw247_2; first | rwa [add_block] at this | exact this) GW253.out)) | (dsimp only; exact Nat.ne_of_lt (Nat.lt_of_lt_of_le (by have := World.block_lt_of_cell? _ _ hw247_2; first | rwa [add_block] at this | exact this) GW253.out))) _).trans (((cell_far (p := ⟨gb253, _, none⟩) (by first | exact Nat.ne_of_lt (Nat.lt_of_lt_of_le (by have := World.block_lt_of_cell? _ _ hw247_2; first | rwa [add_block] at this | exact this) GW253.out) | (rw [add_block]; exact Nat.ne_of_lt (Nat.lt_of_lt_of_le (by have := World.block_lt_of_cell? _ _ hw247_2; first | rwa [add_block] at this | exact this) GW253.out)) | (show (Addr.add _ _).block ≠ _; rw [add_block]; exact Nat.ne_of_lt (Nat.lt_of_lt_of_le (by have := World.block_lt_of_cell? _ _ hw247_2; first | rwa [add_block] at this | exact this) GW253.out)) | (dsimp only; exact Nat.ne_of_lt (Nat.lt_of_lt_of_le (by have := World.block_lt_of_cell? _ _ hw247_2; first | rwa [add_block] at this | exact this) GW253.out))) _).trans (hHeld.2.2.2.2.2.2.2.2.1)))))), ((cell_far (p := ⟨gb253, _, none⟩) (by first | exact Nat.ne_of_lt (Nat.lt_of_lt_of_le (by have := World.block_lt_of_cell? _ _ hw247_3; first | rwa [add_block] at this | exact this) GW253.out) | (rw [add_block]; exact Nat.ne_of_lt (Nat.lt_of_lt_of_le (by have := World.block_lt_of_cell? _ _ hw247_3; first | rwa [add_block] at this | exact this) GW253.out)) | (show (Addr.add _ _).block ≠ _; rw [add_block]; exact Nat.ne_of_lt (Nat.lt_of_lt_of_le (by have := World.block_lt_of_cell? _ _ hw247_3; first | rwa [add_block] at this | exact this) GW253.out)) | (dsimp only; exact Nat.ne_of_lt (Nat.lt_of_lt_of_le (by have := World.block_lt_of_cell? _ _ hw247_3; first | rwa [add_block] at this | exact this) GW253.out))) _).trans (((cell_far (p := ⟨gb253, _, none⟩) (by first | exact Nat.ne_of_lt (Nat.lt_of_lt_of_le (by have := World.block_lt_of_cell? _ _ hw247_3; first | rwa [add_block] at this | exact this) GW253.out) | (rw [add_block]; exact Nat.ne_of_lt (Nat.lt_of_lt_of_le (by have := World.block_lt_of_cell? _ _ hw247_3; first | rwa [add_block] at this | exact this) GW253.out)) | (show (Addr.add _ _).block ≠ _; rw [add_block]; exact Nat.ne_of_lt (Nat.lt_of_lt_of_le (by have := World.block_lt_of_cell? _ _ hw247_3; first | rwa [add_block] at this | exact this) GW253.out)) | (dsimp only; exact Nat.ne_of_lt (Nat.lt_of_lt_of_le (by have := World.block_lt_of_cell? _ _ hw247_3; first | rwa [add_block] at this | exact this) GW253.out))) _).trans (((cell_far (p := ⟨gb253, _, none⟩) (by first | exact Nat.ne_of_lt (Nat.lt_of_lt_of_le (by have := World.block_lt_of_cell? _ _ hw247_3; first | rwa [add_block] at this | exact this) GW253.out) | (rw [add_block]; exact Nat.ne_of_lt (Nat.lt_of_lt_of_le (by have := World.block_lt_of_cell? _ _ hw247_3; first | rwa [add_block] at this | exact this) GW253.out)) | (show (Addr.add _ _).block ≠ _; rw [add_block]; exact Nat.ne_of_lt (Nat.lt_of_lt_of_le (by have := World.block_lt_of_cell? _ _ hw247_3; first | rwa [add_block] at this | exact this) GW253.out)) | (dsimp only; exact Nat.ne_of_lt (Nat.lt_of_lt_of_le (by have := World.block_lt_of_cell? _ _ hw247_3; first | rwa [add_block] at this | exact this) GW253.out))) _).trans (hHeld.2.2.2.2.2.2.2.2.2.1)))))), ((cell_far (p := ⟨gb253, _, none⟩) (by first | exact Nat.ne_of_lt (Nat.lt_of_lt_of_le (by have := World.block_lt_of_cell? _ _ hw247_4; first | rwa [add_block] at this | exact this) GW253.out) | (rw [add_block]; exact Nat.ne_of_lt (Nat.lt_of_lt_of_le (by have := World.block_lt_of_cell? _ _ hw247_4; first | rwa [add_block] at this | exact this) GW253.out)) | (show (Addr.add _ _).block ≠ _; rw [add_block]; exact Nat.ne_of_lt (Nat.lt_of_lt_of_le (by have := World.block_lt_of_cell? _ _ hw247_4; first | rwa [add_block] at this | exact this) GW253.out)) | (dsimp only; exact Nat.ne_of_lt (Nat.lt_of_lt_of_le (by have := World.block_lt_of_cell? _ _ hw247_4; first | rwa [add_block] at this | exact this) GW253.out))) _).trans (((cell_far (p := ⟨gb253, _, none⟩) (by first | exact Nat.ne_of_lt (Nat.lt_of_lt_of_le (by have := World.block_lt_of_cell? _ _ hw247_4; first | rwa [add_block] at this | exact this) GW253.out) | (rw [add_block]; exact Nat.ne_of_lt (Nat.lt_of_lt_of_le (by have := World.block_lt_of_cell? _ _ hw247_4; first | rwa [add_block] at this | exact this) GW253.out)) | (show (Addr.add _ _).block ≠ _; rw [add_block]; exact Nat.ne_of_lt (Nat.lt_of_lt_of_le (by have := World.block_lt_of_cell? _ _ hw247_4; first | rwa [add_block] at this | exact this) GW253.out)) | (dsimp only; exact Nat.ne_of_lt (Nat.lt_of_lt_of_le (by have := World.block_lt_of_cell? _ _ hw247_4; first | rwa [add_block] at this | exact this) GW253.out))) _).trans (((cell_far (p := ⟨gb253, _, none⟩) (by first | exact Nat.ne_of_lt (Nat.lt_of_lt_of_le (by have := World.block_lt_of_cell? _ _ hw247_4; first | rwa [add_block] at this | exact this) GW253.out) | (rw [add_block]; exact Nat.ne_of_lt (Nat.lt_of_lt_of_le (by have := World.block_lt_of_cell? _ _ hw247_4; first | rwa [add_block] at this | exact this) GW253.out)) | (show (Addr.add _ _).block ≠ _; rw [add_block]; exact Nat.ne_of_lt (Nat.lt_of_lt_of_le (by have := World.block_lt_of_cell? _ _ hw247_4; first | rwa [add_block] at this | exact this) GW253.out)) | (dsimp only; exact Nat.ne_of_lt (Nat.lt_of_lt_of_le (by have := World.block_lt_of_cell? _ _ hw247_4; first | rwa [add_block] at this | exact this) GW253.out))) _).trans (hHeld.2.2.2.2.2.2.2.2.2.2.1)))))), ((cell_far (p := ⟨gb253, _, none⟩) (by first | exact Nat.ne_of_lt (Nat.lt_of_lt_of_le (by have := World.block_lt_of_cell? _ _ hw247_5; first | rwa [add_block] at this | exact this) GW253.out) | (rw [add_block]; exact Nat.ne_of_lt (Nat.lt_of_lt_of_le (by have := World.block_lt_of_cell? _ _ hw247_5; first | rwa [add_block] at this | exact this) GW253.out)) | (show (Addr.add _ _).block ≠ _; rw [add_block]; exact Nat.ne_of_lt (Nat.lt_of_lt_of_le (by have := World.block_lt_of_cell? _ _ hw247_5; first | rwa [add_block] at this | exact this) GW253.out)) | (dsimp only; exact Nat.ne_of_lt (Nat.lt_of_lt_of_le (by have := World.block_lt_of_cell? _ _ hw247_5; first | rwa [add_block] at this | exact this) GW253.out))) _).trans (((cell_far (p := ⟨gb253, _, none⟩) (by first | exact Nat.ne_of_lt (Nat.lt_of_lt_of_le (by have := World.block_lt_of_cell? _ _ hw247_5; first | rwa [add_block] at this | exact this) GW253.out) | (rw [add_block]; exact Nat.ne_of_lt (Nat.lt_of_lt_of_le (by have := World.block_lt_of_cell? _ _ hw247_5; first | rwa [add_block] at this | exact this) GW253.out)) | (show (Addr.add _ _).block ≠ _; rw [add_block]; exact Nat.ne_of_lt (Nat.lt_of_lt_of_le (by have := World.block_lt_of_cell? _ _ hw247_5; first | rwa [add_block] at this | exact this) GW253.out)) | (dsimp only; exact Nat.ne_of_lt (Nat.lt_of_lt_of_le (by have := World.block_lt_of_cell? _ _ hw247_5; first | rwa [add_block] at this | exact this) GW253.out))) _).trans (((cell_far (p := ⟨gb253, _, none⟩) (by first | exact Nat.ne_of_lt (Nat.lt_of_lt_of_le (by have := World.block_lt_of_cell? _ _ hw247_5; first | rwa [add_block] at this | exact this) GW253.out) | (rw [add_block]; exact Nat.ne_of_lt (Nat.lt_of_lt_of_le (by have := World.block_lt_of_cell? _ _ hw247_5; first | rwa [add_block] at this | exact this) GW253.out)) | (show (Addr.add _ _).block ≠ _; rw [add_block]; exact Nat.ne_of_lt (Nat.lt_of_lt_of_le (by have := World.block_lt_of_cell? _ _ hw247_5; first | rwa [add_block] at this | exact this) GW253.out)) | (dsimp only; exact Nat.ne_of_lt (Nat.lt_of_lt_of_le (by have := World.block_lt_of_cell? _ _ hw247_5; first | rwa [add_block] at this | exact this) GW253.out))) _).trans (hHeld.2.2.2.2.2.2.2.2.2.2.2.1)))))), ((cell_far (p := ⟨gb253, _, none⟩) (by first | exact Nat.ne_of_lt (Nat.lt_of_lt_of_le (by have := World.block_lt_of_cell? _ _ hw247_6; first | rwa [add_block] at this | exact this) GW253.out) | (rw [add_block]; exact Nat.ne_of_lt (Nat.lt_of_lt_of_le (by have := World.block_lt_of_cell? _ _ hw247_6; first | rwa [add_block] at this | exact this) GW253.out)) | (show (Addr.add _ _).block ≠ _; rw [add_block]; exact Nat.ne_of_lt (Nat.lt_of_lt_of_le (by have := World.block_lt_of_cell? _ _ hw247_6; first | rwa [add_block] at this | exact this) GW253.out)) | (dsimp only; exact Nat.ne_of_lt (Nat.lt_of_lt_of_le (by have := World.block_lt_of_cell? _ _ hw247_6; first | rwa [add_block] at this | exact this) GW253.out))) _).trans (((cell_far (p := ⟨gb253, _, none⟩) (by first | exact Nat.ne_of_lt (Nat.lt_of_lt_of_le (by have := World.block_lt_of_cell? _ _ hw247_6; first | rwa [add_block] at this | exact this) GW253.out) | (rw [add_block]; exact Nat.ne_of_lt (Nat.lt_of_lt_of_le (by have := World.block_lt_of_cell? _ _ hw247_6; first | rwa [add_block] at this | exact this) GW253.out)) | (show (Addr.add _ _).block ≠ _; rw [add_block]; exact Nat.ne_of_lt (Nat.lt_of_lt_of_le (by have := World.block_lt_of_cell? _ _ hw247_6; first | rwa [add_block] at this | exact this) GW253.out)) | (dsimp only; exact Nat.ne_of_lt (Nat.lt_of_lt_of_le (by have := World.block_lt_of_cell? _ _ hw247_6; first | rwa [add_block] at this | exact this) GW253.out))) _).trans (((cell_far (p := ⟨gb253, _, none⟩) (by first | exact Nat.ne_of_lt (Nat.lt_of_lt_of_le (by have := World.block_lt_of_cell? _ _ hw247_6; first | rwa [add_block] at this | exact this) GW253.out) | (rw [add_block]; exact Nat.ne_of_lt (Nat.lt_of_lt_of_le (by have := World.block_lt_of_cell? _ _ hw247_6; first | rwa [add_block] at this | exact this) GW253.out)) | (show (Addr.add _ _).block ≠ _; rw [add_block]; exact Nat.ne_of_lt (Nat.lt_of_lt_of_le (by have := World.block_lt_of_cell? _ _ hw247_6; first | rwa [add_block] at this | exact this) GW253.out)) | (dsimp only; exact Nat.ne_of_lt (Nat.lt_of_lt_of_le (by have := World.block_lt_of_cell? _ _ hw247_6; first | rwa [add_block] at this | exact this) GW253.out))) _).trans (hHeld.2.2.2.2.2.2.2.2.2.2.2.2))))))⟩ (fun hHeld => ?_)
        clear hK K
        refine pq_ HT_.out 15 11 m16_16 ?_
        refine done_ (done_of HT_.out (by kernel_rfl)) ?_
        go_upto_region 6 with (fail)
        go_cut [55] (fun v55 wc => ∃ (kq : Nat) (x55_12 : Bool), v55 = .bool x55_12 ∧ Aside0 (spec_NextDue.j2 kq x5_1 x6_1 x7_1 x8_1 x55_12 l0_0 l0_1 l0_2 a0_3 a0_4 a0_5 t249 t250 t251 = some (r1, r2, r3)) ∧ Aside0 (kq ≤ kj2) ∧ Aside0 (wc.heap[gb245]? = some (.cells #[(.slice (some ad247) l0_0.length c0_0), (.slice A0_1 l0_1.length c0_1), (.slice A0_2 l0_2.length c0_2), .int .i64 a0_3, .int .i64 a0_4, .int .i64 a0_5] 56 (0, 0))) ∧ Aside0 (wc.heap[gb253]? = some (.cells #[.int .i64 t249, .int .i64 t250, .int .i64 t251] 25 (0, 0))) ∧ Aside0 (Below w.heap.size w wc))
        case first =>
         have H := HC13.out
         clear HC13
         by_cases c21 : t248 = true
         ·
          subst c21
          have H1 : (spec_NextDue.j2 kj2 x5_1 x6_1 x7_1 x8_1 false l0_0 l0_1 l0_2 a0_3 a0_4 a0_5 t249 t250 t251) = some (r1, r2, r3) := by rw [if_pos rfl] at H; exact H
          clear H
          have H := H1
          clear H1
          have H' := Aside0.mk H
          clear H
          go_wp2
          go_meet
          case rel => exact ⟨_, (false), (by first | rfl | (simp; done) | (simp [*]; done)), H', ⟨by have := HK1.out; have := HJ2.out; first | omega | exact Nat.le_refl _⟩, ⟨by (repeat refine bk1 ?_); refine blk_far ?_ NB245_253.out _; (repeat refine bk1 ?_); refine blk_far ?_ NB245_253.out _; (repeat refine bk1 ?_); refine blk_far ?_ NB245_253.out _; (repeat refine bk1 ?_); exact BK245.out⟩, ⟨by (repeat refine bk1 ?_); refine blk_put (cs := #[.int .i64 t249, .int .i64 t250, .int .i64 0]) ?_ 2 _ rfl; (repeat refine bk1 ?_); refine blk_put (cs := #[.int .i64 t249, .int .i64 0, .int .i64 0]) ?_ 1 _ rfl; (repeat refine bk1 ?_); refine blk_put (cs := #[.int .i64 0, .int .i64 0, .int .i64 0]) ?_ 0 _ rfl; (repeat refine bk1 ?_); exact BK253.out⟩, ⟨by repeat with_reducible first | exact bl HB.out | refine below_set ?_ GE245.out | refine below_set ?_ GE253.out | refine bq ?_⟩⟩
         ·
          replace c21 := Bool.eq_false_iff.mpr c21
          subst c21
          have H1 : (if ((rd_T33 l0_0 x8_1).f2) > 0 then (if x7_1 = true then (spec_NextDue.j2 kj2 x5_1 x6_1 x7_1 x8_1 (decide (t250 < x6_1)) l0_0 l0_1 l0_2 a0_3 a0_4 a0_5 t249 t250 t251) else (spec_NextDue.j2 kj2 x5_1 x6_1 x7_1 x8_1 true l0_0 l0_1 l0_2 a0_3 a0_4 a0_5 t249 t250 t251)) else (spec_NextDue.j2 kj2 x5_1 x6_1 x7_1 x8_1 false l0_0 l0_1 l0_2 a0_3 a0_4 a0_5 t249 t250 t251)) = some (r1, r2, r3) := by rw [if_neg (show ¬ (false = true) by decide)] at H; exact H
          clear H
          have H := H1
          clear H1
          by_cases c22 : ((rd_T33 l0_0 x8_1).f2) > 0
          ·
           rw [if_pos c22] at H
           have c22b0 : decide (0 < ((rd_T33 l0_0 x8_1).f2)) = true := decide_eq_true c22
           clear c22
           (first | rw [c22b0] | (simp only [i64_w, i32_w]; rw [c22b0]) | skip)
           by_cases c23 : x7_1 = true
           ·
            subst c23
            have H1 : (spec_NextDue.j2 kj2 x5_1 x6_1 true x8_1 (decide (t250 < x6_1)) l0_0 l0_1 l0_2 a0_3 a0_4 a0_5 t249 t250 t251) = some (r1, r2, r3) := by rw [if_pos rfl] at H; exact H
            clear H
            have H := H1
            clear H1
            have H' := Aside0.mk H
            clear H
            have hnb24 := NB245_253.out
            have hnc24 := NB253_245.out
            obtain ⟨hcz25_0, hcz25_1, hcz25_2, hcz25_3, hcz25_4, hcz25_5⟩ := ck6 BK245.out
            obtain ⟨hfz25_0, hfz25_1, hfz25_2, hfz25_3, hfz25_4, hfz25_5⟩ := fz6 BK245.out
            have p254 : 0 ≤ (x8_1 : Int) := of_decide_eq_true (by first | (with_reducible assumption) | assumption)
            have q254 : x8_1 < (l0_0.length : Int) := of_decide_eq_true (by first | (with_reducible assumption) | assumption)
            obtain ⟨ad254, e254, hx254_0, hx254_1, hx254_2, hx254_3, hx254_4, hx254_5, hx254_6⟩ := at_T33 HR0_0.out x8_1 p254 q254
            obtain rfl : ad247 = ad254 := (by injection e254)
            have hn254_0 : ad247.block ≠ gb253 := Nat.ne_of_lt (Nat.lt_of_lt_of_le (by have := World.block_lt_of_cell? _ _ hx254_0; first | rwa [add_block] at this | exact this) GW253.out)
            have hn254_1 : ad247.block ≠ gb253 := Nat.ne_of_lt (Nat.lt_of_lt_of_le (by have := World.block_lt_of_cell? _ _ hx254_0; first | rwa [add_block] at this | exact this) GW253.out)
            have hn254_2 : ad247.block ≠ gb253 := Nat.ne_of_lt (Nat.lt_of_lt_of_le (by have := World.block_lt_of_cell? _ _ hx254_0; first | rwa [add_block] at this | exact this) GW253.out)
            replace hx254_0 := bc HB.out hx254_0
            replace hx254_1 := bc HB.out hx254_1
            replace hx254_2 := bc HB.out hx254_2
            replace hx254_3 := bc HB.out hx254_3
            replace hx254_4 := bc HB.out hx254_4
            replace hx254_5 := bc HB.out hx254_5
            replace hx254_6 := bc HB.out hx254_6
            replace hx254_0 := cg2 (p := ⟨gb253, 0, none⟩) hx254_0 hn254_0 (.int .i64 t249)
            replace hx254_1 := cg2 (p := ⟨gb253, 0, none⟩) hx254_1 hn254_0 (.int .i64 t249)
            replace hx254_2 := cg2 (p := ⟨gb253, 0, none⟩) hx254_2 hn254_0 (.int .i64 t249)
            replace hx254_3 := cg2 (p := ⟨gb253, 0, none⟩) hx254_3 hn254_0 (.int .i64 t249)
            replace hx254_4 := cg2 (p := ⟨gb253, 0, none⟩) hx254_4 hn254_0 (.int .i64 t249)
            replace hx254_5 := cg2 (p := ⟨gb253, 0, none⟩) hx254_5 hn254_0 (.int .i64 t249)
            replace hx254_6 := cg2 (p := ⟨gb253, 0, none⟩) hx254_6 hn254_0 (.int .i64 t249)
            replace hx254_0 := cg2 (p := ⟨gb253, 1, none⟩) hx254_0 hn254_1 (.int .i64 t250)
            replace hx254_1 := cg2 (p := ⟨gb253, 1, none⟩) hx254_1 hn254_1 (.int .i64 t250)
            replace hx254_2 := cg2 (p := ⟨gb253, 1, none⟩) hx254_2 hn254_1 (.int .i64 t250)
            replace hx254_3 := cg2 (p := ⟨gb253, 1, none⟩) hx254_3 hn254_1 (.int .i64 t250)
            replace hx254_4 := cg2 (p := ⟨gb253, 1, none⟩) hx254_4 hn254_1 (.int .i64 t250)
            replace hx254_5 := cg2 (p := ⟨gb253, 1, none⟩) hx254_5 hn254_1 (.int .i64 t250)
            replace hx254_6 := cg2 (p := ⟨gb253, 1, none⟩) hx254_6 hn254_1 (.int .i64 t250)
            replace hx254_0 := cg2 (p := ⟨gb253, 2, none⟩) hx254_0 hn254_2 (.int .i64 t251)
            replace hx254_1 := cg2 (p := ⟨gb253, 2, none⟩) hx254_1 hn254_2 (.int .i64 t251)
            replace hx254_2 := cg2 (p := ⟨gb253, 2, none⟩) hx254_2 hn254_2 (.int .i64 t251)
            replace hx254_3 := cg2 (p := ⟨gb253, 2, none⟩) hx254_3 hn254_2 (.int .i64 t251)
            replace hx254_4 := cg2 (p := ⟨gb253, 2, none⟩) hx254_4 hn254_2 (.int .i64 t251)
            replace hx254_5 := cg2 (p := ⟨gb253, 2, none⟩) hx254_5 hn254_2 (.int .i64 t251)
            replace hx254_6 := cg2 (p := ⟨gb253, 2, none⟩) hx254_6 hn254_2 (.int .i64 t251)
            clear hn254_0
            clear hn254_1
            clear hn254_2
            replace p254 := eq_true p254
            replace q254 := eq_true q254
            obtain ⟨hcz26_0, hcz26_1, hcz26_2⟩ := ck3 BK253.out
            obtain ⟨hfz26_0, hfz26_1, hfz26_2⟩ := fz3 BK253.out
            go_wp2
            go_meet
            case rel => exact ⟨_, (decide (t250 < x6_1)), (by first | rfl | (simp; done) | (simp [*]; done)), H', ⟨by have := HK1.out; have := HJ2.out; first | omega | exact Nat.le_refl _⟩, ⟨by (repeat refine bk1 ?_); refine blk_far ?_ NB245_253.out _; (repeat refine bk1 ?_); refine blk_far ?_ NB245_253.out _; (repeat refine bk1 ?_); refine blk_far ?_ NB245_253.out _; (repeat refine bk1 ?_); exact BK245.out⟩, ⟨by (repeat refine bk1 ?_); refine blk_put (cs := #[.int .i64 t249, .int .i64 t250, .int .i64 0]) ?_ 2 _ rfl; (repeat refine bk1 ?_); refine blk_put (cs := #[.int .i64 t249, .int .i64 0, .int .i64 0]) ?_ 1 _ rfl; (repeat refine bk1 ?_); refine blk_put (cs := #[.int .i64 0, .int .i64 0, .int .i64 0]) ?_ 0 _ rfl; (repeat refine bk1 ?_); exact BK253.out⟩, ⟨by repeat with_reducible first | exact bl HB.out | refine below_set ?_ GE245.out | refine below_set ?_ GE253.out | refine bq ?_⟩⟩
           ·
            replace c23 := Bool.eq_false_iff.mpr c23
            subst c23
            have H1 : (spec_NextDue.j2 kj2 x5_1 x6_1 false x8_1 true l0_0 l0_1 l0_2 a0_3 a0_4 a0_5 t249 t250 t251) = some (r1, r2, r3) := by rw [if_neg (show ¬ (false = true) by decide)] at H; exact H
            clear H
            have H := H1
            clear H1
            have H' := Aside0.mk H
            clear H
            have hnb27 := NB245_253.out
            have hnc27 := NB253_245.out
            obtain ⟨hcz28_0, hcz28_1, hcz28_2, hcz28_3, hcz28_4, hcz28_5⟩ := ck6 BK245.out
            obtain ⟨hfz28_0, hfz28_1, hfz28_2, hfz28_3, hfz28_4, hfz28_5⟩ := fz6 BK245.out
            have p254 : 0 ≤ (x8_1 : Int) := of_decide_eq_true (by first | (with_reducible assumption) | assumption)
            have q254 : x8_1 < (l0_0.length : Int) := of_decide_eq_true (by first | (with_reducible assumption) | assumption)
            obtain ⟨ad254, e254, hx254_0, hx254_1, hx254_2, hx254_3, hx254_4, hx254_5, hx254_6⟩ := at_T33 HR0_0.out x8_1 p254 q254
            obtain rfl : ad247 = ad254 := (by injection e254)
            have hn254_0 : ad247.block ≠ gb253 := Nat.ne_of_lt (Nat.lt_of_lt_of_le (by have := World.block_lt_of_cell? _ _ hx254_0; first | rwa [add_block] at this | exact this) GW253.out)
            have hn254_1 : ad247.block ≠ gb253 := Nat.ne_of_lt (Nat.lt_of_lt_of_le (by have := World.block_lt_of_cell? _ _ hx254_0; first | rwa [add_block] at this | exact this) GW253.out)
            have hn254_2 : ad247.block ≠ gb253 := Nat.ne_of_lt (Nat.lt_of_lt_of_le (by have := World.block_lt_of_cell? _ _ hx254_0; first | rwa [add_block] at this | exact this) GW253.out)
            replace hx254_0 := bc HB.out hx254_0
            replace hx254_1 := bc HB.out hx254_1
            replace hx254_2 := bc HB.out hx254_2
            replace hx254_3 := bc HB.out hx254_3
            replace hx254_4 := bc HB.out hx254_4
            replace hx254_5 := bc HB.out hx254_5
            replace hx254_6 := bc HB.out hx254_6
            replace hx254_0 := cg2 (p := ⟨gb253, 0, none⟩) hx254_0 hn254_0 (.int .i64 t249)
            replace hx254_1 := cg2 (p := ⟨gb253, 0, none⟩) hx254_1 hn254_0 (.int .i64 t249)
            replace hx254_2 := cg2 (p := ⟨gb253, 0, none⟩) hx254_2 hn254_0 (.int .i64 t249)
            replace hx254_3 := cg2 (p := ⟨gb253, 0, none⟩) hx254_3 hn254_0 (.int .i64 t249)
            replace hx254_4 := cg2 (p := ⟨gb253, 0, none⟩) hx254_4 hn254_0 (.int .i64 t249)
            replace hx254_5 := cg2 (p := ⟨gb253, 0, none⟩) hx254_5 hn254_0 (.int .i64 t249)
            replace hx254_6 := cg2 (p := ⟨gb253, 0, none⟩) hx254_6 hn254_0 (.int .i64 t249)
            replace hx254_0 := cg2 (p := ⟨gb253, 1, none⟩) hx254_0 hn254_1 (.int .i64 t250)
            replace hx254_1 := cg2 (p := ⟨gb253, 1, none⟩) hx254_1 hn254_1 (.int .i64 t250)
            replace hx254_2 := cg2 (p := ⟨gb253, 1, none⟩) hx254_2 hn254_1 (.int .i64 t250)
            replace hx254_3 := cg2 (p := ⟨gb253, 1, none⟩) hx254_3 hn254_1 (.int .i64 t250)
            replace hx254_4 := cg2 (p := ⟨gb253, 1, none⟩) hx254_4 hn254_1 (.int .i64 t250)
            replace hx254_5 := cg2 (p := ⟨gb253, 1, none⟩) hx254_5 hn254_1 (.int .i64 t250)
            replace hx254_6 := cg2 (p := ⟨gb253, 1, none⟩) hx254_6 hn254_1 (.int .i64 t250)
            replace hx254_0 := cg2 (p := ⟨gb253, 2, none⟩) hx254_0 hn254_2 (.int .i64 t251)
            replace hx254_1 := cg2 (p := ⟨gb253, 2, none⟩) hx254_1 hn254_2 (.int .i64 t251)
            replace hx254_2 := cg2 (p := ⟨gb253, 2, none⟩) hx254_2 hn254_2 (.int .i64 t251)
            replace hx254_3 := cg2 (p := ⟨gb253, 2, none⟩) hx254_3 hn254_2 (.int .i64 t251)
            replace hx254_4 := cg2 (p := ⟨gb253, 2, none⟩) hx254_4 hn254_2 (.int .i64 t251)
            replace hx254_5 := cg2 (p := ⟨gb253, 2, none⟩) hx254_5 hn254_2 (.int .i64 t251)
            replace hx254_6 := cg2 (p := ⟨gb253, 2, none⟩) hx254_6 hn254_2 (.int .i64 t251)
            clear hn254_0
            clear hn254_1
            clear hn254_2
            replace p254 := eq_true p254
            replace q254 := eq_true q254
            go_wp2
            go_meet
            case rel => exact ⟨_, (true), (by first | rfl | (simp; done) | (simp [*]; done)), H', ⟨by have := HK1.out; have := HJ2.out; first | omega | exact Nat.le_refl _⟩, ⟨by (repeat refine bk1 ?_); refine blk_far ?_ NB245_253.out _; (repeat refine bk1 ?_); refine blk_far ?_ NB245_253.out _; (repeat refine bk1 ?_); refine blk_far ?_ NB245_253.out _; (repeat refine bk1 ?_); exact BK245.out⟩, ⟨by (repeat refine bk1 ?_); refine blk_put (cs := #[.int .i64 t249, .int .i64 t250, .int .i64 0]) ?_ 2 _ rfl; (repeat refine bk1 ?_); refine blk_put (cs := #[.int .i64 t249, .int .i64 0, .int .i64 0]) ?_ 1 _ rfl; (repeat refine bk1 ?_); refine blk_put (cs := #[.int .i64 0, .int .i64 0, .int .i64 0]) ?_ 0 _ rfl; (repeat refine bk1 ?_); exact BK253.out⟩, ⟨by repeat with_reducible first | exact bl HB.out | refine below_set ?_ GE245.out | refine below_set ?_ GE253.out | refine bq ?_⟩⟩
          ·
           rw [if_neg c22] at H
           have c22b0 : decide (0 < ((rd_T33 l0_0 x8_1).f2)) = false := decide_eq_false c22
           clear c22
           (first | rw [c22b0] | (simp only [i64_w, i32_w]; rw [c22b0]) | skip)
           have H' := Aside0.mk H
           clear H
           have hnb29 := NB245_253.out
           have hnc29 := NB253_245.out
           obtain ⟨hcz30_0, hcz30_1, hcz30_2, hcz30_3, hcz30_4, hcz30_5⟩ := ck6 BK245.out
           obtain ⟨hfz30_0, hfz30_1, hfz30_2, hfz30_3, hfz30_4, hfz30_5⟩ := fz6 BK245.out
           have p254 : 0 ≤ (x8_1 : Int) := of_decide_eq_true (by first | (with_reducible assumption) | assumption)
           have q254 : x8_1 < (l0_0.length : Int) := of_decide_eq_true (by first | (with_reducible assumption) | assumption)
           obtain ⟨ad254, e254, hx254_0, hx254_1, hx254_2, hx254_3, hx254_4, hx254_5, hx254_6⟩ := at_T33 HR0_0.out x8_1 p254 q254
           obtain rfl : ad247 = ad254 := (by injection e254)
           have hn254_0 : ad247.block ≠ gb253 := Nat.ne_of_lt (Nat.lt_of_lt_of_le (by have := World.block_lt_of_cell? _ _ hx254_0; first | rwa [add_block] at this | exact this) GW253.out)
           have hn254_1 : ad247.block ≠ gb253 := Nat.ne_of_lt (Nat.lt_of_lt_of_le (by have := World.block_lt_of_cell? _ _ hx254_0; first | rwa [add_block] at this | exact this) GW253.out)
           have hn254_2 : ad247.block ≠ gb253 := Nat.ne_of_lt (Nat.lt_of_lt_of_le (by have := World.block_lt_of_cell? _ _ hx254_0; first | rwa [add_block] at this | exact this) GW253.out)
           replace hx254_0 := bc HB.out hx254_0
           replace hx254_1 := bc HB.out hx254_1
           replace hx254_2 := bc HB.out hx254_2
           replace hx254_3 := bc HB.out hx254_3
           replace hx254_4 := bc HB.out hx254_4
           replace hx254_5 := bc HB.out hx254_5
           replace hx254_6 := bc HB.out hx254_6
           replace hx254_0 := cg2 (p := ⟨gb253, 0, none⟩) hx254_0 hn254_0 (.int .i64 t249)
           replace hx254_1 := cg2 (p := ⟨gb253, 0, none⟩) hx254_1 hn254_0 (.int .i64 t249)
           replace hx254_2 := cg2 (p := ⟨gb253, 0, none⟩) hx254_2 hn254_0 (.int .i64 t249)
           replace hx254_3 := cg2 (p := ⟨gb253, 0, none⟩) hx254_3 hn254_0 (.int .i64 t249)
           replace hx254_4 := cg2 (p := ⟨gb253, 0, none⟩) hx254_4 hn254_0 (.int .i64 t249)
           replace hx254_5 := cg2 (p := ⟨gb253, 0, none⟩) hx254_5 hn254_0 (.int .i64 t249)
           replace hx254_6 := cg2 (p := ⟨gb253, 0, none⟩) hx254_6 hn254_0 (.int .i64 t249)
           replace hx254_0 := cg2 (p := ⟨gb253, 1, none⟩) hx254_0 hn254_1 (.int .i64 t250)
           replace hx254_1 := cg2 (p := ⟨gb253, 1, none⟩) hx254_1 hn254_1 (.int .i64 t250)
           replace hx254_2 := cg2 (p := ⟨gb253, 1, none⟩) hx254_2 hn254_1 (.int .i64 t250)
           replace hx254_3 := cg2 (p := ⟨gb253, 1, none⟩) hx254_3 hn254_1 (.int .i64 t250)
           replace hx254_4 := cg2 (p := ⟨gb253, 1, none⟩) hx254_4 hn254_1 (.int .i64 t250)
           replace hx254_5 := cg2 (p := ⟨gb253, 1, none⟩) hx254_5 hn254_1 (.int .i64 t250)
           replace hx254_6 := cg2 (p := ⟨gb253, 1, none⟩) hx254_6 hn254_1 (.int .i64 t250)
           replace hx254_0 := cg2 (p := ⟨gb253, 2, none⟩) hx254_0 hn254_2 (.int .i64 t251)
           replace hx254_1 := cg2 (p := ⟨gb253, 2, none⟩) hx254_1 hn254_2 (.int .i64 t251)
           replace hx254_2 := cg2 (p := ⟨gb253, 2, none⟩) hx254_2 hn254_2 (.int .i64 t251)
           replace hx254_3 := cg2 (p := ⟨gb253, 2, none⟩) hx254_3 hn254_2 (.int .i64 t251)
           replace hx254_4 := cg2 (p := ⟨gb253, 2, none⟩) hx254_4 hn254_2 (.int .i64 t251)
           replace hx254_5 := cg2 (p := ⟨gb253, 2, none⟩) hx254_5 hn254_2 (.int .i64 t251)
           replace hx254_6 := cg2 (p := ⟨gb253, 2, none⟩) hx254_6 hn254_2 (.int .i64 t251)
           clear hn254_0
           clear hn254_1
           clear hn254_2
           replace p254 := eq_true p254
           replace q254 := eq_true q254
           go_wp2
           go_meet
           case rel => exact ⟨_, (false), (by first | rfl | (simp; done) | (simp [*]; done)), H', ⟨by have := HK1.out; have := HJ2.out; first | omega | exact Nat.le_refl _⟩, ⟨by (repeat refine bk1 ?_); refine blk_far ?_ NB245_253.out _; (repeat refine bk1 ?_); refine blk_far ?_ NB245_253.out _; (repeat refine bk1 ?_); refine blk_far ?_ NB245_253.out _; (repeat refine bk1 ?_); exact BK245.out⟩, ⟨by (repeat refine bk1 ?_); refine blk_put (cs := #[.int .i64 t249, .int .i64 t250, .int .i64 0]) ?_ 2 _ rfl; (repeat refine bk1 ?_); refine blk_put (cs := #[.int .i64 t249, .int .i64 0, .int .i64 0]) ?_ 1 _ rfl; (repeat refine bk1 ?_); refine blk_put (cs := #[.int .i64 0, .int .i64 0, .int .i64 0]) ?_ 0 _ rfl; (repeat refine bk1 ?_); exact BK253.out⟩, ⟨by repeat with_reducible first | exact bl HB.out | refine below_set ?_ GE245.out | refine below_set ?_ GE253.out | refine bq ?_⟩⟩
        case rest =>
         clear HC13
         try clear c1
         try clear c2
         try clear p2
         try clear q2
         try clear hx2
         try clear c9
         try clear c10
         try clear c10b0
         try clear c11
         try clear c11b0
         try clear c21
         try clear c22
         try clear c22b0
         try clear c23
         try clear c24
         try clear p24
         try clear q24
         try clear hx24
         try clear c25
         try clear p25
         try clear q25
         try clear hx25
         try clear c27
         try clear c29
         try clear hcz25_0 hcz25_1 hcz25_2 hcz25_3 hcz25_4 hcz25_5 hfz25_0 hfz25_1 hfz25_2 hfz25_3 hfz25_4 hfz25_5
         try clear hcz26_0 hcz26_1 hcz26_2 hfz26_0 hfz26_1 hfz26_2
         try clear hcz28_0 hcz28_1 hcz28_2 hcz28_3 hcz28_4 hcz28_5 hfz28_0 hfz28_1 hfz28_2 hfz28_3 hfz28_4 hfz28_5
         try clear hcz30_0 hcz30_1 hcz30_2 hcz30_3 hcz30_4 hcz30_5 hfz30_0 hfz30_1 hfz30_2 hfz30_3 hfz30_4 hfz30_5
         try clear hcz6_2 hcz6_3 hcz6_4 hcz6_5 hfz6_0 hfz6_1 hfz6_2 hfz6_3 hfz6_4 hfz6_5
         try clear hcz8_0 hcz8_1 hcz8_2 hcz8_3 hcz8_4 hcz8_5 hfz8_0 hfz8_1 hfz8_2 hfz8_3 hfz8_4 hfz8_5
         try clear hx247_0
         try clear hx247_1
         try clear hx247_2
         try clear hx247_3
         try clear hx247_4
         try clear hx247_5
         try clear hx247_6
         try clear hx254_0
         try clear hx254_1
         try clear hx254_2
         try clear hx254_3
         try clear hx254_4
         try clear hx254_5
         try clear hx254_6
         try clear p2
         try clear p247
         try clear p254
         try clear q247
         try clear q254
         obtain ⟨kq, x55_12, rfl, HA, HJ12, BK245, BK253, HB⟩ := hcut
         cases kq with
         | zero => exact absurd HA.out (by simp [spec_NextDue.j2])
         | succ kj12 =>
          have H := HA.out
          clear HA
          simp only [spec_NextDue.j2] at H
          by_cases c31 : x55_12 = true
          ·
           subst c31
           have H1 : (if 0 ≤ x8_1 then (if x8_1 < (l0_0.length : Int) then (spec_NextDue.l0 kj12 ((rd_T33 l0_0 x8_1).f0) t250 true (wrap64 (x8_1 + 1)) l0_0 l0_1 l0_2 a0_3 a0_4 a0_5) else (none)) else (none)) = some (r1, r2, r3) := by rw [if_pos rfl] at H; exact H
           clear H
           have H := H1
           clear H1
           by_cases c32 : 0 ≤ x8_1
           ·
            rw [if_pos c32] at H
            have c32b0 : decide (0 ≤ x8_1) = true := decide_eq_true c32
            clear c32
            by_cases c33 : x8_1 < (l0_0.length : Int)
            ·
             rw [if_pos c33] at H
             have c33b0 : decide (x8_1 < (l0_0.length : Int)) = true := decide_eq_true c33
             clear c33
             have H' := Aside0.mk H
             clear H
             have hnb34 := NB245_253.out
             have hnc34 := NB253_245.out
             obtain ⟨hcz35_0, hcz35_1, hcz35_2, hcz35_3, hcz35_4, hcz35_5⟩ := ck6 BK245.out
             obtain ⟨hfz35_0, hfz35_1, hfz35_2, hfz35_3, hfz35_4, hfz35_5⟩ := fz6 BK245.out
             have p255 : 0 ≤ (x8_1 : Int) := of_decide_eq_true (by first | (with_reducible assumption) | assumption)
             have q255 : x8_1 < (l0_0.length : Int) := of_decide_eq_true (by first | (with_reducible assumption) | assumption)
             obtain ⟨ad255, e255, hx255_0, hx255_1, hx255_2, hx255_3, hx255_4, hx255_5, hx255_6⟩ := at_T33 HR0_0.out x8_1 p255 q255
             obtain rfl : ad247 = ad255 := (by injection e255)
             replace hx255_0 := bc HB.out hx255_0
             replace hx255_1 := bc HB.out hx255_1
             replace hx255_2 := bc HB.out hx255_2
             replace hx255_3 := bc HB.out hx255_3
             replace hx255_4 := bc HB.out hx255_4
             replace hx255_5 := bc HB.out hx255_5
             replace hx255_6 := bc HB.out hx255_6
             replace p255 := eq_true p255
             replace q255 := eq_true q255
             obtain ⟨hcz36_0, hcz36_1, hcz36_2⟩ := ck3 BK253.out
             obtain ⟨hfz36_0, hfz36_1, hfz36_2⟩ := fz3 BK253.out
             go_wp2
             go_roundg kj12
             case measure => have := HK1.out; have := HJ2.out; have := HJ12.out; omega
             case rel => exact ⟨((rd_T33 l0_0 x8_1).f0), (t250), (true), (wrap64 (x8_1 + 1)), (by first | rfl | (simp; done) | (simp [*]; done)), (by first | rfl | (simp; done) | (simp [*]; done)), (by first | rfl | (simp; done) | (simp [*]; done)), (by first | rfl | (simp; done) | (simp [*]; done)), H', ⟨by have := HK1.out; have := HJ2.out; have := HJ12.out; omega⟩, ⟨bk BK245.out⟩, ⟨by repeat with_reducible first | exact bl HB.out | refine below_set ?_ GE245.out | refine below_set ?_ GE253.out | refine bq ?_⟩⟩
            ·
             rw [if_neg c33] at H
             exact absurd H (by simp)
           ·
            rw [if_neg c32] at H
            exact absurd H (by simp)
          ·
           replace c31 := Bool.eq_false_iff.mpr c31
           subst c31
           have H1 : (spec_NextDue.l0 kj12 x5_1 x6_1 x7_1 (wrap64 (x8_1 + 1)) l0_0 l0_1 l0_2 a0_3 a0_4 a0_5) = some (r1, r2, r3) := by rw [if_neg (show ¬ (false = true) by decide)] at H; exact H
           clear H
           have H := H1
           clear H1
           have H' := Aside0.mk H
           clear H
           go_wp2
           go_roundg kj12
           case measure => have := HK1.out; have := HJ2.out; have := HJ12.out; omega
           case rel => exact ⟨(x5_1), (x6_1), (x7_1), (wrap64 (x8_1 + 1)), (by first | rfl | (simp; done) | (simp [*]; done)), (by first | rfl | (simp; done) | (simp [*]; done)), (by first | rfl | (simp; done) | (simp [*]; done)), (by first | rfl | (simp; done) | (simp [*]; done)), H', ⟨by have := HK1.out; have := HJ2.out; have := HJ12.out; omega⟩, ⟨bk BK245.out⟩, ⟨by repeat with_reducible first | exact bl HB.out | refine below_set ?_ GE245.out | refine below_set ?_ GE253.out | refine bq ?_⟩⟩
       ·
        rw [if_neg c11] at H
        exact absurd H (by simp)
      ·
       rw [if_neg c10] at H
       exact absurd H (by simp)
     ·
      replace c9 := Bool.eq_false_iff.mpr c9
      subst c9
      have H1 : (some (x5_1, x6_1, x7_1)) = some (r1, r2, r3) := by rw [if_neg (show ¬ (false = true) by decide)] at H; exact H
      clear H
      have H := H1
      clear H1
      simp only [Option.some.injEq, Prod.mk.injEq] at H
      obtain ⟨rfl, rfl, rfl⟩ := H
      go_wp2
      go_ret3
      exact ⟨by first | rfl | (simp [errW_none, errW_some] <;> rfl) | (simp [*, errW_none, errW_some] <;> rfl), by repeat with_reducible first | exact bl HB.out | refine below_set ?_ GE245.out | refine bq ?_⟩

end Go.Proofs.Ytbgdibbgngpggaa.PFnExactNextDue
