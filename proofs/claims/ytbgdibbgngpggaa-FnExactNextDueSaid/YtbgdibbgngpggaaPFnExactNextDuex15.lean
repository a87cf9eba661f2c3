-- Written by a program of this session (wip/xprint.py) out of the translation; Lean checks it.
import Derived.Test.YtbgdibbgngpggaaPFnExactNextDuex0
import Derived.Test.YtbgdibbgngpggaaPFnExactNextDuex12
import Derived.Test.YtbgdibbgngpggaaPFnExactNextDuex14
namespace Go.Proofs.Ytbgdibbgngpggaa.PFnExactNextDue
open Go.RowKit Go.Proofs.YtbgdibbgngpggaaW.PrintWords Go.Proofs.YtbgdibbgngpggaaW.PrintLast Go.Proofs.YtbgdibbgngpggaaW.PrintMore Go.Proofs.Ytbgdibbgngpggaa.Sq
attribute [local go_sem] max2_int min2_int max_two min_two max_three min_three max_four min_four   -- for this text's walks alone
set_option linter.unusedVariables false
set_option linter.unusedSimpArgs false

/-! ### impl_NextDue: function 34 -/
mutual
def impl_NextDue.l0 : Nat → ByteArray → Int → List (S33) → Int → Int → List (S33) → List (S70) → List (S72) → Int → Int → Int → Option (ByteArray × Int × Bool)
 | 0, _, _, _, _, _, _, _, _, _, _, _ => none
 | k + 1, x5, x6, x16, x17, x18, x343000, x343001, x343002, x343003, x343004, x343005 => if x18 < x17 then (if 0 ≤ x18 then (if x18 < (x16.length : Int) then ((impl_Due19.f k ((rd_T33 x16 x18).f0) ((rd_T33 x16 x18).f1) ((rd_T33 x16 x18).f2) ((rd_T33 x16 x18).f3) ((rd_T33 x16 x18).f4.f0) ((rd_T33 x16 x18).f4.f1) ((rd_T33 x16 x18).f4.f2) x343003 x343004 x343005).bind fun bt346 => (if ((rd_T33 x16 x18).f2) > 0 then (if bt346.1 = true then (impl_NextDue.j1 k x5 x6 x16 x17 x18 false x343000 x343001 x343002 x343003 x343004 x343005 ((rd_T33 x16 x18).f0) ((rd_T33 x16 x18).f1) ((rd_T33 x16 x18).f2) ((rd_T33 x16 x18).f3) ((rd_T33 x16 x18).f4.f0) ((rd_T33 x16 x18).f4.f1) ((rd_T33 x16 x18).f4.f2) bt346.2.1 bt346.2.2.1 bt346.2.2.2.1) else (if x5.toList = ([] : List UInt8) then (impl_NextDue.j1 k x5 x6 x16 x17 x18 true x343000 x343001 x343002 x343003 x343004 x343005 ((rd_T33 x16 x18).f0) ((rd_T33 x16 x18).f1) ((rd_T33 x16 x18).f2) ((rd_T33 x16 x18).f3) ((rd_T33 x16 x18).f4.f0) ((rd_T33 x16 x18).f4.f1) ((rd_T33 x16 x18).f4.f2) bt346.2.1 bt346.2.2.1 bt346.2.2.2.1) else (impl_NextDue.j1 k x5 x6 x16 x17 x18 (decide (bt346.2.2.1 < x6)) x343000 x343001 x343002 x343003 x343004 x343005 ((rd_T33 x16 x18).f0) ((rd_T33 x16 x18).f1) ((rd_T33 x16 x18).f2) ((rd_T33 x16 x18).f3) ((rd_T33 x16 x18).f4.f0) ((rd_T33 x16 x18).f4.f1) ((rd_T33 x16 x18).f4.f2) bt346.2.1 bt346.2.2.1 bt346.2.2.2.1))) else (impl_NextDue.j1 k x5 x6 x16 x17 x18 false x343000 x343001 x343002 x343003 x343004 x343005 ((rd_T33 x16 x18).f0) ((rd_T33 x16 x18).f1) ((rd_T33 x16 x18).f2) ((rd_T33 x16 x18).f3) ((rd_T33 x16 x18).f4.f0) ((rd_T33 x16 x18).f4.f1) ((rd_T33 x16 x18).f4.f2) bt346.2.1 bt346.2.2.1 bt346.2.2.2.1))) else (none)) else (none)) else (some (x5, x6, (x5.toList != ([] : List UInt8))))
def impl_NextDue.j1 : Nat → ByteArray → Int → List (S33) → Int → Int → Bool → List (S33) → List (S70) → List (S72) → Int → Int → Int → ByteArray → Int → Int → Int → Int → Int → Int → Int → Int → Int → Option (ByteArray × Int × Bool)
 | 0, _, _, _, _, _, _, _, _, _, _, _, _, _, _, _, _, _, _, _, _, _, _ => none
 | k + 1, x5, x6, x16, x17, x18, x46, x343000, x343001, x343002, x343003, x343004, x343005, x346000, x346001, x346002, x346003, x346004, x346005, x346006, x352000, x352001, x352002 => if x46 = true then (impl_NextDue.l0 k x346000 x352001 x16 x17 (wrap64 (x18 + 1)) x343000 x343001 x343002 x343003 x343004 x343005) else (impl_NextDue.l0 k x5 x6 x16 x17 (wrap64 (x18 + 1)) x343000 x343001 x343002 x343003 x343004 x343005)
end
def impl_NextDue.f (k : Nat) (l0_0 : List (S33)) (l0_1 : List (S70)) (l0_2 : List (S72)) (a0_3 : Int) (a0_4 : Int) (a0_5 : Int) : Option (ByteArray × Int × Bool) := (impl_FleetOk.f k l0_0 l0_1 l0_2 a0_3 a0_4 a0_5).bind fun t343 => (if t343 = true then (impl_NextDue.l0 k (⟨#[]⟩ : ByteArray) 0 l0_0 (l0_0.length : Int) 0 l0_0 l0_1 l0_2 a0_3 a0_4 a0_5) else (some ((⟨#[]⟩ : ByteArray), 0, false)))
theorem impl_NextDue.mono_l : ∀ k, (∀ y0 y1 y2 y3 y4 y5 y6 y7 y8 y9 y10, LeO (impl_NextDue.l0 k y0 y1 y2 y3 y4 y5 y6 y7 y8 y9 y10) (impl_NextDue.l0 (k + 1) y0 y1 y2 y3 y4 y5 y6 y7 y8 y9 y10)) ∧ (∀ y0 y1 y2 y3 y4 y5 y6 y7 y8 y9 y10 y11 y12 y13 y14 y15 y16 y17 y18 y19 y20 y21, LeO (impl_NextDue.j1 k y0 y1 y2 y3 y4 y5 y6 y7 y8 y9 y10 y11 y12 y13 y14 y15 y16 y17 y18 y19 y20 y21) (impl_NextDue.j1 (k + 1) y0 y1 y2 y3 y4 y5 y6 y7 y8 y9 y10 y11 y12 y13 y14 y15 y16 y17 y18 y19 y20 y21))
 | 0 => ⟨fun _ _ _ _ _ _ _ _ _ _ _ r h => by simp [impl_NextDue.l0] at h, fun _ _ _ _ _ _ _ _ _ _ _ _ _ _ _ _ _ _ _ _ _ _ r h => by simp [impl_NextDue.j1] at h⟩
 | k + 1 => by
  obtain ⟨ih0, ih1⟩ := impl_NextDue.mono_l k
  refine ⟨?_, ?_⟩
  ·
   intro y0 y1 y2 y3 y4 y5 y6 y7 y8 y9 y10
   unfold impl_NextDue.l0
   repeat' first
   | (with_reducible exact ih0 _ _ _ _ _ _ _ _ _ _ _)
   | (with_reducible exact ih1 _ _ _ _ _ _ _ _ _ _ _ _ _ _ _ _ _ _ _ _ _ _)
   | (with_reducible exact impl_Due19.mono _ _ _ _ _ _ _ _ _ _ _)
   | (with_reducible exact impl_FleetOk.mono _ _ _ _ _ _ _)
   | (with_reducible exact LeO.refl _)
   | (with_reducible exact LeO.none _)
   | (with_reducible refine LeO.ite ?_ ?_)
   | (with_reducible refine LeO.bind ?_ (fun _ => ?_))
   | exact ih0 _ _ _ _ _ _ _ _ _ _ _
   | exact ih1 _ _ _ _ _ _ _ _ _ _ _ _ _ _ _ _ _ _ _ _ _ _
   | exact impl_Due19.mono _ _ _ _ _ _ _ _ _ _ _
   | exact impl_FleetOk.mono _ _ _ _ _ _ _
   | exact LeO.none _
   | refine LeO.ite ?_ ?_
   | refine LeO.bind ?_ (fun _ => ?_)
  ·
   intro y0 y1 y2 y3 y4 y5 y6 y7 y8 y9 y10 y11 y12 y13 y14 y15 y16 y17 y18 y19 y20 y21
   unfold impl_NextDue.j1
   repeat' first
   | (with_reducible exact ih0 _ _ _ _ _ _ _ _ _ _ _)
   | (with_reducible exact ih1 _ _ _ _ _ _ _ _ _ _ _ _ _ _ _ _ _ _ _ _ _ _)
   | (with_reducible exact impl_Due19.mono _ _ _ _ _ _ _ _ _ _ _)
   | (with_reducible exact impl_FleetOk.mono _ _ _ _ _ _ _)
   | (with_reducible exact LeO.refl _)
   | (with_reducible exact LeO.none _)
   | (with_reducible refine LeO.ite ?_ ?_)
   | (with_reducible refine LeO.bind ?_ (fun _ => ?_))
   | exact ih0 _ _ _ _ _ _ _ _ _ _ _
   | exact ih1 _ _ _ _ _ _ _ _ _ _ _ _ _ _ _ _ _ _ _ _ _ _
   | exact impl_Due19.mono _ _ _ _ _ _ _ _ _ _ _
   | exact impl_FleetOk.mono _ _ _ _ _ _ _
   | exact LeO.none _
   | refine LeO.ite ?_ ?_
   | refine LeO.bind ?_ (fun _ => ?_)
theorem impl_NextDue.mono : ∀ a0 a1 a2 a3 a4 a5 k, LeO (impl_NextDue.f k a0 a1 a2 a3 a4 a5) (impl_NextDue.f (k + 1) a0 a1 a2 a3 a4 a5) := by
 intro a0 a1 a2 a3 a4 a5 k
 obtain ⟨ih0, ih1⟩ := impl_NextDue.mono_l k
 unfold impl_NextDue.f
 repeat' first
   | (with_reducible exact ih0 _ _ _ _ _ _ _ _ _ _ _)
   | (with_reducible exact ih1 _ _ _ _ _ _ _ _ _ _ _ _ _ _ _ _ _ _ _ _ _ _)
   | (with_reducible exact impl_Due19.mono _ _ _ _ _ _ _ _ _ _ _)
   | (with_reducible exact impl_FleetOk.mono _ _ _ _ _ _ _)
   | (with_reducible exact LeO.refl _)
   | (with_reducible exact LeO.none _)
   | (with_reducible refine LeO.ite ?_ ?_)
   | (with_reducible refine LeO.bind ?_ (fun _ => ?_))
   | exact ih0 _ _ _ _ _ _ _ _ _ _ _
   | exact ih1 _ _ _ _ _ _ _ _ _ _ _ _ _ _ _ _ _ _ _ _ _ _
   | exact impl_Due19.mono _ _ _ _ _ _ _ _ _ _ _
   | exact impl_FleetOk.mono _ _ _ _ _ _ _
   | exact LeO.none _
   | refine LeO.ite ?_ ?_
   | refine LeO.bind ?_ (fun _ => ?_)
set_option maxHeartbeats 8000000 in
set_option maxRecDepth 100000 in
theorem impl_NextDue.calls (k : Nat) (A0_0 : Option Addr) (c0_0 : Nat) (l0_0 : List (S33)) (A0_1 : Option Addr) (c0_1 : Nat) (l0_1 : List (S70)) (A0_2 : Option Addr) (c0_2 : Nat) (l0_2 : List (S72)) (a0_3 : Int) (a0_4 : Int) (a0_5 : Int) (r1 : ByteArray) (r2 : Int) (r3 : Bool) (w : World) (hr0_0 : Kd.C k33 w A0_0 l0_0.length l0_0) (hc0_0 : l0_0.length ≤ c0_0) (hr0_1 : Kd.C k70 w A0_1 l0_1.length l0_1) (hc0_1 : l0_1.length ≤ c0_1) (hr0_2 : Kd.C k72 w A0_2 l0_2.length l0_2) (hc0_2 : l0_2.length ≤ c0_2) (h : impl_NextDue.f k l0_0 l0_1 l0_2 a0_3 a0_4 a0_5 = some (r1, r2, r3)) :
  Calls Try.prog 34 #[.agg #[.slice A0_0 l0_0.length c0_0, .slice A0_1 l0_1.length c0_1, .slice A0_2 l0_2.length c0_2, .int .i64 a0_3, .int .i64 a0_4, .int .i64 a0_5]] w fun e w' => e = .returned (.tuple #[.string r1, .int .i64 r2, .bool r3]) ∧ Below w.heap.size w w' := by
 have hu56 := Try.underlying56
 have hu33 := Try.underlying33
 have hu25 := Try.underlying25
 have HR0_0 := Aside0.mk hr0_0
 have HC0_0 := Aside0.mk hc0_0
 clear hr0_0 hc0_0
 have HR0_1 := Aside0.mk hr0_1
 have HC0_1 := Aside0.mk hc0_1
 clear hr0_1 hc0_1
 have HR0_2 := Aside0.mk hr0_2
 have HC0_2 := Aside0.mk hc0_2
 clear hr0_2 hc0_2
 have HB := Aside0.mk (Below.refl w.heap.size w)
 have H : ((impl_FleetOk.f k l0_0 l0_1 l0_2 a0_3 a0_4 a0_5).bind fun t343 => (if t343 = true then (impl_NextDue.l0 k (⟨#[]⟩ : ByteArray) 0 l0_0 (l0_0.length : Int) 0 l0_0 l0_1 l0_2 a0_3 a0_4 a0_5) else (some ((⟨#[]⟩ : ByteArray), 0, false)))) = some (r1, r2, r3) := h
 clear h
 replace H := Option.bind_eq_some_iff.mp H
 obtain ⟨t343, A20, H⟩ := H
 replace H : (if t343 = true then (impl_NextDue.l0 k (⟨#[]⟩ : ByteArray) 0 l0_0 (l0_0.length : Int) 0 l0_0 l0_1 l0_2 a0_3 a0_4 a0_5) else (some ((⟨#[]⟩ : ByteArray), 0, false))) = some (r1, r2, r3) := H
 have A2 := Aside0.mk A20
 clear A20
 by_cases c3 : t343 = true
 ·
  subst c3
  have H1 : (impl_NextDue.l0 k (⟨#[]⟩ : ByteArray) 0 l0_0 (l0_0.length : Int) 0 l0_0 l0_1 l0_2 a0_3 a0_4 a0_5) = some (r1, r2, r3) := by rw [if_pos rfl] at H; exact H
  clear H
  have H := H1
  clear H1
  have H' := Aside0.mk H
  clear H
  go_enter Try.func34, Try.ntmps34
  go_wp2_with (first | ((with_reducible refine gate_dst (N := 1) rfl ?_); refine box_event ?hg (N := 1) ?hd (cs := #[.slice A0_0 l0_0.length c0_0, .slice A0_1 l0_1.length c0_1, .slice A0_2 l0_2.length c0_2, .int .i64 a0_3, .int .i64 a0_4, .int .i64 a0_5]) (t := 56) ?hr ?_; (case hd => rfl); (case hg => rfl); (case hr => first | (go_simp; done) | (go_simp; rfl)); intro gb342 hg w4 hbox hb; have BK342 := Aside0.mk (hbox); have GW342 := Aside0.mk ((by rw [hg]; exact (below_size (bl HB.out)) : w.heap.size ≤ gb342)); have GE342 := GW342; replace HB := Aside0.mk (below_step (bl HB.out) hb); clear hb hbox hg; obtain ⟨hcz5_0, hcz5_1, hcz5_2, hcz5_3, hcz5_4, hcz5_5⟩ := ck6 BK342.out; obtain ⟨hfz5_0, hfz5_1, hfz5_2, hfz5_3, hfz5_4, hfz5_5⟩ := fz6 BK342.out) | (go_at_call 31; (with_reducible refine (impl_FleetOk.calls k _ _ l0_0 _ _ l0_1 _ _ l0_2 a0_3 a0_4 a0_5 true _ ?side1 ?side2 ?side3 ?side4 ?side5 ?side6 A2.out).mono ?_); (case side1 => exact rc (Kd.C_below HR0_0.out HB.out)); (case side2 => exact HC0_0.out); (case side3 => exact rc (Kd.C_below HR0_1.out HB.out)); (case side4 => exact HC0_1.out); (case side5 => exact rc (Kd.C_below HR0_2.out HB.out)); (case side6 => exact HC0_2.out); rintro e w6 ⟨rfl, hb⟩; replace BK342 := Aside0.mk (blk_below (bk BK342.out) hb); replace HB := Aside0.mk (below_step (by repeat with_reducible first | exact bl HB.out | refine below_set ?_ GE342.out | refine bq ?_) hb); (try clear hb); (try clear hb2); (try clear hk); (try clear hi); obtain ⟨hcz7_0, hcz7_1, hcz7_2, hcz7_3, hcz7_4, hcz7_5⟩ := ck6 BK342.out; obtain ⟨hfz7_0, hfz7_1, hfz7_2, hfz7_3, hfz7_4, hfz7_5⟩ := fz6 BK342.out))
  repeat (go_quiet (first | ((with_reducible refine gate_dst (N := 1) rfl ?_); refine box_event ?hg (N := 1) ?hd (cs := #[.slice A0_0 l0_0.length c0_0, .slice A0_1 l0_1.length c0_1, .slice A0_2 l0_2.length c0_2, .int .i64 a0_3, .int .i64 a0_4, .int .i64 a0_5]) (t := 56) ?hr ?_; (case hd => rfl); (case hg => rfl); (case hr => first | (go_simp; done) | (go_simp; rfl)); intro gb342 hg w4 hbox hb; have BK342 := Aside0.mk (hbox); have GW342 := Aside0.mk ((by rw [hg]; exact (below_size (bl HB.out)) : w.heap.size ≤ gb342)); have GE342 := GW342; replace HB := Aside0.mk (below_step (bl HB.out) hb); clear hb hbox hg; obtain ⟨hcz5_0, hcz5_1, hcz5_2, hcz5_3, hcz5_4, hcz5_5⟩ := ck6 BK342.out; obtain ⟨hfz5_0, hfz5_1, hfz5_2, hfz5_3, hfz5_4, hfz5_5⟩ := fz6 BK342.out) | (go_at_call 31; (with_reducible refine (impl_FleetOk.calls k _ _ l0_0 _ _ l0_1 _ _ l0_2 a0_3 a0_4 a0_5 true _ ?side1 ?side2 ?side3 ?side4 ?side5 ?side6 A2.out).mono ?_); (case side1 => exact rc (Kd.C_below HR0_0.out HB.out)); (case side2 => exact HC0_0.out); (case side3 => exact rc (Kd.C_below HR0_1.out HB.out)); (case side4 => exact HC0_1.out); (case side5 => exact rc (Kd.C_below HR0_2.out HB.out)); (case side6 => exact HC0_2.out); rintro e w6 ⟨rfl, hb⟩; replace BK342 := Aside0.mk (blk_below (bk BK342.out) hb); replace HB := Aside0.mk (below_step (by repeat with_reducible first | exact bl HB.out | refine below_set ?_ GE342.out | refine bq ?_) hb); (try clear hb); (try clear hb2); (try clear hk); (try clear hi); obtain ⟨hcz7_0, hcz7_1, hcz7_2, hcz7_3, hcz7_4, hcz7_5⟩ := ck6 BK342.out; obtain ⟨hfz7_0, hfz7_1, hfz7_2, hfz7_3, hfz7_4, hfz7_5⟩ := fz6 BK342.out)); try go_wp2_with (first | ((with_reducible refine gate_dst (N := 1) rfl ?_); refine box_event ?hg (N := 1) ?hd (cs := #[.slice A0_0 l0_0.length c0_0, .slice A0_1 l0_1.length c0_1, .slice A0_2 l0_2.length c0_2, .int .i64 a0_3, .int .i64 a0_4, .int .i64 a0_5]) (t := 56) ?hr ?_; (case hd => rfl); (case hg => rfl); (case hr => first | (go_simp; done) | (go_simp; rfl)); intro gb342 hg w4 hbox hb; have BK342 := Aside0.mk (hbox); have GW342 := Aside0.mk ((by rw [hg]; exact (below_size (bl HB.out)) : w.heap.size ≤ gb342)); have GE342 := GW342; replace HB := Aside0.mk (below_step (bl HB.out) hb); clear hb hbox hg; obtain ⟨hcz5_0, hcz5_1, hcz5_2, hcz5_3, hcz5_4, hcz5_5⟩ := ck6 BK342.out; obtain ⟨hfz5_0, hfz5_1, hfz5_2, hfz5_3, hfz5_4, hfz5_5⟩ := fz6 BK342.out) | (go_at_call 31; (with_reducible refine (impl_FleetOk.calls k _ _ l0_0 _ _ l0_1 _ _ l0_2 a0_3 a0_4 a0_5 true _ ?side1 ?side2 ?side3 ?side4 ?side5 ?side6 A2.out).mono ?_); (case side1 => exact rc (Kd.C_below HR0_0.out HB.out)); (case side2 => exact HC0_0.out); (case side3 => exact rc (Kd.C_below HR0_1.out HB.out)); (case side4 => exact HC0_1.out); (case side5 => exact rc (Kd.C_below HR0_2.out HB.out)); (case side6 => exact HC0_2.out); rintro e w6 ⟨rfl, hb⟩; replace BK342 := Aside0.mk (blk_below (bk BK342.out) hb); replace HB := Aside0.mk (below_step (by repeat with_reducible first | exact bl HB.out | refine below_set ?_ GE342.out | refine bq ?_) hb); (try clear hb); (try clear hb2); (try clear hk); (try clear hi); obtain ⟨hcz7_0, hcz7_1, hcz7_2, hcz7_3, hcz7_4, hcz7_5⟩ := ck6 BK342.out; obtain ⟨hfz7_0, hfz7_1, hfz7_2, hfz7_3, hfz7_4, hfz7_5⟩ := fz6 BK342.out)))
  go_loopg [5, 6, 18] k (fun kq v5 v6 v18 w' => ∃ (x5_1 : ByteArray) (x6_1 : Int) (x18_1 : Int), v5 = .string x5_1 ∧ v6 = .int .i64 x6_1 ∧ v18 = .int .i64 x18_1 ∧ Aside0 (impl_NextDue.l0 kq x5_1 x6_1 l0_0 (l0_0.length : Int) x18_1 l0_0 l0_1 l0_2 a0_3 a0_4 a0_5 = some (r1, r2, r3)) ∧ Aside0 (kq ≤ k) ∧ Aside0 (w'.heap[gb342]? = some (.cells #[(.slice A0_0 l0_0.length c0_0), (.slice A0_1 l0_1.length c0_1), (.slice A0_2 l0_2.length c0_2), .int .i64 a0_3, .int .i64 a0_4, .int .i64 a0_5] 56 (0, 0))) ∧ Aside0 (Below w.heap.size w w'))
  case atStart => exact ⟨((⟨#[]⟩ : ByteArray)), (0), (0), (by first | rfl | (simp; done) | (simp [*]; done)), (by first | rfl | (simp; done) | (simp [*]; done)), (by first | rfl | (simp; done) | (simp [*]; done)), H', ⟨Nat.le_refl _⟩, ⟨bk BK342.out⟩, ⟨by repeat with_reducible first | exact bl HB.out | refine below_set ?_ GE342.out | refine bq ?_⟩⟩
  case round =>
   clear H'
   try clear p2
   try clear c3
   try clear hcz5_0 hcz5_1 hcz5_2 hcz5_3 hcz5_4 hcz5_5 hfz5_0 hfz5_1 hfz5_2 hfz5_3 hfz5_4 hfz5_5
   try clear hcz7_0 hcz7_1 hcz7_2 hcz7_3 hcz7_4 hcz7_5 hfz7_0 hfz7_1 hfz7_2 hfz7_3 hfz7_4 hfz7_5
   obtain ⟨x5_1, x6_1, x18_1, rfl, rfl, rfl, HA, HK1, BK342, HB⟩ := hrel
   cases gk with
   | zero => exact absurd HA.out (by simp [impl_NextDue.l0])
   | succ k1 =>
    have H := HA.out
    clear HA
    simp only [impl_NextDue.l0] at H
    by_cases c8 : x18_1 < (l0_0.length : Int)
    ·
     rw [if_pos c8] at H
     have c8b0 : decide (x18_1 < (l0_0.length : Int)) = true := decide_eq_true c8
     clear c8
     by_cases c9 : 0 ≤ x18_1
     ·
      rw [if_pos c9] at H
      have c9b0 : decide (0 ≤ x18_1) = true := decide_eq_true c9
      clear c9
      by_cases c10 : x18_1 < (l0_0.length : Int)
      ·
       rw [if_pos c10] at H
       have c10b0 : decide (x18_1 < (l0_0.length : Int)) = true := decide_eq_true c10
       clear c10
       replace H := Option.bind_eq_some_iff.mp H
       obtain ⟨⟨t346, t347, t348, t349, t350⟩, A110, H⟩ := H
       replace H : (if ((rd_T33 l0_0 x18_1).f2) > 0 then (if t346 = true then (impl_NextDue.j1 k1 x5_1 x6_1 l0_0 (l0_0.length : Int) x18_1 false l0_0 l0_1 l0_2 a0_3 a0_4 a0_5 ((rd_T33 l0_0 x18_1).f0) ((rd_T33 l0_0 x18_1).f1) ((rd_T33 l0_0 x18_1).f2) ((rd_T33 l0_0 x18_1).f3) ((rd_T33 l0_0 x18_1).f4.f0) ((rd_T33 l0_0 x18_1).f4.f1) ((rd_T33 l0_0 x18_1).f4.f2) t347 t348 t349) else (if x5_1.toList = ([] : List UInt8) then (impl_NextDue.j1 k1 x5_1 x6_1 l0_0 (l0_0.length : Int) x18_1 true l0_0 l0_1 l0_2 a0_3 a0_4 a0_5 ((rd_T33 l0_0 x18_1).f0) ((rd_T33 l0_0 x18_1).f1) ((rd_T33 l0_0 x18_1).f2) ((rd_T33 l0_0 x18_1).f3) ((rd_T33 l0_0 x18_1).f4.f0) ((rd_T33 l0_0 x18_1).f4.f1) ((rd_T33 l0_0 x18_1).f4.f2) t347 t348 t349) else (impl_NextDue.j1 k1 x5_1 x6_1 l0_0 (l0_0.length : Int) x18_1 (decide (t348 < x6_1)) l0_0 l0_1 l0_2 a0_3 a0_4 a0_5 ((rd_T33 l0_0 x18_1).f0) ((rd_T33 l0_0 x18_1).f1) ((rd_T33 l0_0 x18_1).f2) ((rd_T33 l0_0 x18_1).f3) ((rd_T33 l0_0 x18_1).f4.f0) ((rd_T33 l0_0 x18_1).f4.f1) ((rd_T33 l0_0 x18_1).f4.f2) t347 t348 t349))) else (impl_NextDue.j1 k1 x5_1 x6_1 l0_0 (l0_0.length : Int) x18_1 false l0_0 l0_1 l0_2 a0_3 a0_4 a0_5 ((rd_T33 l0_0 x18_1).f0) ((rd_T33 l0_0 x18_1).f1) ((rd_T33 l0_0 x18_1).f2) ((rd_T33 l0_0 x18_1).f3) ((rd_T33 l0_0 x18_1).f4.f0) ((rd_T33 l0_0 x18_1).f4.f1) ((rd_T33 l0_0 x18_1).f4.f2) t347 t348 t349)) = some (r1, r2, r3) := H
       have A11 := Aside0.mk A110
       clear A110
       have HC12 := Aside0.mk H
       clear H
       have p344 : 0 ≤ (x18_1 : Int) := of_decide_eq_true (by first | (with_reducible assumption) | assumption)
       have q344 : x18_1 < (l0_0.length : Int) := of_decide_eq_true (by first | (with_reducible assumption) | assumption)
       obtain ⟨ad344, e344, hx344_0, hx344_1, hx344_2, hx344_3, hx344_4, hx344_5, hx344_6⟩ := at_T33 HR0_0.out x18_1 p344 q344
       cases e344
       replace hx344_0 := bc HB.out hx344_0
       replace hx344_1 := bc HB.out hx344_1
       replace hx344_2 := bc HB.out hx344_2
       replace hx344_3 := bc HB.out hx344_3
       replace hx344_4 := bc HB.out hx344_4
       replace hx344_5 := bc HB.out hx344_5
       replace hx344_6 := bc HB.out hx344_6
       replace p344 := eq_true p344
       replace q344 := eq_true q344
       go_upto_region 8 with (first | ((with_reducible refine gate_dst (N := 8) rfl ?_); refine box_event ?hg (N := 8) ?hd (cs := #[.string (⟨#[]⟩ : ByteArray), .int .i64 0, .int .i64 0, .int .i64 0, .int .i64 0, .int .i64 0, .int .i64 0]) (t := 33) ?hr ?_; (case hd => rfl); (case hg => rfl); (case hr => first | (go_simp; done) | (go_simp; rfl)); intro gb345 hg w13 hbox hb; have BK345 := Aside0.mk (hbox); have GW345 := Aside0.mk ((by rw [hg]; exact (below_size (by repeat with_reducible first | exact bl HB.out | refine below_set ?_ GE342.out | refine bq ?_)) : w.heap.size ≤ gb345)); have GE345 := GW345; replace HB := Aside0.mk (below_step (by repeat with_reducible first | exact bl HB.out | refine below_set ?_ GE342.out | refine bq ?_) hb); have NB342_345 := nb_ hg BK342.out; have NB345_342 := Aside0.mk NB342_345.out.symm; replace BK342 := Aside0.mk (blk_below (bk BK342.out) hb); clear hb hbox hg; have hnb14 := NB345_342.out; have hnc14 := NB342_345.out; obtain ⟨hcz15_0, hcz15_1, hcz15_2, hcz15_3, hcz15_4, hcz15_5, hcz15_6⟩ := ck7 BK345.out; obtain ⟨hfz15_0, hfz15_1, hfz15_2, hfz15_3, hfz15_4, hfz15_5, hfz15_6⟩ := fz7 BK345.out; obtain ⟨hcz16_0, hcz16_1, hcz16_2, hcz16_3, hcz16_4, hcz16_5⟩ := ck6 BK342.out; obtain ⟨hfz16_0, hfz16_1, hfz16_2, hfz16_3, hfz16_4, hfz16_5⟩ := fz6 BK342.out) | (go_at_call 26; (with_reducible refine (impl_Due19.calls k1 ((rd_T33 l0_0 x18_1).f0) ((rd_T33 l0_0 x18_1).f1) ((rd_T33 l0_0 x18_1).f2) ((rd_T33 l0_0 x18_1).f3) ((rd_T33 l0_0 x18_1).f4.f0) ((rd_T33 l0_0 x18_1).f4.f1) ((rd_T33 l0_0 x18_1).f4.f2) a0_3 a0_4 a0_5 t346 t347 t348 t349 t350 _ A11.out).mono ?_); rintro e w17 ⟨rfl, hb⟩; replace BK342 := Aside0.mk (blk_below (g := gb342) (o := .cells #[.slice (some ad344) l0_0.length c0_0, .slice A0_1 l0_1.length c0_1, .slice A0_2 l0_2.length c0_2, .int .i64 a0_3, .int .i64 a0_4, .int .i64 a0_5] 56 (0, 0)) (by (repeat refine bk1 ?_); refine blk_far ?_ NB342_345.out _; (repeat refine bk1 ?_); refine blk_far ?_ NB342_345.out _; (repeat refine bk1 ?_); refine blk_far ?_ NB342_345.out _; (repeat refine bk1 ?_); refine blk_far ?_ NB342_345.out _; (repeat refine bk1 ?_); refine blk_far ?_ NB342_345.out _; (repeat refine bk1 ?_); refine blk_far ?_ NB342_345.out _; (repeat refine bk1 ?_); refine blk_far ?_ NB342_345.out _; (repeat refine bk1 ?_); exact BK342.out) hb); replace BK345 := Aside0.mk (blk_below (g := gb345) (o := .cells #[.string ((rd_T33 l0_0 x18_1).f0), .int .i64 ((rd_T33 l0_0 x18_1).f1), .int .i64 ((rd_T33 l0_0 x18_1).f2), .int .i64 ((rd_T33 l0_0 x18_1).f3), .int .i64 ((rd_T33 l0_0 x18_1).f4.f0), .int .i64 ((rd_T33 l0_0 x18_1).f4.f1), .int .i64 ((rd_T33 l0_0 x18_1).f4.f2)] 33 (0, 0)) (by (repeat refine bk1 ?_); refine blk_put (cs := #[.string ((rd_T33 l0_0 x18_1).f0), .int .i64 ((rd_T33 l0_0 x18_1).f1), .int .i64 ((rd_T33 l0_0 x18_1).f2), .int .i64 ((rd_T33 l0_0 x18_1).f3), .int .i64 ((rd_T33 l0_0 x18_1).f4.f0), .int .i64 ((rd_T33 l0_0 x18_1).f4.f1), .int .i64 0]) ?_ 6 _ rfl; (repeat refine bk1 ?_); refine blk_put (cs := #[.string ((rd_T33 l0_0 x18_1).f0), .int .i64 ((rd_T33 l0_0 x18_1).f1), .int .i64 ((rd_T33 l0_0 x18_1).f2), .int .i64 ((rd_T33 l0_0 x18_1).f3), .int .i64 ((rd_T33 l0_0 x18_1).f4.f0), .int .i64 0, .int .i64 0]) ?_ 5 _ rfl; (repeat refine bk1 ?_); refine blk_put (cs := #[.string ((rd_T33 l0_0 x18_1).f0), .int .i64 ((rd_T33 l0_0 x18_1).f1), .int .i64 ((rd_T33 l0_0 x18_1).f2), .int .i64 ((rd_T33 l0_0 x18_1).f3), .int .i64 0, .int .i64 0, .int .i64 0]) ?_ 4 _ rfl; (repeat refine bk1 ?_); refine blk_put (cs := #[.string ((rd_T33 l0_0 x18_1).f0), .int .i64 ((rd_T33 l0_0 x18_1).f1), .int .i64 ((rd_T33 l0_0 x18_1).f2), .int .i64 0, .int .i64 0, .int .i64 0, .int .i64 0]) ?_ 3 _ rfl; (repeat refine bk1 ?_); refine blk_put (cs := #[.string ((rd_T33 l0_0 x18_1).f0), .int .i64 ((rd_T33 l0_0 x18_1).f1), .int .i64 0, .int .i64 0, .int .i64 0, .int .i64 0, .int .i64 0]) ?_ 2 _ rfl; (repeat refine bk1 ?_); refine blk_put (cs := #[.string ((rd_T33 l0_0 x18_1).f0), .int .i64 0, .int .i64 0, .int .i64 0, .int .i64 0, .int .i64 0, .int .i64 0]) ?_ 1 _ rfl; (repeat refine bk1 ?_); refine blk_put (cs := #[.string (⟨#[]⟩ : ByteArray), .int .i64 0, .int .i64 0, .int .i64 0, .int .i64 0, .int .i64 0, .int .i64 0]) ?_ 0 _ rfl; (repeat refine bk1 ?_); exact BK345.out) hb); replace HB := Aside0.mk (below_step (by repeat with_reducible first | exact bl HB.out | refine below_set ?_ GE342.out | refine below_set ?_ GE345.out | refine bq ?_) hb); (try clear hb); (try clear hb2); (try clear hk); (try clear hi)) | ((with_reducible refine gate_dst (N := 10) rfl ?_); refine box_event ?hg (N := 10) ?hd (cs := #[.int .i64 0, .int .i64 0, .int .i64 0]) (t := 25) ?hr ?_; (case hd => rfl); (case hg => rfl); (case hr => first | (go_simp; done) | (go_simp; rfl)); intro gb351 hg w18 hbox hb; have BK351 := Aside0.mk (hbox); have GW351 := Aside0.mk ((by rw [hg]; exact (below_size (by repeat with_reducible first | exact bl HB.out | refine below_set ?_ GE342.out | refine below_set ?_ GE345.out | refine bq ?_)) : w.heap.size ≤ gb351)); have GE351 := GW351; replace HB := Aside0.mk (below_step (by repeat with_reducible first | exact bl HB.out | refine below_set ?_ GE342.out | refine below_set ?_ GE345.out | refine bq ?_) hb); have NB342_351 := nb_ hg BK342.out; have NB351_342 := Aside0.mk NB342_351.out.symm; replace BK342 := Aside0.mk (blk_below (bk BK342.out) hb); have NB345_351 := nb_ hg BK345.out; have NB351_345 := Aside0.mk NB345_351.out.symm; replace BK345 := Aside0.mk (blk_below (bk BK345.out) hb); clear hb hbox hg; have hnb19 := NB351_342.out; have hnc19 := NB342_351.out; have hnb20 := NB351_345.out; have hnc20 := NB345_351.out; obtain ⟨hcz21_0, hcz21_1, hcz21_2⟩ := ck3 BK351.out; obtain ⟨hfz21_0, hfz21_1, hfz21_2⟩ := fz3 BK351.out))
       repeat (go_quiet (first | ((with_reducible refine gate_dst (N := 8) rfl ?_); refine box_event ?hg (N := 8) ?hd (cs := #[.string (⟨#[]⟩ : ByteArray), .int .i64 0, .int .i64 0, .int .i64 0, .int .i64 0, .int .i64 0, .int .i64 0]) (t := 33) ?hr ?_; (case hd => rfl); (case hg => rfl); (case hr => first | (go_simp; done) | (go_simp; rfl)); intro gb345 hg w13 hbox hb; have BK345 := Aside0.mk (hbox); have GW345 := Aside0.mk ((by rw [hg]; exact (below_size (by repeat with_reducible first | exact bl HB.out | refine below_set ?_ GE342.out | refine bq ?_)) : w.heap.size ≤ gb345)); have GE345 := GW345; replace HB := Aside0.mk (below_step (by repeat with_reducible first | exact bl HB.out | refine below_set ?_ GE342.out | refine bq ?_) hb); have NB342_345 := nb_ hg BK342.out; have NB345_342 := Aside0.mk NB342_345.out.symm; replace BK342 := Aside0.mk (blk_below (bk BK342.out) hb); clear hb hbox hg; have hnb14 := NB345_342.out; have hnc14 := NB342_345.out; obtain ⟨hcz15_0, hcz15_1, hcz15_2, hcz15_3, hcz15_4, hcz15_5, hcz15_6⟩ := ck7 BK345.out; obtain ⟨hfz15_0, hfz15_1, hfz15_2, hfz15_3, hfz15_4, hfz15_5, hfz15_6⟩ := fz7 BK345.out; obtain ⟨hcz16_0, hcz16_1, hcz16_2, hcz16_3, hcz16_4, hcz16_5⟩ := ck6 BK342.out; obtain ⟨hfz16_0, hfz16_1, hfz16_2, hfz16_3, hfz16_4, hfz16_5⟩ := fz6 BK342.out) | (go_at_call 26; (with_reducible refine (impl_Due19.calls k1 ((rd_T33 l0_0 x18_1).f0) ((rd_T33 l0_0 x18_1).f1) ((rd_T33 l0_0 x18_1).f2) ((rd_T33 l0_0 x18_1).f3) ((rd_T33 l0_0 x18_1).f4.f0) ((rd_T33 l0_0 x18_1).f4.f1) ((rd_T33 l0_0 x18_1).f4.f2) a0_3 a0_4 a0_5 t346 t347 t348 t349 t350 _ A11.out).mono ?_); rintro e w17 ⟨rfl, hb⟩; replace BK342 := Aside0.mk (blk_below (g := gb342) (o := .cells #[.slice (some ad344) l0_0.length c0_0, .slice A0_1 l0_1.length c0_1, .slice A0_2 l0_2.length c0_2, .int .i64 a0_3, .int .i64 a0_4, .int .i64 a0_5] 56 (0, 0)) (by (repeat refine bk1 ?_); refine blk_far ?_ NB342_345.out _; (repeat refine bk1 ?_); refine blk_far ?_ NB342_345.out _; (repeat refine bk1 ?_); refine blk_far ?_ NB342_345.out _; (repeat refine bk1 ?_); refine blk_far ?_ NB342_345.out _; (repeat refine bk1 ?_); refine blk_far ?_ NB342_345.out _; (repeat refine bk1 ?_); refine blk_far ?_ NB342_345.out _; (repeat refine bk1 ?_); refine blk_far ?_ NB342_345.out _; (repeat refine bk1 ?_); exact BK342.out) hb); replace BK345 := Aside0.mk (blk_below (g := gb345) (o := .cells #[.string ((rd_T33 l0_0 x18_1).f0), .int .i64 ((rd_T33 l0_0 x18_1).f1), .int .i64 ((rd_T33 l0_0 x18_1).f2), .int .i64 ((rd_T33 l0_0 x18_1).f3), .int .i64 ((rd_T33 l0_0 x18_1).f4.f0), .int .i64 ((rd_T33 l0_0 x18_1).f4.f1), .int .i64 ((rd_T33 l0_0 x18_1).f4.f2)] 33 (0, 0)) (by (repeat refine bk1 ?_); refine blk_put (cs := #[.string ((rd_T33 l0_0 x18_1).f0), .int .i64 ((rd_T33 l0_0 x18_1).f1), .int .i64 ((rd_T33 l0_0 x18_1).f2), .int .i64 ((rd_T33 l0_0 x18_1).f3), .int .i64 ((rd_T33 l0_0 x18_1).f4.f0), .int .i64 ((rd_T33 l0_0 x18_1).f4.f1), .int .i64 0]) ?_ 6 _ rfl; (repeat refine bk1 ?_); refine blk_put (cs := #[.string ((rd_T33 l0_0 x18_1).f0), .int .i64 ((rd_T33 l0_0 x18_1).f1), .int .i64 ((rd_T33 l0_0 x18_1).f2), .int .i64 ((rd_T33 l0_0 x18_1).f3), .int .i64 ((rd_T33 l0_0 x18_1).f4.f0), .int .i64 0, .int .i64 0]) ?_ 5 _ rfl; (repeat refine bk1 ?_); refine blk_put (cs := #[.string ((rd_T33 l0_0 x18_1).f0), .int .i64 ((rd_T33 l0_0 x18_1).f1), .int .i64 ((rd_T33 l0_0 x18_1).f2), .int .i64 ((rd_T33 l0_0 x18_1).f3), .int .i64 0, .int .i64 0, .int .i64 0]) ?_ 4 _ rfl; (repeat refine bk1 ?_); refine blk_put (cs := #[.string ((rd_T33 l0_0 x18_1).f0), .int .i64 ((rd_T33 l0_0 x18_1).f1), .int .i64 ((rd_T33 l0_0 x18_1).f2), .int .i64 0, .int .i64 0, .int .i64 0, .int .i64 0]) ?_ 3 _ rfl; (repeat refine bk1 ?_); refine blk_put (cs := #[.string ((rd_T33 l0_0 x18_1).f0), .int .i64 ((rd_T33 l0_0 x18_1).f1), .int .i64 0, .int .i64 0, .int .i64 0, .int .i64 0, .int .i64 0]) ?_ 2 _ rfl; (repeat refine bk1 ?_); refine blk_put (cs := #[.string ((rd_T33 l0_0 x18_1).f0), .int .i64 0, .int .i64 0, .int .i64 0, .int .i64 0, .int .i64 0, .int .i64 0]) ?_ 1 _ rfl; (repeat refine bk1 ?_); refine blk_put (cs := #[.string (⟨#[]⟩ : ByteArray), .int .i64 0, .int .i64 0, .int .i64 0, .int .i64 0, .int .i64 0, .int .i64 0]) ?_ 0 _ rfl; (repeat refine bk1 ?_); exact BK345.out) hb); replace HB := Aside0.mk (below_step (by repeat with_reducible first | exact bl HB.out | refine below_set ?_ GE342.out | refine below_set ?_ GE345.out | refine bq ?_) hb); (try clear hb); (try clear hb2); (try clear hk); (try clear hi)) | ((with_reducible refine gate_dst (N := 10) rfl ?_); refine box_event ?hg (N := 10) ?hd (cs := #[.int .i64 0, .int .i64 0, .int .i64 0]) (t := 25) ?hr ?_; (case hd => rfl); (case hg => rfl); (case hr => first | (go_simp; done) | (go_simp; rfl)); intro gb351 hg w18 hbox hb; have BK351 := Aside0.mk (hbox); have GW351 := Aside0.mk ((by rw [hg]; exact (below_size (by repeat with_reducible first | exact bl HB.out | refine below_set ?_ GE342.out | refine below_set ?_ GE345.out | refine bq ?_)) : w.heap.size ≤ gb351)); have GE351 := GW351; replace HB := Aside0.mk (below_step (by repeat with_reducible first | exact bl HB.out | refine below_set ?_ GE342.out | refine below_set ?_ GE345.out | refine bq ?_) hb); have NB342_351 := nb_ hg BK342.out; have NB351_342 := Aside0.mk NB342_351.out.symm; replace BK342 := Aside0.mk (blk_below (bk BK342.out) hb); have NB345_351 := nb_ hg BK345.out; have NB351_345 := Aside0.mk NB345_351.out.symm; replace BK345 := Aside0.mk (blk_below (bk BK345.out) hb); clear hb hbox hg; have hnb19 := NB351_342.out; have hnc19 := NB342_351.out; have hnb20 := NB351_345.out; have hnc20 := NB345_351.out; obtain ⟨hcz21_0, hcz21_1, hcz21_2⟩ := ck3 BK351.out; obtain ⟨hfz21_0, hfz21_1, hfz21_2⟩ := fz3 BK351.out)); go_upto_region 8 with (first | ((with_reducible refine gate_dst (N := 8) rfl ?_); refine box_event ?hg (N := 8) ?hd (cs := #[.string (⟨#[]⟩ : ByteArray), .int .i64 0, .int .i64 0, .int .i64 0, .int .i64 0, .int .i64 0, .int .i64 0]) (t := 33) ?hr ?_; (case hd => rfl); (case hg => rfl); (case hr => first | (go_simp; done) | (go_simp; rfl)); intro gb345 hg w13 hbox hb; have BK345 := Aside0.mk (hbox); have GW345 := Aside0.mk ((by rw [hg]; exact (below_size (by repeat with_reducible first | exact bl HB.out | refine below_set ?_ GE342.out | refine bq ?_)) : w.heap.size ≤ gb345)); have GE345 := GW345; replace HB := Aside0.mk (below_step (by repeat with_reducible first | exact bl HB.out | refine below_set ?_ GE342.out | refine bq ?_) hb); have NB342_345 := nb_ hg BK342.out; have NB345_342 := Aside0.mk NB342_345.out.symm; replace BK342 := Aside0.mk (blk_below (bk BK342.out) hb); clear hb hbox hg; have hnb14 := NB345_342.out; have hnc14 := NB342_345.out; obtain ⟨hcz15_0, hcz15_1, hcz15_2, hcz15_3, hcz15_4, hcz15_5, hcz15_6⟩ := ck7 BK345.out; obtain ⟨hfz15_0, hfz15_1, hfz15_2, hfz15_3, hfz15_4, hfz15_5, hfz15_6⟩ := fz7 BK345.out; obtain ⟨hcz16_0, hcz16_1, hcz16_2, hcz16_3, hcz16_4, hcz16_5⟩ := ck6 BK342.out; obtain ⟨hfz16_0, hfz16_1, hfz16_2, hfz16_3, hfz16_4, hfz16_5⟩ := fz6 BK342.out) | (go_at_call 26; (with_reducible refine (impl_Due19.calls k1 ((rd_T33 l0_0 x18_1).f0) ((rd_T33 l0_0 x18_1).f1) ((rd_T33 l0_0 x18_1).f2) ((rd_T33 l0_0 x18_1).f3) ((rd_T33 l0_0 x18_1).f4.f0) ((rd_T33 l0_0 x18_1).f4.f1) ((rd_T33 l0_0 x18_1).f4.f2) a0_3 a0_4 a0_5 t346 t347 t348 t349 t350 _ A11.out).mono ?_); rintro e w17 ⟨rfl, hb⟩; replace BK342 := Aside0.mk (blk_below (g := gb342) (o := .cells #[.slice (some ad344) l0_0.length c0_0, .slice A0_1 l0_1.length c0_1, .slice A0_2 l0_2.length c0_2, .int .i64 a0_3, .int .i64 a0_4, .int .i64 a0_5] 56 (0, 0)) (by (repeat refine bk1 ?_); refine blk_far ?_ NB342_345.out _; (repeat refine bk1 ?_); refine blk_far ?_ NB342_345.out _; (repeat refine bk1 ?_); refine blk_far ?_ NB342_345.out _; (repeat refine bk1 ?_); refine blk_far ?_ NB342_345.out _; (repeat refine bk1 ?_); refine blk_far ?_ NB342_345.out _; (repeat refine bk1 ?_); refine blk_far ?_ NB342_345.out _; (repeat refine bk1 ?_); refine blk_far ?_ NB342_345.out _; (repeat refine bk1 ?_); exact BK342.out) hb); replace BK345 := Aside0.mk (blk_below (g := gb345) (o := .cells #[.string ((rd_T33 l0_0 x18_1).f0), .int .i64 ((rd_T33 l0_0 x18_1).f1), .int .i64 ((rd_T33 l0_0 x18_1).f2), .int .i64 ((rd_T33 l0_0 x18_1).f3), .int .i64 ((rd_T33 l0_0 x18_1).f4.f0), .int .i64 ((rd_T33 l0_0 x18_1).f4.f1), .int .i64 ((rd_T33 l0_0 x18_1).f4.f2)] 33 (0, 0)) (by (repeat refine bk1 ?_); refine blk_put (cs := #[.string ((rd_T33 l0_0 x18_1).f0), .int .i64 ((rd_T33 l0_0 x18_1).f1), .int .i64 ((rd_T33 l0_0 x18_1).f2), .int .i64 ((rd_T33 l0_0 x18_1).f3), .int .i64 ((rd_T33 l0_0 x18_1).f4.f0), .int .i64 ((rd_T33 l0_0 x18_1).f4.f1), .int .i64 0]) ?_ 6 _ rfl; (repeat refine bk1 ?_); refine blk_put (cs := #[.string ((rd_T33 l0_0 x18_1).f0), .int .i64 ((rd_T33 l0_0 x18_1).f1), .int .i64 ((rd_T33 l0_0 x18_1).f2), .int .i64 ((rd_T33 l0_0 x18_1).f3), .int .i64 ((rd_T33 l0_0 x18_1).f4.f0), .int .i64 0, .int .i64 0]) ?_ 5 _ rfl; (repeat refine bk1 ?_); refine blk_put (cs := #[.string ((rd_T33 l0_0 x18_1).f0), .int .i64 ((rd_T33 l0_0 x18_1).f1), .int .i64 ((rd_T33 l0_0 x18_1).f2), .int .i64 ((rd_T33 l0_0 x18_1).f3), .int .i64 0, .int .i64 0, .int .i64 0]) ?_ 4 _ rfl; (repeat refine bk1 ?_); refine blk_put (cs := #[.string ((rd_T33 l0_0 x18_1).f0), .int .i64 ((rd_T33 l0_0 x18_1).f1), .int .i64 ((rd_T33 l0_0 x18_1).f2), .int .i64 0, .int .i64 0, .int .i64 0, .int .i64 0]) ?_ 3 _ rfl; (repeat refine bk1 ?_); refine blk_put (cs := #[.string ((rd_T33 l0_0 x18_1).f0), .int .i64 ((rd_T33 l0_0 x18_1).f1), .int .i64 0, .int .i64 0, .int .i64 0, .int .i64 0, .int .i64 0]) ?_ 2 _ rfl; (repeat refine bk1 ?_); refine blk_put (cs := #[.string ((rd_T33 l0_0 x18_1).f0), .int .i64 0, .int .i64 0, .int .i64 0, .int .i64 0, .int .i64 0, .int .i64 0]) ?_ 1 _ rfl; (repeat refine bk1 ?_); refine blk_put (cs := #[.string (⟨#[]⟩ : ByteArray), .int .i64 0, .int .i64 0, .int .i64 0, .int .i64 0, .int .i64 0, .int .i64 0]) ?_ 0 _ rfl; (repeat refine bk1 ?_); exact BK345.out) hb); replace HB := Aside0.mk (below_step (by repeat with_reducible first | exact bl HB.out | refine below_set ?_ GE342.out | refine below_set ?_ GE345.out | refine bq ?_) hb); (try clear hb); (try clear hb2); (try clear hk); (try clear hi)) | ((with_reducible refine gate_dst (N := 10) rfl ?_); refine box_event ?hg (N := 10) ?hd (cs := #[.int .i64 0, .int .i64 0, .int .i64 0]) (t := 25) ?hr ?_; (case hd => rfl); (case hg => rfl); (case hr => first | (go_simp; done) | (go_simp; rfl)); intro gb351 hg w18 hbox hb; have BK351 := Aside0.mk (hbox); have GW351 := Aside0.mk ((by rw [hg]; exact (below_size (by repeat with_reducible first | exact bl HB.out | refine below_set ?_ GE342.out | refine below_set ?_ GE345.out | refine bq ?_)) : w.heap.size ≤ gb351)); have GE351 := GW351; replace HB := Aside0.mk (below_step (by repeat with_reducible first | exact bl HB.out | refine below_set ?_ GE342.out | refine below_set ?_ GE345.out | refine bq ?_) hb); have NB342_351 := nb_ hg BK342.out; have NB351_342 := Aside0.mk NB342_351.out.symm; replace BK342 := Aside0.mk (blk_below (bk BK342.out) hb); have NB345_351 := nb_ hg BK345.out; have NB351_345 := Aside0.mk NB345_351.out.symm; replace BK345 := Aside0.mk (blk_below (bk BK345.out) hb); clear hb hbox hg; have hnb19 := NB351_342.out; have hnc19 := NB342_351.out; have hnb20 := NB351_345.out; have hnc20 := NB345_351.out; obtain ⟨hcz21_0, hcz21_1, hcz21_2⟩ := ck3 BK351.out; obtain ⟨hfz21_0, hfz21_1, hfz21_2⟩ := fz3 BK351.out)))
       (try simp only [Act.put, List.setIfInBounds_toArray, List.set_cons_zero, List.set_cons_succ])
       go_cut [46] (fun v46 wc => ∃ (kq : Nat) (x46_11 : Bool), v46 = .bool x46_11 ∧ Aside0 (impl_NextDue.j1 kq x5_1 x6_1 l0_0 (l0_0.length : Int) x18_1 x46_11 l0_0 l0_1 l0_2 a0_3 a0_4 a0_5 ((rd_T33 l0_0 x18_1).f0) ((rd_T33 l0_0 x18_1).f1) ((rd_T33 l0_0 x18_1).f2) ((rd_T33 l0_0 x18_1).f3) ((rd_T33 l0_0 x18_1).f4.f0) ((rd_T33 l0_0 x18_1).f4.f1) ((rd_T33 l0_0 x18_1).f4.f2) t347 t348 t349 = some (r1, r2, r3)) ∧ Aside0 (kq ≤ k1) ∧ Aside0 (wc.heap[gb342]? = some (.cells #[(.slice (some ad344) l0_0.length c0_0), (.slice A0_1 l0_1.length c0_1), (.slice A0_2 l0_2.length c0_2), .int .i64 a0_3, .int .i64 a0_4, .int .i64 a0_5] 56 (0, 0))) ∧ Aside0 (wc.heap[gb345]? = some (.cells #[.string ((rd_T33 l0_0 x18_1).f0), .int .i64 ((rd_T33 l0_0 x18_1).f1), .int .i64 ((rd_T33 l0_0 x18_1).f2), .int .i64 ((rd_T33 l0_0 x18_1).f3), .int .i64 ((rd_T33 l0_0 x18_1).f4.f0), .int .i64 ((rd_T33 l0_0 x18_1).f4.f1), .int .i64 ((rd_T33 l0_0 x18_1).f4.f2)] 33 (0, 0))) ∧ Aside0 (wc.heap[gb351]? = some (.cells #[.int .i64 t347, .int .i64 t348, .int .i64 t349] 25 (0, 0))) ∧ Aside0 (Below w.heap.size w wc))
       case first =>
        have H := HC12.out
        clear HC12
        by_cases c22 : ((rd_T33 l0_0 x18_1).f2) > 0
        ·
         rw [if_pos c22] at H
         have c22b0 : decide (0 < ((rd_T33 l0_0 x18_1).f2)) = true := decide_eq_true c22
         clear c22
         (first | rw [c22b0] | (simp only [i64_w, i32_w]; rw [c22b0]) | skip)
         by_cases c23 : t346 = true
         ·
          subst c23
          have H1 : (impl_NextDue.j1 k1 x5_1 x6_1 l0_0 (l0_0.length : Int) x18_1 false l0_0 l0_1 l0_2 a0_3 a0_4 a0_5 ((rd_T33 l0_0 x18_1).f0) ((rd_T33 l0_0 x18_1).f1) ((rd_T33 l0_0 x18_1).f2) ((rd_T33 l0_0 x18_1).f3) ((rd_T33 l0_0 x18_1).f4.f0) ((rd_T33 l0_0 x18_1).f4.f1) ((rd_T33 l0_0 x18_1).f4.f2) t347 t348 t349) = some (r1, r2, r3) := by rw [if_pos rfl] at H; exact H
          clear H
          have H := H1
          clear H1
          have H' := Aside0.mk H
          clear H
          have hnb24 := NB345_342.out
          have hnc24 := NB342_345.out
          have hnb25 := NB345_351.out
          have hnc25 := NB351_345.out
          obtain ⟨hcz26_0, hcz26_1, hcz26_2, hcz26_3, hcz26_4, hcz26_5, hcz26_6⟩ := ck7 BK345.out
          obtain ⟨hfz26_0, hfz26_1, hfz26_2, hfz26_3, hfz26_4, hfz26_5, hfz26_6⟩ := fz7 BK345.out
          go_wp2
          repeat (go_quiet (fail); try go_wp2)
          go_meet
          case rel => exact ⟨_, (false), (by first | rfl | (simp; done) | (simp [*]; done)), H', ⟨by have := HK1.out; first | omega | exact Nat.le_refl _⟩, ⟨by (repeat refine bk1 ?_); refine blk_far ?_ NB342_351.out _; (repeat refine bk1 ?_); refine blk_far ?_ NB342_351.out _; (repeat refine bk1 ?_); refine blk_far ?_ NB342_351.out _; (repeat refine bk1 ?_); exact BK342.out⟩, ⟨by (repeat refine bk1 ?_); refine blk_far ?_ NB345_351.out _; (repeat refine bk1 ?_); refine blk_far ?_ NB345_351.out _; (repeat refine bk1 ?_); refine blk_far ?_ NB345_351.out _; (repeat refine bk1 ?_); exact BK345.out⟩, ⟨by (repeat refine bk1 ?_); refine blk_put (cs := #[.int .i64 t347, .int .i64 t348, .int .i64 0]) ?_ 2 _ rfl; (repeat refine bk1 ?_); refine blk_put (cs := #[.int .i64 t347, .int .i64 0, .int .i64 0]) ?_ 1 _ rfl; (repeat refine bk1 ?_); refine blk_put (cs := #[.int .i64 0, .int .i64 0, .int .i64 0]) ?_ 0 _ rfl; (repeat refine bk1 ?_); exact BK351.out⟩, ⟨by repeat with_reducible first | exact bl HB.out | refine below_set ?_ GE342.out | refine below_set ?_ GE345.out | refine below_set ?_ GE351.out | refine bq ?_⟩⟩
         ·
          replace c23 := Bool.eq_false_iff.mpr c23
          subst c23
          have H1 : (if x5_1.toList = ([] : List UInt8) then (impl_NextDue.j1 k1 x5_1 x6_1 l0_0 (l0_0.length : Int) x18_1 true l0_0 l0_1 l0_2 a0_3 a0_4 a0_5 ((rd_T33 l0_0 x18_1).f0) ((rd_T33 l0_0 x18_1).f1) ((rd_T33 l0_0 x18_1).f2) ((rd_T33 l0_0 x18_1).f3) ((rd_T33 l0_0 x18_1).f4.f0) ((rd_T33 l0_0 x18_1).f4.f1) ((rd_T33 l0_0 x18_1).f4.f2) t347 t348 t349) else (impl_NextDue.j1 k1 x5_1 x6_1 l0_0 (l0_0.length : Int) x18_1 (decide (t348 < x6_1)) l0_0 l0_1 l0_2 a0_3 a0_4 a0_5 ((rd_T33 l0_0 x18_1).f0) ((rd_T33 l0_0 x18_1).f1) ((rd_T33 l0_0 x18_1).f2) ((rd_T33 l0_0 x18_1).f3) ((rd_T33 l0_0 x18_1).f4.f0) ((rd_T33 l0_0 x18_1).f4.f1) ((rd_T33 l0_0 x18_1).f4.f2) t347 t348 t349)) = some (r1, r2, r3) := by rw [if_neg (show ¬ (false = true) by decide)] at H; exact H
          clear H
          have H := H1
          clear H1
          by_cases c27 : x5_1.toList = ([] : List UInt8)
          ·
           rw [if_pos c27] at H
           have c27b0 : (x5_1.toList == ([] : List UInt8)) = true := beq_iff_eq.mpr c27
           have c27b1 : (x5_1.toList != ([] : List UInt8)) = false := bne_eq_false_iff_eq.mpr c27
           clear c27
           have H' := Aside0.mk H
           clear H
           have hnb28 := NB345_342.out
           have hnc28 := NB342_345.out
           have hnb29 := NB345_351.out
           have hnc29 := NB351_345.out
           obtain ⟨hcz30_0, hcz30_1, hcz30_2, hcz30_3, hcz30_4, hcz30_5, hcz30_6⟩ := ck7 BK345.out
           obtain ⟨hfz30_0, hfz30_1, hfz30_2, hfz30_3, hfz30_4, hfz30_5, hfz30_6⟩ := fz7 BK345.out
           go_wp2
           repeat (go_quiet (fail); try go_wp2)
           go_meet
           case rel => exact ⟨_, (true), (by first | rfl | (simp; done) | (simp [*]; done)), H', ⟨by have := HK1.out; first | omega | exact Nat.le_refl _⟩, ⟨by (repeat refine bk1 ?_); refine blk_far ?_ NB342_351.out _; (repeat refine bk1 ?_); refine blk_far ?_ NB342_351.out _; (repeat refine bk1 ?_); refine blk_far ?_ NB342_351.out _; (repeat refine bk1 ?_); exact BK342.out⟩, ⟨by (repeat refine bk1 ?_); refine blk_far ?_ NB345_351.out _; (repeat refine bk1 ?_); refine blk_far ?_ NB345_351.out _; (repeat refine bk1 ?_); refine blk_far ?_ NB345_351.out _; (repeat refine bk1 ?_); exact BK345.out⟩, ⟨by (repeat refine bk1 ?_); refine blk_put (cs := #[.int .i64 t347, .int .i64 t348, .int .i64 0]) ?_ 2 _ rfl; (repeat refine bk1 ?_); refine blk_put (cs := #[.int .i64 t347, .int .i64 0, .int .i64 0]) ?_ 1 _ rfl; (repeat refine bk1 ?_); refine blk_put (cs := #[.int .i64 0, .int .i64 0, .int .i64 0]) ?_ 0 _ rfl; (repeat refine bk1 ?_); exact BK351.out⟩, ⟨by repeat with_reducible first | exact bl HB.out | refine below_set ?_ GE342.out | refine below_set ?_ GE345.out | refine below_set ?_ GE351.out | refine bq ?_⟩⟩
          ·
           rw [if_neg c27] at H
           have c27b0 : (x5_1.toList == ([] : List UInt8)) = false := beq_eq_false_iff_ne.mpr c27
           have c27b1 : (x5_1.toList != ([] : List UInt8)) = true := bne_iff_ne.mpr c27
           have H' := Aside0.mk H
           clear H
           have hnb31 := NB345_342.out
           have hnc31 := NB342_345.out
           have hnb32 := NB345_351.out
           have hnc32 := NB351_345.out
           obtain ⟨hcz33_0, hcz33_1, hcz33_2, hcz33_3, hcz33_4, hcz33_5, hcz33_6⟩ := ck7 BK345.out
           obtain ⟨hfz33_0, hfz33_1, hfz33_2, hfz33_3, hfz33_4, hfz33_5, hfz33_6⟩ := fz7 BK345.out
           have hnb34 := NB351_342.out
           have hnc34 := NB342_351.out
           obtain ⟨hcz35_0, hcz35_1, hcz35_2⟩ := ck3 BK351.out
           obtain ⟨hfz35_0, hfz35_1, hfz35_2⟩ := fz3 BK351.out
           go_wp2
           repeat (go_quiet (fail); try go_wp2)
           go_meet
           case rel => exact ⟨_, (decide (t348 < x6_1)), (by first | rfl | (simp; done) | (simp [*]; done)), H', ⟨by have := HK1.out; first | omega | exact Nat.le_refl _⟩, ⟨by (repeat refine bk1 ?_); refine blk_far ?_ NB342_351.out _; (repeat refine bk1 ?_); refine blk_far ?_ NB342_351.out _; (repeat refine bk1 ?_); refine blk_far ?_ NB342_351.out _; (repeat refine bk1 ?_); exact BK342.out⟩, ⟨by (repeat refine bk1 ?_); refine blk_far ?_ NB345_351.out _; (repeat refine bk1 ?_); refine blk_far ?_ NB345_351.out _; (repeat refine bk1 ?_); refine blk_far ?_ NB345_351.out _; (repeat refine bk1 ?_); exact BK345.out⟩, ⟨by (repeat refine bk1 ?_); refine blk_put (cs := #[.int .i64 t347, .int .i64 t348, .int .i64 0]) ?_ 2 _ rfl; (repeat refine bk1 ?_); refine blk_put (cs := #[.int .i64 t347, .int .i64 0, .int .i64 0]) ?_ 1 _ rfl; (repeat refine bk1 ?_); refine blk_put (cs := #[.int .i64 0, .int .i64 0, .int .i64 0]) ?_ 0 _ rfl; (repeat refine bk1 ?_); exact BK351.out⟩, ⟨by repeat with_reducible first | exact bl HB.out | refine below_set ?_ GE342.out | refine below_set ?_ GE345.out | refine below_set ?_ GE351.out | refine bq ?_⟩⟩
        ·
         rw [if_neg c22] at H
         have c22b0 : decide (0 < ((rd_T33 l0_0 x18_1).f2)) = false := decide_eq_false c22
         clear c22
         (first | rw [c22b0] | (simp only [i64_w, i32_w]; rw [c22b0]) | skip)
         have H' := Aside0.mk H
         clear H
         have hnb36 := NB345_342.out
         have hnc36 := NB342_345.out
         have hnb37 := NB345_351.out
         have hnc37 := NB351_345.out
         obtain ⟨hcz38_0, hcz38_1, hcz38_2, hcz38_3, hcz38_4, hcz38_5, hcz38_6⟩ := ck7 BK345.out
         obtain ⟨hfz38_0, hfz38_1, hfz38_2, hfz38_3, hfz38_4, hfz38_5, hfz38_6⟩ := fz7 BK345.out
         go_wp2
         repeat (go_quiet (fail); try go_wp2)
         go_meet
         case rel => exact ⟨_, (false), (by first | rfl | (simp; done) | (simp [*]; done)), H', ⟨by have := HK1.out; first | omega | exact Nat.le_refl _⟩, ⟨by (repeat refine bk1 ?_); refine blk_far ?_ NB342_351.out _; (repeat refine bk1 ?_); refine blk_far ?_ NB342_351.out _; (repeat refine bk1 ?_); refine blk_far ?_ NB342_351.out _; (repeat refine bk1 ?_); exact BK342.out⟩, ⟨by (repeat refine bk1 ?_); refine blk_far ?_ NB345_351.out _; (repeat refine bk1 ?_); refine blk_far ?_ NB345_351.out _; (repeat refine bk1 ?_); refine blk_far ?_ NB345_351.out _; (repeat refine bk1 ?_); exact BK345.out⟩, ⟨by (repeat refine bk1 ?_); refine blk_put (cs := #[.int .i64 t347, .int .i64 t348, .int .i64 0]) ?_ 2 _ rfl; (repeat refine bk1 ?_); refine blk_put (cs := #[.int .i64 t347, .int .i64 0, .int .i64 0]) ?_ 1 _ rfl; (repeat refine bk1 ?_); refine blk_put (cs := #[.int .i64 0, .int .i64 0, .int .i64 0]) ?_ 0 _ rfl; (repeat refine bk1 ?_); exact BK351.out⟩, ⟨by repeat with_reducible first | exact bl HB.out | refine below_set ?_ GE342.out | refine below_set ?_ GE345.out | refine below_set ?_ GE351.out | refine bq ?_⟩⟩
       case rest =>
        clear HC12
        try clear c1
        try clear c2
        try clear p2
        try clear c3
        try clear p3
        try clear q3
        try clear hx3
        try clear c8
        try clear c8b0
        try clear c9
        try clear c9b0
        try clear c10
        try clear c10b0
        try clear c14
        try clear c19
        try clear c20
        try clear c22
        try clear c22b0
        try clear c23
        try clear c24
        try clear c25
        try clear c27
        try clear c27b0
        try clear c27b1
        try clear c28
        try clear c29
        try clear c31
        try clear c32
        try clear c34
        try clear p34
        try clear q34
        try clear hx34
        try clear c36
        try clear c37
        try clear hcz15_0 hcz15_1 hcz15_2 hcz15_3 hcz15_4 hcz15_5 hcz15_6 hfz15_0 hfz15_1 hfz15_2 hfz15_3 hfz15_4 hfz15_5 hfz15_6
        try clear hcz16_0 hcz16_1 hcz16_2 hcz16_3 hcz16_4 hcz16_5 hfz16_0 hfz16_1 hfz16_2 hfz16_3 hfz16_4 hfz16_5
        try clear hcz21_0 hcz21_1 hcz21_2 hfz21_0 hfz21_1 hfz21_2
        try clear hcz26_0 hcz26_1 hcz26_2 hcz26_3 hcz26_4 hcz26_5 hcz26_6 hfz26_0 hfz26_1 hfz26_2 hfz26_3 hfz26_4 hfz26_5 hfz26_6
        try clear hcz30_0 hcz30_1 hcz30_2 hcz30_3 hcz30_4 hcz30_5 hcz30_6 hfz30_0 hfz30_1 hfz30_2 hfz30_3 hfz30_4 hfz30_5 hfz30_6
        try clear hcz33_0 hcz33_1 hcz33_2 hcz33_3 hcz33_4 hcz33_5 hcz33_6 hfz33_0 hfz33_1 hfz33_2 hfz33_3 hfz33_4 hfz33_5 hfz33_6
        try clear hcz35_0 hcz35_1 hcz35_2 hfz35_0 hfz35_1 hfz35_2
        try clear hcz38_0 hcz38_1 hcz38_2 hcz38_3 hcz38_4 hcz38_5 hcz38_6 hfz38_0 hfz38_1 hfz38_2 hfz38_3 hfz38_4 hfz38_5 hfz38_6
        try clear hcz5_0 hcz5_1 hcz5_2 hcz5_3 hcz5_4 hcz5_5 hfz5_0 hfz5_1 hfz5_2 hfz5_3 hfz5_4 hfz5_5
        try clear hcz7_0 hcz7_1 hcz7_2 hcz7_3 hcz7_4 hcz7_5 hfz7_0 hfz7_1 hfz7_2 hfz7_3 hfz7_4 hfz7_5
        try clear hx344_0
        try clear hx344_1
        try clear hx344_2
        try clear hx344_3
        try clear hx344_4
        try clear hx344_5
        try clear hx344_6
        try clear p2
        try clear p344
        try clear q344
        obtain ⟨kq, x46_11, rfl, HA, HJ11, BK342, BK345, BK351, HB⟩ := hcut
        cases kq with
        | zero => exact absurd HA.out (by simp [impl_NextDue.j1])
        | succ kj11 =>
         have H := HA.out
         clear HA
         simp only [impl_NextDue.j1] at H
         by_cases c39 : x46_11 = true
         ·
          subst c39
          have H1 : (impl_NextDue.l0 kj11 ((rd_T33 l0_0 x18_1).f0) t348 l0_0 (l0_0.length : Int) (wrap64 (x18_1 + 1)) l0_0 l0_1 l0_2 a0_3 a0_4 a0_5) = some (r1, r2, r3) := by rw [if_pos rfl] at H; exact H
          clear H
          have H := H1
          clear H1
          have H' := Aside0.mk H
          clear H
          have hnb40 := NB345_342.out
          have hnc40 := NB342_345.out
          have hnb41 := NB345_351.out
          have hnc41 := NB351_345.out
          obtain ⟨hcz42_0, hcz42_1, hcz42_2, hcz42_3, hcz42_4, hcz42_5, hcz42_6⟩ := ck7 BK345.out
          obtain ⟨hfz42_0, hfz42_1, hfz42_2, hfz42_3, hfz42_4, hfz42_5, hfz42_6⟩ := fz7 BK345.out
          have hnb43 := NB351_342.out
          have hnc43 := NB342_351.out
          obtain ⟨hcz44_0, hcz44_1, hcz44_2⟩ := ck3 BK351.out
          obtain ⟨hfz44_0, hfz44_1, hfz44_2⟩ := fz3 BK351.out
          go_wp2
          repeat (go_quiet (fail); try go_wp2)
          go_roundg kj11
          case measure => have := HK1.out; have := HJ11.out; omega
          case rel => exact ⟨(((rd_T33 l0_0 x18_1).f0)), (t348), (wrap64 (x18_1 + 1)), (by first | rfl | (simp; done) | (simp [*]; done)), (by first | rfl | (simp; done) | (simp [*]; done)), (by first | rfl | (simp; done) | (simp [*]; done)), H', ⟨by have := HK1.out; have := HJ11.out; omega⟩, ⟨bk BK342.out⟩, ⟨by repeat with_reducible first | exact bl HB.out | refine below_set ?_ GE342.out | refine below_set ?_ GE345.out | refine below_set ?_ GE351.out | refine bq ?_⟩⟩
         ·
          replace c39 := Bool.eq_false_iff.mpr c39
          subst c39
          have H1 : (impl_NextDue.l0 kj11 x5_1 x6_1 l0_0 (l0_0.length : Int) (wrap64 (x18_1 + 1)) l0_0 l0_1 l0_2 a0_3 a0_4 a0_5) = some (r1, r2, r3) := by rw [if_neg (show ¬ (false = true) by decide)] at H; exact H
          clear H
          have H := H1
          clear H1
          have H' := Aside0.mk H
          clear H
          go_wp2
          repeat (go_quiet (fail); try go_wp2)
          go_roundg kj11
          case measure => have := HK1.out; have := HJ11.out; omega
          case rel => exact ⟨(x5_1), (x6_1), (wrap64 (x18_1 + 1)), (by first | rfl | (simp; done) | (simp [*]; done)), (by first | rfl | (simp; done) | (simp [*]; done)), (by first | rfl | (simp; done) | (simp [*]; done)), H', ⟨by have := HK1.out; have := HJ11.out; omega⟩, ⟨bk BK342.out⟩, ⟨by repeat with_reducible first | exact bl HB.out | refine below_set ?_ GE342.out | refine below_set ?_ GE345.out | refine below_set ?_ GE351.out | refine bq ?_⟩⟩
      ·
       rw [if_neg c10] at H
       exact absurd H (by simp)
     ·
      rw [if_neg c9] at H
      exact absurd H (by simp)
    ·
     rw [if_neg c8] at H
     have c8b0 : decide (x18_1 < (l0_0.length : Int)) = false := decide_eq_false c8
     clear c8
     simp only [Option.some.injEq, Prod.mk.injEq] at H
     obtain ⟨rfl, rfl, rfl⟩ := H
     go_wp2
     repeat (go_quiet (fail); try go_wp2)
     go_ret3
     exact ⟨by first | rfl | (simp [errW_none, errW_some] <;> rfl) | (simp [errW_none, errW_some]; cases x5_1.toList <;> rfl) | (simp [*, errW_none, errW_some] <;> rfl), by repeat with_reducible first | exact bl HB.out | refine below_set ?_ GE342.out | refine bq ?_⟩
 ·
  replace c3 := Bool.eq_false_iff.mpr c3
  subst c3
  have H1 : (some ((⟨#[]⟩ : ByteArray), 0, false)) = some (r1, r2, r3) := by rw [if_neg (show ¬ (false = true) by decide)] at H; exact H
  clear H
  have H := H1
  clear H1
  simp only [Option.some.injEq, Prod.mk.injEq] at H
  obtain ⟨rfl, rfl, rfl⟩ := H
  go_enter Try.func34, Try.ntmps34
  go_wp2_with (first | ((with_reducible refine gate_dst (N := 1) rfl ?_); refine box_event ?hg (N := 1) ?hd (cs := #[.slice A0_0 l0_0.length c0_0, .slice A0_1 l0_1.length c0_1, .slice A0_2 l0_2.length c0_2, .int .i64 a0_3, .int .i64 a0_4, .int .i64 a0_5]) (t := 56) ?hr ?_; (case hd => rfl); (case hg => rfl); (case hr => first | (go_simp; done) | (go_simp; rfl)); intro gb342 hg w45 hbox hb; have BK342 := Aside0.mk (hbox); have GW342 := Aside0.mk ((by rw [hg]; exact (below_size (bl HB.out)) : w.heap.size ≤ gb342)); have GE342 := GW342; replace HB := Aside0.mk (below_step (bl HB.out) hb); clear hb hbox hg; obtain ⟨hcz46_0, hcz46_1, hcz46_2, hcz46_3, hcz46_4, hcz46_5⟩ := ck6 BK342.out; obtain ⟨hfz46_0, hfz46_1, hfz46_2, hfz46_3, hfz46_4, hfz46_5⟩ := fz6 BK342.out) | (go_at_call 31; (with_reducible refine (impl_FleetOk.calls k _ _ l0_0 _ _ l0_1 _ _ l0_2 a0_3 a0_4 a0_5 false _ ?side1 ?side2 ?side3 ?side4 ?side5 ?side6 A2.out).mono ?_); (case side1 => exact rc (Kd.C_below HR0_0.out HB.out)); (case side2 => exact HC0_0.out); (case side3 => exact rc (Kd.C_below HR0_1.out HB.out)); (case side4 => exact HC0_1.out); (case side5 => exact rc (Kd.C_below HR0_2.out HB.out)); (case side6 => exact HC0_2.out); rintro e w47 ⟨rfl, hb⟩; replace BK342 := Aside0.mk (blk_below (bk BK342.out) hb); replace HB := Aside0.mk (below_step (by repeat with_reducible first | exact bl HB.out | refine below_set ?_ GE342.out | refine bq ?_) hb); (try clear hb); (try clear hb2); (try clear hk); (try clear hi)))
  repeat (go_quiet (first | ((with_reducible refine gate_dst (N := 1) rfl ?_); refine box_event ?hg (N := 1) ?hd (cs := #[.slice A0_0 l0_0.length c0_0, .slice A0_1 l0_1.length c0_1, .slice A0_2 l0_2.length c0_2, .int .i64 a0_3, .int .i64 a0_4, .int .i64 a0_5]) (t := 56) ?hr ?_; (case hd => rfl); (case hg => rfl); (case hr => first | (go_simp; done) | (go_simp; rfl)); intro gb342 hg w45 hbox hb; have BK342 := Aside0.mk (hbox); have GW342 := Aside0.mk ((by rw [hg]; exact (below_size (bl HB.out)) : w.heap.size ≤ gb342)); have GE342 := GW342; replace HB := Aside0.mk (below_step (bl HB.out) hb); clear hb hbox hg; obtain ⟨hcz46_0, hcz46_1, hcz46_2, hcz46_3, hcz46_4, hcz46_5⟩ := ck6 BK342.out; obtain ⟨hfz46_0, hfz46_1, hfz46_2, hfz46_3, hfz46_4, hfz46_5⟩ := fz6 BK342.out) | (go_at_call 31; (with_reducible refine (impl_FleetOk.calls k _ _ l0_0 _ _ l0_1 _ _ l0_2 a0_3 a0_4 a0_5 false _ ?side1 ?side2 ?side3 ?side4 ?side5 ?side6 A2.out).mono ?_); (case side1 => exact rc (Kd.C_below HR0_0.out HB.out)); (case side2 => exact HC0_0.out); (case side3 => exact rc (Kd.C_below HR0_1.out HB.out)); (case side4 => exact HC0_1.out); (case side5 => exact rc (Kd.C_below HR0_2.out HB.out)); (case side6 => exact HC0_2.out); rintro e w47 ⟨rfl, hb⟩; replace BK342 := Aside0.mk (blk_below (bk BK342.out) hb); replace HB := Aside0.mk (below_step (by repeat with_reducible first | exact bl HB.out | refine below_set ?_ GE342.out | refine bq ?_) hb); (try clear hb); (try clear hb2); (try clear hk); (try clear hi))); try go_wp2_with (first | ((with_reducible refine gate_dst (N := 1) rfl ?_); refine box_event ?hg (N := 1) ?hd (cs := #[.slice A0_0 l0_0.length c0_0, .slice A0_1 l0_1.length c0_1, .slice A0_2 l0_2.length c0_2, .int .i64 a0_3, .int .i64 a0_4, .int .i64 a0_5]) (t := 56) ?hr ?_; (case hd => rfl); (case hg => rfl); (case hr => first | (go_simp; done) | (go_simp; rfl)); intro gb342 hg w45 hbox hb; have BK342 := Aside0.mk (hbox); have GW342 := Aside0.mk ((by rw [hg]; exact (below_size (bl HB.out)) : w.heap.size ≤ gb342)); have GE342 := GW342; replace HB := Aside0.mk (below_step (bl HB.out) hb); clear hb hbox hg; obtain ⟨hcz46_0, hcz46_1, hcz46_2, hcz46_3, hcz46_4, hcz46_5⟩ := ck6 BK342.out; obtain ⟨hfz46_0, hfz46_1, hfz46_2, hfz46_3, hfz46_4, hfz46_5⟩ := fz6 BK342.out) | (go_at_call 31; (with_reducible refine (impl_FleetOk.calls k _ _ l0_0 _ _ l0_1 _ _ l0_2 a0_3 a0_4 a0_5 false _ ?side1 ?side2 ?side3 ?side4 ?side5 ?side6 A2.out).mono ?_); (case side1 => exact rc (Kd.C_below HR0_0.out HB.out)); (case side2 => exact HC0_0.out); (case side3 => exact rc (Kd.C_below HR0_1.out HB.out)); (case side4 => exact HC0_1.out); (case side5 => exact rc (Kd.C_below HR0_2.out HB.out)); (case side6 => exact HC0_2.out); rintro e w47 ⟨rfl, hb⟩; replace BK342 := Aside0.mk (blk_below (bk BK342.out) hb); replace HB := Aside0.mk (below_step (by repeat with_reducible first | exact bl HB.out | refine below_set ?_ GE342.out | refine bq ?_) hb); (try clear hb); (try clear hb2); (try clear hk); (try clear hi))))
  go_ret3
  exact ⟨by first | rfl | (simp [errW_none, errW_some] <;> rfl) | (simp [*, errW_none, errW_some] <;> rfl), by repeat with_reducible first | exact bl HB.out | refine below_set ?_ GE342.out | refine bq ?_⟩

end Go.Proofs.Ytbgdibbgngpggaa.PFnExactNextDue
