-- Written by a program of this session (wip/xprint.py) out of the translation; Lean checks it.
import Derived.Test.YtbgdibbgngpggaaPFnCarriedx0
import Derived.Test.YtbgdibbgngpggaaPFnCarriedx1
import Derived.Test.YtbgdibbgngpggaaPFnCarriedx2
import Derived.Test.YtbgdibbgngpggaaPFnCarriedx3
import Derived.Test.YtbgdibbgngpggaaPFnCarriedx4
namespace Go.Proofs.Ytbgdibbgngpggaa.PFnCarried
open Go.RowKit Go.Proofs.YtbgdibbgngpggaaW.PrintWords Go.Proofs.YtbgdibbgngpggaaW.PrintLast Go.Proofs.YtbgdibbgngpggaaW.PrintMore Go.Proofs.Ytbgdibbgngpggaa.Sq
attribute [local go_sem] max2_int min2_int max_two min_two max_three min_three max_four min_four   -- for this text's walks alone
set_option linter.unusedVariables false
set_option linter.unusedSimpArgs false

/-! ### impl_NextDue: function 34 -/
mutual
def impl_NextDue.l0 : Nat → ByteArray → Int → List (S33) → Int → Int → List (S33) → List (S70) → List (S72) → Int → Int → Int → Option (ByteArray × Int × Bool)
 | 0, _, _, _, _, _, _, _, _, _, _, _ => none
 | k + 1, x5, x6, x16, x17, x18, x165000, x165001, x165002, x165003, x165004, x165005 => if x18 < x17 then (if 0 ≤ x18 then (if x18 < (x16.length : Int) then ((impl_Due19.f k ((rd_T33 x16 x18).f0) ((rd_T33 x16 x18).f1) ((rd_T33 x16 x18).f2) ((rd_T33 x16 x18).f3) ((rd_T33 x16 x18).f4.f0) ((rd_T33 x16 x18).f4.f1) ((rd_T33 x16 x18).f4.f2) x165003 x165004 x165005).bind fun bt168 => (if ((rd_T33 x16 x18).f2) > 0 then (if bt168.1 = true then (impl_NextDue.j1 k x5 x6 x16 x17 x18 false x165000 x165001 x165002 x165003 x165004 x165005 ((rd_T33 x16 x18).f0) ((rd_T33 x16 x18).f1) ((rd_T33 x16 x18).f2) ((rd_T33 x16 x18).f3) ((rd_T33 x16 x18).f4.f0) ((rd_T33 x16 x18).f4.f1) ((rd_T33 x16 x18).f4.f2) bt168.2.1 bt168.2.2.1 bt168.2.2.2.1) else (if x5.toList = ([] : List UInt8) then (impl_NextDue.j1 k x5 x6 x16 x17 x18 true x165000 x165001 x165002 x165003 x165004 x165005 ((rd_T33 x16 x18).f0) ((rd_T33 x16 x18).f1) ((rd_T33 x16 x18).f2) ((rd_T33 x16 x18).f3) ((rd_T33 x16 x18).f4.f0) ((rd_T33 x16 x18).f4.f1) ((rd_T33 x16 x18).f4.f2) bt168.2.1 bt168.2.2.1 bt168.2.2.2.1) else (impl_NextDue.j1 k x5 x6 x16 x17 x18 (decide (bt168.2.2.1 < x6)) x165000 x165001 x165002 x165003 x165004 x165005 ((rd_T33 x16 x18).f0) ((rd_T33 x16 x18).f1) ((rd_T33 x16 x18).f2) ((rd_T33 x16 x18).f3) ((rd_T33 x16 x18).f4.f0) ((rd_T33 x16 x18).f4.f1) ((rd_T33 x16 x18).f4.f2) bt168.2.1 bt168.2.2.1 bt168.2.2.2.1))) else (impl_NextDue.j1 k x5 x6 x16 x17 x18 false x165000 x165001 x165002 x165003 x165004 x165005 ((rd_T33 x16 x18).f0) ((rd_T33 x16 x18).f1) ((rd_T33 x16 x18).f2) ((rd_T33 x16 x18).f3) ((rd_T33 x16 x18).f4.f0) ((rd_T33 x16 x18).f4.f1) ((rd_T33 x16 x18).f4.f2) bt168.2.1 bt168.2.2.1 bt168.2.2.2.1))) else (none)) else (none)) else (some (x5, x6, (x5.toList != ([] : List UInt8))))
def impl_NextDue.j1 : Nat → ByteArray → Int → List (S33) → Int → Int → Bool → List (S33) → List (S70) → List (S72) → Int → Int → Int → ByteArray → Int → Int → Int → Int → Int → Int → Int → Int → Int → Option (ByteArray × Int × Bool)
 | 0, _, _, _, _, _, _, _, _, _, _, _, _, _, _, _, _, _, _, _, _, _, _ => none
 | k + 1, x5, x6, x16, x17, x18, x46, x165000, x165001, x165002, x165003, x165004, x165005, x168000, x168001, x168002, x168003, x168004, x168005, x168006, x174000, x174001, x174002 => if x46 = true then (impl_NextDue.l0 k x168000 x174001 x16 x17 (wrap64 (x18 + 1)) x165000 x165001 x165002 x165003 x165004 x165005) else (impl_NextDue.l0 k x5 x6 x16 x17 (wrap64 (x18 + 1)) x165000 x165001 x165002 x165003 x165004 x165005)
end
def impl_NextDue.f (k : Nat) (l0_0 : List (S33)) (l0_1 : List (S70)) (l0_2 : List (S72)) (a0_3 : Int) (a0_4 : Int) (a0_5 : Int) : Option (ByteArray × Int × Bool) := (impl_FleetOk.f l0_0 l0_1 l0_2 a0_3 a0_4 a0_5).bind fun t165 => (if t165 = true then (impl_NextDue.l0 k (⟨#[]⟩ : ByteArray) 0 l0_0 (l0_0.length : Int) 0 l0_0 l0_1 l0_2 a0_3 a0_4 a0_5) else (some ((⟨#[]⟩ : ByteArray), 0, false)))
theorem impl_NextDue.mono_l : ∀ k, (∀ y0 y1 y2 y3 y4 y5 y6 y7 y8 y9 y10, LeO (impl_NextDue.l0 k y0 y1 y2 y3 y4 y5 y6 y7 y8 y9 y10) (impl_NextDue.l0 (k + 1) y0 y1 y2 y3 y4 y5 y6 y7 y8 y9 y10)) ∧ (∀ y0 y1 y2 y3 y4 y5 y6 y7 y8 y9 y10 y11 y12 y13 y14 y15 y16 y17 y18 y19 y20 y21, LeO (impl_NextDue.j1 k y0 y1 y2 y3 y4 y5 y6 y7 y8 y9 y10 y11 y12 y13 y14 y15 y16 y17 y18 y19 y20 y21) (impl_NextDue.j1 (k + 1) y0 y1 y2 y3 y4 y5 y6 y7 y8 y9 y10 y11 y12 y13 y14 y15 y16 y17 y18 y19 y20 y21))
 | 0 => ⟨fun _ _ _ _ _ _ _ _ _ _ _ r h => by simp [impl_NextDue.l0] at h, fun _ _ _ _ _ _ _ _ _ _ _ _ _ _ _ _ _ _ _ _ _ _ r h => by simp [impl_NextDue.j1] at h⟩
 | k + 1 => by
  obtain ⟨ih0, ih1⟩ := impl_NextDue.mono_l k
  refine ⟨?_, ?_⟩
  ·
   intro y0 y1 y2 y3 y4 y5 y6 y7 y8 y9 y10
   unfold impl_NextDue.l0
   repeat' first
   | (with_reducible exact ih0 _ _ _ _ _ _ _ _ _ _ _)
   | (with_reducible exact ih1 _ _ _ _ _ _ _ _ _ _ _ _ _ _ _ _ _ _ _ _ _ _)
   | (with_reducible exact impl_Due19.mono _ _ _ _ _ _ _ _ _ _ _)
   | (with_reducible exact LeO.refl _)
   | (with_reducible exact LeO.none _)
   | (with_reducible refine LeO.ite ?_ ?_)
   | (with_reducible refine LeO.bind ?_ (fun _ => ?_))
   | exact ih0 _ _ _ _ _ _ _ _ _ _ _
   | exact ih1 _ _ _ _ _ _ _ _ _ _ _ _ _ _ _ _ _ _ _ _ _ _
   | exact impl_Due19.mono _ _ _ _ _ _ _ _ _ _ _
   | exact LeO.none _
   | refine LeO.ite ?_ ?_
   | refine LeO.bind ?_ (fun _ => ?_)
  ·
   intro y0 y1 y2 y3 y4 y5 y6 y7 y8 y9 y10 y11 y12 y13 y14 y15 y16 y17 y18 y19 y20 y21
   unfold impl_NextDue.j1
   repeat' first
   | (with_reducible exact ih0 _ _ _ _ _ _ _ _ _ _ _)
   | (with_reducible exact ih1 _ _ _ _ _ _ _ _ _ _ _ _ _ _ _ _ _ _ _ _ _ _)
   | (with_reducible exact impl_Due19.mono _ _ _ _ _ _ _ _ _ _ _)
   | (with_reducible exact LeO.refl _)
   | (with_reducible exact LeO.none _)
   | (with_reducible refine LeO.ite ?_ ?_)
   | (with_reducible refine LeO.bind ?_ (fun _ => ?_))
   | exact ih0 _ _ _ _ _ _ _ _ _ _ _
   | exact ih1 _ _ _ _ _ _ _ _ _ _ _ _ _ _ _ _ _ _ _ _ _ _
   | exact impl_Due19.mono _ _ _ _ _ _ _ _ _ _ _
   | exact LeO.none _
   | refine LeO.ite ?_ ?_
   | refine LeO.bind ?_ (fun _ => ?_)
theorem impl_NextDue.mono : ∀ a0 a1 a2 a3 a4 a5 k, LeO (impl_NextDue.f k a0 a1 a2 a3 a4 a5) (impl_NextDue.f (k + 1) a0 a1 a2 a3 a4 a5) := by
 intro a0 a1 a2 a3 a4 a5 k
 obtain ⟨ih0, ih1⟩ := impl_NextDue.mono_l k
 unfold impl_NextDue.f
 repeat' first
   | (with_reducible exact ih0 _ _ _ _ _ _ _ _ _ _ _)
   | (with_reducible exact ih1 _ _ _ _ _ _ _ _ _ _ _ _ _ _ _ _ _ _ _ _ _ _)
   | (with_reducible exact impl_Due19.mono _ _ _ _ _ _ _ _ _ _ _)
   | (with_reducible exact LeO.refl _)
   | (with_reducible exact LeO.none _)
   | (with_reducible refine LeO.ite ?_ ?_)
   | (with_reducible refine LeO.bind ?_ (fun _ => ?_))
   | exact ih0 _ _ _ _ _ _ _ _ _ _ _
   | exact ih1 _ _ _ _ _ _ _ _ _ _ _ _ _ _ _ _ _ _ _ _ _ _
   | exact impl_Due19.mono _ _ _ _ _ _ _ _ _ _ _
   | exact LeO.none _
   | refine LeO.ite ?_ ?_
   | refine LeO.bind ?_ (fun _ => ?_)
set_option maxHeartbeats 8000000 in
set_option maxRecDepth 100000 in
theorem impl_NextDue.calls (k : Nat) (A0_0 : Option Addr) (c0_0 : Nat) (l0_0 : List (S33)) (A0_1 : Option Addr) (c0_1 : Nat) (l0_1 : List (S70)) (A0_2 : Option Addr) (c0_2 : Nat) (l0_2 : List (S72)) (a0_3 : Int) (a0_4 : Int) (a0_5 : Int) (r1 : ByteArray) (r2 : Int) (r3 : Bool) (w : World) (hr0_0 : Kd.C k33 w A0_0 l0_0.length l0_0) (hc0_0 : l0_0.length ≤ c0_0) (hr0_1 : Kd.C k70 w A0_1 l0_1.length l0_1) (hc0_1 : l0_1.length ≤ c0_1) (hr0_2 : Kd.C k72 w A0_2 l0_2.length l0_2) (hc0_2 : l0_2.length ≤ c0_2) (h : impl_NextDue.f k l0_0 l0_1 l0_2 a0_3 a0_4 a0_5 = some (r1, r2, r3)) :
  Calls Try.prog 34 #[.agg #[.slice A0_0 l0_0.length c0_0, .slice A0_1 l0_1.length c0_1, .slice A0_2 l0_2.length c0_2, .int .i64 a0_3, .int .i64 a0_4, .int .i64 a0_5]] w fun e w' => e = .returned (.tuple #[.string r1, .int .i64 r2, .bool r3]) ∧ Below w.heap.size w w' := by
 have hu56 := Try.underlying56
 have hu33 := Try.underlying33
 have hu25 := Try.underlying25
 have HR0_0 := Aside0.mk hr0_0
 have HC0_0 := Aside0.mk hc0_0
 clear hr0_0 hc0_0
 have HR0_1 := Aside0.mk hr0_1
 have HC0_1 := Aside0.mk hc0_1
 clear hr0_1 hc0_1
 have HR0_2 := Aside0.mk hr0_2
 have HC0_2 := Aside0.mk hc0_2
 clear hr0_2 hc0_2
 have HB := Aside0.mk (Below.refl w.heap.size w)
 have H : ((impl_FleetOk.f l0_0 l0_1 l0_2 a0_3 a0_4 a0_5).bind fun t165 => (if t165 = true then (impl_NextDue.l0 k (⟨#[]⟩ : ByteArray) 0 l0_0 (l0_0.length : Int) 0 l0_0 l0_1 l0_2 a0_3 a0_4 a0_5) else (some ((⟨#[]⟩ : ByteArray), 0, false)))) = some (r1, r2, r3) := h
 clear h
 replace H := Option.bind_eq_some_iff.mp H
 obtain ⟨t165, A20, H⟩ := H
 replace H : (if t165 = true then (impl_NextDue.l0 k (⟨#[]⟩ : ByteArray) 0 l0_0 (l0_0.length : Int) 0 l0_0 l0_1 l0_2 a0_3 a0_4 a0_5) else (some ((⟨#[]⟩ : ByteArray), 0, false))) = some (r1, r2, r3) := H
 have A2 := Aside0.mk A20
 clear A20
 have HC3 := Aside0.mk H
 clear H
 go_enter Try.func34, Try.ntmps34
 go_upto_if 14 with (first | ((with_reducible refine gate_dst (N := 1) rfl ?_); refine box_event ?hg (N := 1) ?hd (cs := #[.slice A0_0 l0_0.length c0_0, .slice A0_1 l0_1.length c0_1, .slice A0_2 l0_2.length c0_2, .int .i64 a0_3, .int .i64 a0_4, .int .i64 a0_5]) (t := 56) ?hr ?_; (case hd => rfl); (case hg => rfl); (case hr => first | (go_simp; done) | (go_simp; rfl)); intro gb164 hg w4 hbox hb; have BK164 := Aside0.mk (hbox); have GW164 := Aside0.mk ((by rw [hg]; exact (below_size (bl HB.out)) : w.heap.size ≤ gb164)); have GE164 := GW164; replace HB := Aside0.mk (below_step (bl HB.out) hb); clear hb hbox hg; obtain ⟨hcz5_0, hcz5_1, hcz5_2, hcz5_3, hcz5_4, hcz5_5⟩ := ck6 BK164.out; obtain ⟨hfz5_0, hfz5_1, hfz5_2, hfz5_3, hfz5_4, hfz5_5⟩ := fz6 BK164.out) | (go_at_call 31; (with_reducible refine (impl_FleetOk.calls _ _ l0_0 _ _ l0_1 _ _ l0_2 a0_3 a0_4 a0_5 t165 _ ?side1 ?side2 ?side3 ?side4 ?side5 ?side6 A2.out).mono ?_); (case side1 => exact rc (Kd.C_below HR0_0.out HB.out)); (case side2 => exact HC0_0.out); (case side3 => exact rc (Kd.C_below HR0_1.out HB.out)); (case side4 => exact HC0_1.out); (case side5 => exact rc (Kd.C_below HR0_2.out HB.out)); (case side6 => exact HC0_2.out); rintro e w6 ⟨rfl, hb⟩; replace BK164 := Aside0.mk (blk_below (bk BK164.out) hb); replace HB := Aside0.mk (below_step (by repeat with_reducible first | exact bl HB.out | refine below_set ?_ GE164.out | refine bq ?_) hb); (try clear hb); (try clear hb2); (try clear hk); (try clear hi)))
 repeat (go_quiet (first | ((with_reducible refine gate_dst (N := 1) rfl ?_); refine box_event ?hg (N := 1) ?hd (cs := #[.slice A0_0 l0_0.length c0_0, .slice A0_1 l0_1.length c0_1, .slice A0_2 l0_2.length c0_2, .int .i64 a0_3, .int .i64 a0_4, .int .i64 a0_5]) (t := 56) ?hr ?_; (case hd => rfl); (case hg => rfl); (case hr => first | (go_simp; done) | (go_simp; rfl)); intro gb164 hg w4 hbox hb; have BK164 := Aside0.mk (hbox); have GW164 := Aside0.mk ((by rw [hg]; exact (below_size (bl HB.out)) : w.heap.size ≤ gb164)); have GE164 := GW164; replace HB := Aside0.mk (below_step (bl HB.out) hb); clear hb hbox hg; obtain ⟨hcz5_0, hcz5_1, hcz5_2, hcz5_3, hcz5_4, hcz5_5⟩ := ck6 BK164.out; obtain ⟨hfz5_0, hfz5_1, hfz5_2, hfz5_3, hfz5_4, hfz5_5⟩ := fz6 BK164.out) | (go_at_call 31; (with_reducible refine (impl_FleetOk.calls _ _ l0_0 _ _ l0_1 _ _ l0_2 a0_3 a0_4 a0_5 t165 _ ?side1 ?side2 ?side3 ?side4 ?side5 ?side6 A2.out).mono ?_); (case side1 => exact rc (Kd.C_below HR0_0.out HB.out)); (case side2 => exact HC0_0.out); (case side3 => exact rc (Kd.C_below HR0_1.out HB.out)); (case side4 => exact HC0_1.out); (case side5 => exact rc (Kd.C_below HR0_2.out HB.out)); (case side6 => exact HC0_2.out); rintro e w6 ⟨rfl, hb⟩; replace BK164 := Aside0.mk (blk_below (bk BK164.out) hb); replace HB := Aside0.mk (below_step (by repeat with_reducible first | exact bl HB.out | refine below_set ?_ GE164.out | refine bq ?_) hb); (try clear hb); (try clear hb2); (try clear hk); (try clear hi))); go_upto_if 14 with (first | ((with_reducible refine gate_dst (N := 1) rfl ?_); refine box_event ?hg (N := 1) ?hd (cs := #[.slice A0_0 l0_0.length c0_0, .slice A0_1 l0_1.length c0_1, .slice A0_2 l0_2.length c0_2, .int .i64 a0_3, .int .i64 a0_4, .int .i64 a0_5]) (t := 56) ?hr ?_; (case hd => rfl); (case hg => rfl); (case hr => first | (go_simp; done) | (go_simp; rfl)); intro gb164 hg w4 hbox hb; have BK164 := Aside0.mk (hbox); have GW164 := Aside0.mk ((by rw [hg]; exact (below_size (bl HB.out)) : w.heap.size ≤ gb164)); have GE164 := GW164; replace HB := Aside0.mk (below_step (bl HB.out) hb); clear hb hbox hg; obtain ⟨hcz5_0, hcz5_1, hcz5_2, hcz5_3, hcz5_4, hcz5_5⟩ := ck6 BK164.out; obtain ⟨hfz5_0, hfz5_1, hfz5_2, hfz5_3, hfz5_4, hfz5_5⟩ := fz6 BK164.out) | (go_at_call 31; (with_reducible refine (impl_FleetOk.calls _ _ l0_0 _ _ l0_1 _ _ l0_2 a0_3 a0_4 a0_5 t165 _ ?side1 ?side2 ?side3 ?side4 ?side5 ?side6 A2.out).mono ?_); (case side1 => exact rc (Kd.C_below HR0_0.out HB.out)); (case side2 => exact HC0_0.out); (case side3 => exact rc (Kd.C_below HR0_1.out HB.out)); (case side4 => exact HC0_1.out); (case side5 => exact rc (Kd.C_below HR0_2.out HB.out)); (case side6 => exact HC0_2.out); rintro e w6 ⟨rfl, hb⟩; replace BK164 := Aside0.mk (blk_below (bk BK164.out) hb); replace HB := Aside0.mk (below_step (by repeat with_reducible first | exact bl HB.out | refine below_set ?_ GE164.out | refine bq ?_) hb); (try clear hb); (try clear hb2); (try clear hk); (try clear hi))))
 have H := HC3.out
 clear HC3
 by_cases c7 : t165 = true
 ·
  subst c7
  have H1 : (impl_NextDue.l0 k (⟨#[]⟩ : ByteArray) 0 l0_0 (l0_0.length : Int) 0 l0_0 l0_1 l0_2 a0_3 a0_4 a0_5) = some (r1, r2, r3) := by rw [if_pos rfl] at H; exact H
  clear H
  have H := H1
  clear H1
  have H' := Aside0.mk H
  clear H
  obtain ⟨hcz8_0, hcz8_1, hcz8_2, hcz8_3, hcz8_4, hcz8_5⟩ := ck6 BK164.out
  obtain ⟨hfz8_0, hfz8_1, hfz8_2, hfz8_3, hfz8_4, hfz8_5⟩ := fz6 BK164.out
  go_wp2
  repeat (go_quiet (fail); try go_wp2)
  go_loopg [5, 6, 18] k (fun kq v5 v6 v18 w' => ∃ (x5_1 : ByteArray) (x6_1 : Int) (x18_1 : Int), v5 = .string x5_1 ∧ v6 = .int .i64 x6_1 ∧ v18 = .int .i64 x18_1 ∧ Aside0 (impl_NextDue.l0 kq x5_1 x6_1 l0_0 (l0_0.length : Int) x18_1 l0_0 l0_1 l0_2 a0_3 a0_4 a0_5 = some (r1, r2, r3)) ∧ Aside0 (kq ≤ k) ∧ Aside0 (w'.heap[gb164]? = some (.cells #[(.slice A0_0 l0_0.length c0_0), (.slice A0_1 l0_1.length c0_1), (.slice A0_2 l0_2.length c0_2), .int .i64 a0_3, .int .i64 a0_4, .int .i64 a0_5] 56 (0, 0))) ∧ Aside0 (Below w.heap.size w w'))
  case atStart => exact ⟨((⟨#[]⟩ : ByteArray)), (0), (0), (by first | rfl | (simp; done) | (simp [*]; done)), (by first | rfl | (simp; done) | (simp [*]; done)), (by first | rfl | (simp; done) | (simp [*]; done)), H', ⟨Nat.le_refl _⟩, ⟨bk BK164.out⟩, ⟨by repeat with_reducible first | exact bl HB.out | refine below_set ?_ GE164.out | refine bq ?_⟩⟩
  case round =>
   clear H'
   try clear p2
   try clear c3
   try clear c7
   try clear hcz5_0 hcz5_1 hcz5_2 hcz5_3 hcz5_4 hcz5_5 hfz5_0 hfz5_1 hfz5_2 hfz5_3 hfz5_4 hfz5_5
   try clear hcz8_0 hcz8_1 hcz8_2 hcz8_3 hcz8_4 hcz8_5 hfz8_0 hfz8_1 hfz8_2 hfz8_3 hfz8_4 hfz8_5
   obtain ⟨x5_1, x6_1, x18_1, rfl, rfl, rfl, HA, HK1, BK164, HB⟩ := hrel
   cases gk with
   | zero => exact absurd HA.out (by simp [impl_NextDue.l0])
   | succ k1 =>
    have H := HA.out
    clear HA
    simp only [impl_NextDue.l0] at H
    by_cases c9 : x18_1 < (l0_0.length : Int)
    ·
     rw [if_pos c9] at H
     have c9b0 : decide (x18_1 < (l0_0.length : Int)) = true := decide_eq_true c9
     clear c9
     (first | rw [c9b0] | (simp only [i64_w, i32_w]; rw [c9b0]) | skip)
     by_cases c10 : 0 ≤ x18_1
     ·
      rw [if_pos c10] at H
      have c10b0 : decide (0 ≤ x18_1) = true := decide_eq_true c10
      clear c10
      by_cases c11 : x18_1 < (l0_0.length : Int)
      ·
       rw [if_pos c11] at H
       have c11b0 : decide (x18_1 < (l0_0.length : Int)) = true := decide_eq_true c11
       clear c11
       replace H := Option.bind_eq_some_iff.mp H
       obtain ⟨⟨t168, t169, t170, t171, t172⟩, A120, H⟩ := H
       replace H : (if ((rd_T33 l0_0 x18_1).f2) > 0 then (if t168 = true then (impl_NextDue.j1 k1 x5_1 x6_1 l0_0 (l0_0.length : Int) x18_1 false l0_0 l0_1 l0_2 a0_3 a0_4 a0_5 ((rd_T33 l0_0 x18_1).f0) ((rd_T33 l0_0 x18_1).f1) ((rd_T33 l0_0 x18_1).f2) ((rd_T33 l0_0 x18_1).f3) ((rd_T33 l0_0 x18_1).f4.f0) ((rd_T33 l0_0 x18_1).f4.f1) ((rd_T33 l0_0 x18_1).f4.f2) t169 t170 t171) else (if x5_1.toList = ([] : List UInt8) then (impl_NextDue.j1 k1 x5_1 x6_1 l0_0 (l0_0.length : Int) x18_1 true l0_0 l0_1 l0_2 a0_3 a0_4 a0_5 ((rd_T33 l0_0 x18_1).f0) ((rd_T33 l0_0 x18_1).f1) ((rd_T33 l0_0 x18_1).f2) ((rd_T33 l0_0 x18_1).f3) ((rd_T33 l0_0 x18_1).f4.f0) ((rd_T33 l0_0 x18_1).f4.f1) ((rd_T33 l0_0 x18_1).f4.f2) t169 t170 t171) else (impl_NextDue.j1 k1 x5_1 x6_1 l0_0 (l0_0.length : Int) x18_1 (decide (t170 < x6_1)) l0_0 l0_1 l0_2 a0_3 a0_4 a0_5 ((rd_T33 l0_0 x18_1).f0) ((rd_T33 l0_0 x18_1).f1) ((rd_T33 l0_0 x18_1).f2) ((rd_T33 l0_0 x18_1).f3) ((rd_T33 l0_0 x18_1).f4.f0) ((rd_T33 l0_0 x18_1).f4.f1) ((rd_T33 l0_0 x18_1).f4.f2) t169 t170 t171))) else (impl_NextDue.j1 k1 x5_1 x6_1 l0_0 (l0_0.length : Int) x18_1 false l0_0 l0_1 l0_2 a0_3 a0_4 a0_5 ((rd_T33 l0_0 x18_1).f0) ((rd_T33 l0_0 x18_1).f1) ((rd_T33 l0_0 x18_1).f2) ((rd_T33 l0_0 x18_1).f3) ((rd_T33 l0_0 x18_1).f4.f0) ((rd_T33 l0_0 x18_1).f4.f1) ((rd_T33 l0_0 x18_1).f4.f2) t169 t170 t171)) = some (r1, r2, r3) := H
       have A12 := Aside0.mk A120
       clear A120
       have HC13 := Aside0.mk H
       clear H
       have p166 : 0 ≤ (x18_1 : Int) := of_decide_eq_true (by first | (with_reducible assumption) | assumption)
       have q166 : x18_1 < (l0_0.length : Int) := of_decide_eq_true (by first | (with_reducible assumption) | assumption)
       obtain ⟨ad166, e166, hx166_0, hx166_1, hx166_2, hx166_3, hx166_4, hx166_5, hx166_6⟩ := at_T33 HR0_0.out x18_1 p166 q166
       cases e166
       replace hx166_0 := bc HB.out hx166_0
       replace hx166_1 := bc HB.out hx166_1
       replace hx166_2 := bc HB.out hx166_2
       replace hx166_3 := bc HB.out hx166_3
       replace hx166_4 := bc HB.out hx166_4
       replace hx166_5 := bc HB.out hx166_5
       replace hx166_6 := bc HB.out hx166_6
       replace p166 := eq_true p166
       replace q166 := eq_true q166
       go_upto_region 8 with (first | ((with_reducible refine gate_dst (N := 8) rfl ?_); refine box_event ?hg (N := 8) ?hd (cs := #[.string (⟨#[]⟩ : ByteArray), .int .i64 0, .int .i64 0, .int .i64 0, .int .i64 0, .int .i64 0, .int .i64 0]) (t := 33) ?hr ?_; (case hd => rfl); (case hg => rfl); (case hr => first | (go_simp; done) | (go_simp; rfl)); intro gb167 hg w14 hbox hb; have BK167 := Aside0.mk (hbox); have GW167 := Aside0.mk ((by rw [hg]; exact (below_size (by repeat with_reducible first | exact bl HB.out | refine below_set ?_ GE164.out | refine bq ?_)) : w.heap.size ≤ gb167)); have GE167 := GW167; replace HB := Aside0.mk (below_step (by repeat with_reducible first | exact bl HB.out | refine below_set ?_ GE164.out | refine bq ?_) hb); have NB164_167 := nb_ hg BK164.out; have NB167_164 := Aside0.mk NB164_167.out.symm; replace BK164 := Aside0.mk (blk_below (bk BK164.out) hb); clear hb hbox hg; have hnb15 := NB167_164.out; have hnc15 := NB164_167.out; obtain ⟨hcz16_0, hcz16_1, hcz16_2, hcz16_3, hcz16_4, hcz16_5, hcz16_6⟩ := ck7 BK167.out; obtain ⟨hfz16_0, hfz16_1, hfz16_2, hfz16_3, hfz16_4, hfz16_5, hfz16_6⟩ := fz7 BK167.out; obtain ⟨hcz17_0, hcz17_1, hcz17_2, hcz17_3, hcz17_4, hcz17_5⟩ := ck6 BK164.out; obtain ⟨hfz17_0, hfz17_1, hfz17_2, hfz17_3, hfz17_4, hfz17_5⟩ := fz6 BK164.out) | (go_at_call 26; (with_reducible refine (impl_Due19.calls k1 ((rd_T33 l0_0 x18_1).f0) ((rd_T33 l0_0 x18_1).f1) ((rd_T33 l0_0 x18_1).f2) ((rd_T33 l0_0 x18_1).f3) ((rd_T33 l0_0 x18_1).f4.f0) ((rd_T33 l0_0 x18_1).f4.f1) ((rd_T33 l0_0 x18_1).f4.f2) a0_3 a0_4 a0_5 t168 t169 t170 t171 t172 _ A12.out).mono ?_); rintro e w18 ⟨rfl, hb⟩; replace BK164 := Aside0.mk (blk_below (g := gb164) (o := .cells #[.slice (some ad166) l0_0.length c0_0, .slice A0_1 l0_1.length c0_1, .slice A0_2 l0_2.length c0_2, .int .i64 a0_3, .int .i64 a0_4, .int .i64 a0_5] 56 (0, 0)) (by (repeat refine bk1 ?_); refine blk_far ?_ NB164_167.out _; (repeat refine bk1 ?_); refine blk_far ?_ NB164_167.out _; (repeat refine bk1 ?_); refine blk_far ?_ NB164_167.out _; (repeat refine bk1 ?_); refine blk_far ?_ NB164_167.out _; (repeat refine bk1 ?_); refine blk_far ?_ NB164_167.out _; (repeat refine bk1 ?_); refine blk_far ?_ NB164_167.out _; (repeat refine bk1 ?_); refine blk_far ?_ NB164_167.out _; (repeat refine bk1 ?_); exact BK164.out) hb); replace BK167 := Aside0.mk (blk_below (g := gb167) (o := .cells #[.string ((rd_T33 l0_0 x18_1).f0), .int .i64 ((rd_T33 l0_0 x18_1).f1), .int .i64 ((rd_T33 l0_0 x18_1).f2), .int .i64 ((rd_T33 l0_0 x18_1).f3), .int .i64 ((rd_T33 l0_0 x18_1).f4.f0), .int .i64 ((rd_T33 l0_0 x18_1).f4.f1), .int .i64 ((rd_T33 l0_0 x18_1).f4.f2)] 33 (0, 0)) (by (repeat refine bk1 ?_); refine blk_put (cs := #[.string ((rd_T33 l0_0 x18_1).f0), .int .i64 ((rd_T33 l0_0 x18_1).f1), .int .i64 ((rd_T33 l0_0 x18_1).f2), .int .i64 ((rd_T33 l0_0 x18_1).f3), .int .i64 ((rd_T33 l0_0 x18_1).f4.f0), .int .i64 ((rd_T33 l0_0 x18_1).f4.f1), .int .i64 0]) ?_ 6 _ rfl; (repeat refine bk1 ?_); refine blk_put (cs := #[.string ((rd_T33 l0_0 x18_1).f0), .int .i64 ((rd_T33 l0_0 x18_1).f1), .int .i64 ((rd_T33 l0_0 x18_1).f2), .int .i64 ((rd_T33 l0_0 x18_1).f3), .int .i64 ((rd_T33 l0_0 x18_1).f4.f0), .int .i64 0, .int .i64 0]) ?_ 5 _ rfl; (repeat refine bk1 ?_); refine blk_put (cs := #[.string ((rd_T33 l0_0 x18_1).f0), .int .i64 ((rd_T33 l0_0 x18_1).f1), .int .i64 ((rd_T33 l0_0 x18_1).f2), .int .i64 ((rd_T33 l0_0 x18_1).f3), .int .i64 0, .int .i64 0, .int .i64 0]) ?_ 4 _ rfl; (repeat refine bk1 ?_); refine blk_put (cs := #[.string ((rd_T33 l0_0 x18_1).f0), .int .i64 ((rd_T33 l0_0 x18_1).f1), .int .i64 ((rd_T33 l0_0 x18_1).f2), .int .i64 0, .int .i64 0, .int .i64 0, .int .i64 0]) ?_ 3 _ rfl; (repeat refine bk1 ?_); refine blk_put (cs := #[.string ((rd_T33 l0_0 x18_1).f0), .int .i64 ((rd_T33 l0_0 x18_1).f1), .int .i64 0, .int .i64 0, .int .i64 0, .int .i64 0, .int .i64 0]) ?_ 2 _ rfl; (repeat refine bk1 ?_); refine blk_put (cs := #[.string ((rd_T33 l0_0 x18_1).f0), .int .i64 0, .int .i64 0, .int .i64 0, .int .i64 0, .int .i64 0, .int .i64 0]) ?_ 1 _ rfl; (repeat refine bk1 ?_); refine blk_put (cs := #[.string (⟨#[]⟩ : ByteArray), .int .i64 0, .int .i64 0, .int .i64 0, .int .i64 0, .int .i64 0, .int .i64 0]) ?_ 0 _ rfl; (repeat refine bk1 ?_); exact BK167.out) hb); replace HB := Aside0.mk (below_step (by repeat with_reducible first | exact bl HB.out | refine below_set ?_ GE164.out | refine below_set ?_ GE167.out | refine bq ?_) hb); (try clear hb); (try clear hb2); (try clear hk); (try clear hi)) | ((with_reducible refine gate_dst (N := 10) rfl ?_); refine box_event ?hg (N := 10) ?hd (cs := #[.int .i64 0, .int .i64 0, .int .i64 0]) (t := 25) ?hr ?_; (case hd => rfl); (case hg => rfl); (case hr => first | (go_simp; done) | (go_simp; rfl)); intro gb173 hg w19 hbox hb; have BK173 := Aside0.mk (hbox); have GW173 := Aside0.mk ((by rw [hg]; exact (below_size (by repeat with_reducible first | exact bl HB.out | refine below_set ?_ GE164.out | refine below_set ?_ GE167.out | refine bq ?_)) : w.heap.size ≤ gb173)); have GE173 := GW173; replace HB := Aside0.mk (below_step (by repeat with_reducible first | exact bl HB.out | refine below_set ?_ GE164.out | refine below_set ?_ GE167.out | refine bq ?_) hb); have NB164_173 := nb_ hg BK164.out; have NB173_164 := Aside0.mk NB164_173.out.symm; replace BK164 := Aside0.mk (blk_below (bk BK164.out) hb); have NB167_173 := nb_ hg BK167.out; have NB173_167 := Aside0.mk NB167_173.out.symm; replace BK167 := Aside0.mk (blk_below (bk BK167.out) hb); clear hb hbox hg; have hnb20 := NB173_164.out; have hnc20 := NB164_173.out; have hnb21 := NB173_167.out; have hnc21 := NB167_173.out; obtain ⟨hcz22_0, hcz22_1, hcz22_2⟩ := ck3 BK173.out; obtain ⟨hfz22_0, hfz22_1, hfz22_2⟩ := fz3 BK173.out))
       repeat (go_quiet (first | ((with_reducible refine gate_dst (N := 8) rfl ?_); refine box_event ?hg (N := 8) ?hd (cs := #[.string (⟨#[]⟩ : ByteArray), .int .i64 0, .int .i64 0, .int .i64 0, .int .i64 0, .int .i64 0, .int .i64 0]) (t := 33) ?hr ?_; (case hd => rfl); (case hg => rfl); (case hr => first | (go_simp; done) | (go_simp; rfl)); intro gb167 hg w14 hbox hb; have BK167 := Aside0.mk (hbox); have GW167 := Aside0.mk ((by rw [hg]; exact (below_size (by repeat with_reducible first | exact bl HB.out | refine below_set ?_ GE164.out | refine bq ?_)) : w.heap.size ≤ gb167)); have GE167 := GW167; replace HB := Aside0.mk (below_step (by repeat with_reducible first | exact bl HB.out | refine below_set ?_ GE164.out | refine bq ?_) hb); have NB164_167 := nb_ hg BK164.out; have NB167_164 := Aside0.mk NB164_167.out.symm; replace BK164 := Aside0.mk (blk_below (bk BK164.out) hb); clear hb hbox hg; have hnb15 := NB167_164.out; have hnc15 := NB164_167.out; obtain ⟨hcz16_0, hcz16_1, hcz16_2, hcz16_3, hcz16_4, hcz16_5, hcz16_6⟩ := ck7 BK167.out; obtain ⟨hfz16_0, hfz16_1, hfz16_2, hfz16_3, hfz16_4, hfz16_5, hfz16_6⟩ := fz7 BK167.out; obtain ⟨hcz17_0, hcz17_1, hcz17_2, hcz17_3, hcz17_4, hcz17_5⟩ := ck6 BK164.out; obtain ⟨hfz17_0, hfz17_1, hfz17_2, hfz17_3, hfz17_4, hfz17_5⟩ := fz6 BK164.out) | (go_at_call 26; (with_reducible refine (impl_Due19.calls k1 ((rd_T33 l0_0 x18_1).f0) ((rd_T33 l0_0 x18_1).f1) ((rd_T33 l0_0 x18_1).f2) ((rd_T33 l0_0 x18_1).f3) ((rd_T33 l0_0 x18_1).f4.f0) ((rd_T33 l0_0 x18_1).f4.f1) ((rd_T33 l0_0 x18_1).f4.f2) a0_3 a0_4 a0_5 t168 t169 t170 t171 t172 _ A12.out).mono ?_); rintro e w18 ⟨rfl, hb⟩; replace BK164 := Aside0.mk (blk_below (g := gb164) (o := .cells #[.slice (some ad166) l0_0.length c0_0, .slice A0_1 l0_1.length c0_1, .slice A0_2 l0_2.length c0_2, .int .i64 a0_3, .int .i64 a0_4, .int .i64 a0_5] 56 (0, 0)) (by (repeat refine bk1 ?_); refine blk_far ?_ NB164_167.out _; (repeat refine bk1 ?_); refine blk_far ?_ NB164_167.out _; (repeat refine bk1 ?_); refine blk_far ?_ NB164_167.out _; (repeat refine bk1 ?_); refine blk_far ?_ NB164_167.out _; (repeat refine bk1 ?_); refine blk_far ?_ NB164_167.out _; (repeat refine bk1 ?_); refine blk_far ?_ NB164_167.out _; (repeat refine bk1 ?_); refine blk_far ?_ NB164_167.out _; (repeat refine bk1 ?_); exact BK164.out) hb); replace BK167 := Aside0.mk (blk_below (g := gb167) (o := .cells #[.string ((rd_T33 l0_0 x18_1).f0), .int .i64 ((rd_T33 l0_0 x18_1).f1), .int .i64 ((rd_T33 l0_0 x18_1).f2), .int .i64 ((rd_T33 l0_0 x18_1).f3), .int .i64 ((rd_T33 l0_0 x18_1).f4.f0), .int .i64 ((rd_T33 l0_0 x18_1).f4.f1), .int .i64 ((rd_T33 l0_0 x18_1).f4.f2)] 33 (0, 0)) (by (repeat refine bk1 ?_); refine blk_put (cs := #[.string ((rd_T33 l0_0 x18_1).f0), .int .i64 ((rd_T33 l0_0 x18_1).f1), .int .i64 ((rd_T33 l0_0 x18_1).f2), .int .i64 ((rd_T33 l0_0 x18_1).f3), .int .i64 ((rd_T33 l0_0 x18_1).f4.f0), .int .i64 ((rd_T33 l0_0 x18_1).f4.f1), .int .i64 0]) ?_ 6 _ rfl; (repeat refine bk1 ?_); refine blk_put (cs := #[.string ((rd_T33 l0_0 x18_1).f0), .int .i64 ((rd_T33 l0_0 x18_1).f1), .int .i64 ((rd_T33 l0_0 x18_1).f2), .int .i64 ((rd_T33 l0_0 x18_1).f3), .int .i64 ((rd_T33 l0_0 x18_1).f4.f0), .int .i64 0, .int .i64 0]) ?_ 5 _ rfl; (repeat refine bk1 ?_); refine blk_put (cs := #[.string ((rd_T33 l0_0 x18_1).f0), .int .i64 ((rd_T33 l0_0 x18_1).f1), .int .i64 ((rd_T33 l0_0 x18_1).f2), .int .i64 ((rd_T33 l0_0 x18_1).f3), .int .i64 0, .int .i64 0, .int .i64 0]) ?_ 4 _ rfl; (repeat refine bk1 ?_); refine blk_put (cs := #[.string ((rd_T33 l0_0 x18_1).f0), .int .i64 ((rd_T33 l0_0 x18_1).f1), .int .i64 ((rd_T33 l0_0 x18_1).f2), .int .i64 0, .int .i64 0, .int .i64 0, .int .i64 0]) ?_ 3 _ rfl; (repeat refine bk1 ?_); refine blk_put (cs := #[.string ((rd_T33 l0_0 x18_1).f0), .int .i64 ((rd_T33 l0_0 x18_1).f1), .int .i64 0, .int .i64 0, .int .i64 0, .int .i64 0, .int .i64 0]) ?_ 2 _ rfl; (repeat refine bk1 ?_); refine blk_put (cs := #[.string ((rd_T33 l0_0 x18_1).f0), .int .i64 0, .int .i64 0, .int .i64 0, .int .i64 0, .int .i64 0, .int .i64 0]) ?_ 1 _ rfl; (repeat refine bk1 ?_); refine blk_put (cs := #[.string (⟨#[]⟩ : ByteArray), .int .i64 0, .int .i64 0, .int .i64 0, .int .i64 0, .int .i64 0, .int .i64 0]) ?_ 0 _ rfl; (repeat refine bk1 ?_); exact BK167.out) hb); replace HB := Aside0.mk (below_step (by repeat with_reducible first | exact bl HB.out | refine below_set ?_ GE164.out | refine below_set ?_ GE167.out | refine bq ?_) hb); (try clear hb); (try clear hb2); (try clear hk); (try clear hi)) | ((with_reducible refine gate_dst (N := 10) rfl ?_); refine box_event ?hg (N := 10) ?hd (cs := #[.int .i64 0, .int .i64 0, .int .i64 0]) (t := 25) ?hr ?_; (case hd => rfl); (case hg => rfl); (case hr => first | (go_simp; done) | (go_simp; rfl)); intro gb173 hg w19 hbox hb; have BK173 := Aside0.mk (hbox); have GW173 := Aside0.mk ((by rw [hg]; exact (below_size (by repeat with_reducible first | exact bl HB.out | refine below_set ?_ GE164.out | refine below_set ?_ GE167.out | refine bq ?_)) : w.heap.size ≤ gb173)); have GE173 := GW173; replace HB := Aside0.mk (below_step (by repeat with_reducible first | exact bl HB.out | refine below_set ?_ GE164.out | refine below_set ?_ GE167.out | refine bq ?_) hb); have NB164_173 := nb_ hg BK164.out; have NB173_164 := Aside0.mk NB164_173.out.symm; replace BK164 := Aside0.mk (blk_below (bk BK164.out) hb); have NB167_173 := nb_ hg BK167.out; have NB173_167 := Aside0.mk NB167_173.out.symm; replace BK167 := Aside0.mk (blk_below (bk BK167.out) hb); clear hb hbox hg; have hnb20 := NB173_164.out; have hnc20 := NB164_173.out; have hnb21 := NB173_167.out; have hnc21 := NB167_173.out; obtain ⟨hcz22_0, hcz22_1, hcz22_2⟩ := ck3 BK173.out; obtain ⟨hfz22_0, hfz22_1, hfz22_2⟩ := fz3 BK173.out)); go_upto_region 8 with (first | ((with_reducible refine gate_dst (N := 8) rfl ?_); refine box_event ?hg (N := 8) ?hd (cs := #[.string (⟨#[]⟩ : ByteArray), .int .i64 0, .int .i64 0, .int .i64 0, .int .i64 0, .int .i64 0, .int .i64 0]) (t := 33) ?hr ?_; (case hd => rfl); (case hg => rfl); (case hr => first | (go_simp; done) | (go_simp; rfl)); intro gb167 hg w14 hbox hb; have BK167 := Aside0.mk (hbox); have GW167 := Aside0.mk ((by rw [hg]; exact (below_size (by repeat with_reducible first | exact bl HB.out | refine below_set ?_ GE164.out | refine bq ?_)) : w.heap.size ≤ gb167)); have GE167 := GW167; replace HB := Aside0.mk (below_step (by repeat with_reducible first | exact bl HB.out | refine below_set ?_ GE164.out | refine bq ?_) hb); have NB164_167 := nb_ hg BK164.out; have NB167_164 := Aside0.mk NB164_167.out.symm; replace BK164 := Aside0.mk (blk_below (bk BK164.out) hb); clear hb hbox hg; have hnb15 := NB167_164.out; have hnc15 := NB164_167.out; obtain ⟨hcz16_0, hcz16_1, hcz16_2, hcz16_3, hcz16_4, hcz16_5, hcz16_6⟩ := ck7 BK167.out; obtain ⟨hfz16_0, hfz16_1, hfz16_2, hfz16_3, hfz16_4, hfz16_5, hfz16_6⟩ := fz7 BK167.out; obtain ⟨hcz17_0, hcz17_1, hcz17_2, hcz17_3, hcz17_4, hcz17_5⟩ := ck6 BK164.out; obtain ⟨hfz17_0, hfz17_1, hfz17_2, hfz17_3, hfz17_4, hfz17_5⟩ := fz6 BK164.out) | (go_at_call 26; (with_reducible refine (impl_Due19.calls k1 ((rd_T33 l0_0 x18_1).f0) ((rd_T33 l0_0 x18_1).f1) ((rd_T33 l0_0 x18_1).f2) ((rd_T33 l0_0 x18_1).f3) ((rd_T33 l0_0 x18_1).f4.f0) ((rd_T33 l0_0 x18_1).f4.f1) ((rd_T33 l0_0 x18_1).f4.f2) a0_3 a0_4 a0_5 t168 t169 t170 t171 t172 _ A12.out).mono ?_); rintro e w18 ⟨rfl, hb⟩; replace BK164 := Aside0.mk (blk_below (g := gb164) (o := .cells #[.slice (some ad166) l0_0.length c0_0, .slice A0_1 l0_1.length c0_1, .slice A0_2 l0_2.length c0_2, .int .i64 a0_3, .int .i64 a0_4, .int .i64 a0_5] 56 (0, 0)) (by (repeat refine bk1 ?_); refine blk_far ?_ NB164_167.out _; (repeat refine bk1 ?_); refine blk_far ?_ NB164_167.out _; (repeat refine bk1 ?_); refine blk_far ?_ NB164_167.out _; (repeat refine bk1 ?_); refine blk_far ?_ NB164_167.out _; (repeat refine bk1 ?_); refine blk_far ?_ NB164_167.out _; (repeat refine bk1 ?_); refine blk_far ?_ NB164_167.out _; (repeat refine bk1 ?_); refine blk_far ?_ NB164_167.out _; (repeat refine bk1 ?_); exact BK164.out) hb); replace BK167 := Aside0.mk (blk_below (g := gb167) (o := .cells #[.string ((rd_T33 l0_0 x18_1).f0), .int .i64 ((rd_T33 l0_0 x18_1).f1), .int .i64 ((rd_T33 l0_0 x18_1).f2), .int .i64 ((rd_T33 l0_0 x18_1).f3), .int .i64 ((rd_T33 l0_0 x18_1).f4.f0), .int .i64 ((rd_T33 l0_0 x18_1).f4.f1), .int .i64 ((rd_T33 l0_0 x18_1).f4.f2)] 33 (0, 0)) (by (repeat refine bk1 ?_); refine blk_put (cs := #[.string ((rd_T33 l0_0 x18_1).f0), .int .i64 ((rd_T33 l0_0 x18_1).f1), .int .i64 ((rd_T33 l0_0 x18_1).f2), .int .i64 ((rd_T33 l0_0 x18_1).f3), .int .i64 ((rd_T33 l0_0 x18_1).f4.f0), .int .i64 ((rd_T33 l0_0 x18_1).f4.f1), .int .i64 0]) ?_ 6 _ rfl; (repeat refine bk1 ?_); refine blk_put (cs := #[.string ((rd_T33 l0_0 x18_1).f0), .int .i64 ((rd_T33 l0_0 x18_1).f1), .int .i64 ((rd_T33 l0_0 x18_1).f2), .int .i64 ((rd_T33 l0_0 x18_1).f3), .int .i64 ((rd_T33 l0_0 x18_1).f4.f0), .int .i64 0, .int .i64 0]) ?_ 5 _ rfl; (repeat refine bk1 ?_); refine blk_put (cs := #[.string ((rd_T33 l0_0 x18_1).f0), .int .i64 ((rd_T33 l0_0 x18_1).f1), .int .i64 ((rd_T33 l0_0 x18_1).f2), .int .i64 ((rd_T33 l0_0 x18_1).f3), .int .i64 0, .int .i64 0, .int .i64 0]) ?_ 4 _ rfl; (repeat refine bk1 ?_); refine blk_put (cs := #[.string ((rd_T33 l0_0 x18_1).f0), .int .i64 ((rd_T33 l0_0 x18_1).f1), .int .i64 ((rd_T33 l0_0 x18_1).f2), .int .i64 0, .int .i64 0, .int .i64 0, .int .i64 0]) ?_ 3 _ rfl; (repeat refine bk1 ?_); refine blk_put (cs := #[.string ((rd_T33 l0_0 x18_1).f0), .int .i64 ((rd_T33 l0_0 x18_1).f1), .int .i64 0, .int .i64 0, .int .i64 0, .int .i64 0, .int .i64 0]) ?_ 2 _ rfl; (repeat refine bk1 ?_); refine blk_put (cs := #[.string ((rd_T33 l0_0 x18_1).f0), .int .i64 0, .int .i64 0, .int .i64 0, .int .i64 0, .int .i64 0, .int .i64 0]) ?_ 1 _ rfl; (repeat refine bk1 ?_); refine blk_put (cs := #[.string (⟨#[]⟩ : ByteArray), .int .i64 0, .int .i64 0, .int .i64 0, .int .i64 0, .int .i64 0, .int .i64 0]) ?_ 0 _ rfl; (repeat refine bk1 ?_); exact BK167.out) hb); replace HB := Aside0.mk (below_step (by repeat with_reducible first | exact bl HB.out | refine below_set ?_ GE164.out | refine below_set ?_ GE167.out | refine bq ?_) hb); (try clear hb); (try clear hb2); (try clear hk); (try clear hi)) | ((with_reducible refine gate_dst (N := 10) rfl ?_); refine box_event ?hg (N := 10) ?hd (cs := #[.int .i64 0, .int .i64 0, .int .i64 0]) (t := 25) ?hr ?_; (case hd => rfl); (case hg => rfl); (case hr => first | (go_simp; done) | (go_simp; rfl)); intro gb173 hg w19 hbox hb; have BK173 := Aside0.mk (hbox); have GW173 := Aside0.mk ((by rw [hg]; exact (below_size (by repeat with_reducible first | exact bl HB.out | refine below_set ?_ GE164.out | refine below_set ?_ GE167.out | refine bq ?_)) : w.heap.size ≤ gb173)); have GE173 := GW173; replace HB := Aside0.mk (below_step (by repeat with_reducible first | exact bl HB.out | refine below_set ?_ GE164.out | refine below_set ?_ GE167.out | refine bq ?_) hb); have NB164_173 := nb_ hg BK164.out; have NB173_164 := Aside0.mk NB164_173.out.symm; replace BK164 := Aside0.mk (blk_below (bk BK164.out) hb); have NB167_173 := nb_ hg BK167.out; have NB173_167 := Aside0.mk NB167_173.out.symm; replace BK167 := Aside0.mk (blk_below (bk BK167.out) hb); clear hb hbox hg; have hnb20 := NB173_164.out; have hnc20 := NB164_173.out; have hnb21 := NB173_167.out; have hnc21 := NB167_173.out; obtain ⟨hcz22_0, hcz22_1, hcz22_2⟩ := ck3 BK173.out; obtain ⟨hfz22_0, hfz22_1, hfz22_2⟩ := fz3 BK173.out)))
       (try simp only [Act.put, List.setIfInBounds_toArray, List.set_cons_zero, List.set_cons_succ])
       go_cut [46] (fun v46 wc => ∃ (kq : Nat) (x46_12 : Bool), v46 = .bool x46_12 ∧ Aside0 (impl_NextDue.j1 kq x5_1 x6_1 l0_0 (l0_0.length : Int) x18_1 x46_12 l0_0 l0_1 l0_2 a0_3 a0_4 a0_5 ((rd_T33 l0_0 x18_1).f0) ((rd_T33 l0_0 x18_1).f1) ((rd_T33 l0_0 x18_1).f2) ((rd_T33 l0_0 x18_1).f3) ((rd_T33 l0_0 x18_1).f4.f0) ((rd_T33 l0_0 x18_1).f4.f1) ((rd_T33 l0_0 x18_1).f4.f2) t169 t170 t171 = some (r1, r2, r3)) ∧ Aside0 (kq ≤ k1) ∧ Aside0 (wc.heap[gb164]? = some (.cells #[(.slice (some ad166) l0_0.length c0_0), (.slice A0_1 l0_1.length c0_1), (.slice A0_2 l0_2.length c0_2), .int .i64 a0_3, .int .i64 a0_4, .int .i64 a0_5] 56 (0, 0))) ∧ Aside0 (wc.heap[gb167]? = some (.cells #[.string ((rd_T33 l0_0 x18_1).f0), .int .i64 ((rd_T33 l0_0 x18_1).f1), .int .i64 ((rd_T33 l0_0 x18_1).f2), .int .i64 ((rd_T33 l0_0 x18_1).f3), .int .i64 ((rd_T33 l0_0 x18_1).f4.f0), .int .i64 ((rd_T33 l0_0 x18_1).f4.f1), .int .i64 ((rd_T33 l0_0 x18_1).f4.f2)] 33 (0, 0))) ∧ Aside0 (wc.heap[gb173]? = some (.cells #[.int .i64 t169, .int .i64 t170, .int .i64 t171] 25 (0, 0))) ∧ Aside0 (Below w.heap.size w wc))
       case first =>
        have H := HC13.out
        clear HC13
        by_cases c23 : ((rd_T33 l0_0 x18_1).f2) > 0
        ·
         rw [if_pos c23] at H
         have c23b0 : decide (0 < ((rd_T33 l0_0 x18_1).f2)) = true := decide_eq_true c23
         clear c23
         (first | rw [c23b0] | (simp only [i64_w, i32_w]; rw [c23b0]) | skip)
         by_cases c24 : t168 = true
         ·
          subst c24
          have H1 : (impl_NextDue.j1 k1 x5_1 x6_1 l0_0 (l0_0.length : Int) x18_1 false l0_0 l0_1 l0_2 a0_3 a0_4 a0_5 ((rd_T33 l0_0 x18_1).f0) ((rd_T33 l0_0 x18_1).f1) ((rd_T33 l0_0 x18_1).f2) ((rd_T33 l0_0 x18_1).f3) ((rd_T33 l0_0 x18_1).f4.f0) ((rd_T33 l0_0 x18_1).f4.f1) ((rd_T33 l0_0 x18_1).f4.f2) t169 t170 t171) = some (r1, r2, r3) := by rw [if_pos rfl] at H; exact H
          clear H
          have H := H1
          clear H1
          have H' := Aside0.mk H
          clear H
          have hnb25 := NB167_164.out
          have hnc25 := NB164_167.out
          have hnb26 := NB167_173.out
          have hnc26 := NB173_167.out
          obtain ⟨hcz27_0, hcz27_1, hcz27_2, hcz27_3, hcz27_4, hcz27_5, hcz27_6⟩ := ck7 BK167.out
          obtain ⟨hfz27_0, hfz27_1, hfz27_2, hfz27_3, hfz27_4, hfz27_5, hfz27_6⟩ := fz7 BK167.out
          go_wp2
          repeat (go_quiet (fail); try go_wp2)
          go_meet
          case rel => exact ⟨_, (false), (by first | rfl | (simp; done) | (simp [*]; done)), H', ⟨by have := HK1.out; first | omega | exact Nat.le_refl _⟩, ⟨by (repeat refine bk1 ?_); refine blk_far ?_ NB164_173.out _; (repeat refine bk1 ?_); refine blk_far ?_ NB164_173.out _; (repeat refine bk1 ?_); refine blk_far ?_ NB164_173.out _; (repeat refine bk1 ?_); exact BK164.out⟩, ⟨by (repeat refine bk1 ?_); refine blk_far ?_ NB167_173.out _; (repeat refine bk1 ?_); refine blk_far ?_ NB167_173.out _; (repeat refine bk1 ?_); refine blk_far ?_ NB167_173.out _; (repeat refine bk1 ?_); exact BK167.out⟩, ⟨by (repeat refine bk1 ?_); refine blk_put (cs := #[.int .i64 t169, .int .i64 t170, .int .i64 0]) ?_ 2 _ rfl; (repeat refine bk1 ?_); refine blk_put (cs := #[.int .i64 t169, .int .i64 0, .int .i64 0]) ?_ 1 _ rfl; (repeat refine bk1 ?_); refine blk_put (cs := #[.int .i64 0, .int .i64 0, .int .i64 0]) ?_ 0 _ rfl; (repeat refine bk1 ?_); exact BK173.out⟩, ⟨by repeat with_reducible first | exact bl HB.out | refine below_set ?_ GE164.out | refine below_set ?_ GE167.out | refine below_set ?_ GE173.out | refine bq ?_⟩⟩
         ·
          replace c24 := Bool.eq_false_iff.mpr c24
          subst c24
          have H1 : (if x5_1.toList = ([] : List UInt8) then (impl_NextDue.j1 k1 x5_1 x6_1 l0_0 (l0_0.length : Int) x18_1 true l0_0 l0_1 l0_2 a0_3 a0_4 a0_5 ((rd_T33 l0_0 x18_1).f0) ((rd_T33 l0_0 x18_1).f1) ((rd_T33 l0_0 x18_1).f2) ((rd_T33 l0_0 x18_1).f3) ((rd_T33 l0_0 x18_1).f4.f0) ((rd_T33 l0_0 x18_1).f4.f1) ((rd_T33 l0_0 x18_1).f4.f2) t169 t170 t171) else (impl_NextDue.j1 k1 x5_1 x6_1 l0_0 (l0_0.length : Int) x18_1 (decide (t170 < x6_1)) l0_0 l0_1 l0_2 a0_3 a0_4 a0_5 ((rd_T33 l0_0 x18_1).f0) ((rd_T33 l0_0 x18_1).f1) ((rd_T33 l0_0 x18_1).f2) ((rd_T33 l0_0 x18_1).f3) ((rd_T33 l0_0 x18_1).f4.f0) ((rd_T33 l0_0 x18_1).f4.f1) ((rd_T33 l0_0 x18_1).f4.f2) t169 t170 t171)) = some (r1, r2, r3) := by rw [if_neg (show ¬ (false = true) by decide)] at H; exact H
          clear H
          have H := H1
          clear H1
          by_cases c28 : x5_1.toList = ([] : List UInt8)
          ·
           rw [if_pos c28] at H
           have c28b0 : (x5_1.toList == ([] : List UInt8)) = true := beq_iff_eq.mpr c28
           have c28b1 : (x5_1.toList != ([] : List UInt8)) = false := bne_eq_false_iff_eq.mpr c28
           clear c28
           have H' := Aside0.mk H
           clear H
           have hnb29 := NB167_164.out
           have hnc29 := NB164_167.out
           have hnb30 := NB167_173.out
           have hnc30 := NB173_167.out
           obtain ⟨hcz31_0, hcz31_1, hcz31_2, hcz31_3, hcz31_4, hcz31_5, hcz31_6⟩ := ck7 BK167.out
           obtain ⟨hfz31_0, hfz31_1, hfz31_2, hfz31_3, hfz31_4, hfz31_5, hfz31_6⟩ := fz7 BK167.out
           go_wp2
           repeat (go_quiet (fail); try go_wp2)
           go_meet
           case rel => exact ⟨_, (true), (by first | rfl | (simp; done) | (simp [*]; done)), H', ⟨by have := HK1.out; first | omega | exact Nat.le_refl _⟩, ⟨by (repeat refine bk1 ?_); refine blk_far ?_ NB164_173.out _; (repeat refine bk1 ?_); refine blk_far ?_ NB164_173.out _; (repeat refine bk1 ?_); refine blk_far ?_ NB164_173.out _; (repeat refine bk1 ?_); exact BK164.out⟩, ⟨by (repeat refine bk1 ?_); refine blk_far ?_ NB167_173.out _; (repeat refine bk1 ?_); refine blk_far ?_ NB167_173.out _; (repeat refine bk1 ?_); refine blk_far ?_ NB167_173.out _; (repeat refine bk1 ?_); exact BK167.out⟩, ⟨by (repeat refine bk1 ?_); refine blk_put (cs := #[.int .i64 t169, .int .i64 t170, .int .i64 0]) ?_ 2 _ rfl; (repeat refine bk1 ?_); refine blk_put (cs := #[.int .i64 t169, .int .i64 0, .int .i64 0]) ?_ 1 _ rfl; (repeat refine bk1 ?_); refine blk_put (cs := #[.int .i64 0, .int .i64 0, .int .i64 0]) ?_ 0 _ rfl; (repeat refine bk1 ?_); exact BK173.out⟩, ⟨by repeat with_reducible first | exact bl HB.out | refine below_set ?_ GE164.out | refine below_set ?_ GE167.out | refine below_set ?_ GE173.out | refine bq ?_⟩⟩
          ·
           rw [if_neg c28] at H
           have c28b0 : (x5_1.toList == ([] : List UInt8)) = false := beq_eq_false_iff_ne.mpr c28
           have c28b1 : (x5_1.toList != ([] : List UInt8)) = true := bne_iff_ne.mpr c28
           have H' := Aside0.mk H
           clear H
           have hnb32 := NB167_164.out
           have hnc32 := NB164_167.out
           have hnb33 := NB167_173.out
           have hnc33 := NB173_167.out
           obtain ⟨hcz34_0, hcz34_1, hcz34_2, hcz34_3, hcz34_4, hcz34_5, hcz34_6⟩ := ck7 BK167.out
           obtain ⟨hfz34_0, hfz34_1, hfz34_2, hfz34_3, hfz34_4, hfz34_5, hfz34_6⟩ := fz7 BK167.out
           have hnb35 := NB173_164.out
           have hnc35 := NB164_173.out
           obtain ⟨hcz36_0, hcz36_1, hcz36_2⟩ := ck3 BK173.out
           obtain ⟨hfz36_0, hfz36_1, hfz36_2⟩ := fz3 BK173.out
           go_wp2
           repeat (go_quiet (fail); try go_wp2)
           go_meet
           case rel => exact ⟨_, (decide (t170 < x6_1)), (by first | rfl | (simp; done) | (simp [*]; done)), H', ⟨by have := HK1.out; first | omega | exact Nat.le_refl _⟩, ⟨by (repeat refine bk1 ?_); refine blk_far ?_ NB164_173.out _; (repeat refine bk1 ?_); refine blk_far ?_ NB164_173.out _; (repeat refine bk1 ?_); refine blk_far ?_ NB164_173.out _; (repeat refine bk1 ?_); exact BK164.out⟩, ⟨by (repeat refine bk1 ?_); refine blk_far ?_ NB167_173.out _; (repeat refine bk1 ?_); refine blk_far ?_ NB167_173.out _; (repeat refine bk1 ?_); refine blk_far ?_ NB167_173.out _; (repeat refine bk1 ?_); exact BK167.out⟩, ⟨by (repeat refine bk1 ?_); refine blk_put (cs := #[.int .i64 t169, .int .i64 t170, .int .i64 0]) ?_ 2 _ rfl; (repeat refine bk1 ?_); refine blk_put (cs := #[.int .i64 t169, .int .i64 0, .int .i64 0]) ?_ 1 _ rfl; (repeat refine bk1 ?_); refine blk_put (cs := #[.int .i64 0, .int .i64 0, .int .i64 0]) ?_ 0 _ rfl; (repeat refine bk1 ?_); exact BK173.out⟩, ⟨by repeat with_reducible first | exact bl HB.out | refine below_set ?_ GE164.out | refine below_set ?_ GE167.out | refine below_set ?_ GE173.out | refine bq ?_⟩⟩
        ·
         rw [if_neg c23] at H
         have c23b0 : decide (0 < ((rd_T33 l0_0 x18_1).f2)) = false := decide_eq_false c23
         clear c23
         (first | rw [c23b0] | (simp only [i64_w, i32_w]; rw [c23b0]) | skip)
         have H' := Aside0.mk H
         clear H
         have hnb37 := NB167_164.out
         have hnc37 := NB164_167.out
         have hnb38 := NB167_173.out
         have hnc38 := NB173_167.out
         obtain ⟨hcz39_0, hcz39_1, hcz39_2, hcz39_3, hcz39_4, hcz39_5, hcz39_6⟩ := ck7 BK167.out
         obtain ⟨hfz39_0, hfz39_1, hfz39_2, hfz39_3, hfz39_4, hfz39_5, hfz39_6⟩ := fz7 BK167.out
         go_wp2
         repeat (go_quiet (fail); try go_wp2)
         go_meet
         case rel => exact ⟨_, (false), (by first | rfl | (simp; done) | (simp [*]; done)), H', ⟨by have := HK1.out; first | omega | exact Nat.le_refl _⟩, ⟨by (repeat refine bk1 ?_); refine blk_far ?_ NB164_173.out _; (repeat refine bk1 ?_); refine blk_far ?_ NB164_173.out _; (repeat refine bk1 ?_); refine blk_far ?_ NB164_173.out _; (repeat refine bk1 ?_); exact BK164.out⟩, ⟨by (repeat refine bk1 ?_); refine blk_far ?_ NB167_173.out _; (repeat refine bk1 ?_); refine blk_far ?_ NB167_173.out _; (repeat refine bk1 ?_); refine blk_far ?_ NB167_173.out _; (repeat refine bk1 ?_); exact BK167.out⟩, ⟨by (repeat refine bk1 ?_); refine blk_put (cs := #[.int .i64 t169, .int .i64 t170, .int .i64 0]) ?_ 2 _ rfl; (repeat refine bk1 ?_); refine blk_put (cs := #[.int .i64 t169, .int .i64 0, .int .i64 0]) ?_ 1 _ rfl; (repeat refine bk1 ?_); refine blk_put (cs := #[.int .i64 0, .int .i64 0, .int .i64 0]) ?_ 0 _ rfl; (repeat refine bk1 ?_); exact BK173.out⟩, ⟨by repeat with_reducible first | exact bl HB.out | refine below_set ?_ GE164.out | refine below_set ?_ GE167.out | refine below_set ?_ GE173.out | refine bq ?_⟩⟩
       case rest =>
        clear HC13
        try clear c1
        try clear p1
        try clear q1
        try clear hx1
        try clear c2
        try clear p2
        try clear c3
        try clear c7
        try clear c9
        try clear c9b0
        try clear c10
        try clear c10b0
        try clear c11
        try clear c11b0
        try clear c15
        try clear p16
        try clear q16
        try clear hx16
        try clear c20
        try clear c21
        try clear c23
        try clear c23b0
        try clear c24
        try clear c25
        try clear c26
        try clear c28
        try clear c28b0
        try clear c28b1
        try clear c29
        try clear c30
        try clear c32
        try clear c33
        try clear c34
        try clear c35
        try clear c37
        try clear c38
        try clear hcz16_0 hcz16_1 hcz16_2 hcz16_3 hcz16_4 hcz16_5 hcz16_6 hfz16_0 hfz16_1 hfz16_2 hfz16_3 hfz16_4 hfz16_5 hfz16_6
        try clear hcz17_0 hcz17_1 hcz17_2 hcz17_3 hcz17_4 hcz17_5 hfz17_0 hfz17_1 hfz17_2 hfz17_3 hfz17_4 hfz17_5
        try clear hcz22_0 hcz22_1 hcz22_2 hfz22_0 hfz22_1 hfz22_2
        try clear hcz27_0 hcz27_1 hcz27_2 hcz27_3 hcz27_4 hcz27_5 hcz27_6 hfz27_0 hfz27_1 hfz27_2 hfz27_3 hfz27_4 hfz27_5 hfz27_6
        try clear hcz31_0 hcz31_1 hcz31_2 hcz31_3 hcz31_4 hcz31_5 hcz31_6 hfz31_0 hfz31_1 hfz31_2 hfz31_3 hfz31_4 hfz31_5 hfz31_6
        try clear hcz34_0 hcz34_1 hcz34_2 hcz34_3 hcz34_4 hcz34_5 hcz34_6 hfz34_0 hfz34_1 hfz34_2 hfz34_3 hfz34_4 hfz34_5 hfz34_6
        try clear hcz36_0 hcz36_1 hcz36_2 hfz36_0 hfz36_1 hfz36_2
        try clear hcz39_0 hcz39_1 hcz39_2 hcz39_3 hcz39_4 hcz39_5 hcz39_6 hfz39_0 hfz39_1 hfz39_2 hfz39_3 hfz39_4 hfz39_5 hfz39_6
        try clear hcz5_0 hcz5_1 hcz5_2 hcz5_3 hcz5_4 hcz5_5 hfz5_0 hfz5_1 hfz5_2 hfz5_3 hfz5_4 hfz5_5
        try clear hcz8_0 hcz8_1 hcz8_2 hcz8_3 hcz8_4 hcz8_5 hfz8_0 hfz8_1 hfz8_2 hfz8_3 hfz8_4 hfz8_5
        try clear hx166_0
        try clear hx166_1
        try clear hx166_2
        try clear hx166_3
        try clear hx166_4
        try clear hx166_5
        try clear hx166_6
        try clear p166
        try clear p2
        try clear q166
        obtain ⟨kq, x46_12, rfl, HA, HJ12, BK164, BK167, BK173, HB⟩ := hcut
        cases kq with
        | zero => exact absurd HA.out (by simp [impl_NextDue.j1])
        | succ kj12 =>
         have H := HA.out
         clear HA
         simp only [impl_NextDue.j1] at H
         by_cases c40 : x46_12 = true
         ·
          subst c40
          have H1 : (impl_NextDue.l0 kj12 ((rd_T33 l0_0 x18_1).f0) t170 l0_0 (l0_0.length : Int) (wrap64 (x18_1 + 1)) l0_0 l0_1 l0_2 a0_3 a0_4 a0_5) = some (r1, r2, r3) := by rw [if_pos rfl] at H; exact H
          clear H
          have H := H1
          clear H1
          have H' := Aside0.mk H
          clear H
          have hnb41 := NB167_164.out
          have hnc41 := NB164_167.out
          have hnb42 := NB167_173.out
          have hnc42 := NB173_167.out
          obtain ⟨hcz43_0, hcz43_1, hcz43_2, hcz43_3, hcz43_4, hcz43_5, hcz43_6⟩ := ck7 BK167.out
          obtain ⟨hfz43_0, hfz43_1, hfz43_2, hfz43_3, hfz43_4, hfz43_5, hfz43_6⟩ := fz7 BK167.out
          have hnb44 := NB173_164.out
          have hnc44 := NB164_173.out
          obtain ⟨hcz45_0, hcz45_1, hcz45_2⟩ := ck3 BK173.out
          obtain ⟨hfz45_0, hfz45_1, hfz45_2⟩ := fz3 BK173.out
          go_wp2
          repeat (go_quiet (fail); try go_wp2)
          go_roundg kj12
          case measure => have := HK1.out; have := HJ12.out; omega
          case rel => exact ⟨(((rd_T33 l0_0 x18_1).f0)), (t170), (wrap64 (x18_1 + 1)), (by first | rfl | (simp; done) | (simp [*]; done)), (by first | rfl | (simp; done) | (simp [*]; done)), (by first | rfl | (simp; done) | (simp [*]; done)), H', ⟨by have := HK1.out; have := HJ12.out; omega⟩, ⟨bk BK164.out⟩, ⟨by repeat with_reducible first | exact bl HB.out | refine below_set ?_ GE164.out | refine below_set ?_ GE167.out | refine below_set ?_ GE173.out | refine bq ?_⟩⟩
         ·
          replace c40 := Bool.eq_false_iff.mpr c40
          subst c40
          have H1 : (impl_NextDue.l0 kj12 x5_1 x6_1 l0_0 (l0_0.length : Int) (wrap64 (x18_1 + 1)) l0_0 l0_1 l0_2 a0_3 a0_4 a0_5) = some (r1, r2, r3) := by rw [if_neg (show ¬ (false = true) by decide)] at H; exact H
          clear H
          have H := H1
          clear H1
          have H' := Aside0.mk H
          clear H
          go_wp2
          repeat (go_quiet (fail); try go_wp2)
          go_roundg kj12
          case measure => have := HK1.out; have := HJ12.out; omega
          case rel => exact ⟨(x5_1), (x6_1), (wrap64 (x18_1 + 1)), (by first | rfl | (simp; done) | (simp [*]; done)), (by first | rfl | (simp; done) | (simp [*]; done)), (by first | rfl | (simp; done) | (simp [*]; done)), H', ⟨by have := HK1.out; have := HJ12.out; omega⟩, ⟨bk BK164.out⟩, ⟨by repeat with_reducible first | exact bl HB.out | refine below_set ?_ GE164.out | refine below_set ?_ GE167.out | refine below_set ?_ GE173.out | refine bq ?_⟩⟩
      ·
       rw [if_neg c11] at H
       exact absurd H (by simp)
     ·
      rw [if_neg c10] at H
      exact absurd H (by simp)
    ·
     rw [if_neg c9] at H
     have c9b0 : decide (x18_1 < (l0_0.length : Int)) = false := decide_eq_false c9
     clear c9
     (first | rw [c9b0] | (simp only [i64_w, i32_w]; rw [c9b0]) | skip)
     simp only [Option.some.injEq, Prod.mk.injEq] at H
     obtain ⟨rfl, rfl, rfl⟩ := H
     go_wp2
     repeat (go_quiet (fail); try go_wp2)
     go_ret3
     exact ⟨by first | rfl | (simp [errW_none, errW_some] <;> rfl) | (simp [errW_none, errW_some]; cases x5_1.toList <;> rfl) | (simp [*, errW_none, errW_some] <;> rfl), by repeat with_reducible first | exact bl HB.out | refine below_set ?_ GE164.out | refine bq ?_⟩
 ·
  replace c7 := Bool.eq_false_iff.mpr c7
  subst c7
  have H1 : (some ((⟨#[]⟩ : ByteArray), 0, false)) = some (r1, r2, r3) := by rw [if_neg (show ¬ (false = true) by decide)] at H; exact H
  clear H
  have H := H1
  clear H1
  simp only [Option.some.injEq, Prod.mk.injEq] at H
  obtain ⟨rfl, rfl, rfl⟩ := H
  go_wp2
  repeat (go_quiet (fail); try go_wp2)
  go_ret3
  exact ⟨by first | rfl | (simp [errW_none, errW_some] <;> rfl) | (simp [errW_none, errW_some]; cases x5_1.toList <;> rfl) | (simp [*, errW_none, errW_some] <;> rfl), by repeat with_reducible first | exact bl HB.out | refine below_set ?_ GE164.out | refine bq ?_⟩

/-! ### spec_l1In: function 46 -/
def spec_l1In.f (a0 : Int) (a1 : Int) (a2 : Int) : Option (Bool) := if a0 ≥ a1 then (some (decide (a0 ≤ a2))) else (some false)
set_option maxHeartbeats 8000000 in
set_option maxRecDepth 100000 in
theorem spec_l1In.calls (a0 : Int) (a1 : Int) (a2 : Int) (r : Bool) (w : World) (h : spec_l1In.f a0 a1 a2 = some r) :
  Calls Try.prog 46 #[.int .i64 a0, .int .i64 a1, .int .i64 a2] w fun e w' => e = .returned (.bool r) ∧ Drawn0 w w' := by
 have H : (if a0 ≥ a1 then (some (decide (a0 ≤ a2))) else (some false)) = some r := h
 clear h
 by_cases c4 : a0 ≥ a1
 ·
  rw [if_pos c4] at H
  have c4b0 : decide (a1 ≤ a0) = true := decide_eq_true c4
  clear c4
  obtain rfl := Option.some.inj H
  go_enter Try.func46, Try.ntmps46
  go_wp2
  go_ret
  exact ⟨by first | rfl | (simp; done) | (simp [*]; done), by repeat (first | exact Drawn0.refl _ | apply Drawn0.step)⟩
 ·
  rw [if_neg c4] at H
  have c4b0 : decide (a1 ≤ a0) = false := decide_eq_false c4
  clear c4
  obtain rfl := Option.some.inj H
  go_enter Try.func46, Try.ntmps46
  go_wp2
  go_ret
  exact ⟨by first | rfl | (simp; done) | (simp [*]; done), by repeat (first | exact Drawn0.refl _ | apply Drawn0.step)⟩

/-! ### spec_ClockOk: function 13 -/
def spec_ClockOk.f (a0_0 : Int) (a0_1 : Int) (a0_2 : Int) : Option (Bool) := (spec_l1In.f a0_0 0 1000000).bind fun t175 => (if t175 = true then ((spec_l1In.f a0_1 0 1000000).bind fun t176 => (if t176 = true then ((spec_l1In.f a0_2 0 1000000).bind fun t177 => (some t177)) else (some false))) else (some false))
set_option maxHeartbeats 8000000 in
set_option maxRecDepth 100000 in
theorem spec_ClockOk.calls (a0_0 : Int) (a0_1 : Int) (a0_2 : Int) (r : Bool) (w : World) (h : spec_ClockOk.f a0_0 a0_1 a0_2 = some r) :
  Calls Try.prog 13 #[.agg #[.int .i64 a0_0, .int .i64 a0_1, .int .i64 a0_2]] w fun e w' => e = .returned (.bool r) ∧ Below w.heap.size w w' := by
 have hu25 := Try.underlying25
 have HB := Aside0.mk (Below.refl w.heap.size w)
 have H : ((spec_l1In.f a0_0 0 1000000).bind fun t175 => (if t175 = true then ((spec_l1In.f a0_1 0 1000000).bind fun t176 => (if t176 = true then ((spec_l1In.f a0_2 0 1000000).bind fun t177 => (some t177)) else (some false))) else (some false))) = some r := h
 clear h
 replace H := Option.bind_eq_some_iff.mp H
 obtain ⟨t175, A20, H⟩ := H
 replace H : (if t175 = true then ((spec_l1In.f a0_1 0 1000000).bind fun t176 => (if t176 = true then ((spec_l1In.f a0_2 0 1000000).bind fun t177 => (some t177)) else (some false))) else (some false)) = some r := H
 have A2 := Aside0.mk A20
 clear A20
 by_cases c3 : t175 = true
 ·
  subst c3
  have H1 : ((spec_l1In.f a0_1 0 1000000).bind fun t176 => (if t176 = true then ((spec_l1In.f a0_2 0 1000000).bind fun t177 => (some t177)) else (some false))) = some r := by rw [if_pos rfl] at H; exact H
  clear H
  have H := H1
  clear H1
  replace H := Option.bind_eq_some_iff.mp H
  obtain ⟨t176, A40, H⟩ := H
  replace H : (if t176 = true then ((spec_l1In.f a0_2 0 1000000).bind fun t177 => (some t177)) else (some false)) = some r := H
  have A4 := Aside0.mk A40
  clear A40
  by_cases c5 : t176 = true
  ·
   subst c5
   have H1 : ((spec_l1In.f a0_2 0 1000000).bind fun t177 => (some t177)) = some r := by rw [if_pos rfl] at H; exact H
   clear H
   have H := H1
   clear H1
   replace H := Option.bind_eq_some_iff.mp H
   obtain ⟨t177, A60, H⟩ := H
   replace H : (some t177) = some r := H
   have A6 := Aside0.mk A60
   clear A60
   obtain rfl := Option.some.inj H
   go_enter Try.func13, Try.ntmps13
   go_wp2_with (first | ((with_reducible refine gate_dst (N := 1) rfl ?_); refine box_event ?hg (N := 1) ?hd (cs := #[.int .i64 a0_0, .int .i64 a0_1, .int .i64 a0_2]) (t := 25) ?hr ?_; (case hd => rfl); (case hg => rfl); (case hr => first | (go_simp; done) | (go_simp; rfl)); intro gb174 hg w7 hbox hb; have BK174 := Aside0.mk (hbox); have GW174 := Aside0.mk ((by rw [hg]; exact (below_size (bl HB.out)) : w.heap.size ≤ gb174)); have GE174 := GW174; replace HB := Aside0.mk (below_step (bl HB.out) hb); clear hb hbox hg; obtain ⟨hcz8_0, hcz8_1, hcz8_2⟩ := ck3 BK174.out; obtain ⟨hfz8_0, hfz8_1, hfz8_2⟩ := fz3 BK174.out) | ((with_reducible refine gate_callee (f := 46) rfl ?_); refine goesL_ (some 5) rfl rfl Try.func46 (by kernel_rfl) rfl #[.int .i64 a0_0, .int .i64 0, .int .i64 1000000] rfl (by (try simp only [am_]); first | done | rfl) ?_; (with_reducible refine (spec_l1In.calls a0_0 0 1000000 true _ A2.out).mono ?_); rintro e w' ⟨rfl, ⟨nd, rfl⟩⟩; refine ⟨_, rfl, ?_⟩) | (go_at_call 46; (with_reducible refine (spec_l1In.calls a0_1 0 1000000 true _ A4.out).mono ?_); rintro e w' ⟨rfl, ⟨nd, rfl⟩⟩) | (go_at_call 46; (with_reducible refine (spec_l1In.calls a0_2 0 1000000 t177 _ A6.out).mono ?_); rintro e w' ⟨rfl, ⟨nd, rfl⟩⟩))
   go_ret
   exact ⟨by first | rfl | (simp [errW_none, errW_some] <;> rfl) | (simp [errW_none, errW_some]; cases x5_1.toList <;> rfl) | (simp [*, errW_none, errW_some] <;> rfl), by repeat with_reducible first | exact bl HB.out | refine below_set ?_ GE174.out | refine bq ?_⟩
  ·
   replace c5 := Bool.eq_false_iff.mpr c5
   subst c5
   have H1 : (some false) = some r := by rw [if_neg (show ¬ (false = true) by decide)] at H; exact H
   clear H
   have H := H1
   clear H1
   obtain rfl := Option.some.inj H
   go_enter Try.func13, Try.ntmps13
   go_wp2_with (first | ((with_reducible refine gate_dst (N := 1) rfl ?_); refine box_event ?hg (N := 1) ?hd (cs := #[.int .i64 a0_0, .int .i64 a0_1, .int .i64 a0_2]) (t := 25) ?hr ?_; (case hd => rfl); (case hg => rfl); (case hr => first | (go_simp; done) | (go_simp; rfl)); intro gb174 hg w9 hbox hb; have BK174 := Aside0.mk (hbox); have GW174 := Aside0.mk ((by rw [hg]; exact (below_size (bl HB.out)) : w.heap.size ≤ gb174)); have GE174 := GW174; replace HB := Aside0.mk (below_step (bl HB.out) hb); clear hb hbox hg; obtain ⟨hcz10_0, hcz10_1, hcz10_2⟩ := ck3 BK174.out; obtain ⟨hfz10_0, hfz10_1, hfz10_2⟩ := fz3 BK174.out) | ((with_reducible refine gate_callee (f := 46) rfl ?_); refine goesL_ (some 5) rfl rfl Try.func46 (by kernel_rfl) rfl #[.int .i64 a0_0, .int .i64 0, .int .i64 1000000] rfl (by (try simp only [am_]); first | done | rfl) ?_; (with_reducible refine (spec_l1In.calls a0_0 0 1000000 true _ A2.out).mono ?_); rintro e w' ⟨rfl, ⟨nd, rfl⟩⟩; refine ⟨_, rfl, ?_⟩) | (go_at_call 46; (with_reducible refine (spec_l1In.calls a0_1 0 1000000 false _ A4.out).mono ?_); rintro e w' ⟨rfl, ⟨nd, rfl⟩⟩))
   go_ret
   exact ⟨by first | rfl | (simp [errW_none, errW_some] <;> rfl) | (simp [errW_none, errW_some]; cases x5_1.toList <;> rfl) | (simp [*, errW_none, errW_some] <;> rfl), by repeat with_reducible first | exact bl HB.out | refine below_set ?_ GE174.out | refine bq ?_⟩
 ·
  replace c3 := Bool.eq_false_iff.mpr c3
  subst c3
  have H1 : (some false) = some r := by rw [if_neg (show ¬ (false = true) by decide)] at H; exact H
  clear H
  have H := H1
  clear H1
  obtain rfl := Option.some.inj H
  go_enter Try.func13, Try.ntmps13
  go_wp2_with (first | ((with_reducible refine gate_dst (N := 1) rfl ?_); refine box_event ?hg (N := 1) ?hd (cs := #[.int .i64 a0_0, .int .i64 a0_1, .int .i64 a0_2]) (t := 25) ?hr ?_; (case hd => rfl); (case hg => rfl); (case hr => first | (go_simp; done) | (go_simp; rfl)); intro gb174 hg w11 hbox hb; have BK174 := Aside0.mk (hbox); have GW174 := Aside0.mk ((by rw [hg]; exact (below_size (bl HB.out)) : w.heap.size ≤ gb174)); have GE174 := GW174; replace HB := Aside0.mk (below_step (bl HB.out) hb); clear hb hbox hg; obtain ⟨hcz12_0, hcz12_1, hcz12_2⟩ := ck3 BK174.out; obtain ⟨hfz12_0, hfz12_1, hfz12_2⟩ := fz3 BK174.out) | ((with_reducible refine gate_callee (f := 46) rfl ?_); refine goesL_ (some 5) rfl rfl Try.func46 (by kernel_rfl) rfl #[.int .i64 a0_0, .int .i64 0, .int .i64 1000000] rfl (by (try simp only [am_]); first | done | rfl) ?_; (with_reducible refine (spec_l1In.calls a0_0 0 1000000 false _ A2.out).mono ?_); rintro e w' ⟨rfl, ⟨nd, rfl⟩⟩; refine ⟨_, rfl, ?_⟩))
  go_ret
  exact ⟨by first | rfl | (simp [errW_none, errW_some] <;> rfl) | (simp [errW_none, errW_some]; cases x5_1.toList <;> rfl) | (simp [*, errW_none, errW_some] <;> rfl), by repeat with_reducible first | exact bl HB.out | refine below_set ?_ GE174.out | refine bq ?_⟩

end Go.Proofs.Ytbgdibbgngpggaa.PFnCarried
