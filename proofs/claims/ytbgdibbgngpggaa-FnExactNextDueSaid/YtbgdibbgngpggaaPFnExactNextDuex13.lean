-- Written by a program of this session (wip/xprint.py) out of the translation; Lean checks it.
import Derived.Test.YtbgdibbgngpggaaPFnExactNextDuex0
import Derived.Test.YtbgdibbgngpggaaPFnExactNextDuex10
namespace Go.Proofs.Ytbgdibbgngpggaa.PFnExactNextDue
open Go.RowKit Go.Proofs.YtbgdibbgngpggaaW.PrintWords Go.Proofs.YtbgdibbgngpggaaW.PrintLast Go.Proofs.YtbgdibbgngpggaaW.PrintMore Go.Proofs.Ytbgdibbgngpggaa.Sq
attribute [local go_sem] max2_int min2_int max_two min_two max_three min_three max_four min_four   -- for this text's walks alone
set_option linter.unusedVariables false
set_option linter.unusedSimpArgs false

/-! ### impl_CarryOk: function 23 -/
mutual
def impl_CarryOk.l0 : Nat → List (S70) → List (S70) → Int → Int → Option (Bool)
 | 0, _, _, _, _ => none
 | k + 1, x0, x5, x6, x7 => if x7 < x6 then (if 0 ≤ x7 then (if x7 < (x5.length : Int) then ((impl_isName.f k ((rd_T70 x5 x7).f0)).bind fun t321 => (if t321 = true then ((impl_in.f ((rd_T70 x5 x7).f1) 0 10).bind fun t322 => (if t322 = true then ((impl_in.f ((rd_T70 x5 x7).f2) 0 120).bind fun t323 => (if t323 = true then (if x7 > 0 then (if 0 ≤ (wrap64 (x7 - 1)) then (if (wrap64 (x7 - 1)) < (x0.length : Int) then (impl_CarryOk.j1 k x0 x5 x6 x7 (!(Op.bytesLess (((rd_T70 x0 (wrap64 (x7 - 1))).f0).toList) (((rd_T70 x5 x7).f0).toList)))) else (none)) else (none)) else (impl_CarryOk.j1 k x0 x5 x6 x7 false)) else (impl_CarryOk.j1 k x0 x5 x6 x7 true))) else (impl_CarryOk.j1 k x0 x5 x6 x7 true))) else (impl_CarryOk.j1 k x0 x5 x6 x7 true))) else (none)) else (none)) else (some (decide ((x0.length : Int) ≤ 20)))
def impl_CarryOk.j1 : Nat → List (S70) → List (S70) → Int → Int → Bool → Option (Bool)
 | 0, _, _, _, _, _ => none
 | k + 1, x0, x5, x6, x7, x42 => if x42 = true then (some false) else (impl_CarryOk.l0 k x0 x5 x6 (wrap64 (x7 + 1)))
end
def impl_CarryOk.f (k : Nat) (l0 : List (S70)) : Option (Bool) := impl_CarryOk.l0 k l0 l0 (l0.length : Int) 0
theorem impl_CarryOk.mono_l : ∀ k, (∀ y0 y1 y2 y3, LeO (impl_CarryOk.l0 k y0 y1 y2 y3) (impl_CarryOk.l0 (k + 1) y0 y1 y2 y3)) ∧ (∀ y0 y1 y2 y3 y4, LeO (impl_CarryOk.j1 k y0 y1 y2 y3 y4) (impl_CarryOk.j1 (k + 1) y0 y1 y2 y3 y4))
 | 0 => ⟨fun _ _ _ _ r h => by simp [impl_CarryOk.l0] at h, fun _ _ _ _ _ r h => by simp [impl_CarryOk.j1] at h⟩
 | k + 1 => by
  obtain ⟨ih0, ih1⟩ := impl_CarryOk.mono_l k
  refine ⟨?_, ?_⟩
  ·
   intro y0 y1 y2 y3
   unfold impl_CarryOk.l0
   repeat' first
   | (with_reducible exact ih0 _ _ _ _)
   | (with_reducible exact ih1 _ _ _ _ _)
   | (with_reducible exact impl_isName.mono _ _)
   | (with_reducible exact LeO.refl _)
   | (with_reducible exact LeO.none _)
   | (with_reducible refine LeO.ite ?_ ?_)
   | (with_reducible refine LeO.bind ?_ (fun _ => ?_))
   | exact ih0 _ _ _ _
   | exact ih1 _ _ _ _ _
   | exact impl_isName.mono _ _
   | exact LeO.none _
   | refine LeO.ite ?_ ?_
   | refine LeO.bind ?_ (fun _ => ?_)
  ·
   intro y0 y1 y2 y3 y4
   unfold impl_CarryOk.j1
   repeat' first
   | (with_reducible exact ih0 _ _ _ _)
   | (with_reducible exact ih1 _ _ _ _ _)
   | (with_reducible exact impl_isName.mono _ _)
   | (with_reducible exact LeO.refl _)
   | (with_reducible exact LeO.none _)
   | (with_reducible refine LeO.ite ?_ ?_)
   | (with_reducible refine LeO.bind ?_ (fun _ => ?_))
   | exact ih0 _ _ _ _
   | exact ih1 _ _ _ _ _
   | exact impl_isName.mono _ _
   | exact LeO.none _
   | refine LeO.ite ?_ ?_
   | refine LeO.bind ?_ (fun _ => ?_)
theorem impl_CarryOk.mono : ∀ a0 k, LeO (impl_CarryOk.f k a0) (impl_CarryOk.f (k + 1) a0) := by
 intro a0 k
 obtain ⟨ih0, ih1⟩ := impl_CarryOk.mono_l k
 unfold impl_CarryOk.f
 repeat' first
   | (with_reducible exact ih0 _ _ _ _)
   | (with_reducible exact ih1 _ _ _ _ _)
   | (with_reducible exact impl_isName.mono _ _)
   | (with_reducible exact LeO.refl _)
   | (with_reducible exact LeO.none _)
   | (with_reducible refine LeO.ite ?_ ?_)
   | (with_reducible refine LeO.bind ?_ (fun _ => ?_))
   | exact ih0 _ _ _ _
   | exact ih1 _ _ _ _ _
   | exact impl_isName.mono _ _
   | exact LeO.none _
   | refine LeO.ite ?_ ?_
   | refine LeO.bind ?_ (fun _ => ?_)
def impl_CarryOk.T4 : Bool × List (List Nat × List Nat) := (true, [([], []), ([0], [0]), ([1], [1]), ([2], [2]), ([3, 2], [3]), ([4], [4]), ([5, 4], [4, 5]), ([6, 4, 4], [4, 6]), ([7, 4], [4, 7]), ([4, 8], [4, 8]), ([9, 7], [9]), ([10], [10]), ([11, 10], [10, 11]), ([12, 10, 10], [10, 12]), ([13, 10], [10, 13]), ([10, 14], [10, 14]), ([15, 13], [15]), ([16], [16]), ([17, 16], [16, 17]), ([18, 16, 16], [16, 18]), ([19], [19]), ([19], [19]), ([21, 19], [19, 21]), ([20, 22, 19], [19, 20, 22]), ([23, 19], [19, 23]), ([24, 19], [19, 24]), ([19], [19]), ([26, 19], [19, 26]), ([25, 27, 19], [19, 25, 27]), ([19, 28, 16], [16, 19, 28]), ([16, 29], [16, 29])])
def impl_CarryOk.B4 : List Nat := [0, 1, 3, 7, 15, 31, 63, 127, 255, 511, 1023, 2047, 4095, 8191, 16383, 32767, 65535, 131071, 262143, 524287, 1048575, 1048575, 3145727, 8388607, 16777215, 33554431, 1048575, 68157439, 268435455, 536870911, 1073741823]
theorem impl_CarryOk.tab4 : rtab .any (opsOf Try.f23 4) = impl_CarryOk.T4 := by kernel_rfl
theorem impl_CarryOk.bits4 : waitsOk impl_CarryOk.T4.2 impl_CarryOk.B4 = true := by kernel_rfl
set_option maxHeartbeats 8000000 in
set_option maxRecDepth 100000 in
theorem impl_CarryOk.calls (k : Nat) (A0 : Option Addr) (c0 : Nat) (l0 : List (S70)) (r : Bool) (w : World) (hr0 : Kd.C k70 w A0 l0.length l0) (hc0 : l0.length ≤ c0) (h : impl_CarryOk.f k l0 = some r) :
  Calls Try.prog 23 #[.slice A0 l0.length c0] w fun e w' => e = .returned (.bool r) ∧ Below w.heap.size w w' := by
 have hu70 := Try.underlying70
 have HR0 := Aside0.mk hr0
 have HC0 := Aside0.mk hc0
 clear hr0 hc0
 have HB := Aside0.mk (Below.refl w.heap.size w)
 have H : (impl_CarryOk.l0 k l0 l0 (l0.length : Int) 0) = some r := h
 clear h
 have H' := Aside0.mk H
 clear H
 go_enter Try.func23, Try.ntmps23
 go_wp2
 go_loopg [7] k (fun kq v7 w' => ∃ (x7_1 : Int), v7 = .int .i64 x7_1 ∧ Aside0 (impl_CarryOk.l0 kq l0 l0 (l0.length : Int) x7_1 = some r) ∧ Aside0 (kq ≤ k) ∧ Aside0 (Below w.heap.size w w'))
 case atStart => exact ⟨(0), (by first | rfl | (simp; done) | (simp [*]; done)), H', ⟨Nat.le_refl _⟩, ⟨bl HB.out⟩⟩
 case round =>
  clear H'
  obtain ⟨x7_1, rfl, HA, HK1, HB⟩ := hrel
  cases gk with
  | zero => exact absurd HA.out (by simp [impl_CarryOk.l0])
  | succ k1 =>
   have H := HA.out
   clear HA
   simp only [impl_CarryOk.l0] at H
   by_cases c2 : x7_1 < (l0.length : Int)
   ·
    rw [if_pos c2] at H
    have c2b0 : decide (x7_1 < (l0.length : Int)) = true := decide_eq_true c2
    clear c2
    by_cases c3 : 0 ≤ x7_1
    ·
     rw [if_pos c3] at H
     have c3b0 : decide (0 ≤ x7_1) = true := decide_eq_true c3
     clear c3
     by_cases c4 : x7_1 < (l0.length : Int)
     ·
      rw [if_pos c4] at H
      have c4b0 : decide (x7_1 < (l0.length : Int)) = true := decide_eq_true c4
      clear c4
      have HC5 := Aside0.mk H
      clear H
      have p319 : 0 ≤ (x7_1 : Int) := of_decide_eq_true (by first | (with_reducible assumption) | assumption)
      have q319 : x7_1 < (l0.length : Int) := of_decide_eq_true (by first | (with_reducible assumption) | assumption)
      obtain ⟨ad319, e319, hx319_0, hx319_1, hx319_2⟩ := at_T70 HR0.out x7_1 p319 q319
      cases e319
      replace hx319_0 := bc HB.out hx319_0
      replace hx319_1 := bc HB.out hx319_1
      replace hx319_2 := bc HB.out hx319_2
      replace p319 := eq_true p319
      replace q319 := eq_true q319
      go_upto_region 4 with (first | ((with_reducible refine gate_dst (N := 4) rfl ?_); refine box_event ?hg (N := 4) ?hd (cs := #[.string (⟨#[]⟩ : ByteArray), .int .i64 0, .int .i64 0]) (t := 70) ?hr ?_; (case hd => rfl); (case hg => rfl); (case hr => first | (go_simp; done) | (go_simp; rfl)); intro gb320 hg w6 hbox hb; have BK320 := Aside0.mk (hbox); have GW320 := Aside0.mk ((by rw [hg]; exact (below_size (bl HB.out)) : w.heap.size ≤ gb320)); have GE320 := GW320; replace HB := Aside0.mk (below_step (bl HB.out) hb); clear hb hbox hg; obtain ⟨hcz7_0, hcz7_1, hcz7_2⟩ := ck3 BK320.out; obtain ⟨hfz7_0, hfz7_1, hfz7_2⟩ := fz3 BK320.out))
      (try simp only [Act.put, List.setIfInBounds_toArray, List.set_cons_zero, List.set_cons_succ])
      go_cut [42] (fun v42 wc => ∃ (kq : Nat) (x42_4 : Bool), v42 = .bool x42_4 ∧ Aside0 (impl_CarryOk.j1 kq l0 l0 (l0.length : Int) x7_1 x42_4 = some r) ∧ Aside0 (kq ≤ k1) ∧ Aside0 (wc.heap[gb320]? = some (.cells #[.string ((rd_T70 l0 x7_1).f0), .int .i64 ((rd_T70 l0 x7_1).f1), .int .i64 ((rd_T70 l0 x7_1).f2)] 70 (0, 0))) ∧ Aside0 (Below w.heap.size w wc))
      case first =>
       have H := HC5.out
       clear HC5
       replace H := Option.bind_eq_some_iff.mp H
       obtain ⟨t321, A80, H⟩ := H
       replace H : (if t321 = true then ((impl_in.f ((rd_T70 l0 x7_1).f1) 0 10).bind fun t322 => (if t322 = true then ((impl_in.f ((rd_T70 l0 x7_1).f2) 0 120).bind fun t323 => (if t323 = true then (if x7_1 > 0 then (if 0 ≤ (wrap64 (x7_1 - 1)) then (if (wrap64 (x7_1 - 1)) < (l0.length : Int) then (impl_CarryOk.j1 k1 l0 l0 (l0.length : Int) x7_1 (!(Op.bytesLess (((rd_T70 l0 (wrap64 (x7_1 - 1))).f0).toList) (((rd_T70 l0 x7_1).f0).toList)))) else (none)) else (none)) else (impl_CarryOk.j1 k1 l0 l0 (l0.length : Int) x7_1 false)) else (impl_CarryOk.j1 k1 l0 l0 (l0.length : Int) x7_1 true))) else (impl_CarryOk.j1 k1 l0 l0 (l0.length : Int) x7_1 true))) else (impl_CarryOk.j1 k1 l0 l0 (l0.length : Int) x7_1 true)) = some r := H
       have A8 := Aside0.mk A80
       clear A80
       by_cases c9 : t321 = true
       ·
        subst c9
        have H1 : ((impl_in.f ((rd_T70 l0 x7_1).f1) 0 10).bind fun t322 => (if t322 = true then ((impl_in.f ((rd_T70 l0 x7_1).f2) 0 120).bind fun t323 => (if t323 = true then (if x7_1 > 0 then (if 0 ≤ (wrap64 (x7_1 - 1)) then (if (wrap64 (x7_1 - 1)) < (l0.length : Int) then (impl_CarryOk.j1 k1 l0 l0 (l0.length : Int) x7_1 (!(Op.bytesLess (((rd_T70 l0 (wrap64 (x7_1 - 1))).f0).toList) (((rd_T70 l0 x7_1).f0).toList)))) else (none)) else (none)) else (impl_CarryOk.j1 k1 l0 l0 (l0.length : Int) x7_1 false)) else (impl_CarryOk.j1 k1 l0 l0 (l0.length : Int) x7_1 true))) else (impl_CarryOk.j1 k1 l0 l0 (l0.length : Int) x7_1 true))) = some r := by rw [if_pos rfl] at H; exact H
        clear H
        have H := H1
        clear H1
        replace H := Option.bind_eq_some_iff.mp H
        obtain ⟨t322, A100, H⟩ := H
        replace H : (if t322 = true then ((impl_in.f ((rd_T70 l0 x7_1).f2) 0 120).bind fun t323 => (if t323 = true then (if x7_1 > 0 then (if 0 ≤ (wrap64 (x7_1 - 1)) then (if (wrap64 (x7_1 - 1)) < (l0.length : Int) then (impl_CarryOk.j1 k1 l0 l0 (l0.length : Int) x7_1 (!(Op.bytesLess (((rd_T70 l0 (wrap64 (x7_1 - 1))).f0).toList) (((rd_T70 l0 x7_1).f0).toList)))) else (none)) else (none)) else (impl_CarryOk.j1 k1 l0 l0 (l0.length : Int) x7_1 false)) else (impl_CarryOk.j1 k1 l0 l0 (l0.length : Int) x7_1 true))) else (impl_CarryOk.j1 k1 l0 l0 (l0.length : Int) x7_1 true)) = some r := H
        have A10 := Aside0.mk A100
        clear A100
        by_cases c11 : t322 = true
        ·
         subst c11
         have H1 : ((impl_in.f ((rd_T70 l0 x7_1).f2) 0 120).bind fun t323 => (if t323 = true then (if x7_1 > 0 then (if 0 ≤ (wrap64 (x7_1 - 1)) then (if (wrap64 (x7_1 - 1)) < (l0.length : Int) then (impl_CarryOk.j1 k1 l0 l0 (l0.length : Int) x7_1 (!(Op.bytesLess (((rd_T70 l0 (wrap64 (x7_1 - 1))).f0).toList) (((rd_T70 l0 x7_1).f0).toList)))) else (none)) else (none)) else (impl_CarryOk.j1 k1 l0 l0 (l0.length : Int) x7_1 false)) else (impl_CarryOk.j1 k1 l0 l0 (l0.length : Int) x7_1 true))) = some r := by rw [if_pos rfl] at H; exact H
         clear H
         have H := H1
         clear H1
         replace H := Option.bind_eq_some_iff.mp H
         obtain ⟨t323, A120, H⟩ := H
         replace H : (if t323 = true then (if x7_1 > 0 then (if 0 ≤ (wrap64 (x7_1 - 1)) then (if (wrap64 (x7_1 - 1)) < (l0.length : Int) then (impl_CarryOk.j1 k1 l0 l0 (l0.length : Int) x7_1 (!(Op.bytesLess (((rd_T70 l0 (wrap64 (x7_1 - 1))).f0).toList) (((rd_T70 l0 x7_1).f0).toList)))) else (none)) else (none)) else (impl_CarryOk.j1 k1 l0 l0 (l0.length : Int) x7_1 false)) else (impl_CarryOk.j1 k1 l0 l0 (l0.length : Int) x7_1 true)) = some r := H
         have A12 := Aside0.mk A120
         clear A120
         by_cases c13 : t323 = true
         ·
          subst c13
          have H1 : (if x7_1 > 0 then (if 0 ≤ (wrap64 (x7_1 - 1)) then (if (wrap64 (x7_1 - 1)) < (l0.length : Int) then (impl_CarryOk.j1 k1 l0 l0 (l0.length : Int) x7_1 (!(Op.bytesLess (((rd_T70 l0 (wrap64 (x7_1 - 1))).f0).toList) (((rd_T70 l0 x7_1).f0).toList)))) else (none)) else (none)) else (impl_CarryOk.j1 k1 l0 l0 (l0.length : Int) x7_1 false)) = some r := by rw [if_pos rfl] at H; exact H
          clear H
          have H := H1
          clear H1
          by_cases c14 : x7_1 > 0
          ·
           rw [if_pos c14] at H
           have c14b0 : decide (0 < x7_1) = true := decide_eq_true c14
           clear c14
           (first | rw [c14b0] | (simp only [i64_w, i32_w]; rw [c14b0]) | skip)
           obtain ⟨ji15, hji15⟩ : ∃ j_ : Int, (wrap64 (x7_1 - 1)) = j_ := ⟨_, rfl⟩
           replace H : (if 0 ≤ (ji15) then (if (ji15) < (l0.length : Int) then (impl_CarryOk.j1 k1 l0 l0 (l0.length : Int) x7_1 (!(Op.bytesLess (((rd_T70 l0 (ji15)).f0).toList) (((rd_T70 l0 x7_1).f0).toList)))) else (none)) else (none)) = some r := by first | (rw [hji15] at H; exact H) | (simp only [hji15] at H ⊢; exact H)
           (try rw [hji15] at A8)
           (try rw [hji15] at A10)
           (try rw [hji15] at A12)
           have hji15w : (IntKind.i64.wrap (x7_1 - 1)) = ji15 := (i64_w _).trans hji15
           by_cases c16 : 0 ≤ (ji15)
           ·
            rw [if_pos c16] at H
            have c16b0 : decide (0 ≤ (ji15)) = true := decide_eq_true c16
            clear c16
            by_cases c17 : (ji15) < (l0.length : Int)
            ·
             rw [if_pos c17] at H
             have c17b0 : decide ((ji15) < (l0.length : Int)) = true := decide_eq_true c17
             clear c17
             have H' := Aside0.mk H
             clear H
             try go_wp2
             have n0_ : Aside0 ((((w6.setCell ⟨gb320, 0, none⟩ (.string ((rd_T70 l0 x7_1).f0))).setCell ⟨gb320, 1, none⟩ (.int .i64 ((rd_T70 l0 x7_1).f1))).setCell ⟨gb320, 2, none⟩ (.int .i64 ((rd_T70 l0 x7_1).f2))).heap[gb320]? = some (.cells #[.string ((rd_T70 l0 x7_1).f0), .int .i64 ((rd_T70 l0 x7_1).f1), .int .i64 ((rd_T70 l0 x7_1).f2)] 70 (0, 0))) := ⟨by (repeat refine bk1 ?_); refine blk_put (cs := #[.string ((rd_T70 l0 x7_1).f0), .int .i64 ((rd_T70 l0 x7_1).f1), .int .i64 0]) ?_ 2 _ rfl; (repeat refine bk1 ?_); refine blk_put (cs := #[.string ((rd_T70 l0 x7_1).f0), .int .i64 0, .int .i64 0]) ?_ 1 _ rfl; (repeat refine bk1 ?_); refine blk_put (cs := #[.string (⟨#[]⟩ : ByteArray), .int .i64 0, .int .i64 0]) ?_ 0 _ rfl; (repeat refine bk1 ?_); exact BK320.out⟩
             have n1_ : Aside0 (Below w.heap.size w (((w6.setCell ⟨gb320, 0, none⟩ (.string ((rd_T70 l0 x7_1).f0))).setCell ⟨gb320, 1, none⟩ (.int .i64 ((rd_T70 l0 x7_1).f1))).setCell ⟨gb320, 2, none⟩ (.int .i64 ((rd_T70 l0 x7_1).f2)))) := ⟨by repeat with_reducible first | exact bl HB.out | refine below_set ?_ GE320.out | refine bq ?_⟩
             (try clear BK320)
             (try clear HB)
             generalize (((w6.setCell ⟨gb320, 0, none⟩ (.string ((rd_T70 l0 x7_1).f0))).setCell ⟨gb320, 1, none⟩ (.int .i64 ((rd_T70 l0 x7_1).f1))).setCell ⟨gb320, 2, none⟩ (.int .i64 ((rd_T70 l0 x7_1).f2))) = w18 at n0_ n1_ ⊢
             have BK320 := n0_
             have HB := n1_
             clear n0_ n1_
             have n0_ := Aside0.mk (blk_drew BK320.out)
             have n1_ := Aside0.mk (below_drew1 HB.out)
             clear BK320
             clear HB
             have BK320 := n0_
             have HB := n1_
             clear n0_ n1_
             have p324 : 0 ≤ ((ji15) : Int) := of_decide_eq_true (by first | (with_reducible assumption) | assumption)
             have q324 : (ji15) < (l0.length : Int) := of_decide_eq_true (by first | (with_reducible assumption) | assumption)
             obtain ⟨ad324, e324, hx324_0, hx324_1, hx324_2⟩ := at_T70 HR0.out (ji15) p324 q324
             have hw324_2 := hx324_2
             have hw324_1 := hx324_1
             have hw324_0 := hx324_0
             obtain rfl : ad319 = ad324 := (by injection e324)
             replace hx324_0 := bc HB.out hx324_0
             replace hx324_1 := bc HB.out hx324_1
             replace hx324_2 := bc HB.out hx324_2
             replace p324 := eq_true p324
             replace q324 := eq_true q324
             refine start_ (n := 31) (S := fun w' => w'.cell? ⟨gb320, 0, none⟩ = some (.string ((rd_T70 l0 x7_1).f0)) ∧ w'.cell? ⟨gb320, 1, none⟩ = some (.int .i64 ((rd_T70 l0 x7_1).f1)) ∧ w'.cell? ⟨gb320, 2, none⟩ = some (.int .i64 ((rd_T70 l0 x7_1).f2)) ∧ w'.cell? (ad319.add (((ji15)).toNat * 3)) = some (.string ((rd_T70 l0 (ji15)).f0)) ∧ w'.cell? ⟨(ad319.add (((ji15)).toNat * 3)).block, (ad319.add (((ji15)).toNat * 3)).off + 1, none⟩ = some (.int .i64 ((rd_T70 l0 (ji15)).f1)) ∧ w'.cell? ⟨(ad319.add (((ji15)).toNat * 3)).block, (ad319.add (((ji15)).toNat * 3)).off + 2, none⟩ = some (.int .i64 ((rd_T70 l0 (ji15)).f2))) (ds := []) m0_31 (by kernel_rfl) rfl rfl ⟨ck BK320.out 0 rfl, ck BK320.out 1 rfl, ck BK320.out 2 rfl, ((HB.out.cell (World.block_lt_of_cell? w _ hw324_0)).trans hw324_0), ((HB.out.cell (World.block_lt_of_cell? w _ hw324_1)).trans hw324_1), ((HB.out.cell (World.block_lt_of_cell? w _ hw324_2)).trans hw324_2)⟩ (fun hHeld => ?_); refine with_tabW impl_CarryOk.tab4 impl_CarryOk.bits4 (fun HT_ HW_ => ?_)
             generalize w18.drew = w19 at BK320 HB hx324_0 hx324_1 hx324_2 hHeld ⊢
             refine pq_ HT_.out 0 12 m1_31 ?_
             refine tk_ HT_.out HW_.out 1 13 m2_31 rfl rfl (by kernel_rfl) (by rfl) (by rintro w' ⟨s0, s1, s2, s3, s4, s5⟩; go_simp; with_reducible rfl) hHeld (by simp only [sp_]; rfl) (fun _ _ _ h => h) ?_
             refine one_ (i := 2) (N := some 14) m3_31 rfl rfl (one_of HT_.out (by kernel_rfl)) (by decide) (fun K hK => ?_)
             refine goes_ Try.func51 (by kernel_rfl) rfl #[.string ((rd_T70 l0 x7_1).f0)] (by rfl) rfl rfl (by (try simp only [am_]); first | done | rfl) ?_
             with_reducible refine (impl_isName.calls k1 ((rd_T70 l0 x7_1).f0) true _ A8.out).mono ?_
             rintro e w' ⟨rfl, ⟨nd, rfl⟩⟩
             refine ⟨_, rfl, ?_⟩
             refine hK.out _ _ ⟨ck BK320.out 0 rfl, ck BK320.out 1 rfl, ck BK320.out 2 rfl, ((HB.out.cell (World.block_lt_of_cell? w _ hw324_0)).trans hw324_0), ((HB.out.cell (World.block_lt_of_cell? w _ hw324_1)).trans hw324_1), ((HB.out.cell (World.block_lt_of_cell? w _ hw324_2)).trans hw324_2)⟩ (fun hHeld => ?_)
             clear hK K
             refine norm_ (a' := ?_) ?_ ?_
             rotate_left
             ·
              show Act.put _ (some 14) _ = _
              simp only [sp_]
              rfl
             refine pq_ HT_.out 3 15 m4_31 ?_
             refine pq_ HT_.out 4 16 m5_31 ?_
             refine pq_ HT_.out 5 17 m6_31 ?_
             refine tk_ HT_.out HW_.out 6 18 m7_31 rfl rfl (by kernel_rfl) (by rfl) (by rintro w' ⟨s0, s1, s2, s3, s4, s5⟩; go_simp; with_reducible rfl) hHeld (by simp only [sp_]; rfl) (fun _ _ _ h => h) ?_
             refine one_ (i := 7) (N := some 19) m8_31 rfl rfl (one_of HT_.out (by kernel_rfl)) (by decide) (fun K hK => ?_)
             refine goes_ Try.func55 (by kernel_rfl) rfl #[.int .i64 ((rd_T70 l0 x7_1).f1), .int .i64 0, .int .i64 10] (by rfl) rfl rfl (by (try simp only [am_]); first | done | rfl) ?_
             with_reducible refine (impl_in.calls ((rd_T70 l0 x7_1).f1) 0 10 true _ A10.out).mono ?_
             rintro e w' ⟨rfl, ⟨nd, rfl⟩⟩
             refine ⟨_, rfl, ?_⟩
             refine hK.out _ _ ⟨ck BK320.out 0 rfl, ck BK320.out 1 rfl, ck BK320.out 2 rfl, ((HB.out.cell (World.block_lt_of_cell? w _ hw324_0)).trans hw324_0), ((HB.out.cell (World.block_lt_of_cell? w _ hw324_1)).trans hw324_1), ((HB.out.cell (World.block_lt_of_cell? w _ hw324_2)).trans hw324_2)⟩ (fun hHeld => ?_)
             clear hK K
             refine norm_ (a' := ?_) ?_ ?_
             rotate_left
             ·
              show Act.put _ (some 19) _ = _
              simp only [sp_]
              rfl
             refine pq_ HT_.out 8 20 m9_31 ?_
             refine pq_ HT_.out 9 21 m10_31 ?_
             refine pq_ HT_.out 10 22 m11_31 ?_
             refine pq_ HT_.out 11 23 m12_31 ?_
             refine tk_ HT_.out HW_.out 12 24 m13_31 rfl rfl (by kernel_rfl) (by rfl) (by rintro w' ⟨s0, s1, s2, s3, s4, s5⟩; go_simp; with_reducible rfl) hHeld (by simp only [sp_]; rfl) (fun _ _ _ h => h) ?_
             refine one_ (i := 13) (N := some 25) m14_31 rfl rfl (one_of HT_.out (by kernel_rfl)) (by decide) (fun K hK => ?_)
             refine goes_ Try.func55 (by kernel_rfl) rfl #[.int .i64 ((rd_T70 l0 x7_1).f2), .int .i64 0, .int .i64 120] (by rfl) rfl rfl (by (try simp only [am_]); first | done | rfl) ?_
             with_reducible refine (impl_in.calls ((rd_T70 l0 x7_1).f2) 0 120 true _ A12.out).mono ?_
             rintro e w' ⟨rfl, ⟨nd, rfl⟩⟩
             refine ⟨_, rfl, ?_⟩
             refine hK.out _ _ ⟨ck BK320.out 0 rfl, ck BK320.out 1 rfl, ck BK320.out 2 rfl, ((HB.out.cell (World.block_lt_of_cell? w _ hw324_0)).trans hw324_0), ((HB.out.cell (World.block_lt_of_cell? w _ hw324_1)).trans hw324_1), ((HB.out.cell (World.block_lt_of_cell? w _ hw324_2)).trans hw324_2)⟩ (fun hHeld => ?_)
             clear hK K
             refine norm_ (a' := ?_) ?_ ?_
             rotate_left
             ·
              show Act.put _ (some 25) _ = _
              simp only [sp_]
              rfl
             refine pq_ HT_.out 14 26 m15_31 ?_
             refine pq_ HT_.out 15 27 m16_31 ?_
             refine pq_ HT_.out 16 28 m17_31 ?_
             refine pq_ HT_.out 17 29 m18_31 ?_
             refine pq_ HT_.out 18 30 m19_31 ?_
             refine pq_ HT_.out 19 31 m20_31 ?_
             refine pq_ HT_.out 20 32 m21_31 ?_
             refine pq_ HT_.out 21 33 m22_31 ?_
             refine pq_ HT_.out 22 34 m23_31 ?_
             refine pq_ HT_.out 23 35 m24_31 ?_
             refine pq_ HT_.out 24 36 m25_31 ?_
             refine pq_ HT_.out 26 38 n198 ?_
             refine tk_ HT_.out HW_.out 25 37 m27_31 rfl rfl (by kernel_rfl) (by rfl) (by rintro w' ⟨s0, s1, s2, s3, s4, s5⟩; go_simp; with_reducible rfl) hHeld (by simp only [sp_]; rfl) (fun _ _ _ h => h) ?_
             refine tk_ HT_.out HW_.out 27 39 m28_31 rfl rfl (by kernel_rfl) (by rfl) (by rintro w' ⟨s0, s1, s2, s3, s4, s5⟩; go_simp; with_reducible rfl) hHeld (by simp only [sp_]; rfl) (fun _ _ _ h => h) ?_
             refine pq_ HT_.out 28 40 m29_31 ?_
             refine pq_ HT_.out 29 41 m30_31 ?_
             refine pq_ HT_.out 30 42 m31_31 ?_
             refine done_ (done_of HT_.out (by kernel_rfl)) ?_
             try go_wp2
             go_meet
             case rel => exact ⟨_, (!(Op.bytesLess (((rd_T70 l0 (ji15)).f0).toList) (((rd_T70 l0 x7_1).f0).toList))), (by first | rfl | (simp; done) | (simp only [← hji15] <;> (first | rfl | simp)) | (simp [*]; done)), H', ⟨by have := HK1.out; first | omega | exact Nat.le_refl _⟩, ⟨bk BK320.out⟩, ⟨by repeat with_reducible first | exact bl HB.out | refine below_set ?_ GE320.out | refine bq ?_⟩⟩
            ·
             rw [if_neg c17] at H
             exact absurd H (by simp)
           ·
            rw [if_neg c16] at H
            exact absurd H (by simp)
          ·
           rw [if_neg c14] at H
           have c14b0 : decide (0 < x7_1) = false := decide_eq_false c14
           clear c14
           (first | rw [c14b0] | (simp only [i64_w, i32_w]; rw [c14b0]) | skip)
           have H' := Aside0.mk H
           clear H
           try go_wp2
           have n0_ : Aside0 ((((w6.setCell ⟨gb320, 0, none⟩ (.string ((rd_T70 l0 x7_1).f0))).setCell ⟨gb320, 1, none⟩ (.int .i64 ((rd_T70 l0 x7_1).f1))).setCell ⟨gb320, 2, none⟩ (.int .i64 ((rd_T70 l0 x7_1).f2))).heap[gb320]? = some (.cells #[.string ((rd_T70 l0 x7_1).f0), .int .i64 ((rd_T70 l0 x7_1).f1), .int .i64 ((rd_T70 l0 x7_1).f2)] 70 (0, 0))) := ⟨by (repeat refine bk1 ?_); refine blk_put (cs := #[.string ((rd_T70 l0 x7_1).f0), .int .i64 ((rd_T70 l0 x7_1).f1), .int .i64 0]) ?_ 2 _ rfl; (repeat refine bk1 ?_); refine blk_put (cs := #[.string ((rd_T70 l0 x7_1).f0), .int .i64 0, .int .i64 0]) ?_ 1 _ rfl; (repeat refine bk1 ?_); refine blk_put (cs := #[.string (⟨#[]⟩ : ByteArray), .int .i64 0, .int .i64 0]) ?_ 0 _ rfl; (repeat refine bk1 ?_); exact BK320.out⟩
           have n1_ : Aside0 (Below w.heap.size w (((w6.setCell ⟨gb320, 0, none⟩ (.string ((rd_T70 l0 x7_1).f0))).setCell ⟨gb320, 1, none⟩ (.int .i64 ((rd_T70 l0 x7_1).f1))).setCell ⟨gb320, 2, none⟩ (.int .i64 ((rd_T70 l0 x7_1).f2)))) := ⟨by repeat with_reducible first | exact bl HB.out | refine below_set ?_ GE320.out | refine bq ?_⟩
           (try clear BK320)
           (try clear HB)
           generalize (((w6.setCell ⟨gb320, 0, none⟩ (.string ((rd_T70 l0 x7_1).f0))).setCell ⟨gb320, 1, none⟩ (.int .i64 ((rd_T70 l0 x7_1).f1))).setCell ⟨gb320, 2, none⟩ (.int .i64 ((rd_T70 l0 x7_1).f2))) = w20 at n0_ n1_ ⊢
           have BK320 := n0_
           have HB := n1_
           clear n0_ n1_
           have n0_ := Aside0.mk (blk_drew BK320.out)
           have n1_ := Aside0.mk (below_drew1 HB.out)
           clear BK320
           clear HB
           have BK320 := n0_
           have HB := n1_
           clear n0_ n1_
           refine start_ (n := 31) (S := fun w' => w'.cell? ⟨gb320, 0, none⟩ = some (.string ((rd_T70 l0 x7_1).f0)) ∧ w'.cell? ⟨gb320, 1, none⟩ = some (.int .i64 ((rd_T70 l0 x7_1).f1)) ∧ w'.cell? ⟨gb320, 2, none⟩ = some (.int .i64 ((rd_T70 l0 x7_1).f2))) (ds := []) m0_31 (by kernel_rfl) rfl rfl ⟨ck BK320.out 0 rfl, ck BK320.out 1 rfl, ck BK320.out 2 rfl⟩ (fun hHeld => ?_); refine with_tabW impl_CarryOk.tab4 impl_CarryOk.bits4 (fun HT_ HW_ => ?_)
           generalize w20.drew = w21 at BK320 HB hHeld ⊢
           refine pq_ HT_.out 0 12 m1_31 ?_
           refine tk_ HT_.out HW_.out 1 13 m2_31 rfl rfl (by kernel_rfl) (by rfl) (by rintro w' ⟨s0, s1, s2⟩; go_simp; with_reducible rfl) hHeld (by simp only [sp_]; rfl) (fun _ _ _ h => h) ?_
           refine one_ (i := 2) (N := some 14) m3_31 rfl rfl (one_of HT_.out (by kernel_rfl)) (by decide) (fun K hK => ?_)
           refine goes_ Try.func51 (by kernel_rfl) rfl #[.string ((rd_T70 l0 x7_1).f0)] (by rfl) rfl rfl (by (try simp only [am_]); first | done | rfl) ?_
           with_reducible refine (impl_isName.calls k1 ((rd_T70 l0 x7_1).f0) true _ A8.out).mono ?_
           rintro e w' ⟨rfl, ⟨nd, rfl⟩⟩
           refine ⟨_, rfl, ?_⟩
           refine hK.out _ _ ⟨ck BK320.out 0 rfl, ck BK320.out 1 rfl, ck BK320.out 2 rfl⟩ (fun hHeld => ?_)
           clear hK K
           refine norm_ (a' := ?_) ?_ ?_
           rotate_left
           ·
            show Act.put _ (some 14) _ = _
            simp only [sp_]
            rfl
           refine pq_ HT_.out 3 15 m4_31 ?_
           refine pq_ HT_.out 4 16 m5_31 ?_
           refine pq_ HT_.out 5 17 m6_31 ?_
           refine tk_ HT_.out HW_.out 6 18 m7_31 rfl rfl (by kernel_rfl) (by rfl) (by rintro w' ⟨s0, s1, s2⟩; go_simp; with_reducible rfl) hHeld (by simp only [sp_]; rfl) (fun _ _ _ h => h) ?_
           refine one_ (i := 7) (N := some 19) m8_31 rfl rfl (one_of HT_.out (by kernel_rfl)) (by decide) (fun K hK => ?_)
           refine goes_ Try.func55 (by kernel_rfl) rfl #[.int .i64 ((rd_T70 l0 x7_1).f1), .int .i64 0, .int .i64 10] (by rfl) rfl rfl (by (try simp only [am_]); first | done | rfl) ?_
           with_reducible refine (impl_in.calls ((rd_T70 l0 x7_1).f1) 0 10 true _ A10.out).mono ?_
           rintro e w' ⟨rfl, ⟨nd, rfl⟩⟩
           refine ⟨_, rfl, ?_⟩
           refine hK.out _ _ ⟨ck BK320.out 0 rfl, ck BK320.out 1 rfl, ck BK320.out 2 rfl⟩ (fun hHeld => ?_)
           clear hK K
           refine norm_ (a' := ?_) ?_ ?_
           rotate_left
           ·
            show Act.put _ (some 19) _ = _
            simp only [sp_]
            rfl
           refine pq_ HT_.out 8 20 m9_31 ?_
           refine pq_ HT_.out 9 21 m10_31 ?_
           refine pq_ HT_.out 10 22 m11_31 ?_
           refine pq_ HT_.out 11 23 m12_31 ?_
           refine tk_ HT_.out HW_.out 12 24 m13_31 rfl rfl (by kernel_rfl) (by rfl) (by rintro w' ⟨s0, s1, s2⟩; go_simp; with_reducible rfl) hHeld (by simp only [sp_]; rfl) (fun _ _ _ h => h) ?_
           refine one_ (i := 13) (N := some 25) m14_31 rfl rfl (one_of HT_.out (by kernel_rfl)) (by decide) (fun K hK => ?_)
           refine goes_ Try.func55 (by kernel_rfl) rfl #[.int .i64 ((rd_T70 l0 x7_1).f2), .int .i64 0, .int .i64 120] (by rfl) rfl rfl (by (try simp only [am_]); first | done | rfl) ?_
           with_reducible refine (impl_in.calls ((rd_T70 l0 x7_1).f2) 0 120 true _ A12.out).mono ?_
           rintro e w' ⟨rfl, ⟨nd, rfl⟩⟩
           refine ⟨_, rfl, ?_⟩
           refine hK.out _ _ ⟨ck BK320.out 0 rfl, ck BK320.out 1 rfl, ck BK320.out 2 rfl⟩ (fun hHeld => ?_)
           clear hK K
           refine norm_ (a' := ?_) ?_ ?_
           rotate_left
           ·
            show Act.put _ (some 25) _ = _
            simp only [sp_]
            rfl
           refine pq_ HT_.out 14 26 m15_31 ?_
           refine pq_ HT_.out 15 27 m16_31 ?_
           refine pq_ HT_.out 16 28 m17_31 ?_
           refine pq_ HT_.out 17 29 m18_31 ?_
           refine pq_ HT_.out 18 30 m19_31 ?_
           refine pq_ HT_.out 19 31 m20_31 ?_
           refine pv_ HT_.out 20 32 m21_31 ?_
           refine pv_ HT_.out 21 33 m22_31 ?_
           refine pv_ HT_.out 22 34 m23_31 ?_
           refine pv_ HT_.out 23 35 m24_31 ?_
           refine pv_ HT_.out 24 36 m25_31 ?_
           refine pv_ HT_.out 25 37 m26_31 ?_
           refine pv_ HT_.out 26 38 m27_31 ?_
           refine pv_ HT_.out 27 39 m28_31 ?_
           refine pv_ HT_.out 28 40 m29_31 ?_
           refine pq_ HT_.out 29 41 m30_31 ?_
           refine pq_ HT_.out 30 42 m31_31 ?_
           refine done_ (done_of HT_.out (by kernel_rfl)) ?_
           try go_wp2
           go_meet
           case rel => exact ⟨_, (false), (by first | rfl | (simp; done) | (simp [*]; done)), H', ⟨by have := HK1.out; first | omega | exact Nat.le_refl _⟩, ⟨bk BK320.out⟩, ⟨by repeat with_reducible first | exact bl HB.out | refine below_set ?_ GE320.out | refine bq ?_⟩⟩
         ·
          replace c13 := Bool.eq_false_iff.mpr c13
          subst c13
          have H1 : (impl_CarryOk.j1 k1 l0 l0 (l0.length : Int) x7_1 true) = some r := by rw [if_neg (show ¬ (false = true) by decide)] at H; exact H
          clear H
          have H := H1
          clear H1
          have H' := Aside0.mk H
          clear H
          try go_wp2
          have n0_ : Aside0 ((((w6.setCell ⟨gb320, 0, none⟩ (.string ((rd_T70 l0 x7_1).f0))).setCell ⟨gb320, 1, none⟩ (.int .i64 ((rd_T70 l0 x7_1).f1))).setCell ⟨gb320, 2, none⟩ (.int .i64 ((rd_T70 l0 x7_1).f2))).heap[gb320]? = some (.cells #[.string ((rd_T70 l0 x7_1).f0), .int .i64 ((rd_T70 l0 x7_1).f1), .int .i64 ((rd_T70 l0 x7_1).f2)] 70 (0, 0))) := ⟨by (repeat refine bk1 ?_); refine blk_put (cs := #[.string ((rd_T70 l0 x7_1).f0), .int .i64 ((rd_T70 l0 x7_1).f1), .int .i64 0]) ?_ 2 _ rfl; (repeat refine bk1 ?_); refine blk_put (cs := #[.string ((rd_T70 l0 x7_1).f0), .int .i64 0, .int .i64 0]) ?_ 1 _ rfl; (repeat refine bk1 ?_); refine blk_put (cs := #[.string (⟨#[]⟩ : ByteArray), .int .i64 0, .int .i64 0]) ?_ 0 _ rfl; (repeat refine bk1 ?_); exact BK320.out⟩
          have n1_ : Aside0 (Below w.heap.size w (((w6.setCell ⟨gb320, 0, none⟩ (.string ((rd_T70 l0 x7_1).f0))).setCell ⟨gb320, 1, none⟩ (.int .i64 ((rd_T70 l0 x7_1).f1))).setCell ⟨gb320, 2, none⟩ (.int .i64 ((rd_T70 l0 x7_1).f2)))) := ⟨by repeat with_reducible first | exact bl HB.out | refine below_set ?_ GE320.out | refine bq ?_⟩
          (try clear BK320)
          (try clear HB)
          generalize (((w6.setCell ⟨gb320, 0, none⟩ (.string ((rd_T70 l0 x7_1).f0))).setCell ⟨gb320, 1, none⟩ (.int .i64 ((rd_T70 l0 x7_1).f1))).setCell ⟨gb320, 2, none⟩ (.int .i64 ((rd_T70 l0 x7_1).f2))) = w22 at n0_ n1_ ⊢
          have BK320 := n0_
          have HB := n1_
          clear n0_ n1_
          have n0_ := Aside0.mk (blk_drew BK320.out)
          have n1_ := Aside0.mk (below_drew1 HB.out)
          clear BK320
          clear HB
          have BK320 := n0_
          have HB := n1_
          clear n0_ n1_
          refine start_ (n := 31) (S := fun w' => w'.cell? ⟨gb320, 0, none⟩ = some (.string ((rd_T70 l0 x7_1).f0)) ∧ w'.cell? ⟨gb320, 1, none⟩ = some (.int .i64 ((rd_T70 l0 x7_1).f1)) ∧ w'.cell? ⟨gb320, 2, none⟩ = some (.int .i64 ((rd_T70 l0 x7_1).f2))) (ds := []) m0_31 (by kernel_rfl) rfl rfl ⟨ck BK320.out 0 rfl, ck BK320.out 1 rfl, ck BK320.out 2 rfl⟩ (fun hHeld => ?_); refine with_tabW impl_CarryOk.tab4 impl_CarryOk.bits4 (fun HT_ HW_ => ?_)
          generalize w22.drew = w23 at BK320 HB hHeld ⊢
          refine pq_ HT_.out 0 12 m1_31 ?_
          refine tk_ HT_.out HW_.out 1 13 m2_31 rfl rfl (by kernel_rfl) (by rfl) (by rintro w' ⟨s0, s1, s2⟩; go_simp; with_reducible rfl) hHeld (by simp only [sp_]; rfl) (fun _ _ _ h => h) ?_
          refine one_ (i := 2) (N := some 14) m3_31 rfl rfl (one_of HT_.out (by kernel_rfl)) (by decide) (fun K hK => ?_)
          refine goes_ Try.func51 (by kernel_rfl) rfl #[.string ((rd_T70 l0 x7_1).f0)] (by rfl) rfl rfl (by (try simp only [am_]); first | done | rfl) ?_
          with_reducible refine (impl_isName.calls k1 ((rd_T70 l0 x7_1).f0) true _ A8.out).mono ?_
          rintro e w' ⟨rfl, ⟨nd, rfl⟩⟩
          refine ⟨_, rfl, ?_⟩
          refine hK.out _ _ ⟨ck BK320.out 0 rfl, ck BK320.out 1 rfl, ck BK320.out 2 rfl⟩ (fun hHeld => ?_)
          clear hK K
          refine norm_ (a' := ?_) ?_ ?_
          rotate_left
          ·
           show Act.put _ (some 14) _ = _
           simp only [sp_]
           rfl
          refine pq_ HT_.out 3 15 m4_31 ?_
          refine pq_ HT_.out 4 16 m5_31 ?_
          refine pq_ HT_.out 5 17 m6_31 ?_
          refine tk_ HT_.out HW_.out 6 18 m7_31 rfl rfl (by kernel_rfl) (by rfl) (by rintro w' ⟨s0, s1, s2⟩; go_simp; with_reducible rfl) hHeld (by simp only [sp_]; rfl) (fun _ _ _ h => h) ?_
          refine one_ (i := 7) (N := some 19) m8_31 rfl rfl (one_of HT_.out (by kernel_rfl)) (by decide) (fun K hK => ?_)
          refine goes_ Try.func55 (by kernel_rfl) rfl #[.int .i64 ((rd_T70 l0 x7_1).f1), .int .i64 0, .int .i64 10] (by rfl) rfl rfl (by (try simp only [am_]); first | done | rfl) ?_
          with_reducible refine (impl_in.calls ((rd_T70 l0 x7_1).f1) 0 10 true _ A10.out).mono ?_
          rintro e w' ⟨rfl, ⟨nd, rfl⟩⟩
          refine ⟨_, rfl, ?_⟩
          refine hK.out _ _ ⟨ck BK320.out 0 rfl, ck BK320.out 1 rfl, ck BK320.out 2 rfl⟩ (fun hHeld => ?_)
          clear hK K
          refine norm_ (a' := ?_) ?_ ?_
          rotate_left
          ·
           show Act.put _ (some 19) _ = _
           simp only [sp_]
           rfl
          refine pq_ HT_.out 8 20 m9_31 ?_
          refine pq_ HT_.out 9 21 m10_31 ?_
          refine pq_ HT_.out 10 22 m11_31 ?_
          refine pq_ HT_.out 11 23 m12_31 ?_
          refine tk_ HT_.out HW_.out 12 24 m13_31 rfl rfl (by kernel_rfl) (by rfl) (by rintro w' ⟨s0, s1, s2⟩; go_simp; with_reducible rfl) hHeld (by simp only [sp_]; rfl) (fun _ _ _ h => h) ?_
          refine one_ (i := 13) (N := some 25) m14_31 rfl rfl (one_of HT_.out (by kernel_rfl)) (by decide) (fun K hK => ?_)
          refine goes_ Try.func55 (by kernel_rfl) rfl #[.int .i64 ((rd_T70 l0 x7_1).f2), .int .i64 0, .int .i64 120] (by rfl) rfl rfl (by (try simp only [am_]); first | done | rfl) ?_
          with_reducible refine (impl_in.calls ((rd_T70 l0 x7_1).f2) 0 120 false _ A12.out).mono ?_
          rintro e w' ⟨rfl, ⟨nd, rfl⟩⟩
          refine ⟨_, rfl, ?_⟩
          refine hK.out _ _ ⟨ck BK320.out 0 rfl, ck BK320.out 1 rfl, ck BK320.out 2 rfl⟩ (fun hHeld => ?_)
          clear hK K
          refine norm_ (a' := ?_) ?_ ?_
          rotate_left
          ·
           show Act.put _ (some 25) _ = _
           simp only [sp_]
           rfl
          refine pq_ HT_.out 14 26 m15_31 ?_
          refine pq_ HT_.out 15 27 m16_31 ?_
          refine pq_ HT_.out 16 28 m17_31 ?_
          refine pv_ HT_.out 17 29 m18_31 ?_
          refine pv_ HT_.out 18 30 m19_31 ?_
          refine pv_ HT_.out 19 31 m20_31 ?_
          refine pv_ HT_.out 20 32 m21_31 ?_
          refine pv_ HT_.out 21 33 m22_31 ?_
          refine pv_ HT_.out 22 34 m23_31 ?_
          refine pv_ HT_.out 23 35 m24_31 ?_
          refine pv_ HT_.out 24 36 m25_31 ?_
          refine pv_ HT_.out 25 37 m26_31 ?_
          refine pv_ HT_.out 26 38 m27_31 ?_
          refine pv_ HT_.out 27 39 m28_31 ?_
          refine pv_ HT_.out 28 40 m29_31 ?_
          refine pv_ HT_.out 29 41 m30_31 ?_
          refine pq_ HT_.out 30 42 m31_31 ?_
          refine done_ (done_of HT_.out (by kernel_rfl)) ?_
          try go_wp2
          go_meet
          case rel => exact ⟨_, (true), (by first | rfl | (simp; done) | (simp [*]; done)), H', ⟨by have := HK1.out; first | omega | exact Nat.le_refl _⟩, ⟨bk BK320.out⟩, ⟨by repeat with_reducible first | exact bl HB.out | refine below_set ?_ GE320.out | refine bq ?_⟩⟩
        ·
         replace c11 := Bool.eq_false_iff.mpr c11
         subst c11
         have H1 : (impl_CarryOk.j1 k1 l0 l0 (l0.length : Int) x7_1 true) = some r := by rw [if_neg (show ¬ (false = true) by decide)] at H; exact H
         clear H
         have H := H1
         clear H1
         have H' := Aside0.mk H
         clear H
         try go_wp2
         have n0_ : Aside0 ((((w6.setCell ⟨gb320, 0, none⟩ (.string ((rd_T70 l0 x7_1).f0))).setCell ⟨gb320, 1, none⟩ (.int .i64 ((rd_T70 l0 x7_1).f1))).setCell ⟨gb320, 2, none⟩ (.int .i64 ((rd_T70 l0 x7_1).f2))).heap[gb320]? = some (.cells #[.string ((rd_T70 l0 x7_1).f0), .int .i64 ((rd_T70 l0 x7_1).f1), .int .i64 ((rd_T70 l0 x7_1).f2)] 70 (0, 0))) := ⟨by (repeat refine bk1 ?_); refine blk_put (cs := #[.string ((rd_T70 l0 x7_1).f0), .int .i64 ((rd_T70 l0 x7_1).f1), .int .i64 0]) ?_ 2 _ rfl; (repeat refine bk1 ?_); refine blk_put (cs := #[.string ((rd_T70 l0 x7_1).f0), .int .i64 0, .int .i64 0]) ?_ 1 _ rfl; (repeat refine bk1 ?_); refine blk_put (cs := #[.string (⟨#[]⟩ : ByteArray), .int .i64 0, .int .i64 0]) ?_ 0 _ rfl; (repeat refine bk1 ?_); exact BK320.out⟩
         have n1_ : Aside0 (Below w.heap.size w (((w6.setCell ⟨gb320, 0, none⟩ (.string ((rd_T70 l0 x7_1).f0))).setCell ⟨gb320, 1, none⟩ (.int .i64 ((rd_T70 l0 x7_1).f1))).setCell ⟨gb320, 2, none⟩ (.int .i64 ((rd_T70 l0 x7_1).f2)))) := ⟨by repeat with_reducible first | exact bl HB.out | refine below_set ?_ GE320.out | refine bq ?_⟩
         (try clear BK320)
         (try clear HB)
         generalize (((w6.setCell ⟨gb320, 0, none⟩ (.string ((rd_T70 l0 x7_1).f0))).setCell ⟨gb320, 1, none⟩ (.int .i64 ((rd_T70 l0 x7_1).f1))).setCell ⟨gb320, 2, none⟩ (.int .i64 ((rd_T70 l0 x7_1).f2))) = w24 at n0_ n1_ ⊢
         have BK320 := n0_
         have HB := n1_
         clear n0_ n1_
         have n0_ := Aside0.mk (blk_drew BK320.out)
         have n1_ := Aside0.mk (below_drew1 HB.out)
         clear BK320
         clear HB
         have BK320 := n0_
         have HB := n1_
         clear n0_ n1_
         refine start_ (n := 31) (S := fun w' => w'.cell? ⟨gb320, 0, none⟩ = some (.string ((rd_T70 l0 x7_1).f0)) ∧ w'.cell? ⟨gb320, 1, none⟩ = some (.int .i64 ((rd_T70 l0 x7_1).f1)) ∧ w'.cell? ⟨gb320, 2, none⟩ = some (.int .i64 ((rd_T70 l0 x7_1).f2))) (ds := []) m0_31 (by kernel_rfl) rfl rfl ⟨ck BK320.out 0 rfl, ck BK320.out 1 rfl, ck BK320.out 2 rfl⟩ (fun hHeld => ?_); refine with_tabW impl_CarryOk.tab4 impl_CarryOk.bits4 (fun HT_ HW_ => ?_)
         generalize w24.drew = w25 at BK320 HB hHeld ⊢
         refine pq_ HT_.out 0 12 m1_31 ?_
         refine tk_ HT_.out HW_.out 1 13 m2_31 rfl rfl (by kernel_rfl) (by rfl) (by rintro w' ⟨s0, s1, s2⟩; go_simp; with_reducible rfl) hHeld (by simp only [sp_]; rfl) (fun _ _ _ h => h) ?_
         refine one_ (i := 2) (N := some 14) m3_31 rfl rfl (one_of HT_.out (by kernel_rfl)) (by decide) (fun K hK => ?_)
         refine goes_ Try.func51 (by kernel_rfl) rfl #[.string ((rd_T70 l0 x7_1).f0)] (by rfl) rfl rfl (by (try simp only [am_]); first | done | rfl) ?_
         with_reducible refine (impl_isName.calls k1 ((rd_T70 l0 x7_1).f0) true _ A8.out).mono ?_
         rintro e w' ⟨rfl, ⟨nd, rfl⟩⟩
         refine ⟨_, rfl, ?_⟩
         refine hK.out _ _ ⟨ck BK320.out 0 rfl, ck BK320.out 1 rfl, ck BK320.out 2 rfl⟩ (fun hHeld => ?_)
         clear hK K
         refine norm_ (a' := ?_) ?_ ?_
         rotate_left
         ·
          show Act.put _ (some 14) _ = _
          simp only [sp_]
          rfl
         refine pq_ HT_.out 3 15 m4_31 ?_
         refine pq_ HT_.out 4 16 m5_31 ?_
         refine pq_ HT_.out 5 17 m6_31 ?_
         refine tk_ HT_.out HW_.out 6 18 m7_31 rfl rfl (by kernel_rfl) (by rfl) (by rintro w' ⟨s0, s1, s2⟩; go_simp; with_reducible rfl) hHeld (by simp only [sp_]; rfl) (fun _ _ _ h => h) ?_
         refine one_ (i := 7) (N := some 19) m8_31 rfl rfl (one_of HT_.out (by kernel_rfl)) (by decide) (fun K hK => ?_)
         refine goes_ Try.func55 (by kernel_rfl) rfl #[.int .i64 ((rd_T70 l0 x7_1).f1), .int .i64 0, .int .i64 10] (by rfl) rfl rfl (by (try simp only [am_]); first | done | rfl) ?_
         with_reducible refine (impl_in.calls ((rd_T70 l0 x7_1).f1) 0 10 false _ A10.out).mono ?_
         rintro e w' ⟨rfl, ⟨nd, rfl⟩⟩
         refine ⟨_, rfl, ?_⟩
         refine hK.out _ _ ⟨ck BK320.out 0 rfl, ck BK320.out 1 rfl, ck BK320.out 2 rfl⟩ (fun hHeld => ?_)
         clear hK K
         refine norm_ (a' := ?_) ?_ ?_
         rotate_left
         ·
          show Act.put _ (some 19) _ = _
          simp only [sp_]
          rfl
         refine pq_ HT_.out 8 20 m9_31 ?_
         refine pq_ HT_.out 9 21 m10_31 ?_
         refine pq_ HT_.out 10 22 m11_31 ?_
         refine pv_ HT_.out 11 23 m12_31 ?_
         refine pv_ HT_.out 12 24 m13_31 ?_
         refine pv_ HT_.out 13 25 m14_31 ?_
         refine pv_ HT_.out 14 26 m15_31 ?_
         refine pq_ HT_.out 15 27 m16_31 ?_
         refine pq_ HT_.out 16 28 m17_31 ?_
         refine pv_ HT_.out 17 29 m18_31 ?_
         refine pv_ HT_.out 18 30 m19_31 ?_
         refine pv_ HT_.out 19 31 m20_31 ?_
         refine pv_ HT_.out 20 32 m21_31 ?_
         refine pv_ HT_.out 21 33 m22_31 ?_
         refine pv_ HT_.out 22 34 m23_31 ?_
         refine pv_ HT_.out 23 35 m24_31 ?_
         refine pv_ HT_.out 24 36 m25_31 ?_
         refine pv_ HT_.out 25 37 m26_31 ?_
         refine pv_ HT_.out 26 38 m27_31 ?_
         refine pv_ HT_.out 27 39 m28_31 ?_
         refine pv_ HT_.out 28 40 m29_31 ?_
         refine pv_ HT_.out 29 41 m30_31 ?_
         refine pq_ HT_.out 30 42 m31_31 ?_
         refine done_ (done_of HT_.out (by kernel_rfl)) ?_
         try go_wp2
         go_meet
         case rel => exact ⟨_, (true), (by first | rfl | (simp; done) | (simp [*]; done)), H', ⟨by have := HK1.out; first | omega | exact Nat.le_refl _⟩, ⟨bk BK320.out⟩, ⟨by repeat with_reducible first | exact bl HB.out | refine below_set ?_ GE320.out | refine bq ?_⟩⟩
       ·
        replace c9 := Bool.eq_false_iff.mpr c9
        subst c9
        have H1 : (impl_CarryOk.j1 k1 l0 l0 (l0.length : Int) x7_1 true) = some r := by rw [if_neg (show ¬ (false = true) by decide)] at H; exact H
        clear H
        have H := H1
        clear H1
        have H' := Aside0.mk H
        clear H
        try go_wp2
        have n0_ : Aside0 ((((w6.setCell ⟨gb320, 0, none⟩ (.string ((rd_T70 l0 x7_1).f0))).setCell ⟨gb320, 1, none⟩ (.int .i64 ((rd_T70 l0 x7_1).f1))).setCell ⟨gb320, 2, none⟩ (.int .i64 ((rd_T70 l0 x7_1).f2))).heap[gb320]? = some (.cells #[.string ((rd_T70 l0 x7_1).f0), .int .i64 ((rd_T70 l0 x7_1).f1), .int .i64 ((rd_T70 l0 x7_1).f2)] 70 (0, 0))) := ⟨by (repeat refine bk1 ?_); refine blk_put (cs := #[.string ((rd_T70 l0 x7_1).f0), .int .i64 ((rd_T70 l0 x7_1).f1), .int .i64 0]) ?_ 2 _ rfl; (repeat refine bk1 ?_); refine blk_put (cs := #[.string ((rd_T70 l0 x7_1).f0), .int .i64 0, .int .i64 0]) ?_ 1 _ rfl; (repeat refine bk1 ?_); refine blk_put (cs := #[.string (⟨#[]⟩ : ByteArray), .int .i64 0, .int .i64 0]) ?_ 0 _ rfl; (repeat refine bk1 ?_); exact BK320.out⟩
        have n1_ : Aside0 (Below w.heap.size w (((w6.setCell ⟨gb320, 0, none⟩ (.string ((rd_T70 l0 x7_1).f0))).setCell ⟨gb320, 1, none⟩ (.int .i64 ((rd_T70 l0 x7_1).f1))).setCell ⟨gb320, 2, none⟩ (.int .i64 ((rd_T70 l0 x7_1).f2)))) := ⟨by repeat with_reducible first | exact bl HB.out | refine below_set ?_ GE320.out | refine bq ?_⟩
        (try clear BK320)
        (try clear HB)
        generalize (((w6.setCell ⟨gb320, 0, none⟩ (.string ((rd_T70 l0 x7_1).f0))).setCell ⟨gb320, 1, none⟩ (.int .i64 ((rd_T70 l0 x7_1).f1))).setCell ⟨gb320, 2, none⟩ (.int .i64 ((rd_T70 l0 x7_1).f2))) = w26 at n0_ n1_ ⊢
        have BK320 := n0_
        have HB := n1_
        clear n0_ n1_
        have n0_ := Aside0.mk (blk_drew BK320.out)
        have n1_ := Aside0.mk (below_drew1 HB.out)
        clear BK320
        clear HB
        have BK320 := n0_
        have HB := n1_
        clear n0_ n1_
        refine start_ (n := 31) (S := fun w' => w'.cell? ⟨gb320, 0, none⟩ = some (.string ((rd_T70 l0 x7_1).f0)) ∧ w'.cell? ⟨gb320, 1, none⟩ = some (.int .i64 ((rd_T70 l0 x7_1).f1)) ∧ w'.cell? ⟨gb320, 2, none⟩ = some (.int .i64 ((rd_T70 l0 x7_1).f2))) (ds := []) m0_31 (by kernel_rfl) rfl rfl ⟨ck BK320.out 0 rfl, ck BK320.out 1 rfl, ck BK320.out 2 rfl⟩ (fun hHeld => ?_); refine with_tabW impl_CarryOk.tab4 impl_CarryOk.bits4 (fun HT_ HW_ => ?_)
        generalize w26.drew = w27 at BK320 HB hHeld ⊢
        refine pq_ HT_.out 0 12 m1_31 ?_
        refine tk_ HT_.out HW_.out 1 13 m2_31 rfl rfl (by kernel_rfl) (by rfl) (by rintro w' ⟨s0, s1, s2⟩; go_simp; with_reducible rfl) hHeld (by simp only [sp_]; rfl) (fun _ _ _ h => h) ?_
        refine one_ (i := 2) (N := some 14) m3_31 rfl rfl (one_of HT_.out (by kernel_rfl)) (by decide) (fun K hK => ?_)
        refine goes_ Try.func51 (by kernel_rfl) rfl #[.string ((rd_T70 l0 x7_1).f0)] (by rfl) rfl rfl (by (try simp only [am_]); first | done | rfl) ?_
        with_reducible refine (impl_isName.calls k1 ((rd_T70 l0 x7_1).f0) false _ A8.out).mono ?_
        rintro e w' ⟨rfl, ⟨nd, rfl⟩⟩
        refine ⟨_, rfl, ?_⟩
        refine hK.out _ _ ⟨ck BK320.out 0 rfl, ck BK320.out 1 rfl, ck BK320.out 2 rfl⟩ (fun hHeld => ?_)
        clear hK K
        refine norm_ (a' := ?_) ?_ ?_
        rotate_left
        ·
         show Act.put _ (some 14) _ = _
         simp only [sp_]
         rfl
        refine pq_ HT_.out 3 15 m4_31 ?_
        refine pq_ HT_.out 4 16 m5_31 ?_
        refine pv_ HT_.out 5 17 m6_31 ?_
        refine pv_ HT_.out 6 18 m7_31 ?_
        refine pv_ HT_.out 7 19 m8_31 ?_
        refine pv_ HT_.out 8 20 m9_31 ?_
        refine pq_ HT_.out 9 21 m10_31 ?_
        refine pq_ HT_.out 10 22 m11_31 ?_
        refine pv_ HT_.out 11 23 m12_31 ?_
        refine pv_ HT_.out 12 24 m13_31 ?_
        refine pv_ HT_.out 13 25 m14_31 ?_
        refine pv_ HT_.out 14 26 m15_31 ?_
        refine pq_ HT_.out 15 27 m16_31 ?_
        refine pq_ HT_.out 16 28 m17_31 ?_
        refine pv_ HT_.out 17 29 m18_31 ?_
        refine pv_ HT_.out 18 30 m19_31 ?_
        refine pv_ HT_.out 19 31 m20_31 ?_
        refine pv_ HT_.out 20 32 m21_31 ?_
        refine pv_ HT_.out 21 33 m22_31 ?_
        refine pv_ HT_.out 22 34 m23_31 ?_
        refine pv_ HT_.out 23 35 m24_31 ?_
        refine pv_ HT_.out 24 36 m25_31 ?_
        refine pv_ HT_.out 25 37 m26_31 ?_
        refine pv_ HT_.out 26 38 m27_31 ?_
        refine pv_ HT_.out 27 39 m28_31 ?_
        refine pv_ HT_.out 28 40 m29_31 ?_
        refine pv_ HT_.out 29 41 m30_31 ?_
        refine pq_ HT_.out 30 42 m31_31 ?_
        refine done_ (done_of HT_.out (by kernel_rfl)) ?_
        try go_wp2
        go_meet
        case rel => exact ⟨_, (true), (by first | rfl | (simp; done) | (simp [*]; done)), H', ⟨by have := HK1.out; first | omega | exact Nat.le_refl _⟩, ⟨bk BK320.out⟩, ⟨by repeat with_reducible first | exact bl HB.out | refine below_set ?_ GE320.out | refine bq ?_⟩⟩
      case rest =>
       clear HC5
       try clear c1
       try clear p2
       try clear c5
       try clear c9
       try clear c11
       obtain ⟨kq, x42_4, rfl, HA, HJ4, BK320, HB⟩ := hcut
       cases kq with
       | zero => exact absurd HA.out (by simp [impl_CarryOk.j1])
       | succ kj4 =>
        have H := HA.out
        clear HA
        simp only [impl_CarryOk.j1] at H
        by_cases c28 : x42_4 = true
        ·
         subst c28
         have H1 : (some false) = some r := by rw [if_pos rfl] at H; exact H
         clear H
         have H := H1
         clear H1
         obtain rfl := Option.some.inj H
         go_wp2
         go_ret
         exact ⟨by first | rfl | (simp [errW_none, errW_some] <;> rfl) | (simp [*, errW_none, errW_some] <;> rfl), by repeat with_reducible first | exact bl HB.out | refine below_set ?_ GE320.out | refine bq ?_⟩
        ·
         replace c28 := Bool.eq_false_iff.mpr c28
         subst c28
         have H1 : (impl_CarryOk.l0 kj4 l0 l0 (l0.length : Int) (wrap64 (x7_1 + 1))) = some r := by rw [if_neg (show ¬ (false = true) by decide)] at H; exact H
         clear H
         have H := H1
         clear H1
         have H' := Aside0.mk H
         clear H
         go_wp2
         go_roundg kj4
         case measure => have := HK1.out; have := HJ4.out; omega
         case rel => exact ⟨(wrap64 (x7_1 + 1)), (by first | rfl | (simp; done) | (simp [*]; done)), H', ⟨by have := HK1.out; have := HJ4.out; omega⟩, ⟨by repeat with_reducible first | exact bl HB.out | refine below_set ?_ GE320.out | refine bq ?_⟩⟩
     ·
      rw [if_neg c4] at H
      exact absurd H (by simp)
    ·
     rw [if_neg c3] at H
     exact absurd H (by simp)
   ·
    rw [if_neg c2] at H
    have c2b0 : decide (x7_1 < (l0.length : Int)) = false := decide_eq_false c2
    clear c2
    obtain rfl := Option.some.inj H
    go_wp2
    go_ret
    exact ⟨by first | rfl | (simp [errW_none, errW_some] <;> rfl) | (simp [*, errW_none, errW_some] <;> rfl), bl HB.out⟩

end Go.Proofs.Ytbgdibbgngpggaa.PFnExactNextDue
