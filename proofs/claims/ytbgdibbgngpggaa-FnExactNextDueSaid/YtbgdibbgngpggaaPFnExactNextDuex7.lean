-- Written by a program of this session (wip/xprint.py) out of the translation; Lean checks it.
import Derived.Test.YtbgdibbgngpggaaPFnExactNextDuex0
import Derived.Test.YtbgdibbgngpggaaPFnExactNextDuex4
namespace Go.Proofs.Ytbgdibbgngpggaa.PFnExactNextDue
open Go.RowKit Go.Proofs.YtbgdibbgngpggaaW.PrintWords Go.Proofs.YtbgdibbgngpggaaW.PrintLast Go.Proofs.YtbgdibbgngpggaaW.PrintMore Go.Proofs.Ytbgdibbgngpggaa.Sq
attribute [local go_sem] max2_int min2_int max_two min_two max_three min_three max_four min_four   -- for this text's walks alone
set_option linter.unusedVariables false
set_option linter.unusedSimpArgs false

/-! ### spec_CarryOk: function 21 -/
mutual
def spec_CarryOk.l0 : Nat → List (S70) → Int → Option (Bool)
 | 0, _, _ => none
 | k + 1, x0, x3 => if x3 < (x0.length : Int) then (if 0 ≤ x3 then ((spec_l1Name.f k ((rd_T70 x0 x3).f0)).bind fun t224 => (if t224 = true then (if x3 > 0 then (if 0 ≤ (wrap64 (x3 - 1)) then (if (wrap64 (x3 - 1)) < (x0.length : Int) then (if ((Op.bytesLess (((rd_T70 x0 (wrap64 (x3 - 1))).f0).toList) (((rd_T70 x0 x3).f0).toList)) = true) then ((spec_l1In.f ((rd_T70 x0 x3).f1) 0 10).bind fun t226 => (if t226 = true then ((spec_l1In.f ((rd_T70 x0 x3).f2) 0 120).bind fun t227 => (spec_CarryOk.j1 k x0 x3 (!t227))) else (spec_CarryOk.j1 k x0 x3 true))) else (spec_CarryOk.j1 k x0 x3 true)) else (none)) else (none)) else ((spec_l1In.f ((rd_T70 x0 x3).f1) 0 10).bind fun t228 => (if t228 = true then ((spec_l1In.f ((rd_T70 x0 x3).f2) 0 120).bind fun t229 => (spec_CarryOk.j1 k x0 x3 (!t229))) else (spec_CarryOk.j1 k x0 x3 true)))) else (spec_CarryOk.j1 k x0 x3 true))) else (none)) else (some (decide ((x0.length : Int) ≤ 20)))
def spec_CarryOk.j1 : Nat → List (S70) → Int → Bool → Option (Bool)
 | 0, _, _, _ => none
 | k + 1, x0, x3, x45 => if x45 = true then (some false) else (spec_CarryOk.l0 k x0 (wrap64 (x3 + 1)))
end
def spec_CarryOk.f (k : Nat) (l0 : List (S70)) : Option (Bool) := spec_CarryOk.l0 k l0 0
theorem spec_CarryOk.mono_l : ∀ k, (∀ y0 y1, LeO (spec_CarryOk.l0 k y0 y1) (spec_CarryOk.l0 (k + 1) y0 y1)) ∧ (∀ y0 y1 y2, LeO (spec_CarryOk.j1 k y0 y1 y2) (spec_CarryOk.j1 (k + 1) y0 y1 y2))
 | 0 => ⟨fun _ _ r h => by simp [spec_CarryOk.l0] at h, fun _ _ _ r h => by simp [spec_CarryOk.j1] at h⟩
 | k + 1 => by
  obtain ⟨ih0, ih1⟩ := spec_CarryOk.mono_l k
  refine ⟨?_, ?_⟩
  ·
   intro y0 y1
   unfold spec_CarryOk.l0
   repeat' first
   | (with_reducible exact ih0 _ _)
   | (with_reducible exact ih1 _ _ _)
   | (with_reducible exact spec_l1Name.mono _ _)
   | (with_reducible exact LeO.refl _)
   | (with_reducible exact LeO.none _)
   | (with_reducible refine LeO.ite ?_ ?_)
   | (with_reducible refine LeO.bind ?_ (fun _ => ?_))
   | exact ih0 _ _
   | exact ih1 _ _ _
   | exact spec_l1Name.mono _ _
   | exact LeO.none _
   | refine LeO.ite ?_ ?_
   | refine LeO.bind ?_ (fun _ => ?_)
  ·
   intro y0 y1 y2
   unfold spec_CarryOk.j1
   repeat' first
   | (with_reducible exact ih0 _ _)
   | (with_reducible exact ih1 _ _ _)
   | (with_reducible exact spec_l1Name.mono _ _)
   | (with_reducible exact LeO.refl _)
   | (with_reducible exact LeO.none _)
   | (with_reducible refine LeO.ite ?_ ?_)
   | (with_reducible refine LeO.bind ?_ (fun _ => ?_))
   | exact ih0 _ _
   | exact ih1 _ _ _
   | exact spec_l1Name.mono _ _
   | exact LeO.none _
   | refine LeO.ite ?_ ?_
   | refine LeO.bind ?_ (fun _ => ?_)
theorem spec_CarryOk.mono : ∀ a0 k, LeO (spec_CarryOk.f k a0) (spec_CarryOk.f (k + 1) a0) := by
 intro a0 k
 obtain ⟨ih0, ih1⟩ := spec_CarryOk.mono_l k
 unfold spec_CarryOk.f
 repeat' first
   | (with_reducible exact ih0 _ _)
   | (with_reducible exact ih1 _ _ _)
   | (with_reducible exact spec_l1Name.mono _ _)
   | (with_reducible exact LeO.refl _)
   | (with_reducible exact LeO.none _)
   | (with_reducible refine LeO.ite ?_ ?_)
   | (with_reducible refine LeO.bind ?_ (fun _ => ?_))
   | exact ih0 _ _
   | exact ih1 _ _ _
   | exact spec_l1Name.mono _ _
   | exact LeO.none _
   | refine LeO.ite ?_ ?_
   | refine LeO.bind ?_ (fun _ => ?_)
def spec_CarryOk.T5 : Bool × List (List Nat × List Nat) := (true, [([], []), ([0], [0]), ([1], [1]), ([2], [2]), ([3, 2], [3]), ([4], [4]), ([5, 4], [4, 5]), ([6, 4, 4], [4, 6]), ([7], [7]), ([7], [7]), ([9, 7], [7, 9]), ([8, 10, 7], [7, 8, 10]), ([11, 7], [7, 11]), ([12, 7], [7, 12]), ([7], [7]), ([14, 7], [7, 14]), ([13, 15, 7], [7, 13, 15]), ([7, 16, 4], [4, 7, 16]), ([4, 17], [4, 17]), ([18, 7], [18]), ([19], [19]), ([20, 19], [19, 20]), ([21, 19, 19], [19, 21]), ([22, 19], [19, 22]), ([19, 23], [19, 23]), ([24, 22], [24]), ([25], [25]), ([26, 25], [25, 26]), ([27, 25, 25], [25, 27]), ([28, 25], [25, 28]), ([25, 29], [25, 29])])
def spec_CarryOk.B5 : List Nat := [0, 1, 3, 7, 15, 31, 63, 127, 255, 255, 767, 2047, 4095, 8191, 255, 16639, 65535, 131071, 262143, 524287, 1048575, 2097151, 4194303, 8388607, 16777215, 33554431, 67108863, 134217727, 268435455, 536870911, 1073741823]
theorem spec_CarryOk.tab5 : rtab .any (opsOf Try.f21 5) = spec_CarryOk.T5 := by kernel_rfl
theorem spec_CarryOk.bits5 : waitsOk spec_CarryOk.T5.2 spec_CarryOk.B5 = true := by kernel_rfl
set_option maxHeartbeats 8000000 in
set_option maxRecDepth 100000 in
theorem spec_CarryOk.calls (k : Nat) (A0 : Option Addr) (c0 : Nat) (l0 : List (S70)) (r : Bool) (w : World) (hr0 : Kd.C k70 w A0 l0.length l0) (hc0 : l0.length ≤ c0) (h : spec_CarryOk.f k l0 = some r) :
  Calls Try.prog 21 #[.slice A0 l0.length c0] w fun e w' => e = .returned (.bool r) ∧ Below w.heap.size w w' := by
 have hu70 := Try.underlying70
 have HR0 := Aside0.mk hr0
 have HC0 := Aside0.mk hc0
 clear hr0 hc0
 have HB := Aside0.mk (Below.refl w.heap.size w)
 have H : (spec_CarryOk.l0 k l0 0) = some r := h
 clear h
 have H' := Aside0.mk H
 clear H
 go_enter Try.func21, Try.ntmps21
 go_wp2
 go_loopg [3] k (fun kq v3 w' => ∃ (x3_1 : Int), v3 = .int .i64 x3_1 ∧ Aside0 (spec_CarryOk.l0 kq l0 x3_1 = some r) ∧ Aside0 (kq ≤ k) ∧ Aside0 (Below w.heap.size w w'))
 case atStart => exact ⟨(0), (by first | rfl | (simp; done) | (simp [*]; done)), H', ⟨Nat.le_refl _⟩, ⟨bl HB.out⟩⟩
 case round =>
  clear H'
  obtain ⟨x3_1, rfl, HA, HK1, HB⟩ := hrel
  cases gk with
  | zero => exact absurd HA.out (by simp [spec_CarryOk.l0])
  | succ k1 =>
   have H := HA.out
   clear HA
   simp only [spec_CarryOk.l0] at H
   by_cases c2 : x3_1 < (l0.length : Int)
   ·
    rw [if_pos c2] at H
    have c2b0 : decide (x3_1 < (l0.length : Int)) = true := decide_eq_true c2
    clear c2
    by_cases c3 : 0 ≤ x3_1
    ·
     rw [if_pos c3] at H
     have c3b0 : decide (0 ≤ x3_1) = true := decide_eq_true c3
     clear c3
     have HC4 := Aside0.mk H
     clear H
     have p222 : 0 ≤ (x3_1 : Int) := of_decide_eq_true (by first | (with_reducible assumption) | assumption)
     have q222 : x3_1 < (l0.length : Int) := of_decide_eq_true (by first | (with_reducible assumption) | assumption)
     obtain ⟨ad222, e222, hx222_0, hx222_1, hx222_2⟩ := at_T70 HR0.out x3_1 p222 q222
     cases e222
     replace hx222_0 := bc HB.out hx222_0
     replace hx222_1 := bc HB.out hx222_1
     replace hx222_2 := bc HB.out hx222_2
     replace p222 := eq_true p222
     replace q222 := eq_true q222
     go_upto_region 5 with (first | ((with_reducible refine gate_dst (N := 4) rfl ?_); refine box_event ?hg (N := 4) ?hd (cs := #[.string (⟨#[]⟩ : ByteArray), .int .i64 0, .int .i64 0]) (t := 70) ?hr ?_; (case hd => rfl); (case hg => rfl); (case hr => first | (go_simp; done) | (go_simp; rfl)); intro gb223 hg w5 hbox hb; have BK223 := Aside0.mk (hbox); have GW223 := Aside0.mk ((by rw [hg]; exact (below_size (bl HB.out)) : w.heap.size ≤ gb223)); have GE223 := GW223; replace HB := Aside0.mk (below_step (bl HB.out) hb); clear hb hbox hg; obtain ⟨hcz6_0, hcz6_1, hcz6_2⟩ := ck3 BK223.out; obtain ⟨hfz6_0, hfz6_1, hfz6_2⟩ := fz3 BK223.out))
     (try simp only [Act.put, List.setIfInBounds_toArray, List.set_cons_zero, List.set_cons_succ])
     go_cut [45] (fun v45 wc => ∃ (kq : Nat) (x45_3 : Bool), v45 = .bool x45_3 ∧ Aside0 (spec_CarryOk.j1 kq l0 x3_1 x45_3 = some r) ∧ Aside0 (kq ≤ k1) ∧ Aside0 (wc.heap[gb223]? = some (.cells #[.string ((rd_T70 l0 x3_1).f0), .int .i64 ((rd_T70 l0 x3_1).f1), .int .i64 ((rd_T70 l0 x3_1).f2)] 70 (0, 0))) ∧ Aside0 (Below w.heap.size w wc))
     case first =>
      have H := HC4.out
      clear HC4
      replace H := Option.bind_eq_some_iff.mp H
      obtain ⟨t224, A70, H⟩ := H
      replace H : (if t224 = true then (if x3_1 > 0 then (if 0 ≤ (wrap64 (x3_1 - 1)) then (if (wrap64 (x3_1 - 1)) < (l0.length : Int) then (if ((Op.bytesLess (((rd_T70 l0 (wrap64 (x3_1 - 1))).f0).toList) (((rd_T70 l0 x3_1).f0).toList)) = true) then ((spec_l1In.f ((rd_T70 l0 x3_1).f1) 0 10).bind fun t226 => (if t226 = true then ((spec_l1In.f ((rd_T70 l0 x3_1).f2) 0 120).bind fun t227 => (spec_CarryOk.j1 k1 l0 x3_1 (!t227))) else (spec_CarryOk.j1 k1 l0 x3_1 true))) else (spec_CarryOk.j1 k1 l0 x3_1 true)) else (none)) else (none)) else ((spec_l1In.f ((rd_T70 l0 x3_1).f1) 0 10).bind fun t228 => (if t228 = true then ((spec_l1In.f ((rd_T70 l0 x3_1).f2) 0 120).bind fun t229 => (spec_CarryOk.j1 k1 l0 x3_1 (!t229))) else (spec_CarryOk.j1 k1 l0 x3_1 true)))) else (spec_CarryOk.j1 k1 l0 x3_1 true)) = some r := H
      have A7 := Aside0.mk A70
      clear A70
      by_cases c8 : t224 = true
      ·
       subst c8
       have H1 : (if x3_1 > 0 then (if 0 ≤ (wrap64 (x3_1 - 1)) then (if (wrap64 (x3_1 - 1)) < (l0.length : Int) then (if ((Op.bytesLess (((rd_T70 l0 (wrap64 (x3_1 - 1))).f0).toList) (((rd_T70 l0 x3_1).f0).toList)) = true) then ((spec_l1In.f ((rd_T70 l0 x3_1).f1) 0 10).bind fun t226 => (if t226 = true then ((spec_l1In.f ((rd_T70 l0 x3_1).f2) 0 120).bind fun t227 => (spec_CarryOk.j1 k1 l0 x3_1 (!t227))) else (spec_CarryOk.j1 k1 l0 x3_1 true))) else (spec_CarryOk.j1 k1 l0 x3_1 true)) else (none)) else (none)) else ((spec_l1In.f ((rd_T70 l0 x3_1).f1) 0 10).bind fun t228 => (if t228 = true then ((spec_l1In.f ((rd_T70 l0 x3_1).f2) 0 120).bind fun t229 => (spec_CarryOk.j1 k1 l0 x3_1 (!t229))) else (spec_CarryOk.j1 k1 l0 x3_1 true)))) = some r := by rw [if_pos rfl] at H; exact H
       clear H
       have H := H1
       clear H1
       by_cases c9 : x3_1 > 0
       ·
        rw [if_pos c9] at H
        have c9b0 : decide (0 < x3_1) = true := decide_eq_true c9
        clear c9
        (first | rw [c9b0] | (simp only [i64_w, i32_w]; rw [c9b0]) | skip)
        obtain ⟨ji10, hji10⟩ : ∃ j_ : Int, (wrap64 (x3_1 - 1)) = j_ := ⟨_, rfl⟩
        replace H : (if 0 ≤ (ji10) then (if (ji10) < (l0.length : Int) then (if ((Op.bytesLess (((rd_T70 l0 (ji10)).f0).toList) (((rd_T70 l0 x3_1).f0).toList)) = true) then ((spec_l1In.f ((rd_T70 l0 x3_1).f1) 0 10).bind fun t226 => (if t226 = true then ((spec_l1In.f ((rd_T70 l0 x3_1).f2) 0 120).bind fun t227 => (spec_CarryOk.j1 k1 l0 x3_1 (!t227))) else (spec_CarryOk.j1 k1 l0 x3_1 true))) else (spec_CarryOk.j1 k1 l0 x3_1 true)) else (none)) else (none)) = some r := by first | (rw [hji10] at H; exact H) | (simp only [hji10] at H ⊢; exact H)
        (try rw [hji10] at A7)
        have hji10w : (IntKind.i64.wrap (x3_1 - 1)) = ji10 := (i64_w _).trans hji10
        by_cases c11 : 0 ≤ (ji10)
        ·
         rw [if_pos c11] at H
         have c11b0 : decide (0 ≤ (ji10)) = true := decide_eq_true c11
         clear c11
         by_cases c12 : (ji10) < (l0.length : Int)
         ·
          rw [if_pos c12] at H
          have c12b0 : decide ((ji10) < (l0.length : Int)) = true := decide_eq_true c12
          clear c12
          by_cases c13 : ((Op.bytesLess (((rd_T70 l0 (ji10)).f0).toList) (((rd_T70 l0 x3_1).f0).toList)) = true)
          ·
           rw [if_pos c13] at H
           have c13b0 : (Op.bytesLess (((rd_T70 l0 (ji10)).f0).toList) (((rd_T70 l0 x3_1).f0).toList)) = true := c13
           clear c13
           replace H := Option.bind_eq_some_iff.mp H
           obtain ⟨t226, A140, H⟩ := H
           replace H : (if t226 = true then ((spec_l1In.f ((rd_T70 l0 x3_1).f2) 0 120).bind fun t227 => (spec_CarryOk.j1 k1 l0 x3_1 (!t227))) else (spec_CarryOk.j1 k1 l0 x3_1 true)) = some r := H
           have A14 := Aside0.mk A140
           clear A140
           by_cases c15 : t226 = true
           ·
            subst c15
            have H1 : ((spec_l1In.f ((rd_T70 l0 x3_1).f2) 0 120).bind fun t227 => (spec_CarryOk.j1 k1 l0 x3_1 (!t227))) = some r := by rw [if_pos rfl] at H; exact H
            clear H
            have H := H1
            clear H1
            replace H := Option.bind_eq_some_iff.mp H
            obtain ⟨t227, A160, H⟩ := H
            replace H : (spec_CarryOk.j1 k1 l0 x3_1 (!t227)) = some r := H
            have A16 := Aside0.mk A160
            clear A160
            have H' := Aside0.mk H
            clear H
            try go_wp2
            have n0_ : Aside0 ((((w5.setCell ⟨gb223, 0, none⟩ (.string ((rd_T70 l0 x3_1).f0))).setCell ⟨gb223, 1, none⟩ (.int .i64 ((rd_T70 l0 x3_1).f1))).setCell ⟨gb223, 2, none⟩ (.int .i64 ((rd_T70 l0 x3_1).f2))).heap[gb223]? = some (.cells #[.string ((rd_T70 l0 x3_1).f0), .int .i64 ((rd_T70 l0 x3_1).f1), .int .i64 ((rd_T70 l0 x3_1).f2)] 70 (0, 0))) := ⟨by (repeat refine bk1 ?_); refine blk_put (cs := #[.string ((rd_T70 l0 x3_1).f0), .int .i64 ((rd_T70 l0 x3_1).f1), .int .i64 0]) ?_ 2 _ rfl; (repeat refine bk1 ?_); refine blk_put (cs := #[.string ((rd_T70 l0 x3_1).f0), .int .i64 0, .int .i64 0]) ?_ 1 _ rfl; (repeat refine bk1 ?_); refine blk_put (cs := #[.string (⟨#[]⟩ : ByteArray), .int .i64 0, .int .i64 0]) ?_ 0 _ rfl; (repeat refine bk1 ?_); exact BK223.out⟩
            have n1_ : Aside0 (Below w.heap.size w (((w5.setCell ⟨gb223, 0, none⟩ (.string ((rd_T70 l0 x3_1).f0))).setCell ⟨gb223, 1, none⟩ (.int .i64 ((rd_T70 l0 x3_1).f1))).setCell ⟨gb223, 2, none⟩ (.int .i64 ((rd_T70 l0 x3_1).f2)))) := ⟨by repeat with_reducible first | exact bl HB.out | refine below_set ?_ GE223.out | refine bq ?_⟩
            (try clear BK223)
            (try clear HB)
            generalize (((w5.setCell ⟨gb223, 0, none⟩ (.string ((rd_T70 l0 x3_1).f0))).setCell ⟨gb223, 1, none⟩ (.int .i64 ((rd_T70 l0 x3_1).f1))).setCell ⟨gb223, 2, none⟩ (.int .i64 ((rd_T70 l0 x3_1).f2))) = w17 at n0_ n1_ ⊢
            have BK223 := n0_
            have HB := n1_
            clear n0_ n1_
            have n0_ := Aside0.mk (blk_drew BK223.out)
            have n1_ := Aside0.mk (below_drew1 HB.out)
            clear BK223
            clear HB
            have BK223 := n0_
            have HB := n1_
            clear n0_ n1_
            have p225 : 0 ≤ ((ji10) : Int) := of_decide_eq_true (by first | (with_reducible assumption) | assumption)
            have q225 : (ji10) < (l0.length : Int) := of_decide_eq_true (by first | (with_reducible assumption) | assumption)
            obtain ⟨ad225, e225, hx225_0, hx225_1, hx225_2⟩ := at_T70 HR0.out (ji10) p225 q225
            have hw225_2 := hx225_2
            have hw225_1 := hx225_1
            have hw225_0 := hx225_0
            obtain rfl : ad222 = ad225 := (by injection e225)
            replace hx225_0 := bc HB.out hx225_0
            replace hx225_1 := bc HB.out hx225_1
            replace hx225_2 := bc HB.out hx225_2
            replace p225 := eq_true p225
            replace q225 := eq_true q225
            refine start_ (n := 31) (S := fun w' => w'.cell? ⟨gb223, 0, none⟩ = some (.string ((rd_T70 l0 x3_1).f0)) ∧ w'.cell? ⟨gb223, 1, none⟩ = some (.int .i64 ((rd_T70 l0 x3_1).f1)) ∧ w'.cell? ⟨gb223, 2, none⟩ = some (.int .i64 ((rd_T70 l0 x3_1).f2)) ∧ w'.cell? (ad222.add (((ji10)).toNat * 3)) = some (.string ((rd_T70 l0 (ji10)).f0)) ∧ w'.cell? ⟨(ad222.add (((ji10)).toNat * 3)).block, (ad222.add (((ji10)).toNat * 3)).off + 1, none⟩ = some (.int .i64 ((rd_T70 l0 (ji10)).f1)) ∧ w'.cell? ⟨(ad222.add (((ji10)).toNat * 3)).block, (ad222.add (((ji10)).toNat * 3)).off + 2, none⟩ = some (.int .i64 ((rd_T70 l0 (ji10)).f2))) (ds := []) m0_31 (by kernel_rfl) rfl rfl ⟨ck BK223.out 0 rfl, ck BK223.out 1 rfl, ck BK223.out 2 rfl, ((HB.out.cell (World.block_lt_of_cell? w _ hw225_0)).trans hw225_0), ((HB.out.cell (World.block_lt_of_cell? w _ hw225_1)).trans hw225_1), ((HB.out.cell (World.block_lt_of_cell? w _ hw225_2)).trans hw225_2)⟩ (fun hHeld => ?_); refine with_tabW spec_CarryOk.tab5 spec_CarryOk.bits5 (fun HT_ HW_ => ?_)
            generalize w17.drew = w18 at BK223 HB hx225_0 hx225_1 hx225_2 hHeld ⊢
            refine pq_ HT_.out 0 15 m1_31 ?_
            refine tk_ HT_.out HW_.out 1 16 m2_31 rfl rfl (by kernel_rfl) (by rfl) (by rintro w' ⟨s0, s1, s2, s3, s4, s5⟩; go_simp; with_reducible rfl) hHeld (by simp only [sp_]; rfl) (fun _ _ _ h => h) ?_
            refine one_ (i := 2) (N := some 17) m3_31 rfl rfl (one_of HT_.out (by kernel_rfl)) (by decide) (fun K hK => ?_)
            refine goes_ Try.func49 (by kernel_rfl) rfl #[.string ((rd_T70 l0 x3_1).f0)] (by rfl) rfl rfl (by (try simp only [am_]); first | done | rfl) ?_
            with_reducible refine (spec_l1Name.calls k1 ((rd_T70 l0 x3_1).f0) true _ A7.out).mono ?_
            rintro e w' ⟨rfl, ⟨nd, rfl⟩⟩
            refine ⟨_, rfl, ?_⟩
            refine hK.out _ _ ⟨ck BK223.out 0 rfl, ck BK223.out 1 rfl, ck BK223.out 2 rfl, ((HB.out.cell (World.block_lt_of_cell? w _ hw225_0)).trans hw225_0), ((HB.out.cell (World.block_lt_of_cell? w _ hw225_1)).trans hw225_1), ((HB.out.cell (World.block_lt_of_cell? w _ hw225_2)).trans hw225_2)⟩ (fun hHeld => ?_)
            clear hK K
            refine norm_ (a' := ?_) ?_ ?_
            rotate_left
            ·
             show Act.put _ (some 17) _ = _
             simp only [sp_]
             rfl
            refine pq_ HT_.out 3 18 m4_31 ?_
            refine pq_ HT_.out 4 19 m5_31 ?_
            refine pq_ HT_.out 5 20 m6_31 ?_
            refine pq_ HT_.out 6 21 m7_31 ?_
            refine pq_ HT_.out 7 22 m8_31 ?_
            refine pq_ HT_.out 8 23 m9_31 ?_
            refine pq_ HT_.out 9 24 m10_31 ?_
            refine pq_ HT_.out 10 25 m11_31 ?_
            refine pq_ HT_.out 11 26 m12_31 ?_
            refine pq_ HT_.out 12 27 m13_31 ?_
            refine pq_ HT_.out 14 29 n62 ?_
            refine tk_ HT_.out HW_.out 13 28 m15_31 rfl rfl (by kernel_rfl) (by rfl) (by rintro w' ⟨s0, s1, s2, s3, s4, s5⟩; go_simp; with_reducible rfl) hHeld (by simp only [sp_]; rfl) (fun _ _ _ h => h) ?_
            refine tk_ HT_.out HW_.out 15 30 m16_31 rfl rfl (by kernel_rfl) (by rfl) (by rintro w' ⟨s0, s1, s2, s3, s4, s5⟩; go_simp; with_reducible rfl) hHeld (by simp only [sp_]; rfl) (fun _ _ _ h => h) ?_
            refine pq_ HT_.out 16 31 m17_31 ?_
            refine pq_ HT_.out 17 32 m18_31 ?_
            refine pq_ HT_.out 18 33 m19_31 ?_
            refine pq_ HT_.out 19 34 m20_31 ?_
            refine pq_ HT_.out 20 35 m21_31 ?_
            refine tk_ HT_.out HW_.out 21 36 m22_31 rfl rfl (by kernel_rfl) (by rfl) (by rintro w' ⟨s0, s1, s2, s3, s4, s5⟩; go_simp; with_reducible rfl) hHeld (by simp only [sp_]; rfl) (fun _ _ _ h => h) ?_
            refine one_ (i := 22) (N := some 37) m23_31 rfl rfl (one_of HT_.out (by kernel_rfl)) (by decide) (fun K hK => ?_)
            refine goes_ Try.func46 (by kernel_rfl) rfl #[.int .i64 ((rd_T70 l0 x3_1).f1), .int .i64 0, .int .i64 10] (by rfl) rfl rfl (by (try simp only [am_]); first | done | rfl) ?_
            with_reducible refine (spec_l1In.calls ((rd_T70 l0 x3_1).f1) 0 10 true _ A14.out).mono ?_
            rintro e w' ⟨rfl, ⟨nd, rfl⟩⟩
            refine ⟨_, rfl, ?_⟩
            refine hK.out _ _ ⟨ck BK223.out 0 rfl, ck BK223.out 1 rfl, ck BK223.out 2 rfl, ((HB.out.cell (World.block_lt_of_cell? w _ hw225_0)).trans hw225_0), ((HB.out.cell (World.block_lt_of_cell? w _ hw225_1)).trans hw225_1), ((HB.out.cell (World.block_lt_of_cell? w _ hw225_2)).trans hw225_2)⟩ (fun hHeld => ?_)
            clear hK K
            refine norm_ (a' := ?_) ?_ ?_
            rotate_left
            ·
             show Act.put _ (some 37) _ = _
             simp only [sp_]
             rfl
            refine pq_ HT_.out 23 38 m24_31 ?_
            refine pq_ HT_.out 24 39 m25_31 ?_
            refine pq_ HT_.out 25 40 m26_31 ?_
            refine pq_ HT_.out 26 41 m27_31 ?_
            refine tk_ HT_.out HW_.out 27 42 m28_31 rfl rfl (by kernel_rfl) (by rfl) (by rintro w' ⟨s0, s1, s2, s3, s4, s5⟩; go_simp; with_reducible rfl) hHeld (by simp only [sp_]; rfl) (fun _ _ _ h => h) ?_
            refine one_ (i := 28) (N := some 43) m29_31 rfl rfl (one_of HT_.out (by kernel_rfl)) (by decide) (fun K hK => ?_)
            refine goes_ Try.func46 (by kernel_rfl) rfl #[.int .i64 ((rd_T70 l0 x3_1).f2), .int .i64 0, .int .i64 120] (by rfl) rfl rfl (by (try simp only [am_]); first | done | rfl) ?_
            with_reducible refine (spec_l1In.calls ((rd_T70 l0 x3_1).f2) 0 120 t227 _ A16.out).mono ?_
            rintro e w' ⟨rfl, ⟨nd, rfl⟩⟩
            refine ⟨_, rfl, ?_⟩
            refine hK.out _ _ ⟨ck BK223.out 0 rfl, ck BK223.out 1 rfl, ck BK223.out 2 rfl, ((HB.out.cell (World.block_lt_of_cell? w _ hw225_0)).trans hw225_0), ((HB.out.cell (World.block_lt_of_cell? w _ hw225_1)).trans hw225_1), ((HB.out.cell (World.block_lt_of_cell? w _ hw225_2)).trans hw225_2)⟩ (fun hHeld => ?_)
            clear hK K
            refine norm_ (a' := ?_) ?_ ?_
            rotate_left
            ·
             show Act.put _ (some 43) _ = _
             simp only [sp_]
             rfl
            refine pq_ HT_.out 29 44 m30_31 ?_
            refine pq_ HT_.out 30 45 m31_31 ?_
            refine done_ (done_of HT_.out (by kernel_rfl)) ?_
            try go_wp2
            go_meet
            case rel => exact ⟨_, (!t227), (by first | rfl | (simp; done) | (simp [*]; done)), H', ⟨by have := HK1.out; first | omega | exact Nat.le_refl _⟩, ⟨bk BK223.out⟩, ⟨by repeat with_reducible first | exact bl HB.out | refine below_set ?_ GE223.out | refine bq ?_⟩⟩
           ·
            replace c15 := Bool.eq_false_iff.mpr c15
            subst c15
            have H1 : (spec_CarryOk.j1 k1 l0 x3_1 true) = some r := by rw [if_neg (show ¬ (false = true) by decide)] at H; exact H
            clear H
            have H := H1
            clear H1
            have H' := Aside0.mk H
            clear H
            try go_wp2
            have n0_ : Aside0 ((((w5.setCell ⟨gb223, 0, none⟩ (.string ((rd_T70 l0 x3_1).f0))).setCell ⟨gb223, 1, none⟩ (.int .i64 ((rd_T70 l0 x3_1).f1))).setCell ⟨gb223, 2, none⟩ (.int .i64 ((rd_T70 l0 x3_1).f2))).heap[gb223]? = some (.cells #[.string ((rd_T70 l0 x3_1).f0), .int .i64 ((rd_T70 l0 x3_1).f1), .int .i64 ((rd_T70 l0 x3_1).f2)] 70 (0, 0))) := ⟨by (repeat refine bk1 ?_); refine blk_put (cs := #[.string ((rd_T70 l0 x3_1).f0), .int .i64 ((rd_T70 l0 x3_1).f1), .int .i64 0]) ?_ 2 _ rfl; (repeat refine bk1 ?_); refine blk_put (cs := #[.string ((rd_T70 l0 x3_1).f0), .int .i64 0, .int .i64 0]) ?_ 1 _ rfl; (repeat refine bk1 ?_); refine blk_put (cs := #[.string (⟨#[]⟩ : ByteArray), .int .i64 0, .int .i64 0]) ?_ 0 _ rfl; (repeat refine bk1 ?_); exact BK223.out⟩
            have n1_ : Aside0 (Below w.heap.size w (((w5.setCell ⟨gb223, 0, none⟩ (.string ((rd_T70 l0 x3_1).f0))).setCell ⟨gb223, 1, none⟩ (.int .i64 ((rd_T70 l0 x3_1).f1))).setCell ⟨gb223, 2, none⟩ (.int .i64 ((rd_T70 l0 x3_1).f2)))) := ⟨by repeat with_reducible first | exact bl HB.out | refine below_set ?_ GE223.out | refine bq ?_⟩
            (try clear BK223)
            (try clear HB)
            generalize (((w5.setCell ⟨gb223, 0, none⟩ (.string ((rd_T70 l0 x3_1).f0))).setCell ⟨gb223, 1, none⟩ (.int .i64 ((rd_T70 l0 x3_1).f1))).setCell ⟨gb223, 2, none⟩ (.int .i64 ((rd_T70 l0 x3_1).f2))) = w19 at n0_ n1_ ⊢
            have BK223 := n0_
            have HB := n1_
            clear n0_ n1_
            have n0_ := Aside0.mk (blk_drew BK223.out)
            have n1_ := Aside0.mk (below_drew1 HB.out)
            clear BK223
            clear HB
            have BK223 := n0_
            have HB := n1_
            clear n0_ n1_
            have p225 : 0 ≤ ((ji10) : Int) := of_decide_eq_true (by first | (with_reducible assumption) | assumption)
            have q225 : (ji10) < (l0.length : Int) := of_decide_eq_true (by first | (with_reducible assumption) | assumption)
            obtain ⟨ad225, e225, hx225_0, hx225_1, hx225_2⟩ := at_T70 HR0.out (ji10) p225 q225
            have hw225_2 := hx225_2
            have hw225_1 := hx225_1
            have hw225_0 := hx225_0
            obtain rfl : ad222 = ad225 := (by injection e225)
            replace hx225_0 := bc HB.out hx225_0
            replace hx225_1 := bc HB.out hx225_1
            replace hx225_2 := bc HB.out hx225_2
            replace p225 := eq_true p225
            replace q225 := eq_true q225
            refine start_ (n := 31) (S := fun w' => w'.cell? ⟨gb223, 0, none⟩ = some (.string ((rd_T70 l0 x3_1).f0)) ∧ w'.cell? ⟨gb223, 1, none⟩ = some (.int .i64 ((rd_T70 l0 x3_1).f1)) ∧ w'.cell? ⟨gb223, 2, none⟩ = some (.int .i64 ((rd_T70 l0 x3_1).f2)) ∧ w'.cell? (ad222.add (((ji10)).toNat * 3)) = some (.string ((rd_T70 l0 (ji10)).f0)) ∧ w'.cell? ⟨(ad222.add (((ji10)).toNat * 3)).block, (ad222.add (((ji10)).toNat * 3)).off + 1, none⟩ = some (.int .i64 ((rd_T70 l0 (ji10)).f1)) ∧ w'.cell? ⟨(ad222.add (((ji10)).toNat * 3)).block, (ad222.add (((ji10)).toNat * 3)).off + 2, none⟩ = some (.int .i64 ((rd_T70 l0 (ji10)).f2))) (ds := []) m0_31 (by kernel_rfl) rfl rfl ⟨ck BK223.out 0 rfl, ck BK223.out 1 rfl, ck BK223.out 2 rfl, ((HB.out.cell (World.block_lt_of_cell? w _ hw225_0)).trans hw225_0), ((HB.out.cell (World.block_lt_of_cell? w _ hw225_1)).trans hw225_1), ((HB.out.cell (World.block_lt_of_cell? w _ hw225_2)).trans hw225_2)⟩ (fun hHeld => ?_); refine with_tabW spec_CarryOk.tab5 spec_CarryOk.bits5 (fun HT_ HW_ => ?_)
            generalize w19.drew = w20 at BK223 HB hx225_0 hx225_1 hx225_2 hHeld ⊢
            refine pq_ HT_.out 0 15 m1_31 ?_
            refine tk_ HT_.out HW_.out 1 16 m2_31 rfl rfl (by kernel_rfl) (by rfl) (by rintro w' ⟨s0, s1, s2, s3, s4, s5⟩; go_simp; with_reducible rfl) hHeld (by simp only [sp_]; rfl) (fun _ _ _ h => h) ?_
            refine one_ (i := 2) (N := some 17) m3_31 rfl rfl (one_of HT_.out (by kernel_rfl)) (by decide) (fun K hK => ?_)
            refine goes_ Try.func49 (by kernel_rfl) rfl #[.string ((rd_T70 l0 x3_1).f0)] (by rfl) rfl rfl (by (try simp only [am_]); first | done | rfl) ?_
            with_reducible refine (spec_l1Name.calls k1 ((rd_T70 l0 x3_1).f0) true _ A7.out).mono ?_
            rintro e w' ⟨rfl, ⟨nd, rfl⟩⟩
            refine ⟨_, rfl, ?_⟩
            refine hK.out _ _ ⟨ck BK223.out 0 rfl, ck BK223.out 1 rfl, ck BK223.out 2 rfl, ((HB.out.cell (World.block_lt_of_cell? w _ hw225_0)).trans hw225_0), ((HB.out.cell (World.block_lt_of_cell? w _ hw225_1)).trans hw225_1), ((HB.out.cell (World.block_lt_of_cell? w _ hw225_2)).trans hw225_2)⟩ (fun hHeld => ?_)
            clear hK K
            refine norm_ (a' := ?_) ?_ ?_
            rotate_left
            ·
             show Act.put _ (some 17) _ = _
             simp only [sp_]
             rfl
            refine pq_ HT_.out 3 18 m4_31 ?_
            refine pq_ HT_.out 4 19 m5_31 ?_
            refine pq_ HT_.out 5 20 m6_31 ?_
            refine pq_ HT_.out 6 21 m7_31 ?_
            refine pq_ HT_.out 7 22 m8_31 ?_
            refine pq_ HT_.out 8 23 m9_31 ?_
            refine pq_ HT_.out 9 24 m10_31 ?_
            refine pq_ HT_.out 10 25 m11_31 ?_
            refine pq_ HT_.out 11 26 m12_31 ?_
            refine pq_ HT_.out 12 27 m13_31 ?_
            refine pq_ HT_.out 14 29 n62 ?_
            refine tk_ HT_.out HW_.out 13 28 m15_31 rfl rfl (by kernel_rfl) (by rfl) (by rintro w' ⟨s0, s1, s2, s3, s4, s5⟩; go_simp; with_reducible rfl) hHeld (by simp only [sp_]; rfl) (fun _ _ _ h => h) ?_
            refine tk_ HT_.out HW_.out 15 30 m16_31 rfl rfl (by kernel_rfl) (by rfl) (by rintro w' ⟨s0, s1, s2, s3, s4, s5⟩; go_simp; with_reducible rfl) hHeld (by simp only [sp_]; rfl) (fun _ _ _ h => h) ?_
            refine pq_ HT_.out 16 31 m17_31 ?_
            refine pq_ HT_.out 17 32 m18_31 ?_
            refine pq_ HT_.out 18 33 m19_31 ?_
            refine pq_ HT_.out 19 34 m20_31 ?_
            refine pq_ HT_.out 20 35 m21_31 ?_
            refine tk_ HT_.out HW_.out 21 36 m22_31 rfl rfl (by kernel_rfl) (by rfl) (by rintro w' ⟨s0, s1, s2, s3, s4, s5⟩; go_simp; with_reducible rfl) hHeld (by simp only [sp_]; rfl) (fun _ _ _ h => h) ?_
            refine one_ (i := 22) (N := some 37) m23_31 rfl rfl (one_of HT_.out (by kernel_rfl)) (by decide) (fun K hK => ?_)
            refine goes_ Try.func46 (by kernel_rfl) rfl #[.int .i64 ((rd_T70 l0 x3_1).f1), .int .i64 0, .int .i64 10] (by rfl) rfl rfl (by (try simp only [am_]); first | done | rfl) ?_
            with_reducible refine (spec_l1In.calls ((rd_T70 l0 x3_1).f1) 0 10 false _ A14.out).mono ?_
            rintro e w' ⟨rfl, ⟨nd, rfl⟩⟩
            refine ⟨_, rfl, ?_⟩
            refine hK.out _ _ ⟨ck BK223.out 0 rfl, ck BK223.out 1 rfl, ck BK223.out 2 rfl, ((HB.out.cell (World.block_lt_of_cell? w _ hw225_0)).trans hw225_0), ((HB.out.cell (World.block_lt_of_cell? w _ hw225_1)).trans hw225_1), ((HB.out.cell (World.block_lt_of_cell? w _ hw225_2)).trans hw225_2)⟩ (fun hHeld => ?_)
            clear hK K
            refine norm_ (a' := ?_) ?_ ?_
            rotate_left
            ·
             show Act.put _ (some 37) _ = _
             simp only [sp_]
             rfl
            refine pq_ HT_.out 23 38 m24_31 ?_
            refine pq_ HT_.out 24 39 m25_31 ?_
            refine pq_ HT_.out 25 40 m26_31 ?_
            refine pv_ HT_.out 26 41 m27_31 ?_
            refine pv_ HT_.out 27 42 m28_31 ?_
            refine pv_ HT_.out 28 43 m29_31 ?_
            refine pv_ HT_.out 29 44 m30_31 ?_
            refine pq_ HT_.out 30 45 m31_31 ?_
            refine done_ (done_of HT_.out (by kernel_rfl)) ?_
            try go_wp2
            go_meet
            case rel => exact ⟨_, (true), (by first | rfl | (simp; done) | (simp [*]; done)), H', ⟨by have := HK1.out; first | omega | exact Nat.le_refl _⟩, ⟨bk BK223.out⟩, ⟨by repeat with_reducible first | exact bl HB.out | refine below_set ?_ GE223.out | refine bq ?_⟩⟩
          ·
           rw [if_neg c13] at H
           have c13b0 : (Op.bytesLess (((rd_T70 l0 (ji10)).f0).toList) (((rd_T70 l0 x3_1).f0).toList)) = false := by simpa using c13
           clear c13
           have H' := Aside0.mk H
           clear H
           try go_wp2
           have n0_ : Aside0 ((((w5.setCell ⟨gb223, 0, none⟩ (.string ((rd_T70 l0 x3_1).f0))).setCell ⟨gb223, 1, none⟩ (.int .i64 ((rd_T70 l0 x3_1).f1))).setCell ⟨gb223, 2, none⟩ (.int .i64 ((rd_T70 l0 x3_1).f2))).heap[gb223]? = some (.cells #[.string ((rd_T70 l0 x3_1).f0), .int .i64 ((rd_T70 l0 x3_1).f1), .int .i64 ((rd_T70 l0 x3_1).f2)] 70 (0, 0))) := ⟨by (repeat refine bk1 ?_); refine blk_put (cs := #[.string ((rd_T70 l0 x3_1).f0), .int .i64 ((rd_T70 l0 x3_1).f1), .int .i64 0]) ?_ 2 _ rfl; (repeat refine bk1 ?_); refine blk_put (cs := #[.string ((rd_T70 l0 x3_1).f0), .int .i64 0, .int .i64 0]) ?_ 1 _ rfl; (repeat refine bk1 ?_); refine blk_put (cs := #[.string (⟨#[]⟩ : ByteArray), .int .i64 0, .int .i64 0]) ?_ 0 _ rfl; (repeat refine bk1 ?_); exact BK223.out⟩
           have n1_ : Aside0 (Below w.heap.size w (((w5.setCell ⟨gb223, 0, none⟩ (.string ((rd_T70 l0 x3_1).f0))).setCell ⟨gb223, 1, none⟩ (.int .i64 ((rd_T70 l0 x3_1).f1))).setCell ⟨gb223, 2, none⟩ (.int .i64 ((rd_T70 l0 x3_1).f2)))) := ⟨by repeat with_reducible first | exact bl HB.out | refine below_set ?_ GE223.out | refine bq ?_⟩
           (try clear BK223)
           (try clear HB)
           generalize (((w5.setCell ⟨gb223, 0, none⟩ (.string ((rd_T70 l0 x3_1).f0))).setCell ⟨gb223, 1, none⟩ (.int .i64 ((rd_T70 l0 x3_1).f1))).setCell ⟨gb223, 2, none⟩ (.int .i64 ((rd_T70 l0 x3_1).f2))) = w21 at n0_ n1_ ⊢
           have BK223 := n0_
           have HB := n1_
           clear n0_ n1_
           have n0_ := Aside0.mk (blk_drew BK223.out)
           have n1_ := Aside0.mk (below_drew1 HB.out)
           clear BK223
           clear HB
           have BK223 := n0_
           have HB := n1_
           clear n0_ n1_
           have p225 : 0 ≤ ((ji10) : Int) := of_decide_eq_true (by first | (with_reducible assumption) | assumption)
           have q225 : (ji10) < (l0.length : Int) := of_decide_eq_true (by first | (with_reducible assumption) | assumption)
           obtain ⟨ad225, e225, hx225_0, hx225_1, hx225_2⟩ := at_T70 HR0.out (ji10) p225 q225
           have hw225_2 := hx225_2
           have hw225_1 := hx225_1
           have hw225_0 := hx225_0
           obtain rfl : ad222 = ad225 := (by injection e225)
           replace hx225_0 := bc HB.out hx225_0
           replace hx225_1 := bc HB.out hx225_1
           replace hx225_2 := bc HB.out hx225_2
           replace p225 := eq_true p225
           replace q225 := eq_true q225
           refine start_ (n := 31) (S := fun w' => w'.cell? ⟨gb223, 0, none⟩ = some (.string ((rd_T70 l0 x3_1).f0)) ∧ w'.cell? ⟨gb223, 1, none⟩ = some (.int .i64 ((rd_T70 l0 x3_1).f1)) ∧ w'.cell? ⟨gb223, 2, none⟩ = some (.int .i64 ((rd_T70 l0 x3_1).f2)) ∧ w'.cell? (ad222.add (((ji10)).toNat * 3)) = some (.string ((rd_T70 l0 (ji10)).f0)) ∧ w'.cell? ⟨(ad222.add (((ji10)).toNat * 3)).block, (ad222.add (((ji10)).toNat * 3)).off + 1, none⟩ = some (.int .i64 ((rd_T70 l0 (ji10)).f1)) ∧ w'.cell? ⟨(ad222.add (((ji10)).toNat * 3)).block, (ad222.add (((ji10)).toNat * 3)).off + 2, none⟩ = some (.int .i64 ((rd_T70 l0 (ji10)).f2))) (ds := []) m0_31 (by kernel_rfl) rfl rfl ⟨ck BK223.out 0 rfl, ck BK223.out 1 rfl, ck BK223.out 2 rfl, ((HB.out.cell (World.block_lt_of_cell? w _ hw225_0)).trans hw225_0), ((HB.out.cell (World.block_lt_of_cell? w _ hw225_1)).trans hw225_1), ((HB.out.cell (World.block_lt_of_cell? w _ hw225_2)).trans hw225_2)⟩ (fun hHeld => ?_); refine with_tabW spec_CarryOk.tab5 spec_CarryOk.bits5 (fun HT_ HW_ => ?_)
           generalize w21.drew = w22 at BK223 HB hx225_0 hx225_1 hx225_2 hHeld ⊢
           refine pq_ HT_.out 0 15 m1_31 ?_
           refine tk_ HT_.out HW_.out 1 16 m2_31 rfl rfl (by kernel_rfl) (by rfl) (by rintro w' ⟨s0, s1, s2, s3, s4, s5⟩; go_simp; with_reducible rfl) hHeld (by simp only [sp_]; rfl) (fun _ _ _ h => h) ?_
           refine one_ (i := 2) (N := some 17) m3_31 rfl rfl (one_of HT_.out (by kernel_rfl)) (by decide) (fun K hK => ?_)
           refine goes_ Try.func49 (by kernel_rfl) rfl #[.string ((rd_T70 l0 x3_1).f0)] (by rfl) rfl rfl (by (try simp only [am_]); first | done | rfl) ?_
           with_reducible refine (spec_l1Name.calls k1 ((rd_T70 l0 x3_1).f0) true _ A7.out).mono ?_
           rintro e w' ⟨rfl, ⟨nd, rfl⟩⟩
           refine ⟨_, rfl, ?_⟩
           refine hK.out _ _ ⟨ck BK223.out 0 rfl, ck BK223.out 1 rfl, ck BK223.out 2 rfl, ((HB.out.cell (World.block_lt_of_cell? w _ hw225_0)).trans hw225_0), ((HB.out.cell (World.block_lt_of_cell? w _ hw225_1)).trans hw225_1), ((HB.out.cell (World.block_lt_of_cell? w _ hw225_2)).trans hw225_2)⟩ (fun hHeld => ?_)
           clear hK K
           refine norm_ (a' := ?_) ?_ ?_
           rotate_left
           ·
            show Act.put _ (some 17) _ = _
            simp only [sp_]
            rfl
           refine pq_ HT_.out 3 18 m4_31 ?_
           refine pq_ HT_.out 4 19 m5_31 ?_
           refine pq_ HT_.out 5 20 m6_31 ?_
           refine pq_ HT_.out 6 21 m7_31 ?_
           refine pq_ HT_.out 7 22 m8_31 ?_
           refine pq_ HT_.out 8 23 m9_31 ?_
           refine pq_ HT_.out 9 24 m10_31 ?_
           refine pq_ HT_.out 10 25 m11_31 ?_
           refine pq_ HT_.out 11 26 m12_31 ?_
           refine pq_ HT_.out 12 27 m13_31 ?_
           refine pq_ HT_.out 14 29 n62 ?_
           refine tk_ HT_.out HW_.out 13 28 m15_31 rfl rfl (by kernel_rfl) (by rfl) (by rintro w' ⟨s0, s1, s2, s3, s4, s5⟩; go_simp; with_reducible rfl) hHeld (by simp only [sp_]; rfl) (fun _ _ _ h => h) ?_
           refine tk_ HT_.out HW_.out 15 30 m16_31 rfl rfl (by kernel_rfl) (by rfl) (by rintro w' ⟨s0, s1, s2, s3, s4, s5⟩; go_simp; with_reducible rfl) hHeld (by simp only [sp_]; rfl) (fun _ _ _ h => h) ?_
           refine pq_ HT_.out 16 31 m17_31 ?_
           refine pq_ HT_.out 17 32 m18_31 ?_
           refine pq_ HT_.out 18 33 m19_31 ?_
           refine pq_ HT_.out 19 34 m20_31 ?_
           refine pv_ HT_.out 20 35 m21_31 ?_
           refine pv_ HT_.out 21 36 m22_31 ?_
           refine pv_ HT_.out 22 37 m23_31 ?_
           refine pv_ HT_.out 23 38 m24_31 ?_
           refine pq_ HT_.out 24 39 m25_31 ?_
           refine pq_ HT_.out 25 40 m26_31 ?_
           refine pv_ HT_.out 26 41 m27_31 ?_
           refine pv_ HT_.out 27 42 m28_31 ?_
           refine pv_ HT_.out 28 43 m29_31 ?_
           refine pv_ HT_.out 29 44 m30_31 ?_
           refine pq_ HT_.out 30 45 m31_31 ?_
           refine done_ (done_of HT_.out (by kernel_rfl)) ?_
           try go_wp2
           go_meet
           case rel => exact ⟨_, (true), (by first | rfl | (simp; done) | (simp [*]; done)), H', ⟨by have := HK1.out; first | omega | exact Nat.le_refl _⟩, ⟨bk BK223.out⟩, ⟨by repeat with_reducible first | exact bl HB.out | refine below_set ?_ GE223.out | refine bq ?_⟩⟩
         ·
          rw [if_neg c12] at H
          exact absurd H (by simp)
        ·
         rw [if_neg c11] at H
         exact absurd H (by simp)
       ·
        rw [if_neg c9] at H
        have c9b0 : decide (0 < x3_1) = false := decide_eq_false c9
        clear c9
        (first | rw [c9b0] | (simp only [i64_w, i32_w]; rw [c9b0]) | skip)
        replace H := Option.bind_eq_some_iff.mp H
        obtain ⟨t228, A230, H⟩ := H
        replace H : (if t228 = true then ((spec_l1In.f ((rd_T70 l0 x3_1).f2) 0 120).bind fun t229 => (spec_CarryOk.j1 k1 l0 x3_1 (!t229))) else (spec_CarryOk.j1 k1 l0 x3_1 true)) = some r := H
        have A23 := Aside0.mk A230
        clear A230
        by_cases c24 : t228 = true
        ·
         subst c24
         have H1 : ((spec_l1In.f ((rd_T70 l0 x3_1).f2) 0 120).bind fun t229 => (spec_CarryOk.j1 k1 l0 x3_1 (!t229))) = some r := by rw [if_pos rfl] at H; exact H
         clear H
         have H := H1
         clear H1
         replace H := Option.bind_eq_some_iff.mp H
         obtain ⟨t229, A250, H⟩ := H
         replace H : (spec_CarryOk.j1 k1 l0 x3_1 (!t229)) = some r := H
         have A25 := Aside0.mk A250
         clear A250
         have H' := Aside0.mk H
         clear H
         try go_wp2
         have n0_ : Aside0 ((((w5.setCell ⟨gb223, 0, none⟩ (.string ((rd_T70 l0 x3_1).f0))).setCell ⟨gb223, 1, none⟩ (.int .i64 ((rd_T70 l0 x3_1).f1))).setCell ⟨gb223, 2, none⟩ (.int .i64 ((rd_T70 l0 x3_1).f2))).heap[gb223]? = some (.cells #[.string ((rd_T70 l0 x3_1).f0), .int .i64 ((rd_T70 l0 x3_1).f1), .int .i64 ((rd_T70 l0 x3_1).f2)] 70 (0, 0))) := ⟨by (repeat refine bk1 ?_); refine blk_put (cs := #[.string ((rd_T70 l0 x3_1).f0), .int .i64 ((rd_T70 l0 x3_1).f1), .int .i64 0]) ?_ 2 _ rfl; (repeat refine bk1 ?_); refine blk_put (cs := #[.string ((rd_T70 l0 x3_1).f0), .int .i64 0, .int .i64 0]) ?_ 1 _ rfl; (repeat refine bk1 ?_); refine blk_put (cs := #[.string (⟨#[]⟩ : ByteArray), .int .i64 0, .int .i64 0]) ?_ 0 _ rfl; (repeat refine bk1 ?_); exact BK223.out⟩
         have n1_ : Aside0 (Below w.heap.size w (((w5.setCell ⟨gb223, 0, none⟩ (.string ((rd_T70 l0 x3_1).f0))).setCell ⟨gb223, 1, none⟩ (.int .i64 ((rd_T70 l0 x3_1).f1))).setCell ⟨gb223, 2, none⟩ (.int .i64 ((rd_T70 l0 x3_1).f2)))) := ⟨by repeat with_reducible first | exact bl HB.out | refine below_set ?_ GE223.out | refine bq ?_⟩
         (try clear BK223)
         (try clear HB)
         generalize (((w5.setCell ⟨gb223, 0, none⟩ (.string ((rd_T70 l0 x3_1).f0))).setCell ⟨gb223, 1, none⟩ (.int .i64 ((rd_T70 l0 x3_1).f1))).setCell ⟨gb223, 2, none⟩ (.int .i64 ((rd_T70 l0 x3_1).f2))) = w26 at n0_ n1_ ⊢
         have BK223 := n0_
         have HB := n1_
         clear n0_ n1_
         have n0_ := Aside0.mk (blk_drew BK223.out)
         have n1_ := Aside0.mk (below_drew1 HB.out)
         clear BK223
         clear HB
         have BK223 := n0_
         have HB := n1_
         clear n0_ n1_
         refine start_ (n := 31) (S := fun w' => w'.cell? ⟨gb223, 0, none⟩ = some (.string ((rd_T70 l0 x3_1).f0)) ∧ w'.cell? ⟨gb223, 1, none⟩ = some (.int .i64 ((rd_T70 l0 x3_1).f1)) ∧ w'.cell? ⟨gb223, 2, none⟩ = some (.int .i64 ((rd_T70 l0 x3_1).f2))) (ds := []) m0_31 (by kernel_rfl) rfl rfl ⟨ck BK223.out 0 rfl, ck BK223.out 1 rfl, ck BK223.out 2 rfl⟩ (fun hHeld => ?_); refine with_tabW spec_CarryOk.tab5 spec_CarryOk.bits5 (fun HT_ HW_ => ?_)
         generalize w26.drew = w27 at BK223 HB hHeld ⊢
         refine pq_ HT_.out 0 15 m1_31 ?_
         refine tk_ HT_.out HW_.out 1 16 m2_31 rfl rfl (by kernel_rfl) (by rfl) (by rintro w' ⟨s0, s1, s2⟩; go_simp; with_reducible rfl) hHeld (by simp only [sp_]; rfl) (fun _ _ _ h => h) ?_
         refine one_ (i := 2) (N := some 17) m3_31 rfl rfl (one_of HT_.out (by kernel_rfl)) (by decide) (fun K hK => ?_)
         refine goes_ Try.func49 (by kernel_rfl) rfl #[.string ((rd_T70 l0 x3_1).f0)] (by rfl) rfl rfl (by (try simp only [am_]); first | done | rfl) ?_
         with_reducible refine (spec_l1Name.calls k1 ((rd_T70 l0 x3_1).f0) true _ A7.out).mono ?_
         rintro e w' ⟨rfl, ⟨nd, rfl⟩⟩
         refine ⟨_, rfl, ?_⟩
         refine hK.out _ _ ⟨ck BK223.out 0 rfl, ck BK223.out 1 rfl, ck BK223.out 2 rfl⟩ (fun hHeld => ?_)
         clear hK K
         refine norm_ (a' := ?_) ?_ ?_
         rotate_left
         ·
          show Act.put _ (some 17) _ = _
          simp only [sp_]
          rfl
         refine pq_ HT_.out 3 18 m4_31 ?_
         refine pq_ HT_.out 4 19 m5_31 ?_
         refine pq_ HT_.out 5 20 m6_31 ?_
         refine pq_ HT_.out 6 21 m7_31 ?_
         refine pq_ HT_.out 7 22 m8_31 ?_
         refine pv_ HT_.out 8 23 m9_31 ?_
         refine pv_ HT_.out 9 24 m10_31 ?_
         refine pv_ HT_.out 10 25 m11_31 ?_
         refine pv_ HT_.out 11 26 m12_31 ?_
         refine pv_ HT_.out 12 27 m13_31 ?_
         refine pv_ HT_.out 13 28 m14_31 ?_
         refine pv_ HT_.out 14 29 m15_31 ?_
         refine pv_ HT_.out 15 30 m16_31 ?_
         refine pv_ HT_.out 16 31 m17_31 ?_
         refine pq_ HT_.out 17 32 m18_31 ?_
         refine pq_ HT_.out 18 33 m19_31 ?_
         refine pq_ HT_.out 19 34 m20_31 ?_
         refine pq_ HT_.out 20 35 m21_31 ?_
         refine tk_ HT_.out HW_.out 21 36 m22_31 rfl rfl (by kernel_rfl) (by rfl) (by rintro w' ⟨s0, s1, s2⟩; go_simp; with_reducible rfl) hHeld (by simp only [sp_]; rfl) (fun _ _ _ h => h) ?_
         refine one_ (i := 22) (N := some 37) m23_31 rfl rfl (one_of HT_.out (by kernel_rfl)) (by decide) (fun K hK => ?_)
         refine goes_ Try.func46 (by kernel_rfl) rfl #[.int .i64 ((rd_T70 l0 x3_1).f1), .int .i64 0, .int .i64 10] (by rfl) rfl rfl (by (try simp only [am_]); first | done | rfl) ?_
         with_reducible refine (spec_l1In.calls ((rd_T70 l0 x3_1).f1) 0 10 true _ A23.out).mono ?_
         rintro e w' ⟨rfl, ⟨nd, rfl⟩⟩
         refine ⟨_, rfl, ?_⟩
         refine hK.out _ _ ⟨ck BK223.out 0 rfl, ck BK223.out 1 rfl, ck BK223.out 2 rfl⟩ (fun hHeld => ?_)
         clear hK K
         refine norm_ (a' := ?_) ?_ ?_
         rotate_left
         ·
          show Act.put _ (some 37) _ = _
          simp only [sp_]
          rfl
         refine pq_ HT_.out 23 38 m24_31 ?_
         refine pq_ HT_.out 24 39 m25_31 ?_
         refine pq_ HT_.out 25 40 m26_31 ?_
         refine pq_ HT_.out 26 41 m27_31 ?_
         refine tk_ HT_.out HW_.out 27 42 m28_31 rfl rfl (by kernel_rfl) (by rfl) (by rintro w' ⟨s0, s1, s2⟩; go_simp; with_reducible rfl) hHeld (by simp only [sp_]; rfl) (fun _ _ _ h => h) ?_
         refine one_ (i := 28) (N := some 43) m29_31 rfl rfl (one_of HT_.out (by kernel_rfl)) (by decide) (fun K hK => ?_)
         refine goes_ Try.func46 (by kernel_rfl) rfl #[.int .i64 ((rd_T70 l0 x3_1).f2), .int .i64 0, .int .i64 120] (by rfl) rfl rfl (by (try simp only [am_]); first | done | rfl) ?_
         with_reducible refine (spec_l1In.calls ((rd_T70 l0 x3_1).f2) 0 120 t229 _ A25.out).mono ?_
         rintro e w' ⟨rfl, ⟨nd, rfl⟩⟩
         refine ⟨_, rfl, ?_⟩
         refine hK.out _ _ ⟨ck BK223.out 0 rfl, ck BK223.out 1 rfl, ck BK223.out 2 rfl⟩ (fun hHeld => ?_)
         clear hK K
         refine norm_ (a' := ?_) ?_ ?_
         rotate_left
         ·
          show Act.put _ (some 43) _ = _
          simp only [sp_]
          rfl
         refine pq_ HT_.out 29 44 m30_31 ?_
         refine pq_ HT_.out 30 45 m31_31 ?_
         refine done_ (done_of HT_.out (by kernel_rfl)) ?_
         try go_wp2
         go_meet
         case rel => exact ⟨_, (!t229), (by first | rfl | (simp; done) | (simp [*]; done)), H', ⟨by have := HK1.out; first | omega | exact Nat.le_refl _⟩, ⟨bk BK223.out⟩, ⟨by repeat with_reducible first | exact bl HB.out | refine below_set ?_ GE223.out | refine bq ?_⟩⟩
        ·
         replace c24 := Bool.eq_false_iff.mpr c24
         subst c24
         have H1 : (spec_CarryOk.j1 k1 l0 x3_1 true) = some r := by rw [if_neg (show ¬ (false = true) by decide)] at H; exact H
         clear H
         have H := H1
         clear H1
         have H' := Aside0.mk H
         clear H
         try go_wp2
         have n0_ : Aside0 ((((w5.setCell ⟨gb223, 0, none⟩ (.string ((rd_T70 l0 x3_1).f0))).setCell ⟨gb223, 1, none⟩ (.int .i64 ((rd_T70 l0 x3_1).f1))).setCell ⟨gb223, 2, none⟩ (.int .i64 ((rd_T70 l0 x3_1).f2))).heap[gb223]? = some (.cells #[.string ((rd_T70 l0 x3_1).f0), .int .i64 ((rd_T70 l0 x3_1).f1), .int .i64 ((rd_T70 l0 x3_1).f2)] 70 (0, 0))) := ⟨by (repeat refine bk1 ?_); refine blk_put (cs := #[.string ((rd_T70 l0 x3_1).f0), .int .i64 ((rd_T70 l0 x3_1).f1), .int .i64 0]) ?_ 2 _ rfl; (repeat refine bk1 ?_); refine blk_put (cs := #[.string ((rd_T70 l0 x3_1).f0), .int .i64 0, .int .i64 0]) ?_ 1 _ rfl; (repeat refine bk1 ?_); refine blk_put (cs := #[.string (⟨#[]⟩ : ByteArray), .int .i64 0, .int .i64 0]) ?_ 0 _ rfl; (repeat refine bk1 ?_); exact BK223.out⟩
         have n1_ : Aside0 (Below w.heap.size w (((w5.setCell ⟨gb223, 0, none⟩ (.string ((rd_T70 l0 x3_1).f0))).setCell ⟨gb223, 1, none⟩ (.int .i64 ((rd_T70 l0 x3_1).f1))).setCell ⟨gb223, 2, none⟩ (.int .i64 ((rd_T70 l0 x3_1).f2)))) := ⟨by repeat with_reducible first | exact bl HB.out | refine below_set ?_ GE223.out | refine bq ?_⟩
         (try clear BK223)
         (try clear HB)
         generalize (((w5.setCell ⟨gb223, 0, none⟩ (.string ((rd_T70 l0 x3_1).f0))).setCell ⟨gb223, 1, none⟩ (.int .i64 ((rd_T70 l0 x3_1).f1))).setCell ⟨gb223, 2, none⟩ (.int .i64 ((rd_T70 l0 x3_1).f2))) = w28 at n0_ n1_ ⊢
         have BK223 := n0_
         have HB := n1_
         clear n0_ n1_
         have n0_ := Aside0.mk (blk_drew BK223.out)
         have n1_ := Aside0.mk (below_drew1 HB.out)
         clear BK223
         clear HB
         have BK223 := n0_
         have HB := n1_
         clear n0_ n1_
         refine start_ (n := 31) (S := fun w' => w'.cell? ⟨gb223, 0, none⟩ = some (.string ((rd_T70 l0 x3_1).f0)) ∧ w'.cell? ⟨gb223, 1, none⟩ = some (.int .i64 ((rd_T70 l0 x3_1).f1)) ∧ w'.cell? ⟨gb223, 2, none⟩ = some (.int .i64 ((rd_T70 l0 x3_1).f2))) (ds := []) m0_31 (by kernel_rfl) rfl rfl ⟨ck BK223.out 0 rfl, ck BK223.out 1 rfl, ck BK223.out 2 rfl⟩ (fun hHeld => ?_); refine with_tabW spec_CarryOk.tab5 spec_CarryOk.bits5 (fun HT_ HW_ => ?_)
         generalize w28.drew = w29 at BK223 HB hHeld ⊢
         refine pq_ HT_.out 0 15 m1_31 ?_
         refine tk_ HT_.out HW_.out 1 16 m2_31 rfl rfl (by kernel_rfl) (by rfl) (by rintro w' ⟨s0, s1, s2⟩; go_simp; with_reducible rfl) hHeld (by simp only [sp_]; rfl) (fun _ _ _ h => h) ?_
         refine one_ (i := 2) (N := some 17) m3_31 rfl rfl (one_of HT_.out (by kernel_rfl)) (by decide) (fun K hK => ?_)
         refine goes_ Try.func49 (by kernel_rfl) rfl #[.string ((rd_T70 l0 x3_1).f0)] (by rfl) rfl rfl (by (try simp only [am_]); first | done | rfl) ?_
         with_reducible refine (spec_l1Name.calls k1 ((rd_T70 l0 x3_1).f0) true _ A7.out).mono ?_
         rintro e w' ⟨rfl, ⟨nd, rfl⟩⟩
         refine ⟨_, rfl, ?_⟩
         refine hK.out _ _ ⟨ck BK223.out 0 rfl, ck BK223.out 1 rfl, ck BK223.out 2 rfl⟩ (fun hHeld => ?_)
         clear hK K
         refine norm_ (a' := ?_) ?_ ?_
         rotate_left
         ·
          show Act.put _ (some 17) _ = _
          simp only [sp_]
          rfl
         refine pq_ HT_.out 3 18 m4_31 ?_
         refine pq_ HT_.out 4 19 m5_31 ?_
         refine pq_ HT_.out 5 20 m6_31 ?_
         refine pq_ HT_.out 6 21 m7_31 ?_
         refine pq_ HT_.out 7 22 m8_31 ?_
         refine pv_ HT_.out 8 23 m9_31 ?_
         refine pv_ HT_.out 9 24 m10_31 ?_
         refine pv_ HT_.out 10 25 m11_31 ?_
         refine pv_ HT_.out 11 26 m12_31 ?_
         refine pv_ HT_.out 12 27 m13_31 ?_
         refine pv_ HT_.out 13 28 m14_31 ?_
         refine pv_ HT_.out 14 29 m15_31 ?_
         refine pv_ HT_.out 15 30 m16_31 ?_
         refine pv_ HT_.out 16 31 m17_31 ?_
         refine pq_ HT_.out 17 32 m18_31 ?_
         refine pq_ HT_.out 18 33 m19_31 ?_
         refine pq_ HT_.out 19 34 m20_31 ?_
         refine pq_ HT_.out 20 35 m21_31 ?_
         refine tk_ HT_.out HW_.out 21 36 m22_31 rfl rfl (by kernel_rfl) (by rfl) (by rintro w' ⟨s0, s1, s2⟩; go_simp; with_reducible rfl) hHeld (by simp only [sp_]; rfl) (fun _ _ _ h => h) ?_
         refine one_ (i := 22) (N := some 37) m23_31 rfl rfl (one_of HT_.out (by kernel_rfl)) (by decide) (fun K hK => ?_)
         refine goes_ Try.func46 (by kernel_rfl) rfl #[.int .i64 ((rd_T70 l0 x3_1).f1), .int .i64 0, .int .i64 10] (by rfl) rfl rfl (by (try simp only [am_]); first | done | rfl) ?_
         with_reducible refine (spec_l1In.calls ((rd_T70 l0 x3_1).f1) 0 10 false _ A23.out).mono ?_
         rintro e w' ⟨rfl, ⟨nd, rfl⟩⟩
         refine ⟨_, rfl, ?_⟩
         refine hK.out _ _ ⟨ck BK223.out 0 rfl, ck BK223.out 1 rfl, ck BK223.out 2 rfl⟩ (fun hHeld => ?_)
         clear hK K
         refine norm_ (a' := ?_) ?_ ?_
         rotate_left
         ·
          show Act.put _ (some 37) _ = _
          simp only [sp_]
          rfl
         refine pq_ HT_.out 23 38 m24_31 ?_
         refine pq_ HT_.out 24 39 m25_31 ?_
         refine pq_ HT_.out 25 40 m26_31 ?_
         refine pv_ HT_.out 26 41 m27_31 ?_
         refine pv_ HT_.out 27 42 m28_31 ?_
         refine pv_ HT_.out 28 43 m29_31 ?_
         refine pv_ HT_.out 29 44 m30_31 ?_
         refine pq_ HT_.out 30 45 m31_31 ?_
         refine done_ (done_of HT_.out (by kernel_rfl)) ?_
         try go_wp2
         go_meet
         case rel => exact ⟨_, (true), (by first | rfl | (simp; done) | (simp [*]; done)), H', ⟨by have := HK1.out; first | omega | exact Nat.le_refl _⟩, ⟨bk BK223.out⟩, ⟨by repeat with_reducible first | exact bl HB.out | refine below_set ?_ GE223.out | refine bq ?_⟩⟩
      ·
       replace c8 := Bool.eq_false_iff.mpr c8
       subst c8
       have H1 : (spec_CarryOk.j1 k1 l0 x3_1 true) = some r := by rw [if_neg (show ¬ (false = true) by decide)] at H; exact H
       clear H
       have H := H1
       clear H1
       have H' := Aside0.mk H
       clear H
       try go_wp2
       have n0_ : Aside0 ((((w5.setCell ⟨gb223, 0, none⟩ (.string ((rd_T70 l0 x3_1).f0))).setCell ⟨gb223, 1, none⟩ (.int .i64 ((rd_T70 l0 x3_1).f1))).setCell ⟨gb223, 2, none⟩ (.int .i64 ((rd_T70 l0 x3_1).f2))).heap[gb223]? = some (.cells #[.string ((rd_T70 l0 x3_1).f0), .int .i64 ((rd_T70 l0 x3_1).f1), .int .i64 ((rd_T70 l0 x3_1).f2)] 70 (0, 0))) := ⟨by (repeat refine bk1 ?_); refine blk_put (cs := #[.string ((rd_T70 l0 x3_1).f0), .int .i64 ((rd_T70 l0 x3_1).f1), .int .i64 0]) ?_ 2 _ rfl; (repeat refine bk1 ?_); refine blk_put (cs := #[.string ((rd_T70 l0 x3_1).f0), .int .i64 0, .int .i64 0]) ?_ 1 _ rfl; (repeat refine bk1 ?_); refine blk_put (cs := #[.string (⟨#[]⟩ : ByteArray), .int .i64 0, .int .i64 0]) ?_ 0 _ rfl; (repeat refine bk1 ?_); exact BK223.out⟩
       have n1_ : Aside0 (Below w.heap.size w (((w5.setCell ⟨gb223, 0, none⟩ (.string ((rd_T70 l0 x3_1).f0))).setCell ⟨gb223, 1, none⟩ (.int .i64 ((rd_T70 l0 x3_1).f1))).setCell ⟨gb223, 2, none⟩ (.int .i64 ((rd_T70 l0 x3_1).f2)))) := ⟨by repeat with_reducible first | exact bl HB.out | refine below_set ?_ GE223.out | refine bq ?_⟩
       (try clear BK223)
       (try clear HB)
       generalize (((w5.setCell ⟨gb223, 0, none⟩ (.string ((rd_T70 l0 x3_1).f0))).setCell ⟨gb223, 1, none⟩ (.int .i64 ((rd_T70 l0 x3_1).f1))).setCell ⟨gb223, 2, none⟩ (.int .i64 ((rd_T70 l0 x3_1).f2))) = w30 at n0_ n1_ ⊢
       have BK223 := n0_
       have HB := n1_
       clear n0_ n1_
       have n0_ := Aside0.mk (blk_drew BK223.out)
       have n1_ := Aside0.mk (below_drew1 HB.out)
       clear BK223
       clear HB
       have BK223 := n0_
       have HB := n1_
       clear n0_ n1_
       refine start_ (n := 31) (S := fun w' => w'.cell? ⟨gb223, 0, none⟩ = some (.string ((rd_T70 l0 x3_1).f0)) ∧ w'.cell? ⟨gb223, 1, none⟩ = some (.int .i64 ((rd_T70 l0 x3_1).f1)) ∧ w'.cell? ⟨gb223, 2, none⟩ = some (.int .i64 ((rd_T70 l0 x3_1).f2))) (ds := []) m0_31 (by kernel_rfl) rfl rfl ⟨ck BK223.out 0 rfl, ck BK223.out 1 rfl, ck BK223.out 2 rfl⟩ (fun hHeld => ?_); refine with_tabW spec_CarryOk.tab5 spec_CarryOk.bits5 (fun HT_ HW_ => ?_)
       generalize w30.drew = w31 at BK223 HB hHeld ⊢
       refine pq_ HT_.out 0 15 m1_31 ?_
       refine tk_ HT_.out HW_.out 1 16 m2_31 rfl rfl (by kernel_rfl) (by rfl) (by rintro w' ⟨s0, s1, s2⟩; go_simp; with_reducible rfl) hHeld (by simp only [sp_]; rfl) (fun _ _ _ h => h) ?_
       refine one_ (i := 2) (N := some 17) m3_31 rfl rfl (one_of HT_.out (by kernel_rfl)) (by decide) (fun K hK => ?_)
       refine goes_ Try.func49 (by kernel_rfl) rfl #[.string ((rd_T70 l0 x3_1).f0)] (by rfl) rfl rfl (by (try simp only [am_]); first | done | rfl) ?_
       with_reducible refine (spec_l1Name.calls k1 ((rd_T70 l0 x3_1).f0) false _ A7.out).mono ?_
       rintro e w' ⟨rfl, ⟨nd, rfl⟩⟩
       refine ⟨_, rfl, ?_⟩
       refine hK.out _ _ ⟨ck BK223.out 0 rfl, ck BK223.out 1 rfl, ck BK223.out 2 rfl⟩ (fun hHeld => ?_)
       clear hK K
       refine norm_ (a' := ?_) ?_ ?_
       rotate_left
       ·
        show Act.put _ (some 17) _ = _
        simp only [sp_]
        rfl
       refine pq_ HT_.out 3 18 m4_31 ?_
       refine pq_ HT_.out 4 19 m5_31 ?_
       refine pv_ HT_.out 5 20 m6_31 ?_
       refine pv_ HT_.out 6 21 m7_31 ?_
       refine pv_ HT_.out 7 22 m8_31 ?_
       refine pv_ HT_.out 8 23 m9_31 ?_
       refine pv_ HT_.out 9 24 m10_31 ?_
       refine pv_ HT_.out 10 25 m11_31 ?_
       refine pv_ HT_.out 11 26 m12_31 ?_
       refine pv_ HT_.out 12 27 m13_31 ?_
       refine pv_ HT_.out 13 28 m14_31 ?_
       refine pv_ HT_.out 14 29 m15_31 ?_
       refine pv_ HT_.out 15 30 m16_31 ?_
       refine pv_ HT_.out 16 31 m17_31 ?_
       refine pv_ HT_.out 17 32 m18_31 ?_
       refine pq_ HT_.out 18 33 m19_31 ?_
       refine pq_ HT_.out 19 34 m20_31 ?_
       refine pv_ HT_.out 20 35 m21_31 ?_
       refine pv_ HT_.out 21 36 m22_31 ?_
       refine pv_ HT_.out 22 37 m23_31 ?_
       refine pv_ HT_.out 23 38 m24_31 ?_
       refine pq_ HT_.out 24 39 m25_31 ?_
       refine pq_ HT_.out 25 40 m26_31 ?_
       refine pv_ HT_.out 26 41 m27_31 ?_
       refine pv_ HT_.out 27 42 m28_31 ?_
       refine pv_ HT_.out 28 43 m29_31 ?_
       refine pv_ HT_.out 29 44 m30_31 ?_
       refine pq_ HT_.out 30 45 m31_31 ?_
       refine done_ (done_of HT_.out (by kernel_rfl)) ?_
       try go_wp2
       go_meet
       case rel => exact ⟨_, (true), (by first | rfl | (simp; done) | (simp [*]; done)), H', ⟨by have := HK1.out; first | omega | exact Nat.le_refl _⟩, ⟨bk BK223.out⟩, ⟨by repeat with_reducible first | exact bl HB.out | refine below_set ?_ GE223.out | refine bq ?_⟩⟩
     case rest =>
      clear HC4
      try clear c2
      try clear p2
      try clear c4
      try clear c8
      try clear c24
      obtain ⟨kq, x45_3, rfl, HA, HJ3, BK223, HB⟩ := hcut
      cases kq with
      | zero => exact absurd HA.out (by simp [spec_CarryOk.j1])
      | succ kj3 =>
       have H := HA.out
       clear HA
       simp only [spec_CarryOk.j1] at H
       by_cases c32 : x45_3 = true
       ·
        subst c32
        have H1 : (some false) = some r := by rw [if_pos rfl] at H; exact H
        clear H
        have H := H1
        clear H1
        obtain rfl := Option.some.inj H
        go_wp2
        go_ret
        exact ⟨by first | rfl | (simp [errW_none, errW_some] <;> rfl) | (simp [*, errW_none, errW_some] <;> rfl), by repeat with_reducible first | exact bl HB.out | refine below_set ?_ GE223.out | refine bq ?_⟩
       ·
        replace c32 := Bool.eq_false_iff.mpr c32
        subst c32
        have H1 : (spec_CarryOk.l0 kj3 l0 (wrap64 (x3_1 + 1))) = some r := by rw [if_neg (show ¬ (false = true) by decide)] at H; exact H
        clear H
        have H := H1
        clear H1
        have H' := Aside0.mk H
        clear H
        go_wp2
        go_roundg kj3
        case measure => have := HK1.out; have := HJ3.out; omega
        case rel => exact ⟨(wrap64 (x3_1 + 1)), (by first | rfl | (simp; done) | (simp [*]; done)), H', ⟨by have := HK1.out; have := HJ3.out; omega⟩, ⟨by repeat with_reducible first | exact bl HB.out | refine below_set ?_ GE223.out | refine bq ?_⟩⟩
    ·
     rw [if_neg c3] at H
     exact absurd H (by simp)
   ·
    rw [if_neg c2] at H
    have c2b0 : decide (x3_1 < (l0.length : Int)) = false := decide_eq_false c2
    clear c2
    obtain rfl := Option.some.inj H
    go_wp2
    go_ret
    exact ⟨by first | rfl | (simp [errW_none, errW_some] <;> rfl) | (simp [*, errW_none, errW_some] <;> rfl), bl HB.out⟩

end Go.Proofs.Ytbgdibbgngpggaa.PFnExactNextDue
