-- Written by a program of this session (wip/xprint.py) out of the translation; Lean checks it.
import Derived.Test.YtdimdlifjdbgnaaPFnReleasedx0
import Derived.Test.YtdimdlifjdbgnaaPFnReleasedx1
import Derived.Test.YtdimdlifjdbgnaaPFnReleasedx2
import Derived.Test.YtdimdlifjdbgnaaPFnReleasedx3
import Derived.Test.YtdimdlifjdbgnaaPFnReleasedx4
import Derived.Test.YtdimdlifjdbgnaaPFnReleasedx5
import Derived.Test.YtdimdlifjdbgnaaPFnReleasedx6
namespace Go.Proofs.Ytdimdlifjdbgnaa.PFnReleased
open Go.RowKit Go.Proofs.YtdimdlifjdbgnaaW.PrintWords Go.Proofs.YtdimdlifjdbgnaaW.PrintLast Go.Proofs.YtdimdlifjdbgnaaW.PrintMore Go.Proofs.Ytdimdlifjdbgnaa.Sq
attribute [local go_sem] max2_int min2_int max_two min_two max_three min_three max_four min_four   -- for this text's walks alone
set_option linter.unusedVariables false
set_option linter.unusedSimpArgs false

/-! ### slices_Min_int_int: function 69 -/
def slices_Min_int_int.l0 : Nat → List Int → Int → Int → Option (Int)
 | 0, _, _, _ => none
 | k + 1, x0, x3, x4 => if x4 < (x0.length : Int) then (if 0 ≤ x4 then (slices_Min_int_int.l0 k x0 (mn x3 (rd x0 x4)) (wrap64 (x4 + 1))) else (none)) else (some x3)
def slices_Min_int_int.f (k : Nat) (l0 : List Int) : Option (Int) := if (l0.length : Int) < 1 then (none) else (if 0 < (l0.length : Int) then (slices_Min_int_int.l0 k l0 (rd l0 0) 1) else (none))
theorem slices_Min_int_int.mono_l : ∀ k, (∀ y0 y1 y2, LeO (slices_Min_int_int.l0 k y0 y1 y2) (slices_Min_int_int.l0 (k + 1) y0 y1 y2))
 | 0 => fun _ _ _ r h => by simp [slices_Min_int_int.l0] at h
 | k + 1 => by
  have ih0 := slices_Min_int_int.mono_l k
  ·
   intro y0 y1 y2
   unfold slices_Min_int_int.l0
   repeat' first
   | (with_reducible exact ih0 _ _ _)
   | (with_reducible exact LeO.refl _)
   | (with_reducible exact LeO.none _)
   | (with_reducible refine LeO.ite ?_ ?_)
   | (with_reducible refine LeO.bind ?_ (fun _ => ?_))
   | exact ih0 _ _ _
   | exact LeO.none _
   | refine LeO.ite ?_ ?_
   | refine LeO.bind ?_ (fun _ => ?_)
theorem slices_Min_int_int.mono : ∀ a0 k, LeO (slices_Min_int_int.f k a0) (slices_Min_int_int.f (k + 1) a0) := by
 intro a0 k
 have ih0 := slices_Min_int_int.mono_l k
 unfold slices_Min_int_int.f
 repeat' first
   | (with_reducible exact ih0 _ _ _)
   | (with_reducible exact LeO.refl _)
   | (with_reducible exact LeO.none _)
   | (with_reducible refine LeO.ite ?_ ?_)
   | (with_reducible refine LeO.bind ?_ (fun _ => ?_))
   | exact ih0 _ _ _
   | exact LeO.none _
   | refine LeO.ite ?_ ?_
   | refine LeO.bind ?_ (fun _ => ?_)
set_option maxHeartbeats 8000000 in
set_option maxRecDepth 100000 in
theorem slices_Min_int_int.calls (k : Nat) (A0 : Option Addr) (c0 : Nat) (l0 : List Int) (r : Int) (w : World) (hr0 : Kd.C (Kd.int .i64) w A0 l0.length l0) (hc0 : l0.length ≤ c0) (h : slices_Min_int_int.f k l0 = some r) :
  Calls Try.prog 69 #[.slice A0 l0.length c0] w fun e w' => e = .returned (.int .i64 r) ∧ Below w.heap.size w w' := by
 have HR0 := Aside0.mk hr0
 have HC0 := Aside0.mk hc0
 clear hr0 hc0
 have HB := Aside0.mk (Below.refl w.heap.size w)
 have H : (if (l0.length : Int) < 1 then (none) else (if 0 < (l0.length : Int) then (slices_Min_int_int.l0 k l0 (rd l0 0) 1) else (none))) = some r := h
 clear h
 by_cases c2 : (l0.length : Int) < 1
 ·
  rw [if_pos c2] at H
  exact absurd H (by simp)
 ·
  rw [if_neg c2] at H
  have c2b0 : decide ((l0.length : Int) < 1) = false := decide_eq_false c2
  have c2b1 : decide (l0.length < 1) = false := decide_eq_false (by omega)
  clear c2
  by_cases c3 : 0 < (l0.length : Int)
  ·
   rw [if_pos c3] at H
   have c3b0 : decide (0 < (l0.length : Int)) = true := decide_eq_true c3
   have c3b1 : decide (0 < l0.length) = true := decide_eq_true (by omega)
   clear c3
   have H' := Aside0.mk H
   clear H
   have p346 : 0 ≤ (0 : Int) := (by omega)
   have q346 : 0 < (l0.length : Int) := of_decide_eq_true (by first | (with_reducible assumption) | assumption)
   obtain ⟨ad346, e346, hx346_0⟩ := Kd.at_int HR0.out 0 p346 q346
   cases e346
   have qi346 : (0 < l0.length) = True := eq_true (by omega)
   (try rw [show ((0 : Int)).toNat = 0 from rfl] at hx346_0)
   (try rw [Addr.add_zero'] at hx346_0)
   replace p346 := eq_true p346
   replace q346 := eq_true q346
   go_enter Try.func69, Try.ntmps69
   go_wp2
   go_loopg [3, 4] k (fun kq v3 v4 w' => ∃ (x3_1 : Int) (x4_1 : Int), v3 = .int .i64 x3_1 ∧ v4 = .int .i64 x4_1 ∧ Aside0 (slices_Min_int_int.l0 kq l0 x3_1 x4_1 = some r) ∧ Aside0 (kq ≤ k) ∧ Aside0 (Below w.heap.size w w'))
   case atStart => exact ⟨(rd l0 0), (1), (by first | rfl | (simp; done) | (simp [*]; done)), (by first | rfl | (simp; done) | (simp [*]; done)), H', ⟨Nat.le_refl _⟩, ⟨bl HB.out⟩⟩
   case round =>
    clear H'
    try clear c2
    try clear c2b0
    try clear c2b1
    try clear p2
    try clear c3
    try clear c3b0
    try clear c3b1
    try clear p3
    try clear q3
    try clear hx3
    try clear qi3
    try clear hx346_0
    try clear p346
    try clear q346
    obtain ⟨x3_1, x4_1, rfl, rfl, HA, HK1, HB⟩ := hrel
    cases gk with
    | zero => exact absurd HA.out (by simp [slices_Min_int_int.l0])
    | succ k1 =>
     have H := HA.out
     clear HA
     simp only [slices_Min_int_int.l0] at H
     by_cases c4 : x4_1 < (l0.length : Int)
     ·
      rw [if_pos c4] at H
      have c4b0 : decide (x4_1 < (l0.length : Int)) = true := decide_eq_true c4
      clear c4
      by_cases c5 : 0 ≤ x4_1
      ·
       rw [if_pos c5] at H
       have c5b0 : decide (0 ≤ x4_1) = true := decide_eq_true c5
       clear c5
       obtain ⟨ji6, hji6⟩ : ∃ j_ : Int, (mn x3_1 (rd l0 x4_1)) = j_ := ⟨_, rfl⟩
       replace H : (slices_Min_int_int.l0 k1 l0 ji6 (wrap64 (x4_1 + 1))) = some r := by first | (rw [hji6] at H; exact H) | (simp only [hji6] at H ⊢; exact H)
       have hji6_ : (if (rd l0 x4_1) < x3_1 then (rd l0 x4_1) else x3_1) = ji6 := hji6
       have H' := Aside0.mk H
       clear H
       have p347 : 0 ≤ (x4_1 : Int) := of_decide_eq_true (by first | (with_reducible assumption) | assumption)
       have q347 : x4_1 < (l0.length : Int) := of_decide_eq_true (by first | (with_reducible assumption) | assumption)
       obtain ⟨ad347, e347, hx347_0⟩ := Kd.at_int HR0.out x4_1 p347 q347
       obtain rfl : ad346 = ad347 := (by injection e347)
       replace hx347_0 := bc HB.out hx347_0
       replace p347 := eq_true p347
       replace q347 := eq_true q347
       go_wp2
       go_roundg k1
       case measure => have := HK1.out; omega
       case rel => exact ⟨(ji6), (wrap64 (x4_1 + 1)), (by first | rfl | (simp; done) | (simp only [← hji6] <;> (first | rfl | simp)) | (simp [*]; done)), (by first | rfl | (simp; done) | (simp [*]; done)), H', ⟨by have := HK1.out; omega⟩, ⟨bl HB.out⟩⟩
      ·
       rw [if_neg c5] at H
       exact absurd H (by simp)
     ·
      rw [if_neg c4] at H
      have c4b0 : decide (x4_1 < (l0.length : Int)) = false := decide_eq_false c4
      clear c4
      obtain rfl := Option.some.inj H
      go_wp2
      go_ret
      exact ⟨by first | rfl | (simp [errW_none, errW_some] <;> rfl) | (simp [*, errW_none, errW_some] <;> rfl), bl HB.out⟩
  ·
   rw [if_neg c3] at H
   exact absurd H (by simp)

/-! ### impl_passed: function 30 -/
def impl_passed.f (k : Nat) (a0_0 : Int) (a0_1 : Int) (a0_2 : Int) (a1_0 : Int) (a1_1 : Int) (a1_2 : Int) : Option (List Int × Bool) := (some (([wrap64 (a1_0 - a0_0), wrap64 (a1_1 - a0_1), wrap64 (a1_2 - a0_2)] : List Int) : List Int)).bind fun y350 => ((slices_Min_int_int.f k y350).bind fun t353 => (some (y350, decide (t353 ≥ 0))))
theorem impl_passed.mono : ∀ a0 a1 a2 a3 a4 a5 k, LeO (impl_passed.f k a0 a1 a2 a3 a4 a5) (impl_passed.f (k + 1) a0 a1 a2 a3 a4 a5) := by
 intro a0 a1 a2 a3 a4 a5 k
 unfold impl_passed.f
 repeat' first
   | (with_reducible exact slices_Min_int_int.mono _ _)
   | (with_reducible exact LeO.refl _)
   | (with_reducible exact LeO.none _)
   | (with_reducible refine LeO.ite ?_ ?_)
   | (with_reducible refine LeO.bind ?_ (fun _ => ?_))
   | exact slices_Min_int_int.mono _ _
   | exact LeO.none _
   | refine LeO.ite ?_ ?_
   | refine LeO.bind ?_ (fun _ => ?_)
set_option maxHeartbeats 8000000 in
set_option maxRecDepth 100000 in
theorem impl_passed.calls (k : Nat) (a0_0 : Int) (a0_1 : Int) (a0_2 : Int) (a1_0 : Int) (a1_1 : Int) (a1_2 : Int) (r1 : List Int) (r2 : Bool) (w : World) (h : impl_passed.f k a0_0 a0_1 a0_2 a1_0 a1_1 a1_2 = some (r1, r2)) :
  Calls Try.prog 30 #[.agg #[.int .i64 a0_0, .int .i64 a0_1, .int .i64 a0_2], .agg #[.int .i64 a1_0, .int .i64 a1_1, .int .i64 a1_2]] w fun e w' => ∃ v0_ : Value, e = .returned (.tuple #[v0_, .bool r2]) ∧ Kd.R (Kd.int .i64) 3 w' w.heap.size (fun _ => True) v0_ r1 ∧ Below w.heap.size w w' := by
 have hu28 := Try.underlying28
 have HB := Aside0.mk (Below.refl w.heap.size w)
 have H : ((some (([wrap64 (a1_0 - a0_0), wrap64 (a1_1 - a0_1), wrap64 (a1_2 - a0_2)] : List Int) : List Int)).bind fun y350 => ((slices_Min_int_int.f k y350).bind fun t353 => (some (y350, decide (t353 ≥ 0))))) = some (r1, r2) := h
 clear h
 obtain ⟨y350, hy350⟩ : ∃ y_ : List Int, y_ = (([wrap64 (a1_0 - a0_0), wrap64 (a1_1 - a0_1), wrap64 (a1_2 - a0_2)] : List Int)) := ⟨_, rfl⟩
 replace H : ((slices_Min_int_int.f k y350).bind fun t353 => (some (y350, decide (t353 ≥ 0)))) = some (r1, r2) := by first | (rw [hy350]; with_reducible exact H) | (have H2_ := (Option.bind_some _ _).symm.trans H; rw [hy350]; with_reducible exact H2_) | (have H2_ := (Option.bind_some _ _).symm.trans H; with_reducible exact H2_) | with_reducible exact H | (rw [hy350]; exact H) | exact H
 have Ny350 := Aside0.mk hy350
 clear hy350
 replace H := Option.bind_eq_some_iff.mp H
 obtain ⟨t353, A30, H⟩ := H
 replace H : (some (y350, decide (t353 ≥ 0))) = some (r1, r2) := H
 have A3 := Aside0.mk A30
 clear A30
 simp only [Option.some.injEq, Prod.mk.injEq] at H
 obtain ⟨rfl, rfl⟩ := H
 go_enter Try.func30, Try.ntmps30
 go_wp2_with (first | ((with_reducible refine gate_dst (N := 2) rfl ?_); refine box_event ?hg (N := 2) ?hd (cs := #[.int .i64 a0_0, .int .i64 a0_1, .int .i64 a0_2]) (t := 28) ?hr ?_; (case hd => rfl); (case hg => rfl); (case hr => first | (go_simp; done) | (go_simp; rfl)); intro gb348 hg w4 hbox hb; have BK348 := Aside0.mk (hbox); have GW348 := Aside0.mk ((by rw [hg]; exact (below_size (bl HB.out)) : w.heap.size ≤ gb348)); have GE348 := GW348; replace HB := Aside0.mk (below_step (bl HB.out) hb); clear hb hbox hg) | ((with_reducible refine gate_dst (N := 3) rfl ?_); refine box_event ?hg (N := 3) ?hd (cs := #[.int .i64 a1_0, .int .i64 a1_1, .int .i64 a1_2]) (t := 28) ?hr ?_; (case hd => rfl); (case hg => rfl); (case hr => first | (go_simp; done) | (go_simp; rfl)); intro gb349 hg w5 hbox hb; have BK349 := Aside0.mk (hbox); have GW349 := Aside0.mk ((by rw [hg]; exact (below_size (by repeat with_reducible first | exact bl HB.out | refine below_set ?_ GE348.out | refine bq ?_)) : w.heap.size ≤ gb349)); have GE349 := GW349; replace HB := Aside0.mk (below_step (by repeat with_reducible first | exact bl HB.out | refine below_set ?_ GE348.out | refine bq ?_) hb); have NB348_349 := nb_ hg BK348.out; have NB349_348 := Aside0.mk NB348_349.out.symm; replace BK348 := Aside0.mk (blk_below (bk BK348.out) hb); clear hb hbox hg; have hnb6 := NB349_348.out; have hnc6 := NB348_349.out; obtain ⟨hcz7_0, hcz7_1, hcz7_2⟩ := ck3 BK349.out; obtain ⟨hfz7_0, hfz7_1, hfz7_2⟩ := fz3 BK349.out; obtain ⟨hcz8_0, hcz8_1, hcz8_2⟩ := ck3 BK348.out; obtain ⟨hfz8_0, hfz8_1, hfz8_2⟩ := fz3 BK348.out) | ((with_reducible refine gate_dst (N := 22) rfl ?_); refine Kd.R_lit (Kd.int .i64) _ 3 ?hg (N := 22) ?hd (xs := ([wrap64 (a1_0 - a0_0), wrap64 (a1_1 - a0_1), wrap64 (a1_2 - a0_2)] : List Int)) (inner := [.int .i64 (wrap64 (a1_0 - a0_0)), .int .i64 (wrap64 (a1_1 - a0_1)), .int .i64 (wrap64 (a1_2 - a0_2))]) (ok := fun _ => True) (okp := fun _ => True) ?hr ?hp (fun _ hk => hk) trivial (Below.refl _ _) (Nat.le_refl _) (by simp) ?_; (case hd => rfl); (case hg => rfl); (case hr => first | (go_simp; done) | (go_simp; rfl)); (case hp => exact (Reps.one (show Kd.M (Kd.int .i64) _ _ _ (wrap64 (a1_0 - a0_0)) [.int .i64 (wrap64 (a1_0 - a0_0))] from rfl) (Reps.one (show Kd.M (Kd.int .i64) _ _ _ (wrap64 (a1_1 - a0_1)) [.int .i64 (wrap64 (a1_1 - a0_1))] from rfl) (Reps.one (show Kd.M (Kd.int .i64) _ _ _ (wrap64 (a1_2 - a0_2)) [.int .i64 (wrap64 (a1_2 - a0_2))] from rfl) (Reps.none _ _))))); intro v351 w9 ho10 hb hg_ hnew_; clear hg_ hnew_; (first | rw [← Ny350.out] at ho10 | (simp only [Int.reduceToNat] at ho10; rw [← Ny350.out] at ho10)); have HO352 := Aside0.mk (Kd.R_lower ho10 (below_size (by repeat with_reducible first | exact bl HB.out | refine below_set ?_ GE348.out | refine below_set ?_ GE349.out | refine bq ?_))); replace BK348 := Aside0.mk (blk_below (bk BK348.out) hb); replace BK349 := Aside0.mk (blk_below (bk BK349.out) hb); replace HB := Aside0.mk (below_step (by repeat with_reducible first | exact bl HB.out | refine below_set ?_ GE348.out | refine below_set ?_ GE349.out | refine bq ?_) hb); clear hb ho10; obtain ⟨Ao11, co11, eo11⟩ := Kd.R_slice HO352.out; subst eo11) | ((with_reducible refine gate_callee (f := 69) rfl ?_); refine goesL_ (some 25) rfl rfl Try.func69 (by kernel_rfl) rfl #[.slice Ao11 y350.length co11] rfl (by (try simp only [am_]); first | done | rfl) ?_; (with_reducible refine (slices_Min_int_int.calls k _ _ y350 t353 _ ?side1 ?side2 A3.out).mono ?_); (case side1 => exact rc (Kd.R_reads' HO352.out).2.2); (case side2 => exact (Kd.R_reads' HO352.out).2.1); rintro e w12 ⟨rfl, hb⟩; refine ⟨_, rfl, ?_⟩; replace HO352 := Aside0.mk (Kd.R_below (rl HO352.out) hb); replace BK348 := Aside0.mk (blk_below (bk BK348.out) hb); replace BK349 := Aside0.mk (blk_below (bk BK349.out) hb); replace HB := Aside0.mk (below_step (by repeat with_reducible first | exact bl HB.out | refine below_set ?_ GE348.out | refine below_set ?_ GE349.out | refine bq ?_) hb); (try clear hb); (try clear hb2); (try clear hk); (try clear hi)))
 go_ret2
 exact ⟨_, by first | rfl | (simp [errW_none, errW_some] <;> rfl) | (simp [*, errW_none, errW_some] <;> rfl), by (repeat apply rl1); exact HO352.out, by repeat with_reducible first | exact bl HB.out | refine below_set ?_ GE348.out | refine below_set ?_ GE349.out | refine bq ?_⟩

-- HAND FROM
open Go.Proofs.Ytdimdlifjdbgnaa.Base Go.Proofs.Ytdimdlifjdbgnaa.Sq
def clockB (a b c : Int) : Bool := inB a 0 1000000 && (inB b 0 1000000 && inB c 0 1000000)
theorem clockB_in {a b c : Int} (h : clockB a b c = true) : (0 ≤ a ∧ a ≤ 1000000) ∧ (0 ≤ b ∧ b ≤ 1000000) ∧ 0 ≤ c ∧ c ≤ 1000000 := by
  simp [clockB, inB] at h
  omega
def taskB (n : ByteArray) (h c d p q r : Int) : Bool := nameB n && (inB h 0 100000 && (inB c 0 100000 && (inB d 0 100000 && (decide (h + c + d > 0) && clockB p q r))))
theorem taskB_in {n : ByteArray} {h c d p q r : Int} (k : taskB n h c d p q r = true) : nameB n = true ∧ ((0 ≤ h ∧ h ≤ 100000) ∧ (0 ≤ c ∧ c ≤ 100000) ∧ 0 ≤ d ∧ d ≤ 100000) ∧ (h + c + d > 0) ∧ clockB p q r = true := by
  simp only [taskB, Bool.and_eq_true, inB_iff, decide_eq_true_eq] at k
  exact ⟨k.1, ⟨k.2.1, k.2.2.1, k.2.2.2.1⟩, k.2.2.2.2.1, k.2.2.2.2.2⟩
def behindB (p q r p' q' r' : Int) : Bool := decide (p ≤ p') && (decide (q ≤ q') && decide (r ≤ r'))
abbrev Tk := S44
abbrev Df := S57
def passB (p q r p' q' r' : Int) : Bool := decide (mn (mn (wrap64 (p' - p)) (wrap64 (q' - q))) (wrap64 (r' - r)) ≥ 0)
theorem passB_is {p q r p' q' r' : Int} (h : clockB p q r = true) (h' : clockB p' q' r' = true) : passB p q r p' q' r' = behindB p q r p' q' r' := by
  have a := clockB_in h
  have b := clockB_in h'
  unfold passB behindB
  rw [w64 (n := p' - p) (by omega) (by omega), w64 (n := q' - q) (by omega) (by omega), w64 (n := r' - r) (by omega) (by omega), Bool.eq_iff_iff]
  simp only [Bool.and_eq_true, decide_eq_true_eq]
  unfold mn
  repeat' split
  all_goals omega
def taskAt (β : Int → Int → Int → Bool) (xs : List Tk) (i : Int) : Bool := taskB (rd_T44 xs i).f0 (rd_T44 xs i).f1 (rd_T44 xs i).f2 (rd_T44 xs i).f3 (rd_T44 xs i).f4.f0 (rd_T44 xs i).f4.f1 (rd_T44 xs i).f4.f2 && (β (rd_T44 xs i).f4.f0 (rd_T44 xs i).f4.f1 (rd_T44 xs i).f4.f2 && (decide (¬ i > 0) || Op.bytesLess (rd_T44 xs (i - 1)).f0.toList (rd_T44 xs i).f0.toList))
def tasksFrom (β : Int → Int → Int → Bool) (xs : List Tk) : Nat → Nat → Bool
  | 0, _ => true
  | d + 1, i => taskAt β xs (i : Int) && tasksFrom β xs d (i + 1)
def defectAt (r : Int) (xs : List Df) (i : Int) : Bool := nameB (rd_T57 xs i).f0 && (inB (rd_T57 xs i).f1 1 1000000 && ((decide (¬ i > 0) || decide ((rd_T57 xs (i - 1)).f1 < (rd_T57 xs i).f1)) && inB (rd_T57 xs i).f2 0 r))
def defectsFrom (r : Int) (xs : List Df) : Nat → Nat → Bool
  | 0, _ => true
  | d + 1, i => defectAt r xs (i : Int) && defectsFrom r xs d (i + 1)
def fleetB (ts : List Tk) (cs : List Cr) (ds : List Df) (p q r : Int) : Bool := clockB p q r && (carryB cs && (decide ((ts.length : Int) ≤ 40) && (decide ((ds.length : Int) ≤ 20) && (tasksFrom (fun a b c => behindB a b c p q r) ts ts.length 0 && defectsFrom r ds ds.length 0))))
theorem tasks_same {p q r : Int} (h : clockB p q r = true) (xs : List Tk) (d : Nat) : ∀ i, tasksFrom (fun a b c => passB a b c p q r) xs d i = tasksFrom (fun a b c => behindB a b c p q r) xs d i := by
  induction d with
  | zero => intro i; rfl
  | succ d ih =>
    intro i
    simp only [tasksFrom, ih]
    congr 1
    unfold taskAt
    dsimp only
    cases ht : taskB (rd_T44 xs (i : Int)).f0 (rd_T44 xs (i : Int)).f1 (rd_T44 xs (i : Int)).f2 (rd_T44 xs (i : Int)).f3 (rd_T44 xs (i : Int)).f4.f0 (rd_T44 xs (i : Int)).f4.f1 (rd_T44 xs (i : Int)).f4.f2 with
    | false => rfl
    | true => rw [passB_is (taskB_in ht).2.2.2 h]
structure FleetSz (ts : List S44) (cs : List S84) (ds : List S57) : Prop where
  t : ∀ x ∈ ts, x.f0.size ≤ 140737488355328
  c : ∀ x ∈ cs, x.f0.size ≤ 140737488355328
  d : ∀ x ∈ ds, x.f0.size ≤ 140737488355328
  tn : ts.length ≤ 140737488355328
  cn : cs.length ≤ 140737488355328
  dn : ds.length ≤ 140737488355328
def fleetSzB (ts : List S44) (cs : List S84) (ds : List S57) : Bool := (ts.all (fun x => decide (x.f0.size ≤ 140737488355328)) && (cs.all (fun x => decide (x.f0.size ≤ 140737488355328)) && ds.all (fun x => decide (x.f0.size ≤ 140737488355328)))) && (decide (ts.length ≤ 140737488355328) && (decide (cs.length ≤ 140737488355328) && decide (ds.length ≤ 140737488355328)))
theorem fleetSz_of {ts : List S44} {cs : List S84} {ds : List S57} : fleetSzB ts cs ds = true ↔ FleetSz ts cs ds := by
  unfold fleetSzB
  simp only [Bool.and_eq_true, List.all_eq_true, decide_eq_true_eq]
  exact ⟨fun h => ⟨h.1.1, h.1.2.1, h.1.2.2, h.2.1, h.2.2.1, h.2.2.2⟩, fun h => ⟨⟨h.t, h.c, h.d⟩, h.tn, h.cn, h.dn⟩⟩
theorem tasks_step {β : Int → Int → Int → Bool} {l : List S44} {i : Nat} (h : i < l.length) {b R : Bool} (e : b = (tasksFrom β l (l.length - i) i && R)) : b = (taskAt β l (i : Int) && (tasksFrom β l (l.length - (i + 1)) (i + 1) && R)) := by
  rw [e, show l.length - i = (l.length - (i + 1)) + 1 by omega, ← Bool.and_assoc]; rfl
theorem tasks_end {β : Int → Int → Int → Bool} {l : List S44} {b R : Bool} (e : b = (tasksFrom β l (l.length - l.length) l.length && R)) : b = R := by
  rw [e, Nat.sub_self]; rfl
theorem defects_step {z : Int} {l : List S57} {i : Nat} (h : i < l.length) {b R : Bool} (e : b = (defectsFrom z l (l.length - i) i && R)) : b = (defectAt z l (i : Int) && (defectsFrom z l (l.length - (i + 1)) (i + 1) && R)) := by
  rw [e, show l.length - i = (l.length - (i + 1)) + 1 by omega, ← Bool.and_assoc]; rfl
theorem defects_end {z : Int} {l : List S57} {b R : Bool} (e : b = (defectsFrom z l (l.length - l.length) l.length && R)) : b = R := by
  rw [e, Nat.sub_self]; rfl
def taskAtPv (xs : List S44) (i : Int) : Bool := decide (¬ i > 0) || Op.bytesLess (rd_T44 xs (i - 1)).f0.toList (rd_T44 xs i).f0.toList
def defectAtPv (xs : List S57) (i : Int) : Bool := decide (¬ i > 0) || decide ((rd_T57 xs (i - 1)).f1 < (rd_T57 xs i).f1)
theorem impl_allIn_l (b c : Int) (xs : List Int) (hn : xs.length < 4611686018427387904) (d : Nat) : ∀ i : Nat, i + d = xs.length →
    Ev (fun k => impl_allIn.l0 k b c xs (xs.length : Int) (i : Int)) (allB (xs.drop i) b c) := by
  induction d with
  | zero =>
    intro i h
    refine ev_succ ?_
    simp only [impl_allIn.l0, if_neg (show ¬ ((i : Int) < (xs.length : Int)) by omega)]
    rw [List.drop_of_length_le (by omega)]
    exact ev_now _
  | succ d ih =>
    intro i h
    refine ev_succ ?_
    simp only [impl_allIn.l0, if_pos (show ((i : Int) < (xs.length : Int)) by omega), if_pos (show (0 : Int) ≤ (i : Int) by omega), impl_in_eq, Option.bind_some, w64s i (by omega)]
    rw [drop_rd (show i < xs.length by omega)]
    cases hb : inB (rd xs (i : Int)) b c with
    | true => simpa [allB, hb] using ih (i + 1) (by omega)
    | false => simpa [allB, hb] using ev_now false
theorem impl_allIn_ev (b c : Int) (xs : List Int) (hn : xs.length < 4611686018427387904) : Ev (fun k => impl_allIn.f k xs b c) (allB xs b c) := by
  simpa [impl_allIn.f] using impl_allIn_l b c xs hn xs.length 0 (by omega)
theorem impl_ClockOk_ev (a b c : Int) : Ev (fun k => impl_ClockOk.f k a b c) (clockB a b c) := by
  simp only [impl_ClockOk.f, impl_Clock_numbers.f, Option.bind_some]
  refine (impl_allIn_ev 0 1000000 [a, b, c] (by simp)).bind (f := fun _ t => some t) (ev_some ?_)
  simp [allB, clockB]
theorem slices_Max_ev (a b c : Int) : Ev (fun k => slices_Max_int_int.f k [a, b, c]) (mx (mx a b) c) := by
  have e : (([a, b, c] : List Int).length : Int) = 3 := rfl
  simp only [slices_Max_int_int.f, e, if_neg (show ¬ ((3 : Int) < 1) by omega), if_pos (show (0 : Int) < 3 by omega)]
  refine ev_succ ?_
  simp only [slices_Max_int_int.l0, e, if_pos (show (1 : Int) < 3 by omega), if_pos (show (0 : Int) ≤ 1 by omega), w64 (n := (1 : Int) + 1) (by omega) (by omega)]
  refine ev_succ ?_
  simp only [slices_Max_int_int.l0, e, if_pos (show (1 : Int) + 1 < 3 by omega), if_pos (show (0 : Int) ≤ 1 + 1 by omega), w64 (n := (1 : Int) + 1 + 1) (by omega) (by omega)]
  refine ev_succ ?_
  simp only [slices_Max_int_int.l0, e, if_neg (show ¬ ((1 : Int) + 1 + 1 < 3) by omega)]
  exact ev_now _
theorem impl_TaskOk_ev (n : ByteArray) (hn : n.size ≤ 140737488355328) (h c d p q r : Int) : Ev (fun k => impl_TaskOk.f k n h c d p q r) (taskB n h c d p q r) := by
  simp only [impl_TaskOk.f, impl_Task_numbers.f, Option.bind_some]
  refine (impl_isName_ev n hn).bind ?_
  unfold taskB
  cases nameB n with
  | false => simpa using ev_now false
  | true =>
    simp only [if_true, Bool.true_and]
    refine (impl_allIn_ev 0 100000 [h, c, d] (by simp)).bind ?_
    have e : allB [h, c, d] 0 100000 = (inB h 0 100000 && (inB c 0 100000 && inB d 0 100000)) := by simp [allB]
    rw [e]
    cases h1 : inB h 0 100000 with
    | false => simpa using ev_now false
    | true =>
      cases h2 : inB c 0 100000 with
      | false => simpa using ev_now false
      | true =>
        cases h3 : inB d 0 100000 with
        | false => simpa using ev_now false
        | true =>
          rw [inB_iff] at h1 h2 h3
          simp only [if_true, Bool.and_self, Bool.true_and]
          refine (slices_Max_ev h c d).bind ?_
          by_cases h4 : h + c + d > 0
          · simp only [if_pos (show mx (mx h c) d > 0 by unfold mx; repeat' split <;> omega), h4, decide_true, Bool.true_and]
            exact (impl_ClockOk_ev p q r).bind (f := fun _ t => some t) (ev_now _)
          · simp only [if_neg (show ¬ mx (mx h c) d > 0 by unfold mx; repeat' split <;> omega), h4, decide_false, Bool.false_and]
            exact ev_now _
theorem impl_passed_ev (p q r p' q' r' : Int) : Ev (fun k => impl_passed.f k p q r p' q' r') ([wrap64 (p' - p), wrap64 (q' - q), wrap64 (r' - r)], decide (mn (mn (wrap64 (p' - p)) (wrap64 (q' - q))) (wrap64 (r' - r)) ≥ 0)) := by
  simp only [impl_passed.f, Option.bind_some]
  generalize wrap64 (p' - p) = a
  generalize wrap64 (q' - q) = b
  generalize wrap64 (r' - r) = c
  have hm : Ev (fun k => slices_Min_int_int.f k [a, b, c]) (mn (mn a b) c) := by
    have e : (([a, b, c] : List Int).length : Int) = 3 := rfl
    simp only [slices_Min_int_int.f, e, if_neg (show ¬ ((3 : Int) < 1) by omega), if_pos (show (0 : Int) < 3 by omega)]
    refine ev_succ ?_
    simp only [slices_Min_int_int.l0, e, if_pos (show (1 : Int) < 3 by omega), if_pos (show (0 : Int) ≤ 1 by omega), w64 (n := (1 : Int) + 1) (by omega) (by omega)]
    refine ev_succ ?_
    simp only [slices_Min_int_int.l0, e, if_pos (show (1 : Int) + 1 < 3 by omega), if_pos (show (0 : Int) ≤ 1 + 1 by omega), w64 (n := (1 : Int) + 1 + 1) (by omega) (by omega)]
    refine ev_succ ?_
    simp only [slices_Min_int_int.l0, e, if_neg (show ¬ ((1 : Int) + 1 + 1 < 3) by omega)]
    exact ev_now _
  exact hm.bind (f := fun _ t => some (([a, b, c] : List Int), decide (t ≥ 0))) (ev_now _)
theorem eTaskOk : Ent Try.prog 14 := fun a w => enters_ Try.func14 rfl rfl a w
def fleetI (ts : List S44) (cs : List S84) (ds : List S57) (p q r : Int) : Bool := tasksFrom (fun a b c => passB a b c p q r) ts ts.length 0 && (defectsFrom r ds ds.length 0 && (decide ((ts.length : Int) ≤ 40) && (decide ((ds.length : Int) ≤ 20) && (carryB cs && clockB p q r))))
theorem fleet_same (ts : List S44) (cs : List S84) (ds : List S57) (p q r : Int) : fleetI ts cs ds p q r = fleetB ts cs ds p q r := by
  unfold fleetI fleetB
  cases h : clockB p q r with
  | false => simp
  | true =>
    rw [tasks_same h]
    cases tasksFrom (fun a b c => behindB a b c p q r) ts ts.length 0 <;> cases defectsFrom r ds ds.length 0 <;> cases carryB cs <;> simp
theorem task_t (n : ByteArray) (h c d p q r : Int) (hn : n.size ≤ 140737488355328) (w : World) : Calls Try.prog 14 #[.agg #[.string n, .int .i64 h, .int .i64 c, .int .i64 d, .int .i64 p, .int .i64 q, .int .i64 r]] w fun e w' => e = .returned (.bool (taskB n h c d p q r)) ∧ Below w.heap.size w w' := by
  obtain ⟨k, hk⟩ := (impl_TaskOk_ev n hn h c d p q r).rounds
  exact impl_TaskOk.calls k n h c d p q r _ w hk
theorem clock_t (a b c : Int) (w : World) : Calls Try.prog 9 #[.agg #[.int .i64 a, .int .i64 b, .int .i64 c]] w fun e w' => e = .returned (.bool (clockB a b c)) ∧ Below w.heap.size w w' := by
  obtain ⟨k, hk⟩ := (impl_ClockOk_ev a b c).rounds
  exact impl_ClockOk.calls k a b c _ w hk
theorem passed_t (p q r p' q' r' : Int) (w : World) : Calls Try.prog 30 #[.agg #[.int .i64 p, .int .i64 q, .int .i64 r], .agg #[.int .i64 p', .int .i64 q', .int .i64 r']] w fun e w' => ∃ v : Value, e = .returned (.tuple #[v, .bool (passB p q r p' q' r')]) ∧ Below w.heap.size w w' := by
  obtain ⟨k, hk⟩ := (impl_passed_ev p q r p' q' r').rounds
  exact (impl_passed.calls k p q r p' q' r' _ _ w hk).mono fun e w' ⟨v, h1, _, h2⟩ => ⟨v, h1, h2⟩
theorem kp_ {P : Program} {f : FuncId} {args : Array Value} {w : World} {b b' : Bool} (h : Calls P f args w fun e w' => ∃ v : Value, e = .returned (.tuple #[v, .bool b]) ∧ Below w.heap.size w w') (e : b = b') : Calls P f args w fun e w' => ∃ v : Value, e = .returned (.tuple #[v, .bool b']) ∧ Below w.heap.size w w' := e ▸ h
set_option maxHeartbeats 8000000 in
set_option maxRecDepth 100000 in
theorem impl_FleetOk.go (A0 : Option Addr) (c0 : Nat) (l0 : List S44) (A1 : Option Addr) (c1 : Nat) (l1 : List S84) (A2 : Option Addr) (c2 : Nat) (l2 : List S57) (p q r : Int) (w : World) (hr0 : Kd.C k44 w A0 l0.length l0) (hc0 : l0.length ≤ c0) (hr1 : Kd.C k84 w A1 l1.length l1) (hc1 : l1.length ≤ c1) (hr2 : Kd.C k57 w A2 l2.length l2) (hc2 : l2.length ≤ c2) (hz : FleetSz l0 l1 l2) :
    Calls Try.prog 8 #[.agg #[.slice A0 l0.length c0, .slice A1 l1.length c1, .slice A2 l2.length c2, .int .i64 p, .int .i64 q, .int .i64 r]] w fun e w' => e = .returned (.bool (fleetB l0 l1 l2 p q r)) ∧ Below w.heap.size w w' := by
  have hu44 := Try.underlying44
  have hu84 := Try.underlying84
  have hu57 := Try.underlying57
  have hu30 := Try.underlying30
  have hu28 := Try.underlying28
  have HR0 := Aside0.mk hr0
  have HR1 := Aside0.mk hr1
  have HR2 := Aside0.mk hr2
  have HX0 := Aside0.mk hz.t
  have HX1 := Aside0.mk hz.c
  have HX2 := Aside0.mk hz.d
  have hn0 := hz.tn
  have hn1 := hz.cn
  have hn2 := hz.dn
  clear hr0 hr1 hr2 hz
  rw [← fleet_same]
  have BK0 := Aside0.mk (blk_new w (.cells #[.slice A0 l0.length c0, .slice A1 l1.length c1, .slice A2 l2.length c2, .int .i64 p, .int .i64 q, .int .i64 r] 30 (0, 0)))
  have HB0 := Aside0.mk (below_alloc (Below.refl w.heap.size w) (.cells #[.slice A0 l0.length c0, .slice A1 l1.length c1, .slice A2 l2.length c2, .int .i64 p, .int .i64 q, .int .i64 r] 30 (0, 0)))
  go_enter Try.func8, Try.ntmps8
  go_wp2
  go_loopw [12] (fun v wr => ∃ i : Nat, i ≤ l0.length ∧ v = .int .i64 i ∧ Aside0 (fleetI l0 l1 l2 p q r = (tasksFrom (fun a b c => passB a b c p q r) l0 (l0.length - i) i && (defectsFrom r l2 l2.length 0 && (decide ((l0.length : Int) ≤ 40) && (decide ((l2.length : Int) ≤ 20) && (carryB l1 && clockB p q r)))))) ∧ Aside0 (wr.heap[w.heap.size]? = some (.cells #[.slice A0 l0.length c0, .slice A1 l1.length c1, .slice A2 l2.length c2, .int .i64 p, .int .i64 q, .int .i64 r] 30 (0, 0))) ∧ Aside0 (Below w.heap.size w wr)) (fun v _ => l0.length - (intOf v).toNat)
  case atStart => exact ⟨0, Nat.zero_le _, rfl, ⟨rfl⟩, BK0, HB0⟩
  case round =>
    clear BK0 HB0
    obtain ⟨i, hi, rfl, HE, BK, HB⟩ := hrel
    by_cases hlt : i < l0.length
    · have hfs := ck6 BK.out
      obtain ⟨ad, e0, hx0, hx1, hx2, hx3, hx4, hx5, hx6⟩ := at_T44 (Kd.C_below HR0.out HB.out) (i : Int) (by omega) (by omega)
      cases e0
      simp only [Int.toNat_natCast] at hx0 hx1 hx2 hx3 hx4 hx5 hx6
      obtain ⟨hf0, hf1, hf2, hf3, hf4, hf5⟩ := hfs
      have HS := Aside0.mk (tasks_step hlt HE.out)
      have HZ := Aside0.mk (HX0.out _ (List.getElem_mem hlt))
      rw [← rd_at44 hlt] at HZ
      have HK := Aside0.mk (blk_new wr (.cells #[.string (rd_T44 l0 (i : Int)).f0, .int .i64 (rd_T44 l0 (i : Int)).f1, .int .i64 (rd_T44 l0 (i : Int)).f2, .int .i64 (rd_T44 l0 (i : Int)).f3, .int .i64 (rd_T44 l0 (i : Int)).f4.f0, .int .i64 (rd_T44 l0 (i : Int)).f4.f1, .int .i64 (rd_T44 l0 (i : Int)).f4.f2] 44 (0, 0)))
      have HB2 := Aside0.mk (below_alloc HB.out (.cells #[.string (rd_T44 l0 (i : Int)).f0, .int .i64 (rd_T44 l0 (i : Int)).f1, .int .i64 (rd_T44 l0 (i : Int)).f2, .int .i64 (rd_T44 l0 (i : Int)).f3, .int .i64 (rd_T44 l0 (i : Int)).f4.f0, .int .i64 (rd_T44 l0 (i : Int)).f4.f1, .int .i64 (rd_T44 l0 (i : Int)).f4.f2] 44 (0, 0)))
      have BK2 := Aside0.mk (blk_alloc BK.out (.cells #[.string (rd_T44 l0 (i : Int)).f0, .int .i64 (rd_T44 l0 (i : Int)).f1, .int .i64 (rd_T44 l0 (i : Int)).f2, .int .i64 (rd_T44 l0 (i : Int)).f3, .int .i64 (rd_T44 l0 (i : Int)).f4.f0, .int .i64 (rd_T44 l0 (i : Int)).f4.f1, .int .i64 (rd_T44 l0 (i : Int)).f4.f2] 44 (0, 0)))
      go_upto_region 4 with (fail)
      generalize wr.heap.size = gx at HK ⊢
      refine world_ (fun W => W.heap[gx]? = some (.cells #[.string (rd_T44 l0 (i : Int)).f0, .int .i64 (rd_T44 l0 (i : Int)).f1, .int .i64 (rd_T44 l0 (i : Int)).f2, .int .i64 (rd_T44 l0 (i : Int)).f3, .int .i64 (rd_T44 l0 (i : Int)).f4.f0, .int .i64 (rd_T44 l0 (i : Int)).f4.f1, .int .i64 (rd_T44 l0 (i : Int)).f4.f2] 44 (0, 0)) ∧ W.heap[w.heap.size]? = some (.cells #[.slice (some ad) l0.length c0, .slice A1 l1.length c1, .slice A2 l2.length c2, .int .i64 p, .int .i64 q, .int .i64 r] 30 (0, 0)) ∧ Below w.heap.size w W) ⟨HK.out, BK2.out, HB2.out⟩ ?_
      clear HK HB2 HE HB hx0 hx1 hx2 hx3 hx4 hx5 hx6 BK2 BK hf0 hf1 hf2 hf3 hf4 hf5
      rintro W ⟨HK, BK, HB⟩
      replace HK := Aside0.mk HK
      replace HB := Aside0.mk HB
      replace BK := Aside0.mk BK
      obtain ⟨b1, Eb1⟩ : ∃ b, taskB (rd_T44 l0 (i : Int)).f0 (rd_T44 l0 (i : Int)).f1 (rd_T44 l0 (i : Int)).f2 (rd_T44 l0 (i : Int)).f3 (rd_T44 l0 (i : Int)).f4.f0 (rd_T44 l0 (i : Int)).f4.f1 (rd_T44 l0 (i : Int)).f4.f2 = b := ⟨_, rfl⟩
      have Kb1 := Aside0.mk (fun w' => kb_ (task_t (rd_T44 l0 (i : Int)).f0 (rd_T44 l0 (i : Int)).f1 (rd_T44 l0 (i : Int)).f2 (rd_T44 l0 (i : Int)).f3 (rd_T44 l0 (i : Int)).f4.f0 (rd_T44 l0 (i : Int)).f4.f1 (rd_T44 l0 (i : Int)).f4.f2 HZ.out w') Eb1)
      obtain ⟨b2, Eb2⟩ : ∃ b, passB (rd_T44 l0 (i : Int)).f4.f0 (rd_T44 l0 (i : Int)).f4.f1 (rd_T44 l0 (i : Int)).f4.f2 p q r = b := ⟨_, rfl⟩
      have Kb2 := Aside0.mk (fun w' => kp_ (passed_t (rd_T44 l0 (i : Int)).f4.f0 (rd_T44 l0 (i : Int)).f4.f1 (rd_T44 l0 (i : Int)).f4.f2 p q r w') Eb2)
      have HE := Aside0.mk (And.intro Eb1 Eb2)
      clear Eb1 Eb2
      have hfs := ck6 BK.out
      have hks := ck7 HK.out
      obtain ⟨hf0, hf1, hf2, hf3, hf4, hf5⟩ := hfs
      obtain ⟨hk0, hk1, hk2, hk3, hk4, hk5, hk6⟩ := hks
      go_upto_region 5 with ((go_at_call 30; (with_reducible refine (Kb2.out W).mono ?_); rintro e w5 ⟨v5, rfl, hb⟩))
      replace HK := Aside0.mk (blk_below HK.out hb)
      replace BK := Aside0.mk (blk_below BK.out hb)
      replace HB := Aside0.mk (below_step HB.out hb)
      clear hf0 hf1 hf2 hf3 hf4 hf5 hk0 hk1 hk2 hk3 hk4 hk5 hk6 hb
      go_cut [47] (fun v wc => v = .bool (!taskAt (fun a b c => passB a b c p q r) l0 (i : Int)) ∧ Aside0 (wc.heap[w.heap.size]? = some (.cells #[.slice (some ad) l0.length c0, .slice A1 l1.length c1, .slice A2 l2.length c2, .int .i64 p, .int .i64 q, .int .i64 r] 30 (0, 0))) ∧ Aside0 (Below w.heap.size w wc))
      case first =>
        clear HS
        rcases Nat.eq_zero_or_pos i with h0 | h0
        · subst h0
          have L := Aside0.mk (fun w' (h : Up w5 w') => (⟨ck (blk_below HK.out h) 0 rfl, ck (blk_below HK.out h) 1 rfl, ck (blk_below HK.out h) 2 rfl, ck (blk_below HK.out h) 3 rfl, ck (blk_below HK.out h) 4 rfl, ck (blk_below HK.out h) 5 rfl, ck (blk_below HK.out h) 6 rfl, ck (blk_below BK.out h) 0 rfl⟩ : w'.cell? ⟨gx, 0, none⟩ = some (.string (rd_T44 l0 ((0 : Nat) : Int)).f0) ∧ w'.cell? ⟨gx, 1, none⟩ = some (.int .i64 (rd_T44 l0 ((0 : Nat) : Int)).f1) ∧ w'.cell? ⟨gx, 2, none⟩ = some (.int .i64 (rd_T44 l0 ((0 : Nat) : Int)).f2) ∧ w'.cell? ⟨gx, 3, none⟩ = some (.int .i64 (rd_T44 l0 ((0 : Nat) : Int)).f3) ∧ w'.cell? ⟨gx, 4, none⟩ = some (.int .i64 (rd_T44 l0 ((0 : Nat) : Int)).f4.f0) ∧ w'.cell? ⟨gx, 5, none⟩ = some (.int .i64 (rd_T44 l0 ((0 : Nat) : Int)).f4.f1) ∧ w'.cell? ⟨gx, 6, none⟩ = some (.int .i64 (rd_T44 l0 ((0 : Nat) : Int)).f4.f2) ∧ w'.cell? ⟨w.heap.size, 0, none⟩ = some (.slice (some ad) l0.length c0)))
          have HP : Aside0 (taskAtPv l0 ((0 : Nat) : Int) = true) := ⟨rfl⟩
          rcases or2_ b1 b2 with rfl | ⟨rfl, rfl⟩ | ⟨rfl, rfl⟩
          all_goals
            (refine rg_ (by kernel_rfl) (by kernel_rfl) ?_; (repeat (first | refine qn_ ?_ | refine qc_ eTaskOk (fun w' _ => Kb1.out w') ?_ | refine ql_ L.out ?_)); refine qd_ ?_; intro w5 hb; (try go_wp2); go_meet; case rel => exact ⟨by have hp := HP.out; unfold taskAtPv at hp; unfold taskAt; (try dsimp only); rw [HE.out.1, HE.out.2, hp]; first | rfl | simp, ⟨blk_below BK.out hb⟩, ⟨below_step HB.out hb⟩⟩)
        · obtain ⟨j, rfl⟩ : ∃ j, i = j + 1 := ⟨i - 1, by omega⟩
          obtain ⟨ad', e0, y0, y1, y2, y3, y4, y5, y6⟩ := at_T44 HR0.out (j : Int) (by omega) (by omega)
          obtain rfl : ad = ad' := by injection e0
          simp only [Int.toNat_natCast] at y0 y1 y2 y3 y4 y5 y6
          have hj : wrap64 (j : Int) = (j : Int) := w64 (by omega) (by omega)
          have hjl : j < l0.length := by omega
          have L := Aside0.mk (fun w' (h : Up w5 w') => (⟨ck (blk_below HK.out h) 0 rfl, ck (blk_below HK.out h) 1 rfl, ck (blk_below HK.out h) 2 rfl, ck (blk_below HK.out h) 3 rfl, ck (blk_below HK.out h) 4 rfl, ck (blk_below HK.out h) 5 rfl, ck (blk_below HK.out h) 6 rfl, ck (blk_below BK.out h) 0 rfl, bc (below_step HB.out h) y0⟩ : w'.cell? ⟨gx, 0, none⟩ = some (.string (rd_T44 l0 ((j + 1 : Nat) : Int)).f0) ∧ w'.cell? ⟨gx, 1, none⟩ = some (.int .i64 (rd_T44 l0 ((j + 1 : Nat) : Int)).f1) ∧ w'.cell? ⟨gx, 2, none⟩ = some (.int .i64 (rd_T44 l0 ((j + 1 : Nat) : Int)).f2) ∧ w'.cell? ⟨gx, 3, none⟩ = some (.int .i64 (rd_T44 l0 ((j + 1 : Nat) : Int)).f3) ∧ w'.cell? ⟨gx, 4, none⟩ = some (.int .i64 (rd_T44 l0 ((j + 1 : Nat) : Int)).f4.f0) ∧ w'.cell? ⟨gx, 5, none⟩ = some (.int .i64 (rd_T44 l0 ((j + 1 : Nat) : Int)).f4.f1) ∧ w'.cell? ⟨gx, 6, none⟩ = some (.int .i64 (rd_T44 l0 ((j + 1 : Nat) : Int)).f4.f2) ∧ w'.cell? ⟨w.heap.size, 0, none⟩ = some (.slice (some ad) l0.length c0) ∧ w'.cell? (ad.add (j * 7)) = some (.string (rd_T44 l0 (j : Int)).f0)))
          obtain ⟨bP, EP⟩ : ∃ b, Op.bytesLess (rd_T44 l0 (j : Int)).f0.toList (rd_T44 l0 ((j : Int) + 1)).f0.toList = b := ⟨_, rfl⟩
          have HP : Aside0 (taskAtPv l0 ((j + 1 : Nat) : Int) = bP) := ⟨by unfold taskAtPv; rw [decide_eq_false (show ¬ ¬ ((j + 1 : Nat) : Int) > 0 by omega), show ((j + 1 : Nat) : Int) - 1 = (j : Int) by omega, show ((j + 1 : Nat) : Int) = (j : Int) + 1 by omega, EP]; rfl⟩
          clear y0 y1 y2 y3 y4 y5 y6 e0 h0
          rcases or3_ b1 b2 bP with rfl | ⟨rfl, rfl⟩ | ⟨rfl, rfl, rfl⟩ | ⟨rfl, rfl, rfl⟩
          all_goals
            (refine rg_ (by kernel_rfl) (by kernel_rfl) ?_; (repeat (first | refine qn_ ?_ | refine qc_ eTaskOk (fun w' _ => Kb1.out w') ?_ | refine ql_ L.out ?_)); refine qd_ ?_; intro w5 hb; (try go_wp2); go_meet; case rel => exact ⟨by have hp := HP.out; unfold taskAtPv at hp; unfold taskAt; (try dsimp only); rw [HE.out.1, HE.out.2, hp]; first | rfl | simp, ⟨blk_below BK.out hb⟩, ⟨below_step HB.out hb⟩⟩)
      case rest =>
        clear HB HZ HE HK BK
        obtain ⟨rfl, BK, HB⟩ := hcut
        cases hc : taskAt (fun a b c => passB a b c p q r) l0 (i : Int) with
        | false =>
          rw [hc] at HS
          go_wp2
          go_ret
          exact ⟨by rw [HS.out]; rfl, HB.out⟩
        | true =>
          rw [hc] at HS
          go_wp2
          go_roundw
          case rel => exact ⟨i + 1, by omega, by go_num, ⟨HS.out⟩, BK, HB⟩
          case measure => simp [intOf]; omega
    · obtain rfl : i = l0.length := by omega
      have HS := Aside0.mk (tasks_end HE.out)
      have HS0 := HS
      obtain ⟨hf0, hf1, hf2, hf3, hf4, hf5⟩ := ck6 BK.out
      clear HS HE
      go_wp2
      clear hf0 hf1 hf2 hf3 hf4 hf5
      have BK0 := BK
      have HB0 := HB
      clear BK HB
      obtain ⟨wo, rfl⟩ : ∃ wo : World, wo = wr := ⟨_, rfl⟩
      go_loopw [52] (fun v wr => ∃ i : Nat, i ≤ l2.length ∧ v = .int .i64 i ∧ Aside0 (fleetI l0 l1 l2 p q r = (defectsFrom r l2 (l2.length - i) i && (decide ((l0.length : Int) ≤ 40) && (decide ((l2.length : Int) ≤ 20) && (carryB l1 && clockB p q r))))) ∧ Aside0 (wr.heap[w.heap.size]? = some (.cells #[.slice A0 l0.length c0, .slice A1 l1.length c1, .slice A2 l2.length c2, .int .i64 p, .int .i64 q, .int .i64 r] 30 (0, 0))) ∧ Aside0 (Below w.heap.size w wr)) (fun v _ => l2.length - (intOf v).toNat)
      case atStart => exact ⟨0, Nat.zero_le _, rfl, ⟨HS0.out⟩, BK0, HB0⟩
      case round =>
        clear BK0 HB0 HS0
        obtain ⟨i, hi, rfl, HE, BK, HB⟩ := hrel
        by_cases hlt : i < l2.length
        · have hfs := ck6 BK.out
          obtain ⟨ad, e0, hx0, hx1, hx2⟩ := at_T57 (Kd.C_below HR2.out HB.out) (i : Int) (by omega) (by omega)
          cases e0
          simp only [Int.toNat_natCast] at hx0 hx1 hx2
          obtain ⟨hf0, hf1, hf2, hf3, hf4, hf5⟩ := hfs
          have HS := Aside0.mk (defects_step hlt HE.out)
          have HZ := Aside0.mk (HX2.out _ (List.getElem_mem hlt))
          rw [← rd_at57 hlt] at HZ
          have HK := Aside0.mk (blk_new wr (.cells #[.string (rd_T57 l2 (i : Int)).f0, .int .i64 (rd_T57 l2 (i : Int)).f1, .int .i64 (rd_T57 l2 (i : Int)).f2] 57 (0, 0)))
          have HB2 := Aside0.mk (below_alloc HB.out (.cells #[.string (rd_T57 l2 (i : Int)).f0, .int .i64 (rd_T57 l2 (i : Int)).f1, .int .i64 (rd_T57 l2 (i : Int)).f2] 57 (0, 0)))
          have BK2 := Aside0.mk (blk_alloc BK.out (.cells #[.string (rd_T57 l2 (i : Int)).f0, .int .i64 (rd_T57 l2 (i : Int)).f1, .int .i64 (rd_T57 l2 (i : Int)).f2] 57 (0, 0)))
          go_upto_region 11 with (fail)
          generalize wr.heap.size = gx at HK ⊢
          refine world_ (fun W => W.heap[gx]? = some (.cells #[.string (rd_T57 l2 (i : Int)).f0, .int .i64 (rd_T57 l2 (i : Int)).f1, .int .i64 (rd_T57 l2 (i : Int)).f2] 57 (0, 0)) ∧ W.heap[w.heap.size]? = some (.cells #[.slice A0 l0.length c0, .slice A1 l1.length c1, .slice (some ad) l2.length c2, .int .i64 p, .int .i64 q, .int .i64 r] 30 (0, 0)) ∧ Below w.heap.size w W) ⟨HK.out, BK2.out, HB2.out⟩ ?_
          clear HK HB2 HE HB hx0 hx1 hx2 BK2 BK hf0 hf1 hf2 hf3 hf4 hf5
          rintro W ⟨HK, BK, HB⟩
          replace HK := Aside0.mk HK
          replace HB := Aside0.mk HB
          replace BK := Aside0.mk BK
          obtain ⟨b1, Eb1⟩ : ∃ b, nameB (rd_T57 l2 (i : Int)).f0 = b := ⟨_, rfl⟩
          have Kb1 := Aside0.mk (fun w' => kb_ (name_t (rd_T57 l2 (i : Int)).f0 HZ.out w') Eb1)
          obtain ⟨b2, Eb2⟩ : ∃ b, inB (rd_T57 l2 (i : Int)).f1 1 1000000 = b := ⟨_, rfl⟩
          have Kb2 := Aside0.mk (fun w' => kb_ (in_t (rd_T57 l2 (i : Int)).f1 1 1000000 w') Eb2)
          obtain ⟨b3, Eb3⟩ : ∃ b, inB (rd_T57 l2 (i : Int)).f2 0 r = b := ⟨_, rfl⟩
          have Kb3 := Aside0.mk (fun w' => kb_ (in_t (rd_T57 l2 (i : Int)).f2 0 r w') Eb3)
          have HE := Aside0.mk (And.intro Eb1 (And.intro Eb2 Eb3))
          clear Eb1 Eb2 Eb3
          go_cut [91] (fun v wc => v = .bool (!defectAt r l2 (i : Int)) ∧ Aside0 (wc.heap[w.heap.size]? = some (.cells #[.slice A0 l0.length c0, .slice A1 l1.length c1, .slice (some ad) l2.length c2, .int .i64 p, .int .i64 q, .int .i64 r] 30 (0, 0))) ∧ Aside0 (Below w.heap.size w wc))
          case first =>
            clear HS
            rcases Nat.eq_zero_or_pos i with h0 | h0
            · subst h0
              have L := Aside0.mk (fun w' (h : Up W w') => (⟨ck (blk_below HK.out h) 0 rfl, ck (blk_below HK.out h) 1 rfl, ck (blk_below HK.out h) 2 rfl, ck (blk_below BK.out h) 2 rfl, ck (blk_below BK.out h) 5 rfl⟩ : w'.cell? ⟨gx, 0, none⟩ = some (.string (rd_T57 l2 ((0 : Nat) : Int)).f0) ∧ w'.cell? ⟨gx, 1, none⟩ = some (.int .i64 (rd_T57 l2 ((0 : Nat) : Int)).f1) ∧ w'.cell? ⟨gx, 2, none⟩ = some (.int .i64 (rd_T57 l2 ((0 : Nat) : Int)).f2) ∧ w'.cell? ⟨w.heap.size, 2, none⟩ = some (.slice (some ad) l2.length c2) ∧ w'.cell? ⟨w.heap.size, 5, none⟩ = some (.int .i64 r)))
              have HP : Aside0 (defectAtPv l2 ((0 : Nat) : Int) = true) := ⟨rfl⟩
              rcases or3_ b1 b2 b3 with rfl | ⟨rfl, rfl⟩ | ⟨rfl, rfl, rfl⟩ | ⟨rfl, rfl, rfl⟩
              all_goals
                (refine rg_ (by kernel_rfl) (by kernel_rfl) ?_; (repeat (first | refine qn_ ?_ | refine qc_ eName (fun w' _ => Kb1.out w') ?_ | refine qc_ eIn (fun w' _ => Kb2.out w') ?_ | refine qc_ eIn (fun w' _ => Kb3.out w') ?_ | refine ql_ L.out ?_)); refine qd_ ?_; intro w5 hb; (try go_wp2); go_meet; case rel => exact ⟨by have hp := HP.out; unfold defectAtPv at hp; unfold defectAt; (try dsimp only); rw [HE.out.1, HE.out.2.1, HE.out.2.2, hp]; first | rfl | simp, ⟨blk_below BK.out hb⟩, ⟨below_step HB.out hb⟩⟩)
            · obtain ⟨j, rfl⟩ : ∃ j, i = j + 1 := ⟨i - 1, by omega⟩
              obtain ⟨ad', e0, y0, y1, y2⟩ := at_T57 HR2.out (j : Int) (by omega) (by omega)
              obtain rfl : ad = ad' := by injection e0
              simp only [Int.toNat_natCast] at y0 y1 y2
              have hj : wrap64 (j : Int) = (j : Int) := w64 (by omega) (by omega)
              have hjl : j < l2.length := by omega
              have L := Aside0.mk (fun w' (h : Up W w') => (⟨ck (blk_below HK.out h) 0 rfl, ck (blk_below HK.out h) 1 rfl, ck (blk_below HK.out h) 2 rfl, ck (blk_below BK.out h) 2 rfl, ck (blk_below BK.out h) 5 rfl, bc (below_step HB.out h) y1⟩ : w'.cell? ⟨gx, 0, none⟩ = some (.string (rd_T57 l2 ((j + 1 : Nat) : Int)).f0) ∧ w'.cell? ⟨gx, 1, none⟩ = some (.int .i64 (rd_T57 l2 ((j + 1 : Nat) : Int)).f1) ∧ w'.cell? ⟨gx, 2, none⟩ = some (.int .i64 (rd_T57 l2 ((j + 1 : Nat) : Int)).f2) ∧ w'.cell? ⟨w.heap.size, 2, none⟩ = some (.slice (some ad) l2.length c2) ∧ w'.cell? ⟨w.heap.size, 5, none⟩ = some (.int .i64 r) ∧ w'.cell? ⟨(ad.add (j * 3)).block, (ad.add (j * 3)).off + 1, none⟩ = some (.int .i64 (rd_T57 l2 (j : Int)).f1)))
              obtain ⟨bP, EP⟩ : ∃ b, decide ((rd_T57 l2 (j : Int)).f1 < (rd_T57 l2 ((j : Int) + 1)).f1) = b := ⟨_, rfl⟩
              have HP : Aside0 (defectAtPv l2 ((j + 1 : Nat) : Int) = bP) := ⟨by unfold defectAtPv; rw [decide_eq_false (show ¬ ¬ ((j + 1 : Nat) : Int) > 0 by omega), show ((j + 1 : Nat) : Int) - 1 = (j : Int) by omega, show ((j + 1 : Nat) : Int) = (j : Int) + 1 by omega, EP]; rfl⟩
              have EQ : decide ((rd_T57 l2 ((j : Int) + 1)).f1 ≤ (rd_T57 l2 (j : Int)).f1) = !bP := by rw [← EP]; exact le_lt_ _ _
              clear EP
              clear y0 y1 y2 e0 h0
              rcases or4_ b1 b2 b3 bP with rfl | ⟨rfl, rfl⟩ | ⟨rfl, rfl, rfl⟩ | ⟨rfl, rfl, rfl, rfl⟩ | ⟨rfl, rfl, rfl, rfl⟩
              all_goals
                (refine rg_ (by kernel_rfl) (by kernel_rfl) ?_; (repeat (first | refine qn_ ?_ | refine qc_ eName (fun w' _ => Kb1.out w') ?_ | refine qc_ eIn (fun w' _ => Kb2.out w') ?_ | refine qc_ eIn (fun w' _ => Kb3.out w') ?_ | refine ql_ L.out ?_)); refine qd_ ?_; intro w5 hb; (try go_wp2); go_meet; case rel => exact ⟨by have hp := HP.out; unfold defectAtPv at hp; unfold defectAt; (try dsimp only); rw [HE.out.1, HE.out.2.1, HE.out.2.2, hp]; first | rfl | simp, ⟨blk_below BK.out hb⟩, ⟨below_step HB.out hb⟩⟩)
          case rest =>
            clear HB HZ HE HK BK
            obtain ⟨rfl, BK, HB⟩ := hcut
            cases hc : defectAt r l2 (i : Int) with
            | false =>
              rw [hc] at HS
              go_wp2
              go_ret
              exact ⟨by rw [HS.out]; rfl, HB.out⟩
            | true =>
              rw [hc] at HS
              go_wp2
              go_roundw
              case rel => exact ⟨i + 1, by omega, by go_num, ⟨HS.out⟩, BK, HB⟩
              case measure => simp [intOf]; omega
        · obtain rfl : i = l2.length := by omega
          have HS := Aside0.mk (defects_end HE.out)
          clear HE
          obtain ⟨hf0, hf1, hf2, hf3, hf4, hf5⟩ := ck6 BK.out
          obtain ⟨b1, E1⟩ : ∃ b, decide ((l0.length : Int) ≤ 40) = b := ⟨_, rfl⟩
          obtain ⟨b2, E2⟩ : ∃ b, decide ((l2.length : Int) ≤ 20) = b := ⟨_, rfl⟩
          obtain ⟨b3, E3⟩ : ∃ b, carryB l1 = b := ⟨_, rfl⟩
          obtain ⟨b4, E4⟩ : ∃ b, clockB p q r = b := ⟨_, rfl⟩
          have K3 := Aside0.mk (kb_ (impl_CarryOk.go A1 c1 l1 wr (Kd.C_below HR1.out HB.out) hc1 hn1 HX1.out) E3)
          have K4 := Aside0.mk (fun w' => kb_ (clock_t p q r w') E4)
          have HE := Aside0.mk (And.intro E1 (And.intro E2 (And.intro E3 E4)))
          clear E3 E4
          rcases or4_ b1 b2 b3 b4 with rfl | ⟨rfl, rfl⟩ | ⟨rfl, rfl, rfl⟩ | ⟨rfl, rfl, rfl, rfl⟩ | ⟨rfl, rfl, rfl, rfl⟩
          all_goals
            (go_wp2_with (first | (go_at_call 10; (with_reducible refine K3.out.mono ?_); rintro e w5 ⟨rfl, hb⟩; obtain ⟨hg0, hg1, hg2, hg3, hg4, hg5⟩ := ck6 (blk_below BK.out hb); have HB5 := Aside0.mk (below_step HB.out hb); clear hb) | (go_at_call 9; (with_reducible refine (K4.out _).mono ?_); rintro e w6 ⟨rfl, hb6⟩)); go_ret; exact ⟨by rw [HS.out, HE.out.1, HE.out.2.1, HE.out.2.2.1, HE.out.2.2.2]; rfl, by first | exact HB.out | exact HB5.out | exact below_step HB5.out hb6⟩)
def impl_FleetOk.f (l0_0 : List S44) (l0_1 : List S84) (l0_2 : List S57) (a0_3 : Int) (a0_4 : Int) (a0_5 : Int) : Option (Bool) := if fleetSzB l0_0 l0_1 l0_2 = true then some (fleetB l0_0 l0_1 l0_2 a0_3 a0_4 a0_5) else none
theorem impl_FleetOk.calls (A0_0 : Option Addr) (c0_0 : Nat) (l0_0 : List (S44)) (A0_1 : Option Addr) (c0_1 : Nat) (l0_1 : List (S84)) (A0_2 : Option Addr) (c0_2 : Nat) (l0_2 : List (S57)) (a0_3 : Int) (a0_4 : Int) (a0_5 : Int) (r : Bool) (w : World) (hr0_0 : Kd.C k44 w A0_0 l0_0.length l0_0) (hc0_0 : l0_0.length ≤ c0_0) (hr0_1 : Kd.C k84 w A0_1 l0_1.length l0_1) (hc0_1 : l0_1.length ≤ c0_1) (hr0_2 : Kd.C k57 w A0_2 l0_2.length l0_2) (hc0_2 : l0_2.length ≤ c0_2) (h : impl_FleetOk.f l0_0 l0_1 l0_2 a0_3 a0_4 a0_5 = some r) :
    Calls Try.prog 8 #[.agg #[.slice A0_0 l0_0.length c0_0, .slice A0_1 l0_1.length c0_1, .slice A0_2 l0_2.length c0_2, .int .i64 a0_3, .int .i64 a0_4, .int .i64 a0_5]] w fun e w' => e = .returned (.bool r) ∧ Below w.heap.size w w' := by
  unfold impl_FleetOk.f at h
  by_cases hz : fleetSzB l0_0 l0_1 l0_2 = true
  · rw [if_pos hz] at h
    have e := Option.some.inj h
    have c := impl_FleetOk.go A0_0 c0_0 l0_0 A0_1 c0_1 l0_1 A0_2 c0_2 l0_2 a0_3 a0_4 a0_5 w hr0_0 hc0_0 hr0_1 hc0_1 hr0_2 hc0_2 (fleetSz_of.1 hz)
    rw [e] at c
    exact c
  · rw [if_neg hz] at h
    exact absurd h (by simp)
-- HAND TO

/-! ### impl_isDue: function 39 -/
def impl_isDue.l0 : Nat → List Int → List Int → Int → Int → Option (Bool)
 | 0, _, _, _, _ => none
 | k + 1, x1, x7, x8, x9 => if x9 < x8 then (if 0 ≤ x9 then (if x9 < (x7.length : Int) then (if (rd x7 x9) > 0 then (if x9 < (x1.length : Int) then (if (rd x1 x9) ≥ (rd x7 x9) then (some true) else (impl_isDue.l0 k x1 x7 x8 (wrap64 (x9 + 1)))) else (none)) else (impl_isDue.l0 k x1 x7 x8 (wrap64 (x9 + 1)))) else (none)) else (none)) else (some false)
def impl_isDue.f (k : Nat) (l0 : List Int) (l1 : List Int) : Option (Bool) := impl_isDue.l0 k l1 l0 (l0.length : Int) 0
theorem impl_isDue.mono_l : ∀ k, (∀ y0 y1 y2 y3, LeO (impl_isDue.l0 k y0 y1 y2 y3) (impl_isDue.l0 (k + 1) y0 y1 y2 y3))
 | 0 => fun _ _ _ _ r h => by simp [impl_isDue.l0] at h
 | k + 1 => by
  have ih0 := impl_isDue.mono_l k
  ·
   intro y0 y1 y2 y3
   unfold impl_isDue.l0
   repeat' first
   | (with_reducible exact ih0 _ _ _ _)
   | (with_reducible exact LeO.refl _)
   | (with_reducible exact LeO.none _)
   | (with_reducible refine LeO.ite ?_ ?_)
   | (with_reducible refine LeO.bind ?_ (fun _ => ?_))
   | exact ih0 _ _ _ _
   | exact LeO.none _
   | refine LeO.ite ?_ ?_
   | refine LeO.bind ?_ (fun _ => ?_)
theorem impl_isDue.mono : ∀ a0 a1 k, LeO (impl_isDue.f k a0 a1) (impl_isDue.f (k + 1) a0 a1) := by
 intro a0 a1 k
 have ih0 := impl_isDue.mono_l k
 unfold impl_isDue.f
 repeat' first
   | (with_reducible exact ih0 _ _ _ _)
   | (with_reducible exact LeO.refl _)
   | (with_reducible exact LeO.none _)
   | (with_reducible refine LeO.ite ?_ ?_)
   | (with_reducible refine LeO.bind ?_ (fun _ => ?_))
   | exact ih0 _ _ _ _
   | exact LeO.none _
   | refine LeO.ite ?_ ?_
   | refine LeO.bind ?_ (fun _ => ?_)
set_option maxHeartbeats 8000000 in
set_option maxRecDepth 100000 in
theorem impl_isDue.calls (k : Nat) (A0 : Option Addr) (c0 : Nat) (l0 : List Int) (A1 : Option Addr) (c1 : Nat) (l1 : List Int) (r : Bool) (w : World) (hr0 : Kd.C (Kd.int .i64) w A0 l0.length l0) (hc0 : l0.length ≤ c0) (hr1 : Kd.C (Kd.int .i64) w A1 l1.length l1) (hc1 : l1.length ≤ c1) (h : impl_isDue.f k l0 l1 = some r) :
  Calls Try.prog 39 #[.slice A0 l0.length c0, .slice A1 l1.length c1] w fun e w' => e = .returned (.bool r) ∧ Drawn0 w w' := by
 have HR0 := Aside0.mk hr0
 have HC0 := Aside0.mk hc0
 clear hr0 hc0
 have HR1 := Aside0.mk hr1
 have HC1 := Aside0.mk hc1
 clear hr1 hc1
 have H : (impl_isDue.l0 k l1 l0 (l0.length : Int) 0) = some r := h
 clear h
 have H' := Aside0.mk H
 clear H
 go_enter Try.func39, Try.ntmps39
 go_wp2
 go_loopg [9] k (fun kq v9 w' => ∃ (x9_1 : Int), v9 = .int .i64 x9_1 ∧ Aside0 (impl_isDue.l0 kq l1 l0 (l0.length : Int) x9_1 = some r) ∧ Aside0 (kq ≤ k) ∧ Drawn0 w w')
 case atStart => exact ⟨(0), (by first | rfl | (simp; done) | (simp [*]; done)), H', ⟨Nat.le_refl _⟩, by repeat (first | exact Drawn0.refl _ | apply Drawn0.step)⟩
 case round =>
  clear H'
  try clear c1
  try clear p2
  obtain ⟨x9_1, rfl, HA, HK1, ⟨m1, rfl⟩⟩ := hrel
  cases gk with
  | zero => exact absurd HA.out (by simp [impl_isDue.l0])
  | succ k1 =>
   have H := HA.out
   clear HA
   simp only [impl_isDue.l0] at H
   by_cases c3 : x9_1 < (l0.length : Int)
   ·
    rw [if_pos c3] at H
    have c3b0 : decide (x9_1 < (l0.length : Int)) = true := decide_eq_true c3
    clear c3
    by_cases c4 : 0 ≤ x9_1
    ·
     rw [if_pos c4] at H
     have c4b0 : decide (0 ≤ x9_1) = true := decide_eq_true c4
     clear c4
     by_cases c5 : x9_1 < (l0.length : Int)
     ·
      rw [if_pos c5] at H
      have c5b0 : decide (x9_1 < (l0.length : Int)) = true := decide_eq_true c5
      clear c5
      by_cases c6 : (rd l0 x9_1) > 0
      ·
       rw [if_pos c6] at H
       have c6b0 : decide (0 < (rd l0 x9_1)) = true := decide_eq_true c6
       clear c6
       by_cases c7 : x9_1 < (l1.length : Int)
       ·
        rw [if_pos c7] at H
        have c7b0 : decide (x9_1 < (l1.length : Int)) = true := decide_eq_true c7
        clear c7
        by_cases c8 : (rd l1 x9_1) ≥ (rd l0 x9_1)
        ·
         rw [if_pos c8] at H
         have c8b0 : decide ((rd l0 x9_1) ≤ (rd l1 x9_1)) = true := decide_eq_true c8
         clear c8
         obtain rfl := Option.some.inj H
         have p354 : 0 ≤ (x9_1 : Int) := of_decide_eq_true (by first | (with_reducible assumption) | assumption)
         have q354 : x9_1 < (l0.length : Int) := of_decide_eq_true (by first | (with_reducible assumption) | assumption)
         obtain ⟨ad354, e354, hx354_0⟩ := Kd.at_int HR0.out x9_1 p354 q354
         cases e354
         replace p354 := eq_true p354
         replace q354 := eq_true q354
         have p355 : 0 ≤ (x9_1 : Int) := of_decide_eq_true (by first | (with_reducible assumption) | assumption)
         have q355 : x9_1 < (l1.length : Int) := of_decide_eq_true (by first | (with_reducible assumption) | assumption)
         obtain ⟨ad355, e355, hx355_0⟩ := Kd.at_int HR1.out x9_1 p355 q355
         cases e355
         replace p355 := eq_true p355
         replace q355 := eq_true q355
         go_wp2
         go_ret
         exact ⟨by first | rfl | (simp; done) | (simp [*]; done), by repeat (first | exact Drawn0.refl _ | apply Drawn0.step)⟩
        ·
         rw [if_neg c8] at H
         have c8b0 : decide ((rd l0 x9_1) ≤ (rd l1 x9_1)) = false := decide_eq_false c8
         clear c8
         have H' := Aside0.mk H
         clear H
         have p354 : 0 ≤ (x9_1 : Int) := of_decide_eq_true (by first | (with_reducible assumption) | assumption)
         have q354 : x9_1 < (l0.length : Int) := of_decide_eq_true (by first | (with_reducible assumption) | assumption)
         obtain ⟨ad354, e354, hx354_0⟩ := Kd.at_int HR0.out x9_1 p354 q354
         cases e354
         replace p354 := eq_true p354
         replace q354 := eq_true q354
         have p355 : 0 ≤ (x9_1 : Int) := of_decide_eq_true (by first | (with_reducible assumption) | assumption)
         have q355 : x9_1 < (l1.length : Int) := of_decide_eq_true (by first | (with_reducible assumption) | assumption)
         obtain ⟨ad355, e355, hx355_0⟩ := Kd.at_int HR1.out x9_1 p355 q355
         cases e355
         replace p355 := eq_true p355
         replace q355 := eq_true q355
         go_wp2
         go_roundg k1
         case measure => have := HK1.out; omega
         case rel => exact ⟨(wrap64 (x9_1 + 1)), (by first | rfl | (simp; done) | (simp [*]; done)), H', ⟨by have := HK1.out; omega⟩, by repeat (first | exact Drawn0.refl _ | apply Drawn0.step)⟩
       ·
        rw [if_neg c7] at H
        exact absurd H (by simp)
      ·
       rw [if_neg c6] at H
       have c6b0 : decide (0 < (rd l0 x9_1)) = false := decide_eq_false c6
       clear c6
       have H' := Aside0.mk H
       clear H
       have p354 : 0 ≤ (x9_1 : Int) := of_decide_eq_true (by first | (with_reducible assumption) | assumption)
       have q354 : x9_1 < (l0.length : Int) := of_decide_eq_true (by first | (with_reducible assumption) | assumption)
       obtain ⟨ad354, e354, hx354_0⟩ := Kd.at_int HR0.out x9_1 p354 q354
       cases e354
       replace p354 := eq_true p354
       replace q354 := eq_true q354
       go_wp2
       go_roundg k1
       case measure => have := HK1.out; omega
       case rel => exact ⟨(wrap64 (x9_1 + 1)), (by first | rfl | (simp; done) | (simp [*]; done)), H', ⟨by have := HK1.out; omega⟩, by repeat (first | exact Drawn0.refl _ | apply Drawn0.step)⟩
     ·
      rw [if_neg c5] at H
      exact absurd H (by simp)
    ·
     rw [if_neg c4] at H
     exact absurd H (by simp)
   ·
    rw [if_neg c3] at H
    have c3b0 : decide (x9_1 < (l0.length : Int)) = false := decide_eq_false c3
    clear c3
    obtain rfl := Option.some.inj H
    go_wp2
    go_ret
    exact ⟨by first | rfl | (simp; done) | (simp [*]; done), by repeat (first | exact Drawn0.refl _ | apply Drawn0.step)⟩

end Go.Proofs.Ytdimdlifjdbgnaa.PFnReleased
