-- Written by a program of this session (wip/xprint.py) out of the translation; Lean checks it.
import Derived.Test.YtaaelkbkmgnciaaPFnRecordsx0
import Derived.Test.YtaaelkbkmgnciaaPFnRecordsx1
import Derived.Test.YtaaelkbkmgnciaaPFnRecordsx2
import Derived.Test.YtaaelkbkmgnciaaPFnRecordsx4
import Derived.Test.YtaaelkbkmgnciaaPFnRecordsx5
import Derived.Test.YtaaelkbkmgnciaaPFnRecordsx8
namespace Go.Proofs.Ytaaelkbkmgnciaa.PFnRecords
open Go.RowKit Go.Proofs.YtaaelkbkmgnciaaW.PrintWords Go.Proofs.YtaaelkbkmgnciaaW.PrintLast Go.Proofs.YtaaelkbkmgnciaaW.PrintMore
attribute [local go_sem] max2_int min2_int max_two min_two max_three min_three max_four min_four   -- for this text's walks alone

theorem S_and_ {α : Type} {d : Kd α} {e : Nat} {w : World} {base : Nat} {ok : Nat → Prop} {v : Value} {xs : List α} (h : Kd.S d e w base ok v xs) {Q : Nat → Prop} (q : ∀ k, ok k → Q k) : Kd.S d e w base (fun k => ok k ∧ Q k) v xs := Kd.S_mono h (fun k hk => ⟨hk, q k hk⟩)
set_option linter.unusedVariables false
set_option linter.unusedSimpArgs false

/-! ### laws_FnRecords: function 10 -/
mutual
def laws_FnRecords.j0 : Nat → List Int → List (List Int) → List Int → Bool → Option (Bool)
  | 0, _, _, _, _ => none
  | k + 1, x0, x3, x4, x38 => if x38 = true then (some false) else ((impl_Unpack20.f k x4).bind fun bt407 => ((impl_Same20.f k x3 bt407.1).bind fun bt412 => (if bt407.2.1 = 0 then (if bt407.2.2 = 0 then (if bt412.2.2 = true then (if bt412.1 = (-1) then (laws_FnRecords.j1 k x0 x3 bt407.1 (bt412.2.1 != (-1))) else (laws_FnRecords.j1 k x0 x3 bt407.1 true)) else (laws_FnRecords.j1 k x0 x3 bt407.1 true)) else (laws_FnRecords.j1 k x0 x3 bt407.1 true)) else (laws_FnRecords.j1 k x0 x3 bt407.1 true))))
def laws_FnRecords.j1 : Nat → List Int → List (List Int) → List (List Int) → Bool → Option (Bool)
  | 0, _, _, _, _ => none
  | k + 1, x0, x3, x6, x69 => if x69 = true then (some false) else ((spec_DrawUnpack20.f k x0).bind fun t415 => ((impl_Unpack20.f k t415).bind fun bt418 => (if bt418.2.1 = 0 then ((impl_Pack20.f k bt418.1).bind fun bt423 => (if bt423.2 = true then (if (strOfNums bt423.1).toList = (strOfNums t415).toList then (laws_FnRecords.j2 k x0 x3 x6) else (some false)) else (some false))) else (if bt418.2.2 < 0 then (some false) else (if bt418.2.2 > (t415.length : Int) then (some false) else (if (bt418.1.length : Int) = 0 then (laws_FnRecords.j2 k x0 x3 x6) else (some false)))))))
def laws_FnRecords.j2 : Nat → List Int → List (List Int) → List (List Int) → Option (Bool)
  | 0, _, _, _ => none
  | k + 1, x0, x3, x6 => if (x3.length : Int) = 0 then (some true) else ((laws_at.f x0 1).bind fun t427 => ((laws_at.f x0 2).bind fun t428 => (if 0 < (x3.length : Int) then (if ((rd_L1 x3 0).length : Int) = 0 then (none) else ((some (([] : List Int) : List Int)).bind fun y430 => (if 0 ≤ (Int.tmod t427 (x3.length : Int)) then (if (Int.tmod t427 (x3.length : Int)) < (x6.length : Int) then (if y430.length + (rd_L1 x6 (Int.tmod t427 (x3.length : Int))).length < 17592186044416 then ((some (x6.set ((Int.tmod t427 (x3.length : Int)) : Int).toNat (y430 ++ (rd_L1 x6 (Int.tmod t427 (x3.length : Int)))) : List (List Int))).bind fun y437 => (if 0 ≤ (Int.tmod t428 ((rd_L1 x3 0).length : Int)) then (if (Int.tmod t428 ((rd_L1 x3 0).length : Int)) < ((rd_L1 y437 (Int.tmod t427 (x3.length : Int))).length : Int) then ((laws_at.f x0 3).bind fun t441 => ((some (y437.set ((Int.tmod t427 (x3.length : Int)) : Int).toNat ((rd_L1 y437 (Int.tmod t427 (x3.length : Int))).set ((Int.tmod t428 ((rd_L1 x3 0).length : Int)) : Int).toNat (wrap64 ((wrap64 ((rd (rd_L1 y437 (Int.tmod t427 (x3.length : Int))) (Int.tmod t428 ((rd_L1 x3 0).length : Int))) + 1)) - (wrap64 (2 * (Int.tmod t441 2)))))) : List (List Int))).bind fun y444 => ((impl_Same20.f k x3 y444).bind fun bt445 => (if (Int.tmod t428 ((rd_L1 x3 0).length : Int)) < ((rd_L1 y444 (Int.tmod t427 (x3.length : Int))).length : Int) then (if (rd (rd_L1 y444 (Int.tmod t427 (x3.length : Int))) (Int.tmod t428 ((rd_L1 x3 0).length : Int))) > 30000 then (if bt445.2.2 = true then (some false) else (some (bt445.1 == (-2)))) else (if (rd (rd_L1 y444 (Int.tmod t427 (x3.length : Int))) (Int.tmod t428 ((rd_L1 x3 0).length : Int))) < (-30000) then (if bt445.2.2 = true then (some false) else (some (bt445.1 == (-2)))) else (if bt445.2.2 = true then (some false) else (if bt445.1 = (Int.tmod t427 (x3.length : Int)) then (some (bt445.2.1 == (Int.tmod t428 ((rd_L1 x3 0).length : Int)))) else (some false))))) else (none))))) else (none)) else (none))) else (none)) else (none)) else (none)))) else (none))))
end
def laws_FnRecords.f (k : Nat) (l0 : List Int) : Option (Bool) := (laws_big.f l0).bind fun t398 => (if t398 = true then (some true) else ((spec_DrawRecord.f k l0).bind fun t399 => ((impl_Pack20.f k t399).bind fun bt402 => (if bt402.2 = true then ((impl_RecordOk.f k t399).bind fun t406 => (laws_FnRecords.j0 k l0 t399 bt402.1 (!t406))) else (laws_FnRecords.j0 k l0 t399 bt402.1 true)))))
theorem laws_FnRecords.mono_l : ∀ k, (∀ y0 y1 y2 y3, LeO (laws_FnRecords.j0 k y0 y1 y2 y3) (laws_FnRecords.j0 (k + 1) y0 y1 y2 y3)) ∧ (∀ y0 y1 y2 y3, LeO (laws_FnRecords.j1 k y0 y1 y2 y3) (laws_FnRecords.j1 (k + 1) y0 y1 y2 y3)) ∧ (∀ y0 y1 y2, LeO (laws_FnRecords.j2 k y0 y1 y2) (laws_FnRecords.j2 (k + 1) y0 y1 y2))
  | 0 => ⟨fun _ _ _ _ r h => by simp [laws_FnRecords.j0] at h, fun _ _ _ _ r h => by simp [laws_FnRecords.j1] at h, fun _ _ _ r h => by simp [laws_FnRecords.j2] at h⟩
  | k + 1 => by
    obtain ⟨ih0, ih1, ih2⟩ := laws_FnRecords.mono_l k
    refine ⟨?_, ?_, ?_⟩
    · intro y0 y1 y2 y3
      unfold laws_FnRecords.j0
      repeat' first
      | (with_reducible exact ih0 _ _ _ _)
      | (with_reducible exact ih1 _ _ _ _)
      | (with_reducible exact ih2 _ _ _)
      | (with_reducible exact impl_Pack20.mono _ _)
      | (with_reducible exact impl_RecordOk.mono _ _)
      | (with_reducible exact impl_Same20.mono _ _ _)
      | (with_reducible exact impl_Unpack20.mono _ _)
      | (with_reducible exact spec_DrawRecord.mono _ _)
      | (with_reducible exact spec_DrawUnpack20.mono _ _)
      | (with_reducible exact LeO.refl _)
      | (with_reducible exact LeO.none _)
      | (with_reducible refine LeO.ite ?_ ?_)
      | (with_reducible refine LeO.bind ?_ (fun _ => ?_))
      | exact ih0 _ _ _ _
      | exact ih1 _ _ _ _
      | exact ih2 _ _ _
      | exact impl_Pack20.mono _ _
      | exact impl_RecordOk.mono _ _
      | exact impl_Same20.mono _ _ _
      | exact impl_Unpack20.mono _ _
      | exact spec_DrawRecord.mono _ _
      | exact spec_DrawUnpack20.mono _ _
      | exact LeO.none _
      | refine LeO.ite ?_ ?_
      | refine LeO.bind ?_ (fun _ => ?_)
    · intro y0 y1 y2 y3
      unfold laws_FnRecords.j1
      repeat' first
      | (with_reducible exact ih0 _ _ _ _)
      | (with_reducible exact ih1 _ _ _ _)
      | (with_reducible exact ih2 _ _ _)
      | (with_reducible exact impl_Pack20.mono _ _)
      | (with_reducible exact impl_RecordOk.mono _ _)
      | (with_reducible exact impl_Same20.mono _ _ _)
      | (with_reducible exact impl_Unpack20.mono _ _)
      | (with_reducible exact spec_DrawRecord.mono _ _)
      | (with_reducible exact spec_DrawUnpack20.mono _ _)
      | (with_reducible exact LeO.refl _)
      | (with_reducible exact LeO.none _)
      | (with_reducible refine LeO.ite ?_ ?_)
      | (with_reducible refine LeO.bind ?_ (fun _ => ?_))
      | exact ih0 _ _ _ _
      | exact ih1 _ _ _ _
      | exact ih2 _ _ _
      | exact impl_Pack20.mono _ _
      | exact impl_RecordOk.mono _ _
      | exact impl_Same20.mono _ _ _
      | exact impl_Unpack20.mono _ _
      | exact spec_DrawRecord.mono _ _
      | exact spec_DrawUnpack20.mono _ _
      | exact LeO.none _
      | refine LeO.ite ?_ ?_
      | refine LeO.bind ?_ (fun _ => ?_)
    · intro y0 y1 y2
      unfold laws_FnRecords.j2
      repeat' first
      | (with_reducible exact ih0 _ _ _ _)
      | (with_reducible exact ih1 _ _ _ _)
      | (with_reducible exact ih2 _ _ _)
      | (with_reducible exact impl_Pack20.mono _ _)
      | (with_reducible exact impl_RecordOk.mono _ _)
      | (with_reducible exact impl_Same20.mono _ _ _)
      | (with_reducible exact impl_Unpack20.mono _ _)
      | (with_reducible exact spec_DrawRecord.mono _ _)
      | (with_reducible exact spec_DrawUnpack20.mono _ _)
      | (with_reducible exact LeO.refl _)
      | (with_reducible exact LeO.none _)
      | (with_reducible refine LeO.ite ?_ ?_)
      | (with_reducible refine LeO.bind ?_ (fun _ => ?_))
      | exact ih0 _ _ _ _
      | exact ih1 _ _ _ _
      | exact ih2 _ _ _
      | exact impl_Pack20.mono _ _
      | exact impl_RecordOk.mono _ _
      | exact impl_Same20.mono _ _ _
      | exact impl_Unpack20.mono _ _
      | exact spec_DrawRecord.mono _ _
      | exact spec_DrawUnpack20.mono _ _
      | exact LeO.none _
      | refine LeO.ite ?_ ?_
      | refine LeO.bind ?_ (fun _ => ?_)
theorem laws_FnRecords.mono : ∀ a0 k, LeO (laws_FnRecords.f k a0) (laws_FnRecords.f (k + 1) a0) := by
  intro a0 k
  obtain ⟨ih0, ih1, ih2⟩ := laws_FnRecords.mono_l k
  unfold laws_FnRecords.f
  repeat' first
      | (with_reducible exact ih0 _ _ _ _)
      | (with_reducible exact ih1 _ _ _ _)
      | (with_reducible exact ih2 _ _ _)
      | (with_reducible exact impl_Pack20.mono _ _)
      | (with_reducible exact impl_RecordOk.mono _ _)
      | (with_reducible exact impl_Same20.mono _ _ _)
      | (with_reducible exact impl_Unpack20.mono _ _)
      | (with_reducible exact spec_DrawRecord.mono _ _)
      | (with_reducible exact spec_DrawUnpack20.mono _ _)
      | (with_reducible exact LeO.refl _)
      | (with_reducible exact LeO.none _)
      | (with_reducible refine LeO.ite ?_ ?_)
      | (with_reducible refine LeO.bind ?_ (fun _ => ?_))
      | exact ih0 _ _ _ _
      | exact ih1 _ _ _ _
      | exact ih2 _ _ _
      | exact impl_Pack20.mono _ _
      | exact impl_RecordOk.mono _ _
      | exact impl_Same20.mono _ _ _
      | exact impl_Unpack20.mono _ _
      | exact spec_DrawRecord.mono _ _
      | exact spec_DrawUnpack20.mono _ _
      | exact LeO.none _
      | refine LeO.ite ?_ ?_
      | refine LeO.bind ?_ (fun _ => ?_)
def laws_FnRecords.T21 : Bool × List (List Nat × List Nat) := (true, [([], []), ([0], [0]), ([], []), ([2], [2]), ([1, 3], [1, 3]), ([], []), ([5, 1], [5]), ([], []), ([7], [7]), ([8], [8]), ([9], [9]), ([6, 10], [6, 10]), ([4, 6, 0, 1, 2, 3, 4], [4]), ([11, 12, 0, 1, 2, 3, 4, 5, 6, 7, 8, 9, 10, 11, 12], [11])])
def laws_FnRecords.B21 : List Nat := [0, 1, 0, 4, 15, 0, 35, 0, 128, 384, 896, 2019, 127, 8191]
theorem laws_FnRecords.tab21 : rtab .any (opsOf Try.f10 21) = laws_FnRecords.T21 := by kernel_rfl
theorem laws_FnRecords.bits21 : waitsOk laws_FnRecords.T21.2 laws_FnRecords.B21 = true := by kernel_rfl
def laws_FnRecords.T23 : Bool × List (List Nat × List Nat) := (true, [([], []), ([], []), ([0, 1], [0, 1]), ([2], [2]), ([], []), ([], []), ([], []), ([5, 6], [5, 6]), ([7], [7]), ([], []), ([8, 9], [8, 9]), ([10], [10]), ([11], [11]), ([], []), ([13], [13]), ([14], [14]), ([15], [15]), ([12, 16], [12, 16]), ([3, 4, 0, 1, 2, 3, 4, 5, 6, 7, 8, 9, 10, 11, 12, 13, 14, 15, 16, 17], [3, 4]), ([18, 17, 14, 0, 1, 2, 3, 4, 5, 6, 7, 8, 9, 10, 11, 12, 13, 14, 15, 16, 17], [17, 18])])
def laws_FnRecords.B23 : List Nat := [0, 0, 3, 7, 0, 0, 0, 96, 224, 0, 992, 2016, 4064, 0, 8192, 24576, 57344, 131040, 262143, 524287]
theorem laws_FnRecords.tab23 : rtab .any (opsOf Try.f10 23) = laws_FnRecords.T23 := by kernel_rfl
theorem laws_FnRecords.bits23 : waitsOk laws_FnRecords.T23.2 laws_FnRecords.B23 = true := by kernel_rfl
set_option maxHeartbeats 8000000 in
set_option maxRecDepth 100000 in
theorem laws_FnRecords.calls (k : Nat) (A0 : Option Addr) (c0 : Nat) (l0 : List Int) (r : Bool) (hr_ : r = true) (w : World) (hr0 : Kd.C (Kd.int .u8) w A0 l0.length l0) (hc0 : l0.length ≤ c0) (h : laws_FnRecords.f k l0 = some r) :
    Calls Try.prog 10 #[.slice A0 l0.length c0] w fun e w' => e = .returned (.bool r) ∧ Below w.heap.size w w' := by
  have HR0 := Aside0.mk hr0
  have HC0 := Aside0.mk hc0
  clear hr0 hc0
  have HB := Aside0.mk (Below.refl w.heap.size w)
  have H : ((laws_big.f l0).bind fun t398 => (if t398 = true then (some true) else ((spec_DrawRecord.f k l0).bind fun t399 => ((impl_Pack20.f k t399).bind fun bt402 => (if bt402.2 = true then ((impl_RecordOk.f k t399).bind fun t406 => (laws_FnRecords.j0 k l0 t399 bt402.1 (!t406))) else (laws_FnRecords.j0 k l0 t399 bt402.1 true)))))) = some r := h
  clear h
  replace H := Option.bind_eq_some_iff.mp H
  obtain ⟨t398, A20, H⟩ := H
  replace H : (if t398 = true then (some true) else ((spec_DrawRecord.f k l0).bind fun t399 => ((impl_Pack20.f k t399).bind fun bt402 => (if bt402.2 = true then ((impl_RecordOk.f k t399).bind fun t406 => (laws_FnRecords.j0 k l0 t399 bt402.1 (!t406))) else (laws_FnRecords.j0 k l0 t399 bt402.1 true))))) = some r := H
  have A2 := Aside0.mk A20
  clear A20
  have HC3 := Aside0.mk H
  clear H
  go_enter Try.func10, Try.ntmps10
  go_upto_if 24 with (first | ((with_reducible refine gate_callee (f := 18) rfl ?_); refine goesL_ (some 24) rfl rfl Try.func18 (by kernel_rfl) rfl #[.slice A0 l0.length c0] rfl (by (try simp only [List.map_toArray, List.map_cons, List.map_nil]); first | done | rfl | (simp only [List.length_drop, List.length_take]; rfl)) ?_; (with_reducible refine (laws_big.calls _ _ l0 t398 _ ?side1 ?side2 A2.out).mono ?_); (case side1 => repeat (first | exact HR0.out | (with_reducible refine Kd.C_alloc ?_ _) | (with_reducible refine Kd.C_drewN ?_ _) | (with_reducible refine Kd.C_drew ?_))); (case side2 => exact HC0.out); rintro e w' ⟨rfl, ⟨nd, rfl⟩⟩; refine ⟨_, rfl, ?_⟩))
  have H := HC3.out
  clear HC3
  by_cases c4 : t398 = true
  · subst c4
    have H1 : (some true) = some r := by rw [if_pos rfl] at H; exact H
    clear H
    have H := H1
    clear H1
    obtain rfl := Option.some.inj H
    go_wp2
    go_ret
    exact ⟨by first | rfl | (simp [errW_none, errW_some] <;> rfl) | (simp [*, errW_none, errW_some] <;> rfl), by repeat (first | (with_reducible first | exact HB.out | apply below_alloc | apply pw_below_drewN | apply below_drew1) | exact HB.out)⟩
  · replace c4 := Bool.eq_false_iff.mpr c4
    subst c4
    have H1 : ((spec_DrawRecord.f k l0).bind fun t399 => ((impl_Pack20.f k t399).bind fun bt402 => (if bt402.2 = true then ((impl_RecordOk.f k t399).bind fun t406 => (laws_FnRecords.j0 k l0 t399 bt402.1 (!t406))) else (laws_FnRecords.j0 k l0 t399 bt402.1 true)))) = some r := by rw [if_neg (show ¬ (false = true) by decide)] at H; exact H
    clear H
    have H := H1
    clear H1
    replace H := Option.bind_eq_some_iff.mp H
    obtain ⟨t399, A50, H⟩ := H
    replace H : ((impl_Pack20.f k t399).bind fun bt402 => (if bt402.2 = true then ((impl_RecordOk.f k t399).bind fun t406 => (laws_FnRecords.j0 k l0 t399 bt402.1 (!t406))) else (laws_FnRecords.j0 k l0 t399 bt402.1 true))) = some r := H
    have A5 := Aside0.mk A50
    clear A50
    replace H := Option.bind_eq_some_iff.mp H
    obtain ⟨⟨t402, t403⟩, A60, H⟩ := H
    replace H : (if t403 = true then ((impl_RecordOk.f k t399).bind fun t406 => (laws_FnRecords.j0 k l0 t399 t402 (!t406))) else (laws_FnRecords.j0 k l0 t399 t402 true)) = some r := H
    have A6 := Aside0.mk A60
    clear A60
    have HC7 := Aside0.mk H
    clear H
    go_upto_region 5 with (first | ((with_reducible refine gate_callee (f := 19) rfl ?_); refine goesL_ (some 26) rfl rfl Try.func19 (by kernel_rfl) rfl #[.slice A0 l0.length c0] rfl (by (try simp only [List.map_toArray, List.map_cons, List.map_nil]); first | done | rfl | (simp only [List.length_drop, List.length_take]; rfl)) ?_; (with_reducible refine (spec_DrawRecord.calls k _ _ l0 t399 _ ?side1 ?side2 A5.out).mono ?_); (case side1 => repeat (first | exact (Kd.C_below HR0.out HB.out) | (with_reducible refine Kd.C_alloc ?_ _) | (with_reducible refine Kd.C_drewN ?_ _) | (with_reducible refine Kd.C_drew ?_))); (case side2 => exact HC0.out); rintro e w8 ⟨v400, rfl, ho0, hb⟩; refine ⟨_, rfl, ?_⟩; have n0_ := Aside0.mk (Kd.S_lower ho0 (below_size (by repeat (first | (with_reducible first | exact HB.out | apply below_alloc | apply pw_below_drewN | apply below_drew1) | exact HB.out)))); have n1_ := Aside0.mk (below_step (by repeat (first | (with_reducible first | exact HB.out | apply below_alloc | apply pw_below_drewN | apply below_drew1) | exact HB.out)) hb); clear HB; have HO401 := n0_; have HB := n1_; clear n0_ n1_; (try clear hb); (try clear hb2); (try clear hk); (try clear hi); (try clear ho0); obtain ⟨Ao9, co9, eo9⟩ := Kd.S_slice HO401.out; subst eo9) | ((with_reducible refine gate_callee (f := 31) rfl ?_); refine goesL_ (some 29) rfl rfl Try.func31 (by kernel_rfl) rfl #[.slice Ao9 t399.length co9] rfl (by (try simp only [List.map_toArray, List.map_cons, List.map_nil]); first | done | rfl | (simp only [List.length_drop, List.length_take]; rfl)) ?_; (with_reducible refine (impl_Pack20.calls k _ _ t399 t402 t403 _ ?side1 ?side2 A6.out).mono ?_); (case side1 => repeat (first | exact (Kd.S_reads' HO401.out).2.2 | (with_reducible refine Kd.C_alloc ?_ _) | (with_reducible refine Kd.C_drewN ?_ _) | (with_reducible refine Kd.C_drew ?_))); (case side2 => exact (Kd.S_reads' HO401.out).2.1); rintro e w10 ⟨v404, rfl, ho0, hb⟩; refine ⟨_, rfl, ?_⟩; have n0_ := Aside0.mk (Kd.S_below (by (with_reducible repeat (first | apply Kd.S_alloc | apply Kd.S_drewN | apply Kd.S_drew)); exact HO401.out) hb); have n1_ := Aside0.mk (Kd.R_lower ho0 (below_size (by repeat (first | (with_reducible first | exact HB.out | apply below_alloc | apply pw_below_drewN | apply below_drew1) | exact HB.out)))); have n2_ := Aside0.mk (below_step (by repeat (first | (with_reducible first | exact HB.out | apply below_alloc | apply pw_below_drewN | apply below_drew1) | exact HB.out)) hb); clear HO401; clear HB; have HO401 := n0_; have HO405 := n1_; have HB := n2_; clear n0_ n1_ n2_; (try clear hb); (try clear hb2); (try clear hk); (try clear hi); (try clear ho0)))
    (try simp only [Act.put, List.setIfInBounds_toArray, List.set_cons_zero, List.set_cons_succ])
    go_cut [38] (fun v38 wc => ∃ (kq : Nat) (x38_6 : Bool), v38 = .bool x38_6 ∧ Aside0 (laws_FnRecords.j0 kq l0 t399 t402 x38_6 = some r) ∧ Aside0 (kq ≤ k) ∧ Aside0 (Kd.S (Kd.slice 3 (Kd.int .i64)) 32 wc w.heap.size (fun _ => True) (.slice Ao9 t399.length co9) t399) ∧ Aside0 (Kd.R (Kd.int .u8) 5 wc w.heap.size (fun _ => True) v404 t402) ∧ Aside0 (Below w.heap.size w wc))
    case first =>
      have H := HC7.out
      clear HC7
      by_cases c11 : t403 = true
      · subst c11
        have H1 : ((impl_RecordOk.f k t399).bind fun t406 => (laws_FnRecords.j0 k l0 t399 t402 (!t406))) = some r := by rw [if_pos rfl] at H; exact H
        clear H
        have H := H1
        clear H1
        replace H := Option.bind_eq_some_iff.mp H
        obtain ⟨t406, A120, H⟩ := H
        replace H : (laws_FnRecords.j0 k l0 t399 t402 (!t406)) = some r := H
        have A12 := Aside0.mk A120
        clear A120
        have H' := Aside0.mk H
        clear H
        go_wp2_with (first | (go_at_call 14; (with_reducible refine (impl_RecordOk.calls k _ _ t399 t406 _ ?side1 ?side2 A12.out).mono ?_); (case side1 => repeat (first | exact (Kd.S_reads' HO401.out).2.2 | (with_reducible refine Kd.C_alloc ?_ _) | (with_reducible refine Kd.C_drewN ?_ _) | (with_reducible refine Kd.C_drew ?_))); (case side2 => exact (Kd.S_reads' HO401.out).2.1); rintro e w' ⟨rfl, ⟨nd, rfl⟩⟩))
        go_meet
        case rel => exact ⟨_, (!t406), (by first | rfl | (simp; done) | (simp [*]; done)), H', ⟨by first | omega | exact Nat.le_refl _⟩, ⟨by (with_reducible repeat (first | apply Kd.S_alloc | apply Kd.S_drewN | apply Kd.S_drew)); exact HO401.out⟩, ⟨by (with_reducible repeat (first | apply Kd.R_alloc | apply Kd.R_drewN | apply Kd.R_drew)); exact HO405.out⟩, ⟨by repeat (first | (with_reducible first | exact HB.out | apply below_alloc | apply pw_below_drewN | apply below_drew1) | exact HB.out)⟩⟩
      · replace c11 := Bool.eq_false_iff.mpr c11
        subst c11
        have H1 : (laws_FnRecords.j0 k l0 t399 t402 true) = some r := by rw [if_neg (show ¬ (false = true) by decide)] at H; exact H
        clear H
        have H := H1
        clear H1
        have H' := Aside0.mk H
        clear H
        go_wp2
        go_meet
        case rel => exact ⟨_, (true), (by first | rfl | (simp; done) | (simp [*]; done)), H', ⟨by first | omega | exact Nat.le_refl _⟩, ⟨by (with_reducible repeat (first | apply Kd.S_alloc | apply Kd.S_drewN | apply Kd.S_drew)); exact HO401.out⟩, ⟨by (with_reducible repeat (first | apply Kd.R_alloc | apply Kd.R_drewN | apply Kd.R_drew)); exact HO405.out⟩, ⟨by repeat (first | (with_reducible first | exact HB.out | apply below_alloc | apply pw_below_drewN | apply below_drew1) | exact HB.out)⟩⟩
    case rest =>
      clear HC7
      try clear c1
      try clear p2
      try clear c3
      try clear c4
      try clear c10
      try clear c11
      obtain ⟨kq, x38_6, rfl, HA, HJ6, HO_3, HO_4, HB⟩ := hcut
      cases kq with
      | zero => exact absurd HA.out (by simp [laws_FnRecords.j0])
      | succ kj6 =>
        have H := HA.out
        clear HA
        simp only [laws_FnRecords.j0] at H
        by_cases c13 : x38_6 = true
        · subst c13
          have H1 : (some false) = some r := by rw [if_pos rfl] at H; exact H
          clear H
          have H := H1
          clear H1
          cases H.trans (congrArg some hr_)
        · replace c13 := Bool.eq_false_iff.mpr c13
          subst c13
          have H1 : ((impl_Unpack20.f kj6 t402).bind fun bt407 => ((impl_Same20.f kj6 t399 bt407.1).bind fun bt412 => (if bt407.2.1 = 0 then (if bt407.2.2 = 0 then (if bt412.2.2 = true then (if bt412.1 = (-1) then (laws_FnRecords.j1 kj6 l0 t399 bt407.1 (bt412.2.1 != (-1))) else (laws_FnRecords.j1 kj6 l0 t399 bt407.1 true)) else (laws_FnRecords.j1 kj6 l0 t399 bt407.1 true)) else (laws_FnRecords.j1 kj6 l0 t399 bt407.1 true)) else (laws_FnRecords.j1 kj6 l0 t399 bt407.1 true)))) = some r := by rw [if_neg (show ¬ (false = true) by decide)] at H; exact H
          clear H
          have H := H1
          clear H1
          replace H := Option.bind_eq_some_iff.mp H
          obtain ⟨⟨t407, t408, t409⟩, A140, H⟩ := H
          replace H : ((impl_Same20.f kj6 t399 t407).bind fun bt412 => (if t408 = 0 then (if t409 = 0 then (if bt412.2.2 = true then (if bt412.1 = (-1) then (laws_FnRecords.j1 kj6 l0 t399 t407 (bt412.2.1 != (-1))) else (laws_FnRecords.j1 kj6 l0 t399 t407 true)) else (laws_FnRecords.j1 kj6 l0 t399 t407 true)) else (laws_FnRecords.j1 kj6 l0 t399 t407 true)) else (laws_FnRecords.j1 kj6 l0 t399 t407 true))) = some r := H
          have A14 := Aside0.mk A140
          clear A140
          replace H := Option.bind_eq_some_iff.mp H
          obtain ⟨⟨t412, t413, t414⟩, A150, H⟩ := H
          replace H : (if t408 = 0 then (if t409 = 0 then (if t414 = true then (if t412 = (-1) then (laws_FnRecords.j1 kj6 l0 t399 t407 (t413 != (-1))) else (laws_FnRecords.j1 kj6 l0 t399 t407 true)) else (laws_FnRecords.j1 kj6 l0 t399 t407 true)) else (laws_FnRecords.j1 kj6 l0 t399 t407 true)) else (laws_FnRecords.j1 kj6 l0 t399 t407 true)) = some r := H
          have A15 := Aside0.mk A150
          clear A150
          have HC16 := Aside0.mk H
          clear H
          obtain ⟨Ao17, co17, eo17⟩ := Kd.R_slice HO_4.out
          subst eo17
          go_upto_region 9 with (first | ((with_reducible refine gate_callee (f := 37) rfl ?_); refine goesL_ (some 41) rfl rfl Try.func37 (by kernel_rfl) rfl #[.slice Ao17 t402.length co17] rfl (by (try simp only [List.map_toArray, List.map_cons, List.map_nil]); first | done | rfl | (simp only [List.length_drop, List.length_take]; rfl)) ?_; (with_reducible refine (impl_Unpack20.calls kj6 _ _ t402 t407 t408 t409 _ ?side1 ?side2 A14.out).mono ?_); (case side1 => repeat (first | exact (Kd.R_reads' HO_4.out).2.2 | (with_reducible refine Kd.C_alloc ?_ _) | (with_reducible refine Kd.C_drewN ?_ _) | (with_reducible refine Kd.C_drew ?_))); (case side2 => exact (Kd.R_reads' HO_4.out).2.1); rintro e w18 ⟨v410, rfl, ho0, hb⟩; refine ⟨_, rfl, ?_⟩; have n0_ := Aside0.mk (Kd.S_elder' (by (with_reducible repeat (first | apply Kd.S_alloc | apply Kd.S_drewN | apply Kd.S_drew)); exact HO_3.out) (Kd.S_base ho0) hb); have n1_ := Aside0.mk (Kd.R_below (by (with_reducible repeat (first | apply Kd.R_alloc | apply Kd.R_drewN | apply Kd.R_drew)); exact HO_4.out) hb); have n2_ := Aside0.mk (Kd.S_lower (Kd.S_new' ho0 (Kd.S_lt (by (with_reducible repeat (first | apply Kd.S_alloc | apply Kd.S_drewN | apply Kd.S_drew)); exact HO_3.out))) (below_size (by repeat (first | (with_reducible first | exact HB.out | apply below_alloc | apply pw_below_drewN | apply below_drew1) | exact HB.out)))); have n3_ := Aside0.mk (below_step (by repeat (first | (with_reducible first | exact HB.out | apply below_alloc | apply pw_below_drewN | apply below_drew1) | exact HB.out)) hb); clear HO_3; clear HO_4; clear HB; have HO_3 := n0_; have HO_4 := n1_; have HO411 := n2_; have HB := n3_; clear n0_ n1_ n2_ n3_; (try clear hb); (try clear hb2); (try clear hk); (try clear hi); (try clear ho0); obtain ⟨Ao19, co19, eo19⟩ := Kd.S_slice HO411.out; subst eo19) | ((with_reducible refine gate_callee (f := 17) rfl ?_); refine goesL_ (some 48) rfl rfl Try.func17 (by kernel_rfl) rfl #[.slice Ao9 t399.length co9, .slice Ao19 t407.length co19] rfl (by (try simp only [List.map_toArray, List.map_cons, List.map_nil]); first | done | rfl | (simp only [List.length_drop, List.length_take]; rfl)) ?_; (with_reducible refine (impl_Same20.calls kj6 _ _ t399 _ _ t407 t412 t413 t414 _ ?side1 ?side2 ?side3 ?side4 A15.out).mono ?_); (case side1 => repeat (first | exact (Kd.S_reads' HO_3.out).2.2 | (with_reducible refine Kd.C_alloc ?_ _) | (with_reducible refine Kd.C_drewN ?_ _) | (with_reducible refine Kd.C_drew ?_))); (case side2 => exact (Kd.S_reads' HO_3.out).2.1); (case side3 => repeat (first | exact (Kd.S_reads' HO411.out).2.2 | (with_reducible refine Kd.C_alloc ?_ _) | (with_reducible refine Kd.C_drewN ?_ _) | (with_reducible refine Kd.C_drew ?_))); (case side4 => exact (Kd.S_reads' HO411.out).2.1); rintro e w20 ⟨rfl, hb⟩; refine ⟨_, rfl, ?_⟩; have n0_ := Aside0.mk (Kd.S_below (by (with_reducible repeat (first | apply Kd.S_alloc | apply Kd.S_drewN | apply Kd.S_drew)); exact HO_3.out) hb); have n1_ := Aside0.mk (Kd.R_below (by (with_reducible repeat (first | apply Kd.R_alloc | apply Kd.R_drewN | apply Kd.R_drew)); exact HO_4.out) hb); have n2_ := Aside0.mk (Kd.S_below (by (with_reducible repeat (first | apply Kd.S_alloc | apply Kd.S_drewN | apply Kd.S_drew)); exact HO411.out) hb); have n3_ := Aside0.mk (below_step (by repeat (first | (with_reducible first | exact HB.out | apply below_alloc | apply pw_below_drewN | apply below_drew1) | exact HB.out)) hb); clear HO_3; clear HO_4; clear HO411; clear HB; have HO_3 := n0_; have HO_4 := n1_; have HO411 := n2_; have HB := n3_; clear n0_ n1_ n2_ n3_; (try clear hb); (try clear hb2); (try clear hk); (try clear hi)))
          (try simp only [Act.put, List.setIfInBounds_toArray, List.set_cons_zero, List.set_cons_succ])
          go_cut [69] (fun v69 wc => ∃ (kq : Nat) (x69_15 : Bool), v69 = .bool x69_15 ∧ Aside0 (laws_FnRecords.j1 kq l0 t399 t407 x69_15 = some r) ∧ Aside0 (kq ≤ kj6) ∧ Aside0 (Kd.S (Kd.slice 3 (Kd.int .i64)) 32 wc w.heap.size (fun k_ => some k_ ≠ ((.slice Ao19 t407.length co19) : Value).ownBlock) (.slice Ao9 t399.length co9) t399) ∧ Aside0 (Kd.S (Kd.slice 3 (Kd.int .i64)) 32 wc w.heap.size (fun k_ => some k_ ≠ ((.slice Ao9 t399.length co9) : Value).ownBlock) (.slice Ao19 t407.length co19) t407) ∧ Aside0 (Below w.heap.size w wc))
          case first =>
            have H := HC16.out
            clear HC16
            by_cases c21 : t408 = 0
            · rw [if_pos c21] at H
              have c21b0 : (t408 == 0) = true := beq_iff_eq.mpr c21
              have c21b1 : (t408 != 0) = false := bne_eq_false_iff_eq.mpr c21
              clear c21
              (first | rw [c21b0] | (simp only [i64_w, i32_w]; rw [c21b0]) | skip)
              by_cases c22 : t409 = 0
              · rw [if_pos c22] at H
                have c22b0 : (t409 == 0) = true := beq_iff_eq.mpr c22
                have c22b1 : (t409 != 0) = false := bne_eq_false_iff_eq.mpr c22
                clear c22
                by_cases c23 : t414 = true
                · subst c23
                  have H1 : (if t412 = (-1) then (laws_FnRecords.j1 kj6 l0 t399 t407 (t413 != (-1))) else (laws_FnRecords.j1 kj6 l0 t399 t407 true)) = some r := by rw [if_pos rfl] at H; exact H
                  clear H
                  have H := H1
                  clear H1
                  by_cases c24 : t412 = (-1)
                  · rw [if_pos c24] at H
                    have c24b0 : (t412 == (-1)) = true := beq_iff_eq.mpr c24
                    have c24b1 : (t412 != (-1)) = false := bne_eq_false_iff_eq.mpr c24
                    clear c24
                    have H' := Aside0.mk H
                    clear H
                    go_wp2
                    go_meet
                    case rel => exact ⟨_, ((t413 != (-1))), (by first | rfl | (simp; done) | (simp [*]; done)), H', ⟨by have := HJ6.out; first | omega | exact Nat.le_refl _⟩, ⟨by (with_reducible repeat (first | apply Kd.S_alloc | apply Kd.S_drewN | apply Kd.S_drew)); exact Kd.S_mono HO_3.out (fun _ hk => hk.2)⟩, ⟨by (with_reducible repeat (first | apply Kd.S_alloc | apply Kd.S_drewN | apply Kd.S_drew)); exact Kd.S_mono HO411.out (fun _ hk => hk.2)⟩, ⟨by repeat (first | (with_reducible first | exact HB.out | apply below_alloc | apply pw_below_drewN | apply below_drew1) | exact HB.out)⟩⟩
                  · rw [if_neg c24] at H
                    have c24b0 : (t412 == (-1)) = false := beq_eq_false_iff_ne.mpr c24
                    have c24b1 : (t412 != (-1)) = true := bne_iff_ne.mpr c24
                    have H' := Aside0.mk H
                    clear H
                    go_wp2
                    go_meet
                    case rel => exact ⟨_, (true), (by first | rfl | (simp; done) | (simp [*]; done)), H', ⟨by have := HJ6.out; first | omega | exact Nat.le_refl _⟩, ⟨by (with_reducible repeat (first | apply Kd.S_alloc | apply Kd.S_drewN | apply Kd.S_drew)); exact Kd.S_mono HO_3.out (fun _ hk => hk.2)⟩, ⟨by (with_reducible repeat (first | apply Kd.S_alloc | apply Kd.S_drewN | apply Kd.S_drew)); exact Kd.S_mono HO411.out (fun _ hk => hk.2)⟩, ⟨by repeat (first | (with_reducible first | exact HB.out | apply below_alloc | apply pw_below_drewN | apply below_drew1) | exact HB.out)⟩⟩
                · replace c23 := Bool.eq_false_iff.mpr c23
                  subst c23
                  have H1 : (laws_FnRecords.j1 kj6 l0 t399 t407 true) = some r := by rw [if_neg (show ¬ (false = true) by decide)] at H; exact H
                  clear H
                  have H := H1
                  clear H1
                  have H' := Aside0.mk H
                  clear H
                  go_wp2
                  go_meet
                  case rel => exact ⟨_, (true), (by first | rfl | (simp; done) | (simp [*]; done)), H', ⟨by have := HJ6.out; first | omega | exact Nat.le_refl _⟩, ⟨by (with_reducible repeat (first | apply Kd.S_alloc | apply Kd.S_drewN | apply Kd.S_drew)); exact Kd.S_mono HO_3.out (fun _ hk => hk.2)⟩, ⟨by (with_reducible repeat (first | apply Kd.S_alloc | apply Kd.S_drewN | apply Kd.S_drew)); exact Kd.S_mono HO411.out (fun _ hk => hk.2)⟩, ⟨by repeat (first | (with_reducible first | exact HB.out | apply below_alloc | apply pw_below_drewN | apply below_drew1) | exact HB.out)⟩⟩
              · rw [if_neg c22] at H
                have c22b0 : (t409 == 0) = false := beq_eq_false_iff_ne.mpr c22
                have c22b1 : (t409 != 0) = true := bne_iff_ne.mpr c22
                have H' := Aside0.mk H
                clear H
                go_wp2
                go_meet
                case rel => exact ⟨_, (true), (by first | rfl | (simp; done) | (simp [*]; done)), H', ⟨by have := HJ6.out; first | omega | exact Nat.le_refl _⟩, ⟨by (with_reducible repeat (first | apply Kd.S_alloc | apply Kd.S_drewN | apply Kd.S_drew)); exact Kd.S_mono HO_3.out (fun _ hk => hk.2)⟩, ⟨by (with_reducible repeat (first | apply Kd.S_alloc | apply Kd.S_drewN | apply Kd.S_drew)); exact Kd.S_mono HO411.out (fun _ hk => hk.2)⟩, ⟨by repeat (first | (with_reducible first | exact HB.out | apply below_alloc | apply pw_below_drewN | apply below_drew1) | exact HB.out)⟩⟩
            · rw [if_neg c21] at H
              have c21b0 : (t408 == 0) = false := beq_eq_false_iff_ne.mpr c21
              have c21b1 : (t408 != 0) = true := bne_iff_ne.mpr c21
              (first | rw [c21b0] | (simp only [i64_w, i32_w]; rw [c21b0]) | skip)
              have H' := Aside0.mk H
              clear H
              go_wp2
              go_meet
              case rel => exact ⟨_, (true), (by first | rfl | (simp; done) | (simp [*]; done)), H', ⟨by have := HJ6.out; first | omega | exact Nat.le_refl _⟩, ⟨by (with_reducible repeat (first | apply Kd.S_alloc | apply Kd.S_drewN | apply Kd.S_drew)); exact Kd.S_mono HO_3.out (fun _ hk => hk.2)⟩, ⟨by (with_reducible repeat (first | apply Kd.S_alloc | apply Kd.S_drewN | apply Kd.S_drew)); exact Kd.S_mono HO411.out (fun _ hk => hk.2)⟩, ⟨by repeat (first | (with_reducible first | exact HB.out | apply below_alloc | apply pw_below_drewN | apply below_drew1) | exact HB.out)⟩⟩
          case rest =>
            clear HC16
            try clear c1
            try clear c2
            try clear p2
            try clear c3
            try clear c4
            try clear c10
            try clear c11
            try clear c13
            try clear c17
            try clear c18
            try clear c19
            try clear c21
            try clear c21b0
            try clear c21b1
            try clear c22
            try clear c22b0
            try clear c22b1
            try clear c23
            try clear c24
            try clear c24b0
            try clear c24b1
            try clear p2
            obtain ⟨kq, x69_15, rfl, HA, HJ15, HO_3, HO_6, HB⟩ := hcut
            cases kq with
            | zero => exact absurd HA.out (by simp [laws_FnRecords.j1])
            | succ kj15 =>
              have H := HA.out
              clear HA
              simp only [laws_FnRecords.j1] at H
              by_cases c25 : x69_15 = true
              · subst c25
                have H1 : (some false) = some r := by rw [if_pos rfl] at H; exact H
                clear H
                have H := H1
                clear H1
                cases H.trans (congrArg some hr_)
              · replace c25 := Bool.eq_false_iff.mpr c25
                subst c25
                have H1 : ((spec_DrawUnpack20.f kj15 l0).bind fun t415 => ((impl_Unpack20.f kj15 t415).bind fun bt418 => (if bt418.2.1 = 0 then ((impl_Pack20.f kj15 bt418.1).bind fun bt423 => (if bt423.2 = true then (if (strOfNums bt423.1).toList = (strOfNums t415).toList then (laws_FnRecords.j2 kj15 l0 t399 t407) else (some false)) else (some false))) else (if bt418.2.2 < 0 then (some false) else (if bt418.2.2 > (t415.length : Int) then (some false) else (if (bt418.1.length : Int) = 0 then (laws_FnRecords.j2 kj15 l0 t399 t407) else (some false))))))) = some r := by rw [if_neg (show ¬ (false = true) by decide)] at H; exact H
                clear H
                have H := H1
                clear H1
                replace H := Option.bind_eq_some_iff.mp H
                obtain ⟨t415, A260, H⟩ := H
                replace H : ((impl_Unpack20.f kj15 t415).bind fun bt418 => (if bt418.2.1 = 0 then ((impl_Pack20.f kj15 bt418.1).bind fun bt423 => (if bt423.2 = true then (if (strOfNums bt423.1).toList = (strOfNums t415).toList then (laws_FnRecords.j2 kj15 l0 t399 t407) else (some false)) else (some false))) else (if bt418.2.2 < 0 then (some false) else (if bt418.2.2 > (t415.length : Int) then (some false) else (if (bt418.1.length : Int) = 0 then (laws_FnRecords.j2 kj15 l0 t399 t407) else (some false)))))) = some r := H
                have A26 := Aside0.mk A260
                clear A260
                replace H := Option.bind_eq_some_iff.mp H
                obtain ⟨⟨t418, t419, t420⟩, A270, H⟩ := H
                replace H : (if t419 = 0 then ((impl_Pack20.f kj15 t418).bind fun bt423 => (if bt423.2 = true then (if (strOfNums bt423.1).toList = (strOfNums t415).toList then (laws_FnRecords.j2 kj15 l0 t399 t407) else (some false)) else (some false))) else (if t420 < 0 then (some false) else (if t420 > (t415.length : Int) then (some false) else (if (t418.length : Int) = 0 then (laws_FnRecords.j2 kj15 l0 t399 t407) else (some false))))) = some r := H
                have A27 := Aside0.mk A270
                clear A270
                have HC28 := Aside0.mk H
                clear H
                go_upto_if 79 with (first | ((with_reducible refine gate_callee (f := 39) rfl ?_); refine goesL_ (some 71) rfl rfl Try.func39 (by kernel_rfl) rfl #[.slice A0 l0.length c0] rfl (by (try simp only [List.map_toArray, List.map_cons, List.map_nil]); first | done | rfl | (simp only [List.length_drop, List.length_take]; rfl)) ?_; (with_reducible refine (spec_DrawUnpack20.calls kj15 _ _ l0 t415 _ ?side1 ?side2 A26.out).mono ?_); (case side1 => repeat (first | exact (Kd.C_below HR0.out HB.out) | (with_reducible refine Kd.C_alloc ?_ _) | (with_reducible refine Kd.C_drewN ?_ _) | (with_reducible refine Kd.C_drew ?_))); (case side2 => exact HC0.out); rintro e w29 ⟨v416, rfl, ho0, hb⟩; refine ⟨_, rfl, ?_⟩; have n0_ := Aside0.mk (Kd.S_below (by (with_reducible repeat (first | apply Kd.S_alloc | apply Kd.S_drewN | apply Kd.S_drew)); exact HO_3.out) hb); have n1_ := Aside0.mk (Kd.S_below (by (with_reducible repeat (first | apply Kd.S_alloc | apply Kd.S_drewN | apply Kd.S_drew)); exact HO_6.out) hb); have n2_ := Aside0.mk (Kd.R_lower ho0 (below_size (by repeat (first | (with_reducible first | exact HB.out | apply below_alloc | apply pw_below_drewN | apply below_drew1) | exact HB.out)))); have n3_ := Aside0.mk (below_step (by repeat (first | (with_reducible first | exact HB.out | apply below_alloc | apply pw_below_drewN | apply below_drew1) | exact HB.out)) hb); clear HO_3; clear HO_6; clear HB; have HO_3 := n0_; have HO_6 := n1_; have HO417 := n2_; have HB := n3_; clear n0_ n1_ n2_ n3_; (try clear hb); (try clear hb2); (try clear hk); (try clear hi); (try clear ho0); obtain ⟨Ao30, co30, eo30⟩ := Kd.R_slice HO417.out; subst eo30) | ((with_reducible refine gate_callee (f := 37) rfl ?_); refine goesL_ (some 74) rfl rfl Try.func37 (by kernel_rfl) rfl #[.slice Ao30 t415.length co30] rfl (by (try simp only [List.map_toArray, List.map_cons, List.map_nil]); first | done | rfl | (simp only [List.length_drop, List.length_take]; rfl)) ?_; (with_reducible refine (impl_Unpack20.calls kj15 _ _ t415 t418 t419 t420 _ ?side1 ?side2 A27.out).mono ?_); (case side1 => repeat (first | exact (Kd.R_reads' HO417.out).2.2 | (with_reducible refine Kd.C_alloc ?_ _) | (with_reducible refine Kd.C_drewN ?_ _) | (with_reducible refine Kd.C_drew ?_))); (case side2 => exact (Kd.R_reads' HO417.out).2.1); rintro e w31 ⟨v421, rfl, ho0, hb⟩; refine ⟨_, rfl, ?_⟩; have n0_ := Aside0.mk (Kd.S_elder' (by (with_reducible repeat (first | apply Kd.S_alloc | apply Kd.S_drewN | apply Kd.S_drew)); exact HO_3.out) (Kd.S_base ho0) hb); have n1_ := Aside0.mk (Kd.S_elder' (by (with_reducible repeat (first | apply Kd.S_alloc | apply Kd.S_drewN | apply Kd.S_drew)); exact HO_6.out) (Kd.S_base ho0) hb); have n2_ := Aside0.mk (Kd.R_below (by (with_reducible repeat (first | apply Kd.R_alloc | apply Kd.R_drewN | apply Kd.R_drew)); exact HO417.out) hb); have n3_ := Aside0.mk (Kd.S_lower (Kd.S_new' (Kd.S_new' ho0 (Kd.S_lt (by (with_reducible repeat (first | apply Kd.S_alloc | apply Kd.S_drewN | apply Kd.S_drew)); exact HO_3.out))) (Kd.S_lt (by (with_reducible repeat (first | apply Kd.S_alloc | apply Kd.S_drewN | apply Kd.S_drew)); exact HO_6.out))) (below_size (by repeat (first | (with_reducible first | exact HB.out | apply below_alloc | apply pw_below_drewN | apply below_drew1) | exact HB.out)))); have n4_ := Aside0.mk (below_step (by repeat (first | (with_reducible first | exact HB.out | apply below_alloc | apply pw_below_drewN | apply below_drew1) | exact HB.out)) hb); clear HO_3; clear HO_6; clear HO417; clear HB; have HO_3 := n0_; have HO_6 := n1_; have HO417 := n2_; have HO422 := n3_; have HB := n4_; clear n0_ n1_ n2_ n3_ n4_; (try clear hb); (try clear hb2); (try clear hk); (try clear hi); (try clear ho0)))
                (try simp only [Act.put, List.setIfInBounds_toArray, List.set_cons_zero, List.set_cons_succ])
                go_cut [] (fun wc => ∃ (kq : Nat), Aside0 (laws_FnRecords.j2 kq l0 t399 t407 = some r) ∧ Aside0 (kq ≤ kj15) ∧ Aside0 (Kd.S (Kd.slice 3 (Kd.int .i64)) 32 wc w.heap.size (fun k_ => some k_ ≠ ((.slice Ao19 t407.length co19) : Value).ownBlock) (.slice Ao9 t399.length co9) t399) ∧ Aside0 (Kd.S (Kd.slice 3 (Kd.int .i64)) 32 wc w.heap.size (fun k_ => some k_ ≠ ((.slice Ao9 t399.length co9) : Value).ownBlock) (.slice Ao19 t407.length co19) t407) ∧ Aside0 (Below w.heap.size w wc))
                case first =>
                  have H := HC28.out
                  clear HC28
                  by_cases c32 : t419 = 0
                  · rw [if_pos c32] at H
                    have c32b0 : (t419 == 0) = true := beq_iff_eq.mpr c32
                    have c32b1 : (t419 != 0) = false := bne_eq_false_iff_eq.mpr c32
                    clear c32
                    (first | rw [c32b0] | (simp only [i64_w, i32_w]; rw [c32b0]) | skip)
                    replace H := Option.bind_eq_some_iff.mp H
                    obtain ⟨⟨t423, t424⟩, A330, H⟩ := H
                    replace H : (if t424 = true then (if (strOfNums t423).toList = (strOfNums t415).toList then (laws_FnRecords.j2 kj15 l0 t399 t407) else (some false)) else (some false)) = some r := H
                    have A33 := Aside0.mk A330
                    clear A330
                    by_cases c34 : t424 = true
                    · subst c34
                      have H1 : (if (strOfNums t423).toList = (strOfNums t415).toList then (laws_FnRecords.j2 kj15 l0 t399 t407) else (some false)) = some r := by rw [if_pos rfl] at H; exact H
                      clear H
                      have H := H1
                      clear H1
                      have HC35 := Aside0.mk H
                      clear H
                      obtain ⟨Ao36, co36, eo36⟩ := Kd.S_slice HO422.out
                      subst eo36
                      go_upto_if 93 with (first | ((with_reducible refine gate_callee (f := 31) rfl ?_); refine goesL_ (some 82) rfl rfl Try.func31 (by kernel_rfl) rfl #[.slice Ao36 t418.length co36] rfl (by (try simp only [List.map_toArray, List.map_cons, List.map_nil]); first | done | rfl | (simp only [List.length_drop, List.length_take]; rfl)) ?_; (with_reducible refine (impl_Pack20.calls kj15 _ _ t418 t423 true _ ?side1 ?side2 A33.out).mono ?_); (case side1 => repeat (first | exact (Kd.S_reads' HO422.out).2.2 | (with_reducible refine Kd.C_alloc ?_ _) | (with_reducible refine Kd.C_drewN ?_ _) | (with_reducible refine Kd.C_drew ?_))); (case side2 => exact (Kd.S_reads' HO422.out).2.1); rintro e w37 ⟨v425, rfl, ho0, hb⟩; refine ⟨_, rfl, ?_⟩; have n0_ := Aside0.mk (Kd.S_below (by (with_reducible repeat (first | apply Kd.S_alloc | apply Kd.S_drewN | apply Kd.S_drew)); exact HO_3.out) hb); have n1_ := Aside0.mk (Kd.S_below (by (with_reducible repeat (first | apply Kd.S_alloc | apply Kd.S_drewN | apply Kd.S_drew)); exact HO_6.out) hb); have n2_ := Aside0.mk (Kd.R_elder' (by (with_reducible repeat (first | apply Kd.R_alloc | apply Kd.R_drewN | apply Kd.R_drew)); exact HO417.out) (Kd.R_base ho0) hb); have n3_ := Aside0.mk (Kd.S_below (by (with_reducible repeat (first | apply Kd.S_alloc | apply Kd.S_drewN | apply Kd.S_drew)); exact HO422.out) hb); have n4_ := Aside0.mk (Kd.R_lower (Kd.R_new' ho0 (Kd.R_lt (by (with_reducible repeat (first | apply Kd.R_alloc | apply Kd.R_drewN | apply Kd.R_drew)); exact HO417.out))) (below_size (by repeat (first | (with_reducible first | exact HB.out | apply below_alloc | apply pw_below_drewN | apply below_drew1) | exact HB.out)))); have n5_ := Aside0.mk (below_step (by repeat (first | (with_reducible first | exact HB.out | apply below_alloc | apply pw_below_drewN | apply below_drew1) | exact HB.out)) hb); clear HO_3; clear HO_6; clear HO417; clear HO422; clear HB; have HO_3 := n0_; have HO_6 := n1_; have HO417 := n2_; have HO422 := n3_; have HO426 := n4_; have HB := n5_; clear n0_ n1_ n2_ n3_ n4_ n5_; (try clear hb); (try clear hb2); (try clear hk); (try clear hi); (try clear ho0); have hcv38 := own_string (P := Try.prog) Try.underlying29 Try.underlying5 Try.underlying9 (Kd.own_of_R HO426.out); have hcv39 := own_string (P := Try.prog) Try.underlying29 Try.underlying5 Try.underlying9 (Kd.own_of_R HO417.out)))
                      have H := HC35.out
                      clear HC35
                      by_cases c40 : (strOfNums t423).toList = (strOfNums t415).toList
                      · rw [if_pos c40] at H
                        have c40b0 : ((strOfNums t423).toList == (strOfNums t415).toList) = true := beq_iff_eq.mpr c40
                        have c40b1 : ((strOfNums t423).toList != (strOfNums t415).toList) = false := bne_eq_false_iff_eq.mpr c40
                        clear c40
                        (first | rw [c40b0] | (simp only [i64_w, i32_w]; rw [c40b0]) | skip)
                        have H' := Aside0.mk H
                        clear H
                        go_wp2
                        go_meet
                        case rel => exact ⟨_, H', ⟨by have := HJ6.out; have := HJ15.out; first | omega | exact Nat.le_refl _⟩, ⟨by (with_reducible repeat (first | apply Kd.S_alloc | apply Kd.S_drewN | apply Kd.S_drew)); exact Kd.S_mono HO_3.out (fun _ hk => hk.1)⟩, ⟨by (with_reducible repeat (first | apply Kd.S_alloc | apply Kd.S_drewN | apply Kd.S_drew)); exact Kd.S_mono HO_6.out (fun _ hk => hk.1)⟩, ⟨by repeat (first | (with_reducible first | exact HB.out | apply below_alloc | apply pw_below_drewN | apply below_drew1) | exact HB.out)⟩⟩
                      · rw [if_neg c40] at H
                        have c40b0 : ((strOfNums t423).toList == (strOfNums t415).toList) = false := beq_eq_false_iff_ne.mpr c40
                        have c40b1 : ((strOfNums t423).toList != (strOfNums t415).toList) = true := bne_iff_ne.mpr c40
                        (first | rw [c40b0] | (simp only [i64_w, i32_w]; rw [c40b0]) | skip)
                        cases H.trans (congrArg some hr_)
                    · replace c34 := Bool.eq_false_iff.mpr c34
                      subst c34
                      have H1 : (some false) = some r := by rw [if_neg (show ¬ (false = true) by decide)] at H; exact H
                      clear H
                      have H := H1
                      clear H1
                      cases H.trans (congrArg some hr_)
                  · rw [if_neg c32] at H
                    have c32b0 : (t419 == 0) = false := beq_eq_false_iff_ne.mpr c32
                    have c32b1 : (t419 != 0) = true := bne_iff_ne.mpr c32
                    (first | rw [c32b0] | (simp only [i64_w, i32_w]; rw [c32b0]) | skip)
                    by_cases c43 : t420 < 0
                    · rw [if_pos c43] at H
                      have c43b0 : decide (t420 < 0) = true := decide_eq_true c43
                      clear c43
                      cases H.trans (congrArg some hr_)
                    · rw [if_neg c43] at H
                      have c43b0 : decide (t420 < 0) = false := decide_eq_false c43
                      clear c43
                      by_cases c44 : t420 > (t415.length : Int)
                      · rw [if_pos c44] at H
                        have c44b0 : decide ((t415.length : Int) < t420) = true := decide_eq_true c44
                        clear c44
                        cases H.trans (congrArg some hr_)
                      · rw [if_neg c44] at H
                        have c44b0 : decide ((t415.length : Int) < t420) = false := decide_eq_false c44
                        clear c44
                        by_cases c45 : (t418.length : Int) = 0
                        · rw [if_pos c45] at H
                          have c45b0 : ((t418.length : Int) == 0) = true := beq_iff_eq.mpr c45
                          have c45b1 : ((t418.length : Int) != 0) = false := bne_eq_false_iff_eq.mpr c45
                          clear c45
                          have H' := Aside0.mk H
                          clear H
                          obtain ⟨Ao46, co46, eo46⟩ := Kd.S_slice HO422.out
                          subst eo46
                          go_wp2
                          go_meet
                          case rel => exact ⟨_, H', ⟨by have := HJ6.out; have := HJ15.out; first | omega | exact Nat.le_refl _⟩, ⟨by (with_reducible repeat (first | apply Kd.S_alloc | apply Kd.S_drewN | apply Kd.S_drew)); exact Kd.S_mono HO_3.out (fun _ hk => hk.1)⟩, ⟨by (with_reducible repeat (first | apply Kd.S_alloc | apply Kd.S_drewN | apply Kd.S_drew)); exact Kd.S_mono HO_6.out (fun _ hk => hk.1)⟩, ⟨by repeat (first | (with_reducible first | exact HB.out | apply below_alloc | apply pw_below_drewN | apply below_drew1) | exact HB.out)⟩⟩
                        · rw [if_neg c45] at H
                          have c45b0 : ((t418.length : Int) == 0) = false := beq_eq_false_iff_ne.mpr c45
                          have c45b1 : ((t418.length : Int) != 0) = true := bne_iff_ne.mpr c45
                          have c45b2 : ¬ (t418 = []) := fun h_ => c45 (by rw [h_]; rfl)
                          cases H.trans (congrArg some hr_)
                case rest =>
                  clear HC28
                  try clear c1
                  try clear c2
                  try clear p2
                  try clear c3
                  try clear hcv3
                  try clear c4
                  try clear c10
                  try clear c11
                  try clear c13
                  try clear c17
                  try clear c18
                  try clear c19
                  try clear c21
                  try clear c21b0
                  try clear c21b1
                  try clear c22
                  try clear c22b0
                  try clear c22b1
                  try clear c23
                  try clear c24
                  try clear c24b0
                  try clear c24b1
                  try clear c25
                  try clear c31
                  try clear c32
                  try clear c32b0
                  try clear c32b1
                  try clear c34
                  try clear c37
                  try clear hcv38
                  try clear c39
                  try clear hcv39
                  try clear c40
                  try clear c40b0
                  try clear c40b1
                  try clear c43
                  try clear c43b0
                  try clear c44
                  try clear c44b0
                  try clear c45
                  try clear c45b0
                  try clear c45b1
                  try clear c45b2
                  try clear p2
                  obtain ⟨kq, HA, HJ27, HO_3, HO_6, HB⟩ := hcut
                  cases kq with
                  | zero => exact absurd HA.out (by simp [laws_FnRecords.j2])
                  | succ kj27 =>
                    have H := HA.out
                    clear HA
                    simp only [laws_FnRecords.j2] at H
                    by_cases c48 : (t399.length : Int) = 0
                    · rw [if_pos c48] at H
                      have c48b0 : ((t399.length : Int) == 0) = true := beq_iff_eq.mpr c48
                      have c48b1 : ((t399.length : Int) != 0) = false := bne_eq_false_iff_eq.mpr c48
                      clear c48
                      obtain rfl := Option.some.inj H
                      go_wp2
                      go_ret
                      exact ⟨by first | rfl | (simp [errW_none, errW_some] <;> rfl) | (simp [*, errW_none, errW_some] <;> rfl), by repeat (first | (with_reducible first | exact HB.out | apply below_alloc | apply pw_below_drewN | apply below_drew1) | exact HB.out)⟩
                    · rw [if_neg c48] at H
                      have c48b0 : ((t399.length : Int) == 0) = false := beq_eq_false_iff_ne.mpr c48
                      have c48b1 : ((t399.length : Int) != 0) = true := bne_iff_ne.mpr c48
                      have c48b2 : ¬ (t399 = []) := fun h_ => c48 (by rw [h_]; rfl)
                      replace H := Option.bind_eq_some_iff.mp H
                      obtain ⟨t427, A490, H⟩ := H
                      replace H : ((laws_at.f l0 2).bind fun t428 => (if 0 < (t399.length : Int) then (if ((rd_L1 t399 0).length : Int) = 0 then (none) else ((some (([] : List Int) : List Int)).bind fun y430 => (if 0 ≤ (Int.tmod t427 (t399.length : Int)) then (if (Int.tmod t427 (t399.length : Int)) < (t407.length : Int) then (if y430.length + (rd_L1 t407 (Int.tmod t427 (t399.length : Int))).length < 17592186044416 then ((some (t407.set ((Int.tmod t427 (t399.length : Int)) : Int).toNat (y430 ++ (rd_L1 t407 (Int.tmod t427 (t399.length : Int)))) : List (List Int))).bind fun y437 => (if 0 ≤ (Int.tmod t428 ((rd_L1 t399 0).length : Int)) then (if (Int.tmod t428 ((rd_L1 t399 0).length : Int)) < ((rd_L1 y437 (Int.tmod t427 (t399.length : Int))).length : Int) then ((laws_at.f l0 3).bind fun t441 => ((some (y437.set ((Int.tmod t427 (t399.length : Int)) : Int).toNat ((rd_L1 y437 (Int.tmod t427 (t399.length : Int))).set ((Int.tmod t428 ((rd_L1 t399 0).length : Int)) : Int).toNat (wrap64 ((wrap64 ((rd (rd_L1 y437 (Int.tmod t427 (t399.length : Int))) (Int.tmod t428 ((rd_L1 t399 0).length : Int))) + 1)) - (wrap64 (2 * (Int.tmod t441 2)))))) : List (List Int))).bind fun y444 => ((impl_Same20.f kj27 t399 y444).bind fun bt445 => (if (Int.tmod t428 ((rd_L1 t399 0).length : Int)) < ((rd_L1 y444 (Int.tmod t427 (t399.length : Int))).length : Int) then (if (rd (rd_L1 y444 (Int.tmod t427 (t399.length : Int))) (Int.tmod t428 ((rd_L1 t399 0).length : Int))) > 30000 then (if bt445.2.2 = true then (some false) else (some (bt445.1 == (-2)))) else (if (rd (rd_L1 y444 (Int.tmod t427 (t399.length : Int))) (Int.tmod t428 ((rd_L1 t399 0).length : Int))) < (-30000) then (if bt445.2.2 = true then (some false) else (some (bt445.1 == (-2)))) else (if bt445.2.2 = true then (some false) else (if bt445.1 = (Int.tmod t427 (t399.length : Int)) then (some (bt445.2.1 == (Int.tmod t428 ((rd_L1 t399 0).length : Int)))) else (some false))))) else (none))))) else (none)) else (none))) else (none)) else (none)) else (none)))) else (none))) = some r := H
                      have A49 := Aside0.mk A490
                      clear A490
                      replace H := Option.bind_eq_some_iff.mp H
                      obtain ⟨t428, A500, H⟩ := H
                      replace H : (if 0 < (t399.length : Int) then (if ((rd_L1 t399 0).length : Int) = 0 then (none) else ((some (([] : List Int) : List Int)).bind fun y430 => (if 0 ≤ (Int.tmod t427 (t399.length : Int)) then (if (Int.tmod t427 (t399.length : Int)) < (t407.length : Int) then (if y430.length + (rd_L1 t407 (Int.tmod t427 (t399.length : Int))).length < 17592186044416 then ((some (t407.set ((Int.tmod t427 (t399.length : Int)) : Int).toNat (y430 ++ (rd_L1 t407 (Int.tmod t427 (t399.length : Int)))) : List (List Int))).bind fun y437 => (if 0 ≤ (Int.tmod t428 ((rd_L1 t399 0).length : Int)) then (if (Int.tmod t428 ((rd_L1 t399 0).length : Int)) < ((rd_L1 y437 (Int.tmod t427 (t399.length : Int))).length : Int) then ((laws_at.f l0 3).bind fun t441 => ((some (y437.set ((Int.tmod t427 (t399.length : Int)) : Int).toNat ((rd_L1 y437 (Int.tmod t427 (t399.length : Int))).set ((Int.tmod t428 ((rd_L1 t399 0).length : Int)) : Int).toNat (wrap64 ((wrap64 ((rd (rd_L1 y437 (Int.tmod t427 (t399.length : Int))) (Int.tmod t428 ((rd_L1 t399 0).length : Int))) + 1)) - (wrap64 (2 * (Int.tmod t441 2)))))) : List (List Int))).bind fun y444 => ((impl_Same20.f kj27 t399 y444).bind fun bt445 => (if (Int.tmod t428 ((rd_L1 t399 0).length : Int)) < ((rd_L1 y444 (Int.tmod t427 (t399.length : Int))).length : Int) then (if (rd (rd_L1 y444 (Int.tmod t427 (t399.length : Int))) (Int.tmod t428 ((rd_L1 t399 0).length : Int))) > 30000 then (if bt445.2.2 = true then (some false) else (some (bt445.1 == (-2)))) else (if (rd (rd_L1 y444 (Int.tmod t427 (t399.length : Int))) (Int.tmod t428 ((rd_L1 t399 0).length : Int))) < (-30000) then (if bt445.2.2 = true then (some false) else (some (bt445.1 == (-2)))) else (if bt445.2.2 = true then (some false) else (if bt445.1 = (Int.tmod t427 (t399.length : Int)) then (some (bt445.2.1 == (Int.tmod t428 ((rd_L1 t399 0).length : Int)))) else (some false))))) else (none))))) else (none)) else (none))) else (none)) else (none)) else (none)))) else (none)) = some r := H
                      have A50 := Aside0.mk A500
                      clear A500
                      by_cases c51 : 0 < (t399.length : Int)
                      · rw [if_pos c51] at H
                        have c51b0 : decide (0 < (t399.length : Int)) = true := decide_eq_true c51
                        have c51b1 : decide (0 < t399.length) = true := decide_eq_true (by omega)
                        clear c51
                        by_cases c52 : ((rd_L1 t399 0).length : Int) = 0
                        · rw [if_pos c52] at H
                          exact absurd H (by simp)
                        · rw [if_neg c52] at H
                          have c52b0 : (((rd_L1 t399 0).length : Int) == 0) = false := beq_eq_false_iff_ne.mpr c52
                          have c52b1 : (((rd_L1 t399 0).length : Int) != 0) = true := bne_iff_ne.mpr c52
                          have c52b2 : ¬ ((rd_L1 t399 0) = []) := fun h_ => c52 (by rw [h_]; rfl)
                          obtain ⟨y430, hy430⟩ : ∃ y_ : List Int, y_ = (([] : List Int)) := ⟨_, rfl⟩
                          replace H : (if 0 ≤ (Int.tmod t427 (t399.length : Int)) then (if (Int.tmod t427 (t399.length : Int)) < (t407.length : Int) then (if y430.length + (rd_L1 t407 (Int.tmod t427 (t399.length : Int))).length < 17592186044416 then ((some (t407.set ((Int.tmod t427 (t399.length : Int)) : Int).toNat (y430 ++ (rd_L1 t407 (Int.tmod t427 (t399.length : Int)))) : List (List Int))).bind fun y437 => (if 0 ≤ (Int.tmod t428 ((rd_L1 t399 0).length : Int)) then (if (Int.tmod t428 ((rd_L1 t399 0).length : Int)) < ((rd_L1 y437 (Int.tmod t427 (t399.length : Int))).length : Int) then ((laws_at.f l0 3).bind fun t441 => ((some (y437.set ((Int.tmod t427 (t399.length : Int)) : Int).toNat ((rd_L1 y437 (Int.tmod t427 (t399.length : Int))).set ((Int.tmod t428 ((rd_L1 t399 0).length : Int)) : Int).toNat (wrap64 ((wrap64 ((rd (rd_L1 y437 (Int.tmod t427 (t399.length : Int))) (Int.tmod t428 ((rd_L1 t399 0).length : Int))) + 1)) - (wrap64 (2 * (Int.tmod t441 2)))))) : List (List Int))).bind fun y444 => ((impl_Same20.f kj27 t399 y444).bind fun bt445 => (if (Int.tmod t428 ((rd_L1 t399 0).length : Int)) < ((rd_L1 y444 (Int.tmod t427 (t399.length : Int))).length : Int) then (if (rd (rd_L1 y444 (Int.tmod t427 (t399.length : Int))) (Int.tmod t428 ((rd_L1 t399 0).length : Int))) > 30000 then (if bt445.2.2 = true then (some false) else (some (bt445.1 == (-2)))) else (if (rd (rd_L1 y444 (Int.tmod t427 (t399.length : Int))) (Int.tmod t428 ((rd_L1 t399 0).length : Int))) < (-30000) then (if bt445.2.2 = true then (some false) else (some (bt445.1 == (-2)))) else (if bt445.2.2 = true then (some false) else (if bt445.1 = (Int.tmod t427 (t399.length : Int)) then (some (bt445.2.1 == (Int.tmod t428 ((rd_L1 t399 0).length : Int)))) else (some false))))) else (none))))) else (none)) else (none))) else (none)) else (none)) else (none)) = some r := by first | (rw [hy430]; with_reducible exact H) | (have H2_ := (Option.bind_some _ _).symm.trans H; rw [hy430]; with_reducible exact H2_) | (have H2_ := (Option.bind_some _ _).symm.trans H; with_reducible exact H2_) | with_reducible exact H | (rw [hy430]; exact H) | exact H
                          have Ny430 := Aside0.mk hy430
                          clear hy430
                          obtain ⟨ji53, hji53⟩ : ∃ j_ : Int, (Int.tmod t427 (t399.length : Int)) = j_ := ⟨_, rfl⟩
                          replace H : (if 0 ≤ (ji53) then (if (ji53) < (t407.length : Int) then (if y430.length + (rd_L1 t407 (ji53)).length < 17592186044416 then ((some (t407.set ((ji53) : Int).toNat (y430 ++ (rd_L1 t407 (ji53))) : List (List Int))).bind fun y437 => (if 0 ≤ (Int.tmod t428 ((rd_L1 t399 0).length : Int)) then (if (Int.tmod t428 ((rd_L1 t399 0).length : Int)) < ((rd_L1 y437 (ji53)).length : Int) then ((laws_at.f l0 3).bind fun t441 => ((some (y437.set ((ji53) : Int).toNat ((rd_L1 y437 (ji53)).set ((Int.tmod t428 ((rd_L1 t399 0).length : Int)) : Int).toNat (wrap64 ((wrap64 ((rd (rd_L1 y437 (ji53)) (Int.tmod t428 ((rd_L1 t399 0).length : Int))) + 1)) - (wrap64 (2 * (Int.tmod t441 2)))))) : List (List Int))).bind fun y444 => ((impl_Same20.f kj27 t399 y444).bind fun bt445 => (if (Int.tmod t428 ((rd_L1 t399 0).length : Int)) < ((rd_L1 y444 (ji53)).length : Int) then (if (rd (rd_L1 y444 (ji53)) (Int.tmod t428 ((rd_L1 t399 0).length : Int))) > 30000 then (if bt445.2.2 = true then (some false) else (some (bt445.1 == (-2)))) else (if (rd (rd_L1 y444 (ji53)) (Int.tmod t428 ((rd_L1 t399 0).length : Int))) < (-30000) then (if bt445.2.2 = true then (some false) else (some (bt445.1 == (-2)))) else (if bt445.2.2 = true then (some false) else (if bt445.1 = (ji53) then (some (bt445.2.1 == (Int.tmod t428 ((rd_L1 t399 0).length : Int)))) else (some false))))) else (none))))) else (none)) else (none))) else (none)) else (none)) else (none)) = some r := by first | (rw [hji53] at H; exact H) | (simp only [hji53] at H ⊢; exact H)
                          (try rw [hji53] at A49)
                          (try rw [hji53] at A50)
                          by_cases c54 : 0 ≤ (ji53)
                          · rw [if_pos c54] at H
                            have c54b0 : decide (0 ≤ (ji53)) = true := decide_eq_true c54
                            clear c54
                            by_cases c55 : (ji53) < (t407.length : Int)
                            · rw [if_pos c55] at H
                              have c55b0 : decide ((ji53) < (t407.length : Int)) = true := decide_eq_true c55
                              clear c55
                              by_cases c56 : y430.length + (rd_L1 t407 (ji53)).length < 17592186044416
                              · rw [if_pos c56] at H
                                have LMc56 := Aside0.mk c56
                                clear c56
                                obtain ⟨y434, hy434⟩ : ∃ y_ : List Int, y_ = (y430 ++ (rd_L1 t407 (ji53))) := ⟨_, rfl⟩
                                replace H : ((some (t407.set ((ji53) : Int).toNat y434 : List (List Int))).bind fun y437 => (if 0 ≤ (Int.tmod t428 ((rd_L1 t399 0).length : Int)) then (if (Int.tmod t428 ((rd_L1 t399 0).length : Int)) < ((rd_L1 y437 (ji53)).length : Int) then ((laws_at.f l0 3).bind fun t441 => ((some (y437.set ((ji53) : Int).toNat ((rd_L1 y437 (ji53)).set ((Int.tmod t428 ((rd_L1 t399 0).length : Int)) : Int).toNat (wrap64 ((wrap64 ((rd (rd_L1 y437 (ji53)) (Int.tmod t428 ((rd_L1 t399 0).length : Int))) + 1)) - (wrap64 (2 * (Int.tmod t441 2)))))) : List (List Int))).bind fun y444 => ((impl_Same20.f kj27 t399 y444).bind fun bt445 => (if (Int.tmod t428 ((rd_L1 t399 0).length : Int)) < ((rd_L1 y444 (ji53)).length : Int) then (if (rd (rd_L1 y444 (ji53)) (Int.tmod t428 ((rd_L1 t399 0).length : Int))) > 30000 then (if bt445.2.2 = true then (some false) else (some (bt445.1 == (-2)))) else (if (rd (rd_L1 y444 (ji53)) (Int.tmod t428 ((rd_L1 t399 0).length : Int))) < (-30000) then (if bt445.2.2 = true then (some false) else (some (bt445.1 == (-2)))) else (if bt445.2.2 = true then (some false) else (if bt445.1 = (ji53) then (some (bt445.2.1 == (Int.tmod t428 ((rd_L1 t399 0).length : Int)))) else (some false))))) else (none))))) else (none)) else (none))) = some r := by first | (rw [hy434]; with_reducible exact H) | (have H2_ := (Option.bind_some _ _).symm.trans H; rw [hy434]; with_reducible exact H2_) | (have H2_ := (Option.bind_some _ _).symm.trans H; with_reducible exact H2_) | with_reducible exact H | (rw [hy434]; exact H) | exact H
                                have Ny434 := Aside0.mk hy434
                                clear hy434
                                obtain ⟨y437, hy437⟩ : ∃ y_ : List (List Int), y_ = (t407.set ((ji53) : Int).toNat y434) := ⟨_, rfl⟩
                                replace H : (if 0 ≤ (Int.tmod t428 ((rd_L1 t399 0).length : Int)) then (if (Int.tmod t428 ((rd_L1 t399 0).length : Int)) < ((rd_L1 y437 (ji53)).length : Int) then ((laws_at.f l0 3).bind fun t441 => ((some (y437.set ((ji53) : Int).toNat ((rd_L1 y437 (ji53)).set ((Int.tmod t428 ((rd_L1 t399 0).length : Int)) : Int).toNat (wrap64 ((wrap64 ((rd (rd_L1 y437 (ji53)) (Int.tmod t428 ((rd_L1 t399 0).length : Int))) + 1)) - (wrap64 (2 * (Int.tmod t441 2)))))) : List (List Int))).bind fun y444 => ((impl_Same20.f kj27 t399 y444).bind fun bt445 => (if (Int.tmod t428 ((rd_L1 t399 0).length : Int)) < ((rd_L1 y444 (ji53)).length : Int) then (if (rd (rd_L1 y444 (ji53)) (Int.tmod t428 ((rd_L1 t399 0).length : Int))) > 30000 then (if bt445.2.2 = true then (some false) else (some (bt445.1 == (-2)))) else (if (rd (rd_L1 y444 (ji53)) (Int.tmod t428 ((rd_L1 t399 0).length : Int))) < (-30000) then (if bt445.2.2 = true then (some false) else (some (bt445.1 == (-2)))) else (if bt445.2.2 = true then (some false) else (if bt445.1 = (ji53) then (some (bt445.2.1 == (Int.tmod t428 ((rd_L1 t399 0).length : Int)))) else (some false))))) else (none))))) else (none)) else (none)) = some r := by first | (rw [hy437]; with_reducible exact H) | (have H2_ := (Option.bind_some _ _).symm.trans H; rw [hy437]; with_reducible exact H2_) | (have H2_ := (Option.bind_some _ _).symm.trans H; with_reducible exact H2_) | with_reducible exact H | (rw [hy437]; exact H) | exact H
                                have Ny437 := Aside0.mk hy437
                                clear hy437
                                obtain ⟨ji58, hji58⟩ : ∃ j_ : Int, (Int.tmod t428 ((rd_L1 t399 0).length : Int)) = j_ := ⟨_, rfl⟩
                                replace H : (if 0 ≤ (ji58) then (if (ji58) < ((rd_L1 y437 (ji53)).length : Int) then ((laws_at.f l0 3).bind fun t441 => ((some (y437.set ((ji53) : Int).toNat ((rd_L1 y437 (ji53)).set ((ji58) : Int).toNat (wrap64 ((wrap64 ((rd (rd_L1 y437 (ji53)) (ji58)) + 1)) - (wrap64 (2 * (Int.tmod t441 2)))))) : List (List Int))).bind fun y444 => ((impl_Same20.f kj27 t399 y444).bind fun bt445 => (if (ji58) < ((rd_L1 y444 (ji53)).length : Int) then (if (rd (rd_L1 y444 (ji53)) (ji58)) > 30000 then (if bt445.2.2 = true then (some false) else (some (bt445.1 == (-2)))) else (if (rd (rd_L1 y444 (ji53)) (ji58)) < (-30000) then (if bt445.2.2 = true then (some false) else (some (bt445.1 == (-2)))) else (if bt445.2.2 = true then (some false) else (if bt445.1 = (ji53) then (some (bt445.2.1 == (ji58))) else (some false))))) else (none))))) else (none)) else (none)) = some r := by first | (rw [hji58] at H; exact H) | (simp only [hji58] at H ⊢; exact H)
                                (try rw [hji58] at A49)
                                (try rw [hji58] at A50)
                                by_cases c59 : 0 ≤ (ji58)
                                · rw [if_pos c59] at H
                                  have c59b0 : decide (0 ≤ (ji58)) = true := decide_eq_true c59
                                  clear c59
                                  by_cases c60 : (ji58) < ((rd_L1 y437 (ji53)).length : Int)
                                  · rw [if_pos c60] at H
                                    have c60b0 : decide ((ji58) < ((rd_L1 y437 (ji53)).length : Int)) = true := decide_eq_true c60
                                    clear c60
                                    replace H := Option.bind_eq_some_iff.mp H
                                    obtain ⟨t441, A610, H⟩ := H
                                    replace H : ((some (y437.set ((ji53) : Int).toNat ((rd_L1 y437 (ji53)).set ((ji58) : Int).toNat (wrap64 ((wrap64 ((rd (rd_L1 y437 (ji53)) (ji58)) + 1)) - (wrap64 (2 * (Int.tmod t441 2)))))) : List (List Int))).bind fun y444 => ((impl_Same20.f kj27 t399 y444).bind fun bt445 => (if (ji58) < ((rd_L1 y444 (ji53)).length : Int) then (if (rd (rd_L1 y444 (ji53)) (ji58)) > 30000 then (if bt445.2.2 = true then (some false) else (some (bt445.1 == (-2)))) else (if (rd (rd_L1 y444 (ji53)) (ji58)) < (-30000) then (if bt445.2.2 = true then (some false) else (some (bt445.1 == (-2)))) else (if bt445.2.2 = true then (some false) else (if bt445.1 = (ji53) then (some (bt445.2.1 == (ji58))) else (some false))))) else (none)))) = some r := H
                                    have A61 := Aside0.mk A610
                                    clear A610
                                    obtain ⟨y442, hy442⟩ : ∃ y_ : List Int, y_ = ((rd_L1 y437 (ji53)).set ((ji58) : Int).toNat (wrap64 ((wrap64 ((rd (rd_L1 y437 (ji53)) (ji58)) + 1)) - (wrap64 (2 * (Int.tmod t441 2)))))) := ⟨_, rfl⟩
                                    replace H : ((some (y437.set ((ji53) : Int).toNat y442 : List (List Int))).bind fun y444 => ((impl_Same20.f kj27 t399 y444).bind fun bt445 => (if (ji58) < ((rd_L1 y444 (ji53)).length : Int) then (if (rd (rd_L1 y444 (ji53)) (ji58)) > 30000 then (if bt445.2.2 = true then (some false) else (some (bt445.1 == (-2)))) else (if (rd (rd_L1 y444 (ji53)) (ji58)) < (-30000) then (if bt445.2.2 = true then (some false) else (some (bt445.1 == (-2)))) else (if bt445.2.2 = true then (some false) else (if bt445.1 = (ji53) then (some (bt445.2.1 == (ji58))) else (some false))))) else (none)))) = some r := by first | (rw [hy442]; with_reducible exact H) | (have H2_ := (Option.bind_some _ _).symm.trans H; rw [hy442]; with_reducible exact H2_) | (have H2_ := (Option.bind_some _ _).symm.trans H; with_reducible exact H2_) | with_reducible exact H | (rw [hy442]; exact H) | exact H
                                    have Ny442 := Aside0.mk hy442
                                    clear hy442
                                    obtain ⟨y444, hy444⟩ : ∃ y_ : List (List Int), y_ = (y437.set ((ji53) : Int).toNat y442) := ⟨_, rfl⟩
                                    replace H : ((impl_Same20.f kj27 t399 y444).bind fun bt445 => (if (ji58) < ((rd_L1 y444 (ji53)).length : Int) then (if (rd (rd_L1 y444 (ji53)) (ji58)) > 30000 then (if bt445.2.2 = true then (some false) else (some (bt445.1 == (-2)))) else (if (rd (rd_L1 y444 (ji53)) (ji58)) < (-30000) then (if bt445.2.2 = true then (some false) else (some (bt445.1 == (-2)))) else (if bt445.2.2 = true then (some false) else (if bt445.1 = (ji53) then (some (bt445.2.1 == (ji58))) else (some false))))) else (none))) = some r := by first | (rw [hy444]; with_reducible exact H) | (have H2_ := (Option.bind_some _ _).symm.trans H; rw [hy444]; with_reducible exact H2_) | (have H2_ := (Option.bind_some _ _).symm.trans H; with_reducible exact H2_) | with_reducible exact H | (rw [hy444]; exact H) | exact H
                                    have Ny444 := Aside0.mk hy444
                                    clear hy444
                                    replace H := Option.bind_eq_some_iff.mp H
                                    obtain ⟨⟨t445, t446, t447⟩, A630, H⟩ := H
                                    replace H : (if (ji58) < ((rd_L1 y444 (ji53)).length : Int) then (if (rd (rd_L1 y444 (ji53)) (ji58)) > 30000 then (if t447 = true then (some false) else (some (t445 == (-2)))) else (if (rd (rd_L1 y444 (ji53)) (ji58)) < (-30000) then (if t447 = true then (some false) else (some (t445 == (-2)))) else (if t447 = true then (some false) else (if t445 = (ji53) then (some (t446 == (ji58))) else (some false))))) else (none)) = some r := H
                                    have A63 := Aside0.mk A630
                                    clear A630
                                    by_cases c64 : (ji58) < ((rd_L1 y444 (ji53)).length : Int)
                                    · rw [if_pos c64] at H
                                      have c64b0 : decide ((ji58) < ((rd_L1 y444 (ji53)).length : Int)) = true := decide_eq_true c64
                                      clear c64
                                      by_cases c65 : (rd (rd_L1 y444 (ji53)) (ji58)) > 30000
                                      · rw [if_pos c65] at H
                                        have c65b0 : decide (30000 < (rd (rd_L1 y444 (ji53)) (ji58))) = true := decide_eq_true c65
                                        clear c65
                                        by_cases c66 : t447 = true
                                        · subst c66
                                          have H1 : (some false) = some r := by rw [if_pos rfl] at H; exact H
                                          clear H
                                          have H := H1
                                          clear H1
                                          cases H.trans (congrArg some hr_)
                                        · replace c66 := Bool.eq_false_iff.mpr c66
                                          subst c66
                                          have H1 : (some (t445 == (-2))) = some r := by rw [if_neg (show ¬ (false = true) by decide)] at H; exact H
                                          clear H
                                          have H := H1
                                          clear H1
                                          obtain rfl := Option.some.inj H
                                          try go_wp2
                                          have n0_ := Aside0.mk (Kd.S_drew HO_3.out)
                                          have n1_ := Aside0.mk (Kd.S_drew HO_6.out)
                                          have n2_ := Aside0.mk (below_drew1 HB.out)
                                          clear HO_3
                                          clear HO_6
                                          clear HB
                                          have HO_3 := n0_
                                          have HO_6 := n1_
                                          have HB := n2_
                                          clear n0_ n1_ n2_
                                          have p429 : 0 ≤ (0 : Int) := (by omega)
                                          have q429 : 0 < (t399.length : Int) := of_decide_eq_true (by first | (with_reducible assumption) | assumption)
                                          obtain ⟨ad429, A429_0, c429_0, e429, hx429_0, hl429_0, hi429_0⟩ := at_L1 (Kd.S_reads' HO_3.out).2.2 0 p429 q429
                                          cases e429
                                          obtain ⟨ce429, hce429, hMe429, hcc429⟩ := Kd.S_get HO_3.out [] 0 p429 (by first | exact q429 | exact of_decide_eq_true (by first | (with_reducible assumption) | assumption) | (have e_ := (Kd.S_reads' HO_3.out).1; omega))
                                          obtain ⟨ve429_0, rfl, ge429_0⟩ := hMe429
                                          have hv429_0 := hcc429 0 _ rfl
                                          rw [Nat.add_zero, show ((Kd.slice 3 (Kd.int .i64))).sz = 1 from rfl, Nat.mul_one] at hv429_0
                                          replace hv429_0 := Option.some.inj (hv429_0.symm.trans hx429_0)
                                          rw [hv429_0] at ge429_0
                                          have HL429_0 := Aside0.mk (show Kd.R (Kd.int .i64) 3 _ _ _ _ (rd_L1 t399 0) from ge429_0)
                                          clear hv429_0 ge429_0
                                          have HX429_0 := Aside0.mk hx429_0
                                          clear hcc429 hce429
                                          have qi429 : (0 < t399.length) = True := eq_true (by omega)
                                          (try rw [show ((0 : Int)).toNat = 0 from rfl] at hx429_0)
                                          (try rw [Addr.add_zero'] at hx429_0)
                                          have HR429_0 := Aside0.mk hi429_0
                                          have HC429_0 := Aside0.mk hl429_0
                                          clear hi429_0 hl429_0
                                          replace p429 := eq_true p429
                                          replace q429 := eq_true q429
                                          refine start_ (n := 14) (S := fun w' => w'.cell? ad429 = some (.slice A429_0 (rd_L1 t399 0).length c429_0)) (ds := []) #[false, false, false, false, false, false, false, false, false, false, false, false, false, false] (by kernel_rfl) rfl rfl (hx429_0) (fun hHeld => ?_); refine with_tabW laws_FnRecords.tab21 laws_FnRecords.bits21 (fun HT_ HW_ => ?_)
                                          generalize wc.drew = w77 at HO_3 HO_6 HB HL429_0 HR429_0 HX429_0 hx429_0 hHeld ⊢
                                          refine pure_ (i := 0) (N := some 110) (v := ?_) (a' := ?_) #[true, false, false, false, false, false, false, false, false, false, false, false, false, false] rfl rfl (any_of HT_.out (by kernel_rfl)) (fun _ _ _ h => h) (Or.inl ⟨by rfl, ?_⟩) ?_ ?_
                                          rotate_left
                                          · intro w'
                                            go_simp
                                            with_reducible rfl
                                          rotate_left
                                          · simp only [Act.put, List.setIfInBounds_toArray, List.set_cons_zero, List.set_cons_succ, i64_w, i32_w]
                                            rfl
                                          refine pure_ (i := 2) (N := some 112) (v := ?_) (a' := ?_) #[true, false, true, false, false, false, false, false, false, false, false, false, false, false] rfl rfl (any_of HT_.out (by kernel_rfl)) (fun _ _ _ h => h) (Or.inl ⟨by rfl, ?_⟩) ?_ ?_
                                          rotate_left
                                          · intro w'
                                            go_simp
                                            with_reducible rfl
                                          rotate_left
                                          · simp only [Act.put, List.setIfInBounds_toArray, List.set_cons_zero, List.set_cons_succ, i64_w, i32_w]
                                            rfl
                                          refine pure_ (i := 3) (N := some 113) (v := ?_) (a' := ?_) #[true, false, true, true, false, false, false, false, false, false, false, false, false, false] rfl rfl (any_of HT_.out (by kernel_rfl)) (fun _ _ _ h => h) (Or.inl ⟨by rfl, ?_⟩) ?_ ?_
                                          rotate_left
                                          · intro w'
                                            go_simp
                                            with_reducible rfl
                                          rotate_left
                                          · simp only [Act.put, List.setIfInBounds_toArray, List.set_cons_zero, List.set_cons_succ, i64_w, i32_w]
                                            rfl
                                          refine pure_ (i := 5) (N := some 115) (v := ?_) (a' := ?_) #[true, false, true, true, false, true, false, false, false, false, false, false, false, false] rfl rfl (any_of HT_.out (by kernel_rfl)) (fun _ _ _ h => h) (Or.inl ⟨by rfl, ?_⟩) ?_ ?_
                                          rotate_left
                                          · intro w'
                                            go_simp
                                            with_reducible rfl
                                          rotate_left
                                          · simp only [Act.put, List.setIfInBounds_toArray, List.set_cons_zero, List.set_cons_succ, i64_w, i32_w]
                                            rfl
                                          refine pure_ (i := 7) (N := some 117) (v := ?_) (a' := ?_) #[true, false, true, true, false, true, false, true, false, false, false, false, false, false] rfl rfl (any_of HT_.out (by kernel_rfl)) (fun _ _ _ h => h) (Or.inl ⟨by rfl, ?_⟩) ?_ ?_
                                          rotate_left
                                          · intro w'
                                            go_simp
                                            with_reducible rfl
                                          rotate_left
                                          · simp only [Act.put, List.setIfInBounds_toArray, List.set_cons_zero, List.set_cons_succ, i64_w, i32_w]
                                            rfl
                                          refine pure_ (i := 8) (N := some 118) (v := ?_) (a' := ?_) #[true, false, true, true, false, true, false, true, true, false, false, false, false, false] rfl rfl (any_of HT_.out (by kernel_rfl)) (fun _ _ _ h => h) (Or.inl ⟨by rfl, ?_⟩) ?_ ?_
                                          rotate_left
                                          · intro w'
                                            go_simp
                                            with_reducible rfl
                                          rotate_left
                                          · simp only [Act.put, List.setIfInBounds_toArray, List.set_cons_zero, List.set_cons_succ, i64_w, i32_w]
                                            rfl
                                          refine take_ (i := 9) (N := some 119) (v := ?_) (a' := ?_) #[true, false, true, true, false, true, false, true, true, true, false, false, false, false] rfl rfl (take_ofW HT_.out HW_.out (by kernel_rfl)) (fun _ _ _ h => h) (Or.inl ⟨by rfl, ?_⟩) hHeld ?_ ?_
                                          rotate_left
                                          · intro w' s0
                                            go_simp
                                            with_reducible rfl
                                          rotate_left
                                          · simp only [Act.put, List.setIfInBounds_toArray, List.set_cons_zero, List.set_cons_succ, i64_w, i32_w]
                                            rfl
                                          refine pure_ (i := 10) (N := some 120) (v := ?_) (a' := ?_) #[true, false, true, true, false, true, false, true, true, true, true, false, false, false] rfl rfl (any_of HT_.out (by kernel_rfl)) (fun _ _ _ h => h) (Or.inl ⟨by rfl, ?_⟩) ?_ ?_
                                          rotate_left
                                          · intro w'
                                            go_simp
                                            with_reducible rfl
                                          rotate_left
                                          · simp only [Act.put, List.setIfInBounds_toArray, List.set_cons_zero, List.set_cons_succ, i64_w, i32_w]
                                            rfl
                                          refine one_ (i := 1) (N := some 111) #[true, true, true, true, false, true, false, true, true, true, true, false, false, false] rfl rfl (one_of HT_.out (by kernel_rfl)) (by decide) (fun K hK => ?_)
                                          refine goes_ Try.func22 (by kernel_rfl) rfl #[.slice A0 l0.length c0, .int .i64 1] (by rfl) rfl rfl (by (try simp only [List.map_toArray, List.map_cons, List.map_nil]); first | done | rfl | (simp only [List.length_drop, List.length_take]; rfl)) ?_
                                          with_reducible refine (laws_at.calls _ _ l0 1 t427 _ ?side1 ?side2 A49.out).mono ?_
                                          (case side1 => repeat (first | exact (Kd.C_below HR0.out HB.out) | (with_reducible refine Kd.C_alloc ?_ _) | (with_reducible refine Kd.C_drewN ?_ _) | (with_reducible refine Kd.C_drew ?_)))
                                          (case side2 => exact HC0.out)
                                          rintro e w' ⟨rfl, ⟨nd, rfl⟩⟩
                                          refine ⟨_, rfl, ?_⟩
                                          refine hK.out _ _ (hHeld) (fun hHeld => ?_)
                                          clear hK K
                                          refine norm_ (a' := ?_) ?_ ?_
                                          rotate_left
                                          · show Act.put _ (some 111) _ = _
                                            simp only [Act.put, List.setIfInBounds_toArray, List.set_cons_zero, List.set_cons_succ, i64_w, i32_w]
                                            rfl
                                          refine pure_ (i := 4) (N := some 114) (v := ?_) (a' := ?_) #[true, true, true, true, true, true, false, true, true, true, true, false, false, false] rfl rfl (any_of HT_.out (by kernel_rfl)) (fun _ _ _ h => h) (Or.inl ⟨by rfl, ?_⟩) ?_ ?_
                                          rotate_left
                                          · intro w'
                                            go_simp
                                            with_reducible rfl
                                          rotate_left
                                          · simp only [Act.put, List.setIfInBounds_toArray, List.set_cons_zero, List.set_cons_succ, i64_w, i32_w]
                                            rfl
                                          refine one_ (i := 6) (N := some 116) #[true, true, true, true, true, true, true, true, true, true, true, false, false, false] rfl rfl (one_of HT_.out (by kernel_rfl)) (by decide) (fun K hK => ?_)
                                          refine goes_ Try.func22 (by kernel_rfl) rfl #[.slice A0 l0.length c0, .int .i64 2] (by rfl) rfl rfl (by (try simp only [List.map_toArray, List.map_cons, List.map_nil]); first | done | rfl | (simp only [List.length_drop, List.length_take]; rfl)) ?_
                                          with_reducible refine (laws_at.calls _ _ l0 2 t428 _ ?side1 ?side2 A50.out).mono ?_
                                          (case side1 => repeat (first | exact (Kd.C_below HR0.out (by repeat (first | (with_reducible first | exact HB.out | apply below_alloc | apply pw_below_drewN | apply below_drew1) | exact HB.out))) | (with_reducible refine Kd.C_alloc ?_ _) | (with_reducible refine Kd.C_drewN ?_ _) | (with_reducible refine Kd.C_drew ?_)))
                                          (case side2 => exact HC0.out)
                                          rintro e w' ⟨rfl, ⟨nd, rfl⟩⟩
                                          refine ⟨_, rfl, ?_⟩
                                          refine hK.out _ _ (hHeld) (fun hHeld => ?_)
                                          clear hK K
                                          refine norm_ (a' := ?_) ?_ ?_
                                          rotate_left
                                          · show Act.put _ (some 116) _ = _
                                            simp only [Act.put, List.setIfInBounds_toArray, List.set_cons_zero, List.set_cons_succ, i64_w, i32_w]
                                            rfl
                                          refine pure_ (i := 11) (N := some 121) (v := ?_) (a' := ?_) #[true, true, true, true, true, true, true, true, true, true, true, true, false, false] rfl rfl (any_of HT_.out (by kernel_rfl)) (fun _ _ _ h => h) (Or.inl ⟨by rfl, ?_⟩) ?_ ?_
                                          rotate_left
                                          · intro w'
                                            go_simp
                                            with_reducible rfl
                                          rotate_left
                                          · simp only [Act.put, List.setIfInBounds_toArray, List.set_cons_zero, List.set_cons_succ, i64_w, i32_w]
                                            rfl
                                          refine pure_ (i := 12) (N := some 18) (v := ?_) (a' := ?_) #[true, true, true, true, true, true, true, true, true, true, true, true, true, false] rfl rfl (any_of HT_.out (by kernel_rfl)) (fun _ _ _ h => h) (Or.inl ⟨by rfl, ?_⟩) ?_ ?_
                                          rotate_left
                                          · intro w'
                                            go_simp
                                            with_reducible rfl
                                          rotate_left
                                          · simp only [Act.put, List.setIfInBounds_toArray, List.set_cons_zero, List.set_cons_succ, i64_w, i32_w]
                                            rfl
                                          refine pure_ (i := 13) (N := some 19) (v := ?_) (a' := ?_) #[true, true, true, true, true, true, true, true, true, true, true, true, true, true] rfl rfl (any_of HT_.out (by kernel_rfl)) (fun _ _ _ h => h) (Or.inl ⟨by rfl, ?_⟩) ?_ ?_
                                          rotate_left
                                          · intro w'
                                            go_simp
                                            with_reducible rfl
                                          rotate_left
                                          · simp only [Act.put, List.setIfInBounds_toArray, List.set_cons_zero, List.set_cons_succ, i64_w, i32_w]
                                            rfl
                                          refine done_ (done_of HT_.out (by kernel_rfl)) ?_
                                          try go_wp2_with (first | ((with_reducible refine gate_dst (N := 124) rfl ?_); (try (refine gate_guard (by rfl) ?_; dsimp only)); refine Kd.R_lit (Kd.int .i64) _ 3 ?hg (N := 124) ?hd (xs := ([] : List Int)) (inner := []) (ok := fun _ => True) (okp := fun _ => True) ?hr ?hp (fun _ hk => hk) trivial (Below.refl _ _) (Nat.le_refl _) (by simp) ?_; (case hd => rfl); (case hg => rfl); (case hr => first | (go_simp; done) | (go_simp; rfl)); (case hp => exact (Reps.none _ _)); intro v431 w78 ho79 hb hg_ hnew_; clear hg_ hnew_; (first | rw [← Ny430.out] at ho79 | (simp only [Int.reduceToNat] at ho79; rw [← Ny430.out] at ho79)); have n0_ := Aside0.mk (Kd.S_elder' (by (with_reducible repeat (first | apply Kd.S_alloc | apply Kd.S_drewN | apply Kd.S_drew)); exact HO_3.out) (Kd.R_base ho79) hb); have n1_ := Aside0.mk (Kd.S_elder' (by (with_reducible repeat (first | apply Kd.S_alloc | apply Kd.S_drewN | apply Kd.S_drew)); exact HO_6.out) (Kd.R_base ho79) hb); have n2_ := Aside0.mk (Kd.R_elder' (by (with_reducible repeat (first | apply Kd.R_alloc | apply Kd.R_drewN | apply Kd.R_drew)); exact HL429_0.out) (Kd.R_base ho79) hb); have n3_ := Aside0.mk (Kd.R_lower (Kd.R_new' ho79 (Kd.R_lt (by (with_reducible repeat (first | apply Kd.R_alloc | apply Kd.R_drewN | apply Kd.R_drew)); exact HL429_0.out))) (below_size (by repeat (first | (with_reducible first | exact HB.out | apply below_alloc | apply pw_below_drewN | apply below_drew1) | exact HB.out)))); have n4_ := Aside0.mk (Kd.C_below (by repeat (first | (with_reducible exact HR429_0.out) | (with_reducible refine Kd.C_alloc ?_ _) | (with_reducible refine Kd.C_drewN ?_ _) | (with_reducible refine Kd.C_drew ?_) | exact HR429_0.out)) hb); have n5_ := Aside0.mk (pw_cell_below hb HX429_0.out); have n6_ := Aside0.mk (below_step (by repeat (first | (with_reducible first | exact HB.out | apply below_alloc | apply pw_below_drewN | apply below_drew1) | exact HB.out)) hb); clear HO_3; clear HO_6; clear HL429_0; clear HR429_0; clear HX429_0; clear HB; have HO_3 := n0_; have HO_6 := n1_; have HL429_0 := n2_; have HO432 := n3_; have HR429_0 := n4_; have HX429_0 := n5_; have HB := n6_; clear n0_ n1_ n2_ n3_ n4_ n5_ n6_; clear hb ho79; have p433 : 0 ≤ ((ji53) : Int) := of_decide_eq_true (by first | (with_reducible assumption) | assumption); have q433 : (ji53) < (t407.length : Int) := of_decide_eq_true (by first | (with_reducible assumption) | assumption); obtain ⟨ad433, A433_0, c433_0, e433, hx433_0, hl433_0, hi433_0⟩ := at_L1 (Kd.S_reads' HO_6.out).2.2 (ji53) p433 q433; cases e433; obtain ⟨ce433, hce433, hMe433, hcc433⟩ := Kd.S_get HO_6.out [] (ji53) p433 (by first | exact q433 | exact of_decide_eq_true (by first | (with_reducible assumption) | assumption) | (have e_ := (Kd.S_reads' HO_6.out).1; omega)); obtain ⟨ve433_0, rfl, ge433_0⟩ := hMe433; have hv433_0 := hcc433 0 _ rfl; rw [Nat.add_zero, show ((Kd.slice 3 (Kd.int .i64))).sz = 1 from rfl, Nat.mul_one] at hv433_0; replace hv433_0 := Option.some.inj (hv433_0.symm.trans hx433_0); rw [hv433_0] at ge433_0; have HL433_0 := Aside0.mk (show Kd.R (Kd.int .i64) 3 _ _ _ _ (rd_L1 t407 (ji53)) from ge433_0); clear hv433_0 ge433_0; have HX433_0 := Aside0.mk hx433_0; clear hcc433 hce433; have HR433_0 := Aside0.mk hi433_0; have HC433_0 := Aside0.mk hl433_0; clear hi433_0 hl433_0; replace p433 := eq_true p433; replace q433 := eq_true q433) | ((with_reducible refine gate_builtin (b := .append) (xs := #[.tmp 124, .tmp 128]) rfl ?_); (try (refine gate_guard (by rfl) ?_; dsimp only)); at_builtin; refine Kd.R_append_rows (Kd.int .i64) (w0 := w) w.heap.size rfl (.tmp 124) (.tmp 128) 32 3 (.int .i64 0) 8 rfl Try.underlying32 info3 rfl (by decide) (by omega) v431 y430 (rd_L1 t407 (ji53)) _ _ _ (fun k_ => some k_ ≠ (.slice A429_0 (rd_L1 t399 0).length c429_0 : Value).ownBlock) (fun _ => False) rfl rfl ?aO ?aR (fun _ _ h => h) (fun _ h => h.elim) ?aF ?aB ?aS ?aL ?_; (case aR => repeat (first | exact (by repeat (first | (with_reducible exact HR433_0.out) | (with_reducible refine Kd.C_alloc ?_ _) | (with_reducible refine Kd.C_drewN ?_ _) | (with_reducible refine Kd.C_drew ?_) | exact HR433_0.out)) | (with_reducible refine Kd.C_alloc ?_ _) | (with_reducible refine Kd.C_drewN ?_ _) | (with_reducible refine Kd.C_drew ?_))); (case aB => exact (by repeat (first | (with_reducible first | exact HB.out | apply below_alloc | apply pw_below_drewN | apply below_drew1) | exact HB.out))); (case aF => exact (fun k_ hk => Kd.fresh' (Kd.R_lt (by (with_reducible repeat (first | apply Kd.R_alloc | apply Kd.R_drewN | apply Kd.R_drew)); exact HL429_0.out)) k_ hk)); (case aO => exact (by (with_reducible repeat (first | apply Kd.R_alloc | apply Kd.R_drewN | apply Kd.R_drew)); exact Kd.R_mono HO432.out (fun _ hk => hk.2))); (case aS => exact (below_size (by repeat (first | (with_reducible first | exact HB.out | apply below_alloc | apply pw_below_drewN | apply below_drew1) | exact HB.out)))); (case aL => have := LMc56.out; omega); intro v435 w80 ho hb hg hat; rw [← Ny434.out] at ho; have n0_ := Aside0.mk (Kd.S_after (ok := (fun k_ => some k_ ≠ (.slice (some ad433) t407.length co19 : Value).ownBlock)) (by (with_reducible repeat (first | apply Kd.S_alloc | apply Kd.S_drewN | apply Kd.S_drew)); exact HO_3.out) hg hat); have n1_ := Aside0.mk (Kd.S_after (ok := (fun k_ => some k_ ≠ (.slice (some ad429) t399.length co9 : Value).ownBlock)) (by (with_reducible repeat (first | apply Kd.S_alloc | apply Kd.S_drewN | apply Kd.S_drew)); exact HO_6.out) hg hat); have n2_ := Aside0.mk (Kd.R_after (ok := (fun k_ => some k_ ≠ (.slice (some ad429) t399.length co9 : Value).ownBlock ∧ some k_ ≠ (.slice (some ad433) t407.length co19 : Value).ownBlock)) (by (with_reducible repeat (first | apply Kd.R_alloc | apply Kd.R_drewN | apply Kd.R_drew)); exact Kd.R_mono HL429_0.out (fun _ hk => ⟨⟨hk.1.2, hk.1.1⟩, hk.2⟩)) hg hat); have n3_ := Aside0.mk (Kd.R_after (ok := (fun k_ => some k_ ≠ (.slice (some ad429) t399.length co9 : Value).ownBlock ∧ some k_ ≠ (.slice (some ad433) t407.length co19 : Value).ownBlock)) (by (with_reducible repeat (first | apply Kd.R_alloc | apply Kd.R_drewN | apply Kd.R_drew)); exact Kd.R_mono HL433_0.out (fun _ hk => ⟨⟨hk.1.1, hk.2⟩, hk.1.2⟩)) hg hat); have n4_ := Aside0.mk (hb); have n5_ := Aside0.mk (ho); clear HO_3; clear HO_6; clear HL429_0; clear HL433_0; clear HB; clear HO432; have HO_3 := n0_; have HO_6 := n1_; have HL429_0 := n2_; have HL433_0 := n3_; have HB := n4_; have HO436 := n5_; clear n0_ n1_ n2_ n3_ n4_ n5_; clear ho hb hg hat; have p57 : 0 ≤ ((ji53) : Int) := of_decide_eq_true (by first | (with_reducible assumption) | assumption); have q57 : ((ji53) : Int) < ((t407.length : Int) : Int) := of_decide_eq_true (by first | (with_reducible assumption) | assumption); obtain ⟨go57, co57, eo57, gb57, gl57, cl57, HG57⟩ := Kd.S_form HO_6.out (by omega); (first | cases eo57 | (injection eo57 with ea_ en_ ec_; (first | subst ea_ | (injection ea_ with ea_; subst ea_)); subst ec_; clear en_)); have GB57 := Aside0.mk gb57; have GG57 := Aside0.mk HG57; clear gb57 gl57 HG57; (first | simp only [add_plain] at hx433_0 | skip); obtain ⟨_, ce57, hcl57, hM57, hcc57, hfr57, _, _⟩ := Kd.S_elem HO_6.out [] ((ji53) : Int) p57 q57; obtain ⟨ve57_0, rfl, ge57_0⟩ := hM57; have hx57_0 := hcc57 0 _ rfl; have hf57_0 := hfr57 0; (try simp only [show ((Kd.slice 3 (Kd.int .i64))).sz = 1 from rfl, Nat.mul_one, Nat.add_zero] at hx57_0); (try simp only [show ((Kd.slice 3 (Kd.int .i64))).sz = 1 from rfl, Nat.mul_one, Nat.add_zero] at hf57_0); clear hcl57 hcc57 hfr57; (try clear hM57); replace p57 := eq_true p57; replace q57 := eq_true q57; have HX81 := Aside0.mk (show Kd.S (Kd.slice 3 (Kd.int .i64)) 32 w80 w.heap.size (fun k_ => ((fun k_ => some k_ ≠ (.slice (some ad429) t399.length co9 : Value).ownBlock)) k_ ∧ ¬ ((fun k_ => some k_ = (v435 : Value).ownBlock)) k_) (.slice (some ⟨go57, 0, none⟩) t407.length co19) t407 from (by (with_reducible repeat (first | apply Kd.S_alloc | apply Kd.S_drewN | apply Kd.S_drew)); exact Kd.S_mono HO_6.out (fun k_ hk => ⟨hk.1, fun e_ => hk.2 e_⟩))); obtain ⟨oki81, ce81, hcl81, hM81, hcc81, hfr81, hoki81, hH81⟩ := Kd.S_elem HX81.out [] ((ji53) : Int) (of_decide_eq_true (by first | (with_reducible assumption) | assumption)) (by have h_ : ((ji53) : Int) < ((t407.length : Int) : Int) := of_decide_eq_true (by first | (with_reducible assumption) | assumption); first | exact h_ | (have e_ := (Kd.S_reads' HO_6.out).1; omega) | simpa using h_); obtain ⟨ve81_0, rfl, ge81_0⟩ := hM81; have HP81 := Kd.S_seg hH81 (of_decide_eq_true (by first | (with_reducible assumption) | assumption)) (by have h_ : ((ji53) : Int) < ((t407.length : Int) : Int) := of_decide_eq_true (by first | (with_reducible assumption) | assumption); first | exact h_ | (have e_ := (Kd.S_reads' HO_6.out).1; omega) | simpa using h_) (seg := [v435]) (j := 0) (show 1 ≤ 1 from by decide) (x' := y434) (Kd.M_row (Kd.R_mono (Kd.R_tight rfl (Kd.R_mono (ok' := fun k_ => ((fun k_ => some k_ ≠ (.slice (some ad429) t399.length co9 : Value).ownBlock)) k_ ∧ k_ ≠ go57) (Kd.R_apart' (Kd.R_apart' (HO436.out) (Kd.S_typed HO_3.out) (by decide)) (Kd.S_typed HO_6.out) (by decide)) (fun k_ hk => ⟨hk.1.2, fun e_ => (hk.2) (by rw [e_]; rfl)⟩))) (fun _ h_ => Or.inr (h_)))) (fun _ hk => hk) (fun k_ hk_ => ((Kd.R_mono (ok' := fun k_ => ((fun k_ => some k_ ≠ (.slice (some ad429) t399.length co9 : Value).ownBlock)) k_ ∧ k_ ≠ go57) (Kd.R_apart' (Kd.R_apart' (HO436.out) (Kd.S_typed HO_3.out) (by decide)) (Kd.S_typed HO_6.out) (by decide)) (fun k_ hk => ⟨hk.1.2, fun e_ => (hk.2) (by rw [e_]; rfl)⟩))).1 k_ hk_.symm); have hx81_0 := hcc81 0 _ rfl; (try simp only [show ((Kd.slice 3 (Kd.int .i64))).sz = 1 from rfl, Nat.mul_one, Nat.add_zero] at hx81_0); have hf81_0 := hfr81 0; (try simp only [show ((Kd.slice 3 (Kd.int .i64))).sz = 1 from rfl, Nat.mul_one, Nat.add_zero] at hf81_0); clear hcl81 hcc81 hfr81 hoki81 hH81; (try clear hM81); (try simp only [show ((Kd.slice 3 (Kd.int .i64))).sz = 1 from rfl, Nat.mul_one, Nat.add_zero] at HP81)) | ((with_reducible refine gate_store (t := 32) (p := 130) rfl ?_); refine store_event (t := 32) (p := 130) (v := ?vo_w82) (w1 := (w80.setCell ⟨go57, ((ji53) : Int).toNat, none⟩ (v435))) ?hg ?ho ?hn ?hr ?_; (case ho => rfl); (case hg => rfl); (case hn => rfl); (case hr => first | (go_simp; done) | (go_simp; rfl) | ((first | (obtain ⟨_, _, rfl⟩ := Kd.R_slice (Aside0.out (show Aside0 (Kd.R _ _ _ _ _ v435 _) from by assumption))) | (obtain ⟨_, _, rfl⟩ := Kd.S_slice (Aside0.out (show Aside0 (Kd.S _ _ _ _ _ v435 _) from by assumption)))); first | (go_simp; done) | (go_simp; rfl))); intro w82 hw; have HV9 := Aside0.mk (show w82.cell? ⟨go57, ((ji53) : Int).toNat, none⟩ = some v435 from by rw [hw]; first | exact World.cell?_setCell_same hx81_0 | exact World.cell?_setCell_same _ _ _ hx81_0); have hg : w80.grownBy w82 (some go57) := (by rw [hw]; exact HP81.2); have hp_ : Kd.S (Kd.slice 3 (Kd.int .i64)) 32 w82 w.heap.size (fun k_ => some k_ ≠ (.slice (some ad429) t399.length co9 : Value).ownBlock) (.slice (some ⟨go57, 0, none⟩) t407.length co19) y437 := (by rw [hw, Ny437.out]; exact HP81.1); clear HP81; have n0_ := Aside0.mk (Kd.S_after (v := (.slice (some ⟨go57, 0, none⟩) t407.length co19)) (v1 := (.slice (some ⟨go57, 0, none⟩) t407.length co19)) (ok := (fun k_ => some k_ ≠ (v435 : Value).ownBlock)) (by (with_reducible repeat (first | apply Kd.S_alloc | apply Kd.S_drewN | apply Kd.S_drew)); exact Kd.S_mono HO_3.out (fun _ hk => ⟨hk.2, hk.1⟩)) hg (.inl rfl)); have n1_ := Aside0.mk (hp_); have n2_ := Aside0.mk (Kd.R_after (v := (.slice (some ⟨go57, 0, none⟩) t407.length co19)) (v1 := (.slice (some ⟨go57, 0, none⟩) t407.length co19)) (ok := (fun k_ => some k_ ≠ (.slice (some ad429) t399.length co9 : Value).ownBlock ∧ some k_ ≠ (v435 : Value).ownBlock)) (by (with_reducible repeat (first | apply Kd.R_alloc | apply Kd.R_drewN | apply Kd.R_drew)); exact Kd.R_mono HL429_0.out (fun _ hk => ⟨⟨hk.1.1, hk.2⟩, hk.1.2⟩)) hg (.inl rfl)); have n3_ := Aside0.mk (Kd.R_after (v := (.slice (some ⟨go57, 0, none⟩) t407.length co19)) (v1 := (.slice (some ⟨go57, 0, none⟩) t407.length co19)) (ok := (fun k_ => some k_ ≠ (.slice (some ad429) t399.length co9 : Value).ownBlock ∧ some k_ ≠ (v435 : Value).ownBlock)) (by (with_reducible repeat (first | apply Kd.R_alloc | apply Kd.R_drewN | apply Kd.R_drew)); exact Kd.R_mono HL433_0.out (fun _ hk => ⟨⟨hk.1.1, hk.2⟩, hk.1.2⟩)) hg (.inl rfl)); have n4_ := Aside0.mk ((by rw [hw]; exact below_set (HB.out) GB57.out : Below w.heap.size w w82)); clear HO_3; clear HO_6; clear HL429_0; clear HL433_0; clear HB; clear HO436; have HO_3 := n0_; have HO_6 := n1_; have HL429_0 := n2_; have HL433_0 := n3_; have HB := n4_; clear n0_ n1_ n2_ n3_ n4_; clear hg hw hp_))
                                          have n0_ := Aside0.mk (Kd.S_drew HO_3.out)
                                          have n1_ := Aside0.mk (Kd.S_drew HO_6.out)
                                          have n2_ := Aside0.mk (Kd.R_drew HL429_0.out)
                                          have n3_ := Aside0.mk (Kd.R_drew HL433_0.out)
                                          have n4_ := Aside0.mk (below_drew1 HB.out)
                                          clear HO_3
                                          clear HO_6
                                          clear HL429_0
                                          clear HL433_0
                                          clear HB
                                          have HO_3 := n0_
                                          have HO_6 := n1_
                                          have HL429_0 := n2_
                                          have HL433_0 := n3_
                                          have HB := n4_
                                          clear n0_ n1_ n2_ n3_ n4_
                                          have p438 : 0 ≤ ((ji53) : Int) := of_decide_eq_true (by first | (with_reducible assumption) | assumption)
                                          have q438 : (ji53) < (y437.length : Int) := (by have h_ : ((ji53) : Int) < ((t407.length : Int) : Int) := of_decide_eq_true (by first | (with_reducible assumption) | assumption); first | (have e_ := (Kd.S_reads' HO_6.out).1; omega) | simpa only [Ny437.out, List.length_set] using h_)
                                          have ql438 : (((ji53) : Int) < ((t407.length : Int) : Int)) = True := eq_true (of_decide_eq_true (by first | (with_reducible assumption) | assumption))
                                          obtain ⟨ad438, A438_0, c438_0, e438, hx438_0, hl438_0, hi438_0⟩ := at_L1 (Kd.S_reads' HO_6.out).2.2 (ji53) p438 q438
                                          obtain rfl : (⟨go57, 0, none⟩ : Addr) = ad438 := (by injection e438)
                                          obtain ⟨ce438, hce438, hMe438, hcc438⟩ := Kd.S_get HO_6.out [] (ji53) p438 (by first | exact q438 | exact of_decide_eq_true (by first | (with_reducible assumption) | assumption) | (have e_ := (Kd.S_reads' HO_6.out).1; omega))
                                          obtain ⟨ve438_0, rfl, ge438_0⟩ := hMe438
                                          have hv438_0 := hcc438 0 _ rfl
                                          rw [Nat.add_zero, show ((Kd.slice 3 (Kd.int .i64))).sz = 1 from rfl, Nat.mul_one] at hv438_0
                                          replace hv438_0 := Option.some.inj (hv438_0.symm.trans hx438_0)
                                          rw [hv438_0] at ge438_0
                                          have HL438_0 := Aside0.mk (show Kd.R (Kd.int .i64) 3 _ _ _ _ (rd_L1 y437 (ji53)) from ge438_0)
                                          clear hv438_0 ge438_0
                                          have HX438_0 := Aside0.mk hx438_0
                                          have HVE := Aside0.mk (show v435 = .slice A438_0 (rd_L1 y437 (ji53)).length c438_0 from Option.some.inj (HV9.out.symm.trans (by first | exact HX438_0.out | (have h_ := HX438_0.out; simp only [add_plain, Nat.zero_add, Nat.mul_one] at h_; exact h_) | (have h_ := HX438_0.out; simp only [add_at, Nat.zero_add, Nat.mul_one] at h_; exact h_))))
                                          clear hcc438 hce438
                                          (first | simp only [add_plain] at hx438_0 | simp only [add_at] at hx438_0 | simp only [Addr.add, Nat.zero_add] at hx438_0 | skip)
                                          have HR438_0 := Aside0.mk hi438_0
                                          have HC438_0 := Aside0.mk hl438_0
                                          clear hi438_0 hl438_0
                                          replace p438 := eq_true p438
                                          replace q438 := eq_true q438
                                          have p439 : 0 ≤ ((ji53) : Int) := of_decide_eq_true (by first | (with_reducible assumption) | assumption)
                                          have q439 : (ji53) < (y437.length : Int) := (by have h_ : ((ji53) : Int) < ((t407.length : Int) : Int) := of_decide_eq_true (by first | (with_reducible assumption) | assumption); first | (have e_ := (Kd.S_reads' HO_6.out).1; omega) | simpa only [Ny437.out, List.length_set] using h_)
                                          have ql439 : (((ji53) : Int) < ((t407.length : Int) : Int)) = True := eq_true (of_decide_eq_true (by first | (with_reducible assumption) | assumption))
                                          obtain ⟨ad439, A439_0, c439_0, e439, hx439_0, hl439_0, hi439_0⟩ := at_L1 (Kd.S_reads' HO_6.out).2.2 (ji53) p439 q439
                                          obtain rfl : (⟨go57, 0, none⟩ : Addr) = ad439 := (by injection e439)
                                          obtain ⟨ce439, hce439, hMe439, hcc439⟩ := Kd.S_get HO_6.out [] (ji53) p439 (by first | exact q439 | exact of_decide_eq_true (by first | (with_reducible assumption) | assumption) | (have e_ := (Kd.S_reads' HO_6.out).1; omega))
                                          obtain ⟨ve439_0, rfl, ge439_0⟩ := hMe439
                                          have hv439_0 := hcc439 0 _ rfl
                                          rw [Nat.add_zero, show ((Kd.slice 3 (Kd.int .i64))).sz = 1 from rfl, Nat.mul_one] at hv439_0
                                          replace hv439_0 := Option.some.inj (hv439_0.symm.trans hx439_0)
                                          rw [hv439_0] at ge439_0
                                          have HL439_0 := Aside0.mk (show Kd.R (Kd.int .i64) 3 _ _ _ _ (rd_L1 y437 (ji53)) from ge439_0)
                                          clear hv439_0 ge439_0
                                          have HX439_0 := Aside0.mk hx439_0
                                          clear hcc439 hce439
                                          (first | simp only [add_plain] at hx439_0 | simp only [add_at] at hx439_0 | simp only [Addr.add, Nat.zero_add] at hx439_0 | skip)
                                          have HR439_0 := Aside0.mk hi439_0
                                          have HC439_0 := Aside0.mk hl439_0
                                          clear hi439_0 hl439_0
                                          replace p439 := eq_true p439
                                          replace q439 := eq_true q439
                                          have ea_ := Option.some.inj (hx438_0.symm.trans hx439_0)
                                          injection ea_ with ea_ en_ ec_
                                          subst ea_
                                          subst ec_
                                          clear en_
                                          have p440 : 0 ≤ ((ji58) : Int) := of_decide_eq_true (by first | (with_reducible assumption) | assumption)
                                          have q440 : (ji58) < ((rd_L1 y437 (ji53)).length : Int) := of_decide_eq_true (by first | (with_reducible assumption) | assumption)
                                          obtain ⟨ad440, e440, hx440_0⟩ := Kd.at_int (by repeat (first | (with_reducible exact HR439_0.out) | (with_reducible refine Kd.C_alloc ?_ _) | (with_reducible refine Kd.C_drewN ?_ _) | (with_reducible refine Kd.C_drew ?_) | exact HR439_0.out)) (ji58) p440 q440
                                          cases e440
                                          replace p440 := eq_true p440
                                          replace q440 := eq_true q440
                                          refine start_ (n := 20) (S := fun w' => w'.cell? ⟨go57, ((ji53)).toNat, none⟩ = some (.slice (some ad440) (rd_L1 y437 (ji53)).length c438_0) ∧ w'.cell? ⟨go57, ((ji53)).toNat, none⟩ = some (.slice (some ad440) (rd_L1 y437 (ji53)).length c438_0) ∧ w'.cell? (ad440.add ((ji58)).toNat) = some (.int .i64 (rd (rd_L1 y437 (ji53)) (ji58)))) (ds := [19]) #[false, false, false, false, false, false, false, false, false, false, false, false, false, false, false, false, false, false, false, false] (by kernel_rfl) rfl rfl ⟨hx438_0, hx439_0, hx440_0⟩ (fun hHeld => ?_); refine with_tabW laws_FnRecords.tab23 laws_FnRecords.bits23 (fun HT_ HW_ => ?_)
                                          generalize w82.drew = w83 at HO_3 HO_6 HL429_0 HL433_0 HB HL438_0 HL439_0 HR438_0 HR439_0 HX438_0 HX439_0 hx438_0 hx439_0 hx440_0 hHeld ⊢
                                          refine pure_ (i := 0) (N := some 131) (v := ?_) (a' := ?_) #[true, false, false, false, false, false, false, false, false, false, false, false, false, false, false, false, false, false, false, false] rfl rfl (any_of HT_.out (by kernel_rfl)) (fun _ _ _ h => h) (Or.inl ⟨by rfl, ?_⟩) ?_ ?_
                                          rotate_left
                                          · intro w'
                                            go_simp
                                            with_reducible rfl
                                          rotate_left
                                          · simp only [Act.put, List.setIfInBounds_toArray, List.set_cons_zero, List.set_cons_succ, i64_w, i32_w]
                                            rfl
                                          refine pure_ (i := 1) (N := some 132) (v := ?_) (a' := ?_) #[true, true, false, false, false, false, false, false, false, false, false, false, false, false, false, false, false, false, false, false] rfl rfl (any_of HT_.out (by kernel_rfl)) (fun _ _ _ h => h) (Or.inl ⟨by rfl, ?_⟩) ?_ ?_
                                          rotate_left
                                          · intro w'
                                            go_simp
                                            with_reducible rfl
                                          rotate_left
                                          · simp only [Act.put, List.setIfInBounds_toArray, List.set_cons_zero, List.set_cons_succ, i64_w, i32_w]
                                            rfl
                                          refine pure_ (i := 2) (N := some 133) (v := ?_) (a' := ?_) #[true, true, true, false, false, false, false, false, false, false, false, false, false, false, false, false, false, false, false, false] rfl rfl (any_of HT_.out (by kernel_rfl)) (fun _ _ _ h => h) (Or.inl ⟨by rfl, ?_⟩) ?_ ?_
                                          rotate_left
                                          · intro w'
                                            go_simp
                                            with_reducible rfl
                                          rotate_left
                                          · simp only [Act.put, List.setIfInBounds_toArray, List.set_cons_zero, List.set_cons_succ, i64_w, i32_w]
                                            rfl
                                          refine pure_ (i := 4) (N := some 135) (v := ?_) (a' := ?_) #[true, true, true, false, true, false, false, false, false, false, false, false, false, false, false, false, false, false, false, false] rfl rfl (any_of HT_.out (by kernel_rfl)) (fun _ _ _ h => h) (Or.inl ⟨by rfl, ?_⟩) ?_ ?_
                                          rotate_left
                                          · intro w'
                                            go_simp
                                            with_reducible rfl
                                          rotate_left
                                          · simp only [Act.put, List.setIfInBounds_toArray, List.set_cons_zero, List.set_cons_succ, i64_w, i32_w]
                                            rfl
                                          refine pure_ (i := 5) (N := some 136) (v := ?_) (a' := ?_) #[true, true, true, false, true, true, false, false, false, false, false, false, false, false, false, false, false, false, false, false] rfl rfl (any_of HT_.out (by kernel_rfl)) (fun _ _ _ h => h) (Or.inl ⟨by rfl, ?_⟩) ?_ ?_
                                          rotate_left
                                          · intro w'
                                            go_simp
                                            with_reducible rfl
                                          rotate_left
                                          · simp only [Act.put, List.setIfInBounds_toArray, List.set_cons_zero, List.set_cons_succ, i64_w, i32_w]
                                            rfl
                                          refine pure_ (i := 6) (N := some 137) (v := ?_) (a' := ?_) #[true, true, true, false, true, true, true, false, false, false, false, false, false, false, false, false, false, false, false, false] rfl rfl (any_of HT_.out (by kernel_rfl)) (fun _ _ _ h => h) (Or.inl ⟨by rfl, ?_⟩) ?_ ?_
                                          rotate_left
                                          · intro w'
                                            go_simp
                                            with_reducible rfl
                                          rotate_left
                                          · simp only [Act.put, List.setIfInBounds_toArray, List.set_cons_zero, List.set_cons_succ, i64_w, i32_w]
                                            rfl
                                          refine pure_ (i := 7) (N := some 138) (v := ?_) (a' := ?_) #[true, true, true, false, true, true, true, true, false, false, false, false, false, false, false, false, false, false, false, false] rfl rfl (any_of HT_.out (by kernel_rfl)) (fun _ _ _ h => h) (Or.inl ⟨by rfl, ?_⟩) ?_ ?_
                                          rotate_left
                                          · intro w'
                                            go_simp
                                            with_reducible rfl
                                          rotate_left
                                          · simp only [Act.put, List.setIfInBounds_toArray, List.set_cons_zero, List.set_cons_succ, i64_w, i32_w]
                                            rfl
                                          refine pure_ (i := 9) (N := some 140) (v := ?_) (a' := ?_) #[true, true, true, false, true, true, true, true, false, true, false, false, false, false, false, false, false, false, false, false] rfl rfl (any_of HT_.out (by kernel_rfl)) (fun _ _ _ h => h) (Or.inl ⟨by rfl, ?_⟩) ?_ ?_
                                          rotate_left
                                          · intro w'
                                            go_simp
                                            with_reducible rfl
                                          rotate_left
                                          · simp only [Act.put, List.setIfInBounds_toArray, List.set_cons_zero, List.set_cons_succ, i64_w, i32_w]
                                            rfl
                                          refine pure_ (i := 13) (N := some 144) (v := ?_) (a' := ?_) #[true, true, true, false, true, true, true, true, false, true, false, false, false, true, false, false, false, false, false, false] rfl rfl (any_of HT_.out (by kernel_rfl)) (fun _ _ _ h => h) (Or.inl ⟨by rfl, ?_⟩) ?_ ?_
                                          rotate_left
                                          · intro w'
                                            go_simp
                                            with_reducible rfl
                                          rotate_left
                                          · simp only [Act.put, List.setIfInBounds_toArray, List.set_cons_zero, List.set_cons_succ, i64_w, i32_w]
                                            rfl
                                          refine take_ (i := 3) (N := some 134) (v := ?_) (a' := ?_) #[true, true, true, true, true, true, true, true, false, true, false, false, false, true, false, false, false, false, false, false] rfl rfl (take_ofW HT_.out HW_.out (by kernel_rfl)) (fun _ _ _ h => h) (Or.inl ⟨by rfl, ?_⟩) hHeld ?_ ?_
                                          rotate_left
                                          · rintro w' ⟨s0, s1, s2⟩
                                            go_simp
                                            with_reducible rfl
                                          rotate_left
                                          · simp only [Act.put, List.setIfInBounds_toArray, List.set_cons_zero, List.set_cons_succ, i64_w, i32_w]
                                            rfl
                                          refine take_ (i := 8) (N := some 139) (v := ?_) (a' := ?_) #[true, true, true, true, true, true, true, true, true, true, false, false, false, true, false, false, false, false, false, false] rfl rfl (take_ofW HT_.out HW_.out (by kernel_rfl)) (fun _ _ _ h => h) (Or.inl ⟨by rfl, ?_⟩) hHeld ?_ ?_
                                          rotate_left
                                          · rintro w' ⟨s0, s1, s2⟩
                                            go_simp
                                            with_reducible rfl
                                          rotate_left
                                          · simp only [Act.put, List.setIfInBounds_toArray, List.set_cons_zero, List.set_cons_succ, i64_w, i32_w]
                                            rfl
                                          refine pure_ (i := 10) (N := some 141) (v := ?_) (a' := ?_) #[true, true, true, true, true, true, true, true, true, true, true, false, false, true, false, false, false, false, false, false] rfl rfl (any_of HT_.out (by kernel_rfl)) (fun _ _ _ h => h) (Or.inl ⟨by rfl, ?_⟩) ?_ ?_
                                          rotate_left
                                          · intro w'
                                            go_simp
                                            with_reducible rfl
                                          rotate_left
                                          · simp only [Act.put, List.setIfInBounds_toArray, List.set_cons_zero, List.set_cons_succ, i64_w, i32_w]
                                            rfl
                                          refine take_ (i := 11) (N := some 142) (v := ?_) (a' := ?_) #[true, true, true, true, true, true, true, true, true, true, true, true, false, true, false, false, false, false, false, false] rfl rfl (take_ofW HT_.out HW_.out (by kernel_rfl)) (fun _ _ _ h => h) (Or.inl ⟨by rfl, ?_⟩) hHeld ?_ ?_
                                          rotate_left
                                          · rintro w' ⟨s0, s1, s2⟩
                                            go_simp
                                            with_reducible rfl
                                          rotate_left
                                          · simp only [Act.put, List.setIfInBounds_toArray, List.set_cons_zero, List.set_cons_succ, i64_w, i32_w]
                                            rfl
                                          refine pure_ (i := 12) (N := some 143) (v := ?_) (a' := ?_) #[true, true, true, true, true, true, true, true, true, true, true, true, true, true, false, false, false, false, false, false] rfl rfl (any_of HT_.out (by kernel_rfl)) (fun _ _ _ h => h) (Or.inl ⟨by rfl, ?_⟩) ?_ ?_
                                          rotate_left
                                          · intro w'
                                            go_simp
                                            with_reducible rfl
                                          rotate_left
                                          · simp only [Act.put, List.setIfInBounds_toArray, List.set_cons_zero, List.set_cons_succ, i64_w, i32_w]
                                            rfl
                                          refine one_ (i := 14) (N := some 145) #[true, true, true, true, true, true, true, true, true, true, true, true, true, true, true, false, false, false, false, false] rfl rfl (one_of HT_.out (by kernel_rfl)) (by decide) (fun K hK => ?_)
                                          refine goes_ Try.func22 (by kernel_rfl) rfl #[.slice A0 l0.length c0, .int .i64 3] (by rfl) rfl rfl (by (try simp only [List.map_toArray, List.map_cons, List.map_nil]); first | done | rfl | (simp only [List.length_drop, List.length_take]; rfl)) ?_
                                          with_reducible refine (laws_at.calls _ _ l0 3 t441 _ ?side1 ?side2 A61.out).mono ?_
                                          (case side1 => repeat (first | exact (Kd.C_below HR0.out HB.out) | (with_reducible refine Kd.C_alloc ?_ _) | (with_reducible refine Kd.C_drewN ?_ _) | (with_reducible refine Kd.C_drew ?_)))
                                          (case side2 => exact HC0.out)
                                          rintro e w' ⟨rfl, ⟨nd, rfl⟩⟩
                                          refine ⟨_, rfl, ?_⟩
                                          have p62 : 0 ≤ ((ji58) : Int) := of_decide_eq_true (by first | (with_reducible assumption) | assumption)
                                          have q62 : ((ji58) : Int) < (((rd_L1 y437 (ji53)).length : Int) : Int) := of_decide_eq_true (by first | (with_reducible assumption) | assumption)
                                          obtain ⟨go62, co62, eo62, gb62, gl62, cl62, HG62⟩ := Kd.R_form HL438_0.out (by omega)
                                          (first | cases eo62 | (injection eo62 with ea_ en_ ec_; (first | subst ea_ | (injection ea_ with ea_; subst ea_)); subst ec_; clear en_))
                                          have GB62 := Aside0.mk gb62
                                          have GG62 := Aside0.mk HG62
                                          clear gb62 gl62 HG62
                                          (first | simp only [add_plain] at hx440_0 | skip)
                                          obtain ⟨hx62_0, hf62_0⟩ := Kd.R_celln 0 HL438_0.out ((ji58) : Int) p62 q62
                                          replace p62 := eq_true p62
                                          replace q62 := eq_true q62
                                          have hq84 : ((ji53) : Int) < (y437.length : Int) := (by have h_ : ((ji53) : Int) < ((t407.length : Int) : Int) := of_decide_eq_true (by first | (with_reducible assumption) | assumption); first | exact h_ | (have e_ := (Kd.S_reads' HO_6.out).1; omega) | simpa only [Ny437.out, List.length_set] using h_)
                                          obtain ⟨oki84, ce84, hcl84, hM84, hcc84, hok84, hbk84⟩ := Kd.S_borrow HO_6.out [] ((ji53) : Int) (of_decide_eq_true (by first | (with_reducible assumption) | assumption)) (by first | exact hq84 | (have e_ := (Kd.S_reads' HO_6.out).1; omega))
                                          obtain ⟨ve84_0, rfl, ge84_0⟩ := hM84
                                          have hv84 := hcc84 0 _ rfl
                                          rw [Nat.add_zero, show ((Kd.slice 3 (Kd.int .i64))).sz = 1 from rfl, Nat.mul_one] at hv84
                                          replace hv84 := Option.some.inj (hv84.symm.trans HX438_0.out)
                                          subst hv84
                                          clear hcc84 hcl84
                                          replace ge84_0 := (show Kd.R (Kd.int .i64) 3 _ _ _ _ (rd_L1 y437 (ji53)) from ge84_0)
                                          have HP84 := Kd.R_putg ge84_0 ((ji58) : Int) (wrap64 ((wrap64 ((rd (rd_L1 y437 (ji53)) (ji58)) + 1)) - (wrap64 (2 * (Int.tmod t441 2)))))
                                          rw [← Ny442.out] at HP84
                                          have HS84 := hbk84 HP84.2 (fun k_ e_ => by injection e_ with e_; subst e_; exact ge84_0.1 _ rfl) (x' := y442) (Kd.M_row HP84.1)
                                          rw [← Ny444.out] at HS84
                                          have HQ84 := Aside0.mk HS84
                                          clear HP84 HS84 hbk84 hok84
                                          refine hK.out _ _ ⟨hHeld.1, hHeld.2.1, hHeld.2.2⟩ (fun hHeld => ?_)
                                          clear hK K
                                          refine norm_ (a' := ?_) ?_ ?_
                                          rotate_left
                                          · show Act.put _ (some 145) _ = _
                                            simp only [Act.put, List.setIfInBounds_toArray, List.set_cons_zero, List.set_cons_succ, i64_w, i32_w]
                                            rfl
                                          refine pure_ (i := 15) (N := some 146) (v := ?_) (a' := ?_) #[true, true, true, true, true, true, true, true, true, true, true, true, true, true, true, true, false, false, false, false] rfl rfl (any_of HT_.out (by kernel_rfl)) (fun _ _ _ h => h) (Or.inl ⟨by rfl, ?_⟩) ?_ ?_
                                          rotate_left
                                          · intro w'
                                            go_simp
                                            with_reducible rfl
                                          rotate_left
                                          · simp only [Act.put, List.setIfInBounds_toArray, List.set_cons_zero, List.set_cons_succ, i64_w, i32_w]
                                            rfl
                                          refine pure_ (i := 16) (N := some 147) (v := ?_) (a' := ?_) #[true, true, true, true, true, true, true, true, true, true, true, true, true, true, true, true, true, false, false, false] rfl rfl (any_of HT_.out (by kernel_rfl)) (fun _ _ _ h => h) (Or.inl ⟨by rfl, ?_⟩) ?_ ?_
                                          rotate_left
                                          · intro w'
                                            go_simp
                                            with_reducible rfl
                                          rotate_left
                                          · simp only [Act.put, List.setIfInBounds_toArray, List.set_cons_zero, List.set_cons_succ, i64_w, i32_w]
                                            rfl
                                          refine pure_ (i := 17) (N := some 148) (v := ?_) (a' := ?_) #[true, true, true, true, true, true, true, true, true, true, true, true, true, true, true, true, true, true, false, false] rfl rfl (any_of HT_.out (by kernel_rfl)) (fun _ _ _ h => h) (Or.inl ⟨by rfl, ?_⟩) ?_ ?_
                                          rotate_left
                                          · intro w'
                                            go_simp
                                            with_reducible rfl
                                          rotate_left
                                          · simp only [Act.put, List.setIfInBounds_toArray, List.set_cons_zero, List.set_cons_succ, i64_w, i32_w]
                                            rfl
                                          refine pure_ (i := 18) (N := some 149) (v := ?_) (a' := ?_) #[true, true, true, true, true, true, true, true, true, true, true, true, true, true, true, true, true, true, true, false] rfl rfl (any_of HT_.out (by kernel_rfl)) (fun _ _ _ h => h) (Or.inl ⟨by rfl, ?_⟩) ?_ ?_
                                          rotate_left
                                          · intro w'
                                            go_simp
                                            with_reducible rfl
                                          rotate_left
                                          · simp only [Act.put, List.setIfInBounds_toArray, List.set_cons_zero, List.set_cons_succ, i64_w, i32_w]
                                            rfl
                                          refine last_ (i := 19) (N := none) #[true, true, true, true, true, true, true, true, true, true, true, true, true, true, true, true, true, true, true, true] rfl rfl (one_of HT_.out (by kernel_rfl)) (by decide) (fun K hK => ?_)
                                          refine skip_ (w1 := ?_) (by rfl) rfl ?_ ?_
                                          rotate_left
                                          · go_simp
                                            rfl
                                          refine hK.out _ _ ?_
                                          clear hK K
                                          refine done_ (done_of HT_.out (by kernel_rfl)) ?_
                                          try go_wp2_with (first | ((with_reducible refine gate_callee (f := 17) rfl ?_); refine goesL_ (some 153) rfl rfl Try.func17 (by kernel_rfl) rfl #[.slice (some ad429) t399.length co9, .slice (some ⟨go57, 0, none⟩) y444.length co19] rfl (by (try simp only [List.map_toArray, List.map_cons, List.map_nil]); first | done | (rw [show y444.length = t407.length from (Kd.S_reads' HQ84.out).1.symm] <;> rfl) | rfl | (simp only [List.length_drop, List.length_take]; rfl)) ?_; (with_reducible refine (impl_Same20.calls kj27 _ _ t399 _ _ y444 t445 t446 false _ ?side1 ?side2 ?side3 ?side4 A63.out).mono ?_); (case side1 => refine (Kd.S_reads' (e := 32) (base := w.heap.size) (ok := fun k_ => some k_ ≠ (.slice (some ⟨go57, 0, none⟩) t407.length co19 : Value).ownBlock) (n := t399.length) (c := co9) ?_).2.2; exact (by (with_reducible repeat (first | apply Kd.S_alloc | apply Kd.S_drewN | apply Kd.S_drew)); exact Kd.S_mono (Kd.S_far (p := ⟨go62, ((ji58) : Int).toNat, none⟩) (S_and_ HO_3.out (Q := fun k_ => k_ ≠ go62) (fun k_ hk_ e_ => hk_.1 (by rw [HVE.out, e_]; rfl))) (fun _ hk => hk.2) (.int .i64 (wrap64 ((wrap64 ((rd (rd_L1 y437 (ji53)) (ji58)) + 1)) - (wrap64 (2 * (Int.tmod t441 2))))))) (fun _ hk => hk.1.2))); (case side2 => exact (Kd.S_reads' HO_3.out).2.1); (case side3 => refine (Kd.S_reads' (e := 32) (base := w.heap.size) (ok := fun k_ => some k_ ≠ (.slice (some ad429) t399.length co9 : Value).ownBlock) (n := t407.length) (c := co19) ?_).2.2; exact (by (with_reducible repeat (first | apply Kd.S_alloc | apply Kd.S_drewN | apply Kd.S_drew)); exact HQ84.out)); (case side4 => rw [show y444.length = t407.length from (Kd.S_reads' HQ84.out).1.symm]; exact (Kd.S_reads' HO_6.out).2.1); rintro e w86 ⟨rfl, hb⟩; refine ⟨_, rfl, ?_⟩; have n0_ := Aside0.mk (Kd.S_below (by (with_reducible repeat (first | apply Kd.S_alloc | apply Kd.S_drewN | apply Kd.S_drew)); exact (Kd.S_mono (Kd.S_far (p := ⟨go62, ((ji58) : Int).toNat, none⟩) (S_and_ HO_3.out (Q := fun k_ => k_ ≠ go62) (fun k_ hk_ e_ => hk_.1 (by rw [HVE.out, e_]; rfl))) (fun _ hk => hk.2) (.int .i64 (wrap64 ((wrap64 ((rd (rd_L1 y437 (ji53)) (ji58)) + 1)) - (wrap64 (2 * (Int.tmod t441 2))))))) (fun _ h_ => h_.1))) hb); have n1_ := Aside0.mk (Kd.S_below (by (with_reducible repeat (first | apply Kd.S_alloc | apply Kd.S_drewN | apply Kd.S_drew)); exact HQ84.out) hb); have n2_ := Aside0.mk (below_step (by repeat (first | (with_reducible first | exact HB.out | apply below_alloc | apply pw_below_drewN | apply below_drew1 | refine below_set ?_ GB62.out) | exact HB.out)) hb); clear HO_3; clear HO_6; clear HB; have HO_3 := n0_; have HO_6 := n1_; have HB := n2_; clear n0_ n1_ n2_; (try clear hb); (try clear hb2); (try clear hk); (try clear hi); have p448 : 0 ≤ ((ji53) : Int) := of_decide_eq_true (by first | (with_reducible assumption) | assumption); have q448 : (ji53) < (y444.length : Int) := (by have h_ : ((ji53) : Int) < ((t407.length : Int) : Int) := of_decide_eq_true (by first | (with_reducible assumption) | assumption); first | (have e_ := (Kd.S_reads' HO_6.out).1; omega) | simpa only [Ny437.out, Ny444.out, List.length_set] using h_); have ql448 : (((ji53) : Int) < ((t407.length : Int) : Int)) = True := eq_true (of_decide_eq_true (by first | (with_reducible assumption) | assumption)); obtain ⟨ad448, A448_0, c448_0, e448, hx448_0, hl448_0, hi448_0⟩ := at_L1 (Kd.S_reads' HO_6.out).2.2 (ji53) p448 q448; obtain rfl : (⟨go57, 0, none⟩ : Addr) = ad448 := (by injection e448); obtain ⟨ce448, hce448, hMe448, hcc448⟩ := Kd.S_get HO_6.out [] (ji53) p448 (by first | exact q448 | exact of_decide_eq_true (by first | (with_reducible assumption) | assumption) | (have e_ := (Kd.S_reads' HO_6.out).1; omega)); obtain ⟨ve448_0, rfl, ge448_0⟩ := hMe448; have hv448_0 := hcc448 0 _ rfl; rw [Nat.add_zero, show ((Kd.slice 3 (Kd.int .i64))).sz = 1 from rfl, Nat.mul_one] at hv448_0; replace hv448_0 := Option.some.inj (hv448_0.symm.trans hx448_0); rw [hv448_0] at ge448_0; have HL448_0 := Aside0.mk (show Kd.R (Kd.int .i64) 3 _ _ _ _ (rd_L1 y444 (ji53)) from ge448_0); clear hv448_0 ge448_0; have HX448_0 := Aside0.mk hx448_0; clear hcc448 hce448; (first | simp only [add_plain] at hx448_0 | simp only [add_at] at hx448_0 | simp only [Addr.add, Nat.zero_add] at hx448_0 | skip); have HR448_0 := Aside0.mk hi448_0; have HC448_0 := Aside0.mk hl448_0; clear hi448_0 hl448_0; replace p448 := eq_true p448; replace q448 := eq_true q448; have p449 : 0 ≤ ((ji58) : Int) := of_decide_eq_true (by first | (with_reducible assumption) | assumption); have q449 : (ji58) < ((rd_L1 y444 (ji53)).length : Int) := of_decide_eq_true (by first | (with_reducible assumption) | assumption); obtain ⟨ad449, e449, hx449_0⟩ := Kd.at_int (by repeat (first | (with_reducible exact HR448_0.out) | (with_reducible refine Kd.C_alloc ?_ _) | (with_reducible refine Kd.C_drewN ?_ _) | (with_reducible refine Kd.C_drew ?_) | exact HR448_0.out)) (ji58) p449 q449; cases e449; replace p449 := eq_true p449; replace q449 := eq_true q449))
                                          go_ret
                                          exact ⟨by first | rfl | (simp [errW_none, errW_some] <;> rfl) | (simp only [← hji53, ← hji58]; first | rfl | (simp [errW_none, errW_some] <;> rfl)) | (simp [*, errW_none, errW_some] <;> rfl), by repeat (first | (with_reducible first | exact HB.out | apply below_alloc | apply pw_below_drewN | apply below_drew1) | exact HB.out)⟩
                                      · rw [if_neg c65] at H
                                        have c65b0 : decide (30000 < (rd (rd_L1 y444 (ji53)) (ji58))) = false := decide_eq_false c65
                                        clear c65
                                        have HC87 := Aside0.mk H
                                        clear H
                                        try go_wp2
                                        have n0_ := Aside0.mk (Kd.S_drew HO_3.out)
                                        have n1_ := Aside0.mk (Kd.S_drew HO_6.out)
                                        have n2_ := Aside0.mk (below_drew1 HB.out)
                                        clear HO_3
                                        clear HO_6
                                        clear HB
                                        have HO_3 := n0_
                                        have HO_6 := n1_
                                        have HB := n2_
                                        clear n0_ n1_ n2_
                                        have p429 : 0 ≤ (0 : Int) := (by omega)
                                        have q429 : 0 < (t399.length : Int) := of_decide_eq_true (by first | (with_reducible assumption) | assumption)
                                        obtain ⟨ad429, A429_0, c429_0, e429, hx429_0, hl429_0, hi429_0⟩ := at_L1 (Kd.S_reads' HO_3.out).2.2 0 p429 q429
                                        cases e429
                                        obtain ⟨ce429, hce429, hMe429, hcc429⟩ := Kd.S_get HO_3.out [] 0 p429 (by first | exact q429 | exact of_decide_eq_true (by first | (with_reducible assumption) | assumption) | (have e_ := (Kd.S_reads' HO_3.out).1; omega))
                                        obtain ⟨ve429_0, rfl, ge429_0⟩ := hMe429
                                        have hv429_0 := hcc429 0 _ rfl
                                        rw [Nat.add_zero, show ((Kd.slice 3 (Kd.int .i64))).sz = 1 from rfl, Nat.mul_one] at hv429_0
                                        replace hv429_0 := Option.some.inj (hv429_0.symm.trans hx429_0)
                                        rw [hv429_0] at ge429_0
                                        have HL429_0 := Aside0.mk (show Kd.R (Kd.int .i64) 3 _ _ _ _ (rd_L1 t399 0) from ge429_0)
                                        clear hv429_0 ge429_0
                                        have HX429_0 := Aside0.mk hx429_0
                                        clear hcc429 hce429
                                        have qi429 : (0 < t399.length) = True := eq_true (by omega)
                                        (try rw [show ((0 : Int)).toNat = 0 from rfl] at hx429_0)
                                        (try rw [Addr.add_zero'] at hx429_0)
                                        have HR429_0 := Aside0.mk hi429_0
                                        have HC429_0 := Aside0.mk hl429_0
                                        clear hi429_0 hl429_0
                                        replace p429 := eq_true p429
                                        replace q429 := eq_true q429
                                        refine start_ (n := 14) (S := fun w' => w'.cell? ad429 = some (.slice A429_0 (rd_L1 t399 0).length c429_0)) (ds := []) #[false, false, false, false, false, false, false, false, false, false, false, false, false, false] (by kernel_rfl) rfl rfl (hx429_0) (fun hHeld => ?_); refine with_tabW laws_FnRecords.tab21 laws_FnRecords.bits21 (fun HT_ HW_ => ?_)
                                        generalize wc.drew = w88 at HO_3 HO_6 HB HL429_0 HR429_0 HX429_0 hx429_0 hHeld ⊢
                                        refine pure_ (i := 0) (N := some 110) (v := ?_) (a' := ?_) #[true, false, false, false, false, false, false, false, false, false, false, false, false, false] rfl rfl (any_of HT_.out (by kernel_rfl)) (fun _ _ _ h => h) (Or.inl ⟨by rfl, ?_⟩) ?_ ?_
                                        rotate_left
                                        · intro w'
                                          go_simp
                                          with_reducible rfl
                                        rotate_left
                                        · simp only [Act.put, List.setIfInBounds_toArray, List.set_cons_zero, List.set_cons_succ, i64_w, i32_w]
                                          rfl
                                        refine pure_ (i := 2) (N := some 112) (v := ?_) (a' := ?_) #[true, false, true, false, false, false, false, false, false, false, false, false, false, false] rfl rfl (any_of HT_.out (by kernel_rfl)) (fun _ _ _ h => h) (Or.inl ⟨by rfl, ?_⟩) ?_ ?_
                                        rotate_left
                                        · intro w'
                                          go_simp
                                          with_reducible rfl
                                        rotate_left
                                        · simp only [Act.put, List.setIfInBounds_toArray, List.set_cons_zero, List.set_cons_succ, i64_w, i32_w]
                                          rfl
                                        refine pure_ (i := 3) (N := some 113) (v := ?_) (a' := ?_) #[true, false, true, true, false, false, false, false, false, false, false, false, false, false] rfl rfl (any_of HT_.out (by kernel_rfl)) (fun _ _ _ h => h) (Or.inl ⟨by rfl, ?_⟩) ?_ ?_
                                        rotate_left
                                        · intro w'
                                          go_simp
                                          with_reducible rfl
                                        rotate_left
                                        · simp only [Act.put, List.setIfInBounds_toArray, List.set_cons_zero, List.set_cons_succ, i64_w, i32_w]
                                          rfl
                                        refine pure_ (i := 5) (N := some 115) (v := ?_) (a' := ?_) #[true, false, true, true, false, true, false, false, false, false, false, false, false, false] rfl rfl (any_of HT_.out (by kernel_rfl)) (fun _ _ _ h => h) (Or.inl ⟨by rfl, ?_⟩) ?_ ?_
                                        rotate_left
                                        · intro w'
                                          go_simp
                                          with_reducible rfl
                                        rotate_left
                                        · simp only [Act.put, List.setIfInBounds_toArray, List.set_cons_zero, List.set_cons_succ, i64_w, i32_w]
                                          rfl
                                        refine pure_ (i := 7) (N := some 117) (v := ?_) (a' := ?_) #[true, false, true, true, false, true, false, true, false, false, false, false, false, false] rfl rfl (any_of HT_.out (by kernel_rfl)) (fun _ _ _ h => h) (Or.inl ⟨by rfl, ?_⟩) ?_ ?_
                                        rotate_left
                                        · intro w'
                                          go_simp
                                          with_reducible rfl
                                        rotate_left
                                        · simp only [Act.put, List.setIfInBounds_toArray, List.set_cons_zero, List.set_cons_succ, i64_w, i32_w]
                                          rfl
                                        refine pure_ (i := 8) (N := some 118) (v := ?_) (a' := ?_) #[true, false, true, true, false, true, false, true, true, false, false, false, false, false] rfl rfl (any_of HT_.out (by kernel_rfl)) (fun _ _ _ h => h) (Or.inl ⟨by rfl, ?_⟩) ?_ ?_
                                        rotate_left
                                        · intro w'
                                          go_simp
                                          with_reducible rfl
                                        rotate_left
                                        · simp only [Act.put, List.setIfInBounds_toArray, List.set_cons_zero, List.set_cons_succ, i64_w, i32_w]
                                          rfl
                                        refine take_ (i := 9) (N := some 119) (v := ?_) (a' := ?_) #[true, false, true, true, false, true, false, true, true, true, false, false, false, false] rfl rfl (take_ofW HT_.out HW_.out (by kernel_rfl)) (fun _ _ _ h => h) (Or.inl ⟨by rfl, ?_⟩) hHeld ?_ ?_
                                        rotate_left
                                        · intro w' s0
                                          go_simp
                                          with_reducible rfl
                                        rotate_left
                                        · simp only [Act.put, List.setIfInBounds_toArray, List.set_cons_zero, List.set_cons_succ, i64_w, i32_w]
                                          rfl
                                        refine pure_ (i := 10) (N := some 120) (v := ?_) (a' := ?_) #[true, false, true, true, false, true, false, true, true, true, true, false, false, false] rfl rfl (any_of HT_.out (by kernel_rfl)) (fun _ _ _ h => h) (Or.inl ⟨by rfl, ?_⟩) ?_ ?_
                                        rotate_left
                                        · intro w'
                                          go_simp
                                          with_reducible rfl
                                        rotate_left
                                        · simp only [Act.put, List.setIfInBounds_toArray, List.set_cons_zero, List.set_cons_succ, i64_w, i32_w]
                                          rfl
                                        refine one_ (i := 1) (N := some 111) #[true, true, true, true, false, true, false, true, true, true, true, false, false, false] rfl rfl (one_of HT_.out (by kernel_rfl)) (by decide) (fun K hK => ?_)
                                        refine goes_ Try.func22 (by kernel_rfl) rfl #[.slice A0 l0.length c0, .int .i64 1] (by rfl) rfl rfl (by (try simp only [List.map_toArray, List.map_cons, List.map_nil]); first | done | rfl | (simp only [List.length_drop, List.length_take]; rfl)) ?_
                                        with_reducible refine (laws_at.calls _ _ l0 1 t427 _ ?side1 ?side2 A49.out).mono ?_
                                        (case side1 => repeat (first | exact (Kd.C_below HR0.out HB.out) | (with_reducible refine Kd.C_alloc ?_ _) | (with_reducible refine Kd.C_drewN ?_ _) | (with_reducible refine Kd.C_drew ?_)))
                                        (case side2 => exact HC0.out)
                                        rintro e w' ⟨rfl, ⟨nd, rfl⟩⟩
                                        refine ⟨_, rfl, ?_⟩
                                        refine hK.out _ _ (hHeld) (fun hHeld => ?_)
                                        clear hK K
                                        refine norm_ (a' := ?_) ?_ ?_
                                        rotate_left
                                        · show Act.put _ (some 111) _ = _
                                          simp only [Act.put, List.setIfInBounds_toArray, List.set_cons_zero, List.set_cons_succ, i64_w, i32_w]
                                          rfl
                                        refine pure_ (i := 4) (N := some 114) (v := ?_) (a' := ?_) #[true, true, true, true, true, true, false, true, true, true, true, false, false, false] rfl rfl (any_of HT_.out (by kernel_rfl)) (fun _ _ _ h => h) (Or.inl ⟨by rfl, ?_⟩) ?_ ?_
                                        rotate_left
                                        · intro w'
                                          go_simp
                                          with_reducible rfl
                                        rotate_left
                                        · simp only [Act.put, List.setIfInBounds_toArray, List.set_cons_zero, List.set_cons_succ, i64_w, i32_w]
                                          rfl
                                        refine one_ (i := 6) (N := some 116) #[true, true, true, true, true, true, true, true, true, true, true, false, false, false] rfl rfl (one_of HT_.out (by kernel_rfl)) (by decide) (fun K hK => ?_)
                                        refine goes_ Try.func22 (by kernel_rfl) rfl #[.slice A0 l0.length c0, .int .i64 2] (by rfl) rfl rfl (by (try simp only [List.map_toArray, List.map_cons, List.map_nil]); first | done | rfl | (simp only [List.length_drop, List.length_take]; rfl)) ?_
                                        with_reducible refine (laws_at.calls _ _ l0 2 t428 _ ?side1 ?side2 A50.out).mono ?_
                                        (case side1 => repeat (first | exact (Kd.C_below HR0.out (by repeat (first | (with_reducible first | exact HB.out | apply below_alloc | apply pw_below_drewN | apply below_drew1) | exact HB.out))) | (with_reducible refine Kd.C_alloc ?_ _) | (with_reducible refine Kd.C_drewN ?_ _) | (with_reducible refine Kd.C_drew ?_)))
                                        (case side2 => exact HC0.out)
                                        rintro e w' ⟨rfl, ⟨nd, rfl⟩⟩
                                        refine ⟨_, rfl, ?_⟩
                                        refine hK.out _ _ (hHeld) (fun hHeld => ?_)
                                        clear hK K
                                        refine norm_ (a' := ?_) ?_ ?_
                                        rotate_left
                                        · show Act.put _ (some 116) _ = _
                                          simp only [Act.put, List.setIfInBounds_toArray, List.set_cons_zero, List.set_cons_succ, i64_w, i32_w]
                                          rfl
                                        refine pure_ (i := 11) (N := some 121) (v := ?_) (a' := ?_) #[true, true, true, true, true, true, true, true, true, true, true, true, false, false] rfl rfl (any_of HT_.out (by kernel_rfl)) (fun _ _ _ h => h) (Or.inl ⟨by rfl, ?_⟩) ?_ ?_
                                        rotate_left
                                        · intro w'
                                          go_simp
                                          with_reducible rfl
                                        rotate_left
                                        · simp only [Act.put, List.setIfInBounds_toArray, List.set_cons_zero, List.set_cons_succ, i64_w, i32_w]
                                          rfl
                                        refine pure_ (i := 12) (N := some 18) (v := ?_) (a' := ?_) #[true, true, true, true, true, true, true, true, true, true, true, true, true, false] rfl rfl (any_of HT_.out (by kernel_rfl)) (fun _ _ _ h => h) (Or.inl ⟨by rfl, ?_⟩) ?_ ?_
                                        rotate_left
                                        · intro w'
                                          go_simp
                                          with_reducible rfl
                                        rotate_left
                                        · simp only [Act.put, List.setIfInBounds_toArray, List.set_cons_zero, List.set_cons_succ, i64_w, i32_w]
                                          rfl
                                        refine pure_ (i := 13) (N := some 19) (v := ?_) (a' := ?_) #[true, true, true, true, true, true, true, true, true, true, true, true, true, true] rfl rfl (any_of HT_.out (by kernel_rfl)) (fun _ _ _ h => h) (Or.inl ⟨by rfl, ?_⟩) ?_ ?_
                                        rotate_left
                                        · intro w'
                                          go_simp
                                          with_reducible rfl
                                        rotate_left
                                        · simp only [Act.put, List.setIfInBounds_toArray, List.set_cons_zero, List.set_cons_succ, i64_w, i32_w]
                                          rfl
                                        refine done_ (done_of HT_.out (by kernel_rfl)) ?_
                                        try go_wp2_with (first | ((with_reducible refine gate_dst (N := 124) rfl ?_); (try (refine gate_guard (by rfl) ?_; dsimp only)); refine Kd.R_lit (Kd.int .i64) _ 3 ?hg (N := 124) ?hd (xs := ([] : List Int)) (inner := []) (ok := fun _ => True) (okp := fun _ => True) ?hr ?hp (fun _ hk => hk) trivial (Below.refl _ _) (Nat.le_refl _) (by simp) ?_; (case hd => rfl); (case hg => rfl); (case hr => first | (go_simp; done) | (go_simp; rfl)); (case hp => exact (Reps.none _ _)); intro v431 w89 ho90 hb hg_ hnew_; clear hg_ hnew_; (first | rw [← Ny430.out] at ho90 | (simp only [Int.reduceToNat] at ho90; rw [← Ny430.out] at ho90)); have n0_ := Aside0.mk (Kd.S_elder' (by (with_reducible repeat (first | apply Kd.S_alloc | apply Kd.S_drewN | apply Kd.S_drew)); exact HO_3.out) (Kd.R_base ho90) hb); have n1_ := Aside0.mk (Kd.S_elder' (by (with_reducible repeat (first | apply Kd.S_alloc | apply Kd.S_drewN | apply Kd.S_drew)); exact HO_6.out) (Kd.R_base ho90) hb); have n2_ := Aside0.mk (Kd.R_elder' (by (with_reducible repeat (first | apply Kd.R_alloc | apply Kd.R_drewN | apply Kd.R_drew)); exact HL429_0.out) (Kd.R_base ho90) hb); have n3_ := Aside0.mk (Kd.R_lower (Kd.R_new' ho90 (Kd.R_lt (by (with_reducible repeat (first | apply Kd.R_alloc | apply Kd.R_drewN | apply Kd.R_drew)); exact HL429_0.out))) (below_size (by repeat (first | (with_reducible first | exact HB.out | apply below_alloc | apply pw_below_drewN | apply below_drew1) | exact HB.out)))); have n4_ := Aside0.mk (Kd.C_below (by repeat (first | (with_reducible exact HR429_0.out) | (with_reducible refine Kd.C_alloc ?_ _) | (with_reducible refine Kd.C_drewN ?_ _) | (with_reducible refine Kd.C_drew ?_) | exact HR429_0.out)) hb); have n5_ := Aside0.mk (pw_cell_below hb HX429_0.out); have n6_ := Aside0.mk (below_step (by repeat (first | (with_reducible first | exact HB.out | apply below_alloc | apply pw_below_drewN | apply below_drew1) | exact HB.out)) hb); clear HO_3; clear HO_6; clear HL429_0; clear HR429_0; clear HX429_0; clear HB; have HO_3 := n0_; have HO_6 := n1_; have HL429_0 := n2_; have HO432 := n3_; have HR429_0 := n4_; have HX429_0 := n5_; have HB := n6_; clear n0_ n1_ n2_ n3_ n4_ n5_ n6_; clear hb ho90; have p433 : 0 ≤ ((ji53) : Int) := of_decide_eq_true (by first | (with_reducible assumption) | assumption); have q433 : (ji53) < (t407.length : Int) := of_decide_eq_true (by first | (with_reducible assumption) | assumption); obtain ⟨ad433, A433_0, c433_0, e433, hx433_0, hl433_0, hi433_0⟩ := at_L1 (Kd.S_reads' HO_6.out).2.2 (ji53) p433 q433; cases e433; obtain ⟨ce433, hce433, hMe433, hcc433⟩ := Kd.S_get HO_6.out [] (ji53) p433 (by first | exact q433 | exact of_decide_eq_true (by first | (with_reducible assumption) | assumption) | (have e_ := (Kd.S_reads' HO_6.out).1; omega)); obtain ⟨ve433_0, rfl, ge433_0⟩ := hMe433; have hv433_0 := hcc433 0 _ rfl; rw [Nat.add_zero, show ((Kd.slice 3 (Kd.int .i64))).sz = 1 from rfl, Nat.mul_one] at hv433_0; replace hv433_0 := Option.some.inj (hv433_0.symm.trans hx433_0); rw [hv433_0] at ge433_0; have HL433_0 := Aside0.mk (show Kd.R (Kd.int .i64) 3 _ _ _ _ (rd_L1 t407 (ji53)) from ge433_0); clear hv433_0 ge433_0; have HX433_0 := Aside0.mk hx433_0; clear hcc433 hce433; have HR433_0 := Aside0.mk hi433_0; have HC433_0 := Aside0.mk hl433_0; clear hi433_0 hl433_0; replace p433 := eq_true p433; replace q433 := eq_true q433) | ((with_reducible refine gate_builtin (b := .append) (xs := #[.tmp 124, .tmp 128]) rfl ?_); (try (refine gate_guard (by rfl) ?_; dsimp only)); at_builtin; refine Kd.R_append_rows (Kd.int .i64) (w0 := w) w.heap.size rfl (.tmp 124) (.tmp 128) 32 3 (.int .i64 0) 8 rfl Try.underlying32 info3 rfl (by decide) (by omega) v431 y430 (rd_L1 t407 (ji53)) _ _ _ (fun k_ => some k_ ≠ (.slice A429_0 (rd_L1 t399 0).length c429_0 : Value).ownBlock) (fun _ => False) rfl rfl ?aO ?aR (fun _ _ h => h) (fun _ h => h.elim) ?aF ?aB ?aS ?aL ?_; (case aR => repeat (first | exact (by repeat (first | (with_reducible exact HR433_0.out) | (with_reducible refine Kd.C_alloc ?_ _) | (with_reducible refine Kd.C_drewN ?_ _) | (with_reducible refine Kd.C_drew ?_) | exact HR433_0.out)) | (with_reducible refine Kd.C_alloc ?_ _) | (with_reducible refine Kd.C_drewN ?_ _) | (with_reducible refine Kd.C_drew ?_))); (case aB => exact (by repeat (first | (with_reducible first | exact HB.out | apply below_alloc | apply pw_below_drewN | apply below_drew1) | exact HB.out))); (case aF => exact (fun k_ hk => Kd.fresh' (Kd.R_lt (by (with_reducible repeat (first | apply Kd.R_alloc | apply Kd.R_drewN | apply Kd.R_drew)); exact HL429_0.out)) k_ hk)); (case aO => exact (by (with_reducible repeat (first | apply Kd.R_alloc | apply Kd.R_drewN | apply Kd.R_drew)); exact Kd.R_mono HO432.out (fun _ hk => hk.2))); (case aS => exact (below_size (by repeat (first | (with_reducible first | exact HB.out | apply below_alloc | apply pw_below_drewN | apply below_drew1) | exact HB.out)))); (case aL => have := LMc56.out; omega); intro v435 w91 ho hb hg hat; rw [← Ny434.out] at ho; have n0_ := Aside0.mk (Kd.S_after (ok := (fun k_ => some k_ ≠ (.slice (some ad433) t407.length co19 : Value).ownBlock)) (by (with_reducible repeat (first | apply Kd.S_alloc | apply Kd.S_drewN | apply Kd.S_drew)); exact HO_3.out) hg hat); have n1_ := Aside0.mk (Kd.S_after (ok := (fun k_ => some k_ ≠ (.slice (some ad429) t399.length co9 : Value).ownBlock)) (by (with_reducible repeat (first | apply Kd.S_alloc | apply Kd.S_drewN | apply Kd.S_drew)); exact HO_6.out) hg hat); have n2_ := Aside0.mk (Kd.R_after (ok := (fun k_ => some k_ ≠ (.slice (some ad429) t399.length co9 : Value).ownBlock ∧ some k_ ≠ (.slice (some ad433) t407.length co19 : Value).ownBlock)) (by (with_reducible repeat (first | apply Kd.R_alloc | apply Kd.R_drewN | apply Kd.R_drew)); exact Kd.R_mono HL429_0.out (fun _ hk => ⟨⟨hk.1.2, hk.1.1⟩, hk.2⟩)) hg hat); have n3_ := Aside0.mk (Kd.R_after (ok := (fun k_ => some k_ ≠ (.slice (some ad429) t399.length co9 : Value).ownBlock ∧ some k_ ≠ (.slice (some ad433) t407.length co19 : Value).ownBlock)) (by (with_reducible repeat (first | apply Kd.R_alloc | apply Kd.R_drewN | apply Kd.R_drew)); exact Kd.R_mono HL433_0.out (fun _ hk => ⟨⟨hk.1.1, hk.2⟩, hk.1.2⟩)) hg hat); have n4_ := Aside0.mk (hb); have n5_ := Aside0.mk (ho); clear HO_3; clear HO_6; clear HL429_0; clear HL433_0; clear HB; clear HO432; have HO_3 := n0_; have HO_6 := n1_; have HL429_0 := n2_; have HL433_0 := n3_; have HB := n4_; have HO436 := n5_; clear n0_ n1_ n2_ n3_ n4_ n5_; clear ho hb hg hat; have p57 : 0 ≤ ((ji53) : Int) := of_decide_eq_true (by first | (with_reducible assumption) | assumption); have q57 : ((ji53) : Int) < ((t407.length : Int) : Int) := of_decide_eq_true (by first | (with_reducible assumption) | assumption); obtain ⟨go57, co57, eo57, gb57, gl57, cl57, HG57⟩ := Kd.S_form HO_6.out (by omega); (first | cases eo57 | (injection eo57 with ea_ en_ ec_; (first | subst ea_ | (injection ea_ with ea_; subst ea_)); subst ec_; clear en_)); have GB57 := Aside0.mk gb57; have GG57 := Aside0.mk HG57; clear gb57 gl57 HG57; (first | simp only [add_plain] at hx433_0 | skip); obtain ⟨_, ce57, hcl57, hM57, hcc57, hfr57, _, _⟩ := Kd.S_elem HO_6.out [] ((ji53) : Int) p57 q57; obtain ⟨ve57_0, rfl, ge57_0⟩ := hM57; have hx57_0 := hcc57 0 _ rfl; have hf57_0 := hfr57 0; (try simp only [show ((Kd.slice 3 (Kd.int .i64))).sz = 1 from rfl, Nat.mul_one, Nat.add_zero] at hx57_0); (try simp only [show ((Kd.slice 3 (Kd.int .i64))).sz = 1 from rfl, Nat.mul_one, Nat.add_zero] at hf57_0); clear hcl57 hcc57 hfr57; (try clear hM57); replace p57 := eq_true p57; replace q57 := eq_true q57; have HX92 := Aside0.mk (show Kd.S (Kd.slice 3 (Kd.int .i64)) 32 w91 w.heap.size (fun k_ => ((fun k_ => some k_ ≠ (.slice (some ad429) t399.length co9 : Value).ownBlock)) k_ ∧ ¬ ((fun k_ => some k_ = (v435 : Value).ownBlock)) k_) (.slice (some ⟨go57, 0, none⟩) t407.length co19) t407 from (by (with_reducible repeat (first | apply Kd.S_alloc | apply Kd.S_drewN | apply Kd.S_drew)); exact Kd.S_mono HO_6.out (fun k_ hk => ⟨hk.1, fun e_ => hk.2 e_⟩))); obtain ⟨oki92, ce92, hcl92, hM92, hcc92, hfr92, hoki92, hH92⟩ := Kd.S_elem HX92.out [] ((ji53) : Int) (of_decide_eq_true (by first | (with_reducible assumption) | assumption)) (by have h_ : ((ji53) : Int) < ((t407.length : Int) : Int) := of_decide_eq_true (by first | (with_reducible assumption) | assumption); first | exact h_ | (have e_ := (Kd.S_reads' HO_6.out).1; omega) | simpa using h_); obtain ⟨ve92_0, rfl, ge92_0⟩ := hM92; have HP92 := Kd.S_seg hH92 (of_decide_eq_true (by first | (with_reducible assumption) | assumption)) (by have h_ : ((ji53) : Int) < ((t407.length : Int) : Int) := of_decide_eq_true (by first | (with_reducible assumption) | assumption); first | exact h_ | (have e_ := (Kd.S_reads' HO_6.out).1; omega) | simpa using h_) (seg := [v435]) (j := 0) (show 1 ≤ 1 from by decide) (x' := y434) (Kd.M_row (Kd.R_mono (Kd.R_tight rfl (Kd.R_mono (ok' := fun k_ => ((fun k_ => some k_ ≠ (.slice (some ad429) t399.length co9 : Value).ownBlock)) k_ ∧ k_ ≠ go57) (Kd.R_apart' (Kd.R_apart' (HO436.out) (Kd.S_typed HO_3.out) (by decide)) (Kd.S_typed HO_6.out) (by decide)) (fun k_ hk => ⟨hk.1.2, fun e_ => (hk.2) (by rw [e_]; rfl)⟩))) (fun _ h_ => Or.inr (h_)))) (fun _ hk => hk) (fun k_ hk_ => ((Kd.R_mono (ok' := fun k_ => ((fun k_ => some k_ ≠ (.slice (some ad429) t399.length co9 : Value).ownBlock)) k_ ∧ k_ ≠ go57) (Kd.R_apart' (Kd.R_apart' (HO436.out) (Kd.S_typed HO_3.out) (by decide)) (Kd.S_typed HO_6.out) (by decide)) (fun k_ hk => ⟨hk.1.2, fun e_ => (hk.2) (by rw [e_]; rfl)⟩))).1 k_ hk_.symm); have hx92_0 := hcc92 0 _ rfl; (try simp only [show ((Kd.slice 3 (Kd.int .i64))).sz = 1 from rfl, Nat.mul_one, Nat.add_zero] at hx92_0); have hf92_0 := hfr92 0; (try simp only [show ((Kd.slice 3 (Kd.int .i64))).sz = 1 from rfl, Nat.mul_one, Nat.add_zero] at hf92_0); clear hcl92 hcc92 hfr92 hoki92 hH92; (try clear hM92); (try simp only [show ((Kd.slice 3 (Kd.int .i64))).sz = 1 from rfl, Nat.mul_one, Nat.add_zero] at HP92)) | ((with_reducible refine gate_store (t := 32) (p := 130) rfl ?_); refine store_event (t := 32) (p := 130) (v := ?vo_w93) (w1 := (w91.setCell ⟨go57, ((ji53) : Int).toNat, none⟩ (v435))) ?hg ?ho ?hn ?hr ?_; (case ho => rfl); (case hg => rfl); (case hn => rfl); (case hr => first | (go_simp; done) | (go_simp; rfl) | ((first | (obtain ⟨_, _, rfl⟩ := Kd.R_slice (Aside0.out (show Aside0 (Kd.R _ _ _ _ _ v435 _) from by assumption))) | (obtain ⟨_, _, rfl⟩ := Kd.S_slice (Aside0.out (show Aside0 (Kd.S _ _ _ _ _ v435 _) from by assumption)))); first | (go_simp; done) | (go_simp; rfl))); intro w93 hw; have HV9 := Aside0.mk (show w93.cell? ⟨go57, ((ji53) : Int).toNat, none⟩ = some v435 from by rw [hw]; first | exact World.cell?_setCell_same hx92_0 | exact World.cell?_setCell_same _ _ _ hx92_0); have hg : w91.grownBy w93 (some go57) := (by rw [hw]; exact HP92.2); have hp_ : Kd.S (Kd.slice 3 (Kd.int .i64)) 32 w93 w.heap.size (fun k_ => some k_ ≠ (.slice (some ad429) t399.length co9 : Value).ownBlock) (.slice (some ⟨go57, 0, none⟩) t407.length co19) y437 := (by rw [hw, Ny437.out]; exact HP92.1); clear HP92; have n0_ := Aside0.mk (Kd.S_after (v := (.slice (some ⟨go57, 0, none⟩) t407.length co19)) (v1 := (.slice (some ⟨go57, 0, none⟩) t407.length co19)) (ok := (fun k_ => some k_ ≠ (v435 : Value).ownBlock)) (by (with_reducible repeat (first | apply Kd.S_alloc | apply Kd.S_drewN | apply Kd.S_drew)); exact Kd.S_mono HO_3.out (fun _ hk => ⟨hk.2, hk.1⟩)) hg (.inl rfl)); have n1_ := Aside0.mk (hp_); have n2_ := Aside0.mk (Kd.R_after (v := (.slice (some ⟨go57, 0, none⟩) t407.length co19)) (v1 := (.slice (some ⟨go57, 0, none⟩) t407.length co19)) (ok := (fun k_ => some k_ ≠ (.slice (some ad429) t399.length co9 : Value).ownBlock ∧ some k_ ≠ (v435 : Value).ownBlock)) (by (with_reducible repeat (first | apply Kd.R_alloc | apply Kd.R_drewN | apply Kd.R_drew)); exact Kd.R_mono HL429_0.out (fun _ hk => ⟨⟨hk.1.1, hk.2⟩, hk.1.2⟩)) hg (.inl rfl)); have n3_ := Aside0.mk (Kd.R_after (v := (.slice (some ⟨go57, 0, none⟩) t407.length co19)) (v1 := (.slice (some ⟨go57, 0, none⟩) t407.length co19)) (ok := (fun k_ => some k_ ≠ (.slice (some ad429) t399.length co9 : Value).ownBlock ∧ some k_ ≠ (v435 : Value).ownBlock)) (by (with_reducible repeat (first | apply Kd.R_alloc | apply Kd.R_drewN | apply Kd.R_drew)); exact Kd.R_mono HL433_0.out (fun _ hk => ⟨⟨hk.1.1, hk.2⟩, hk.1.2⟩)) hg (.inl rfl)); have n4_ := Aside0.mk ((by rw [hw]; exact below_set (HB.out) GB57.out : Below w.heap.size w w93)); clear HO_3; clear HO_6; clear HL429_0; clear HL433_0; clear HB; clear HO436; have HO_3 := n0_; have HO_6 := n1_; have HL429_0 := n2_; have HL433_0 := n3_; have HB := n4_; clear n0_ n1_ n2_ n3_ n4_; clear hg hw hp_))
                                        have n0_ := Aside0.mk (Kd.S_drew HO_3.out)
                                        have n1_ := Aside0.mk (Kd.S_drew HO_6.out)
                                        have n2_ := Aside0.mk (Kd.R_drew HL429_0.out)
                                        have n3_ := Aside0.mk (Kd.R_drew HL433_0.out)
                                        have n4_ := Aside0.mk (below_drew1 HB.out)
                                        clear HO_3
                                        clear HO_6
                                        clear HL429_0
                                        clear HL433_0
                                        clear HB
                                        have HO_3 := n0_
                                        have HO_6 := n1_
                                        have HL429_0 := n2_
                                        have HL433_0 := n3_
                                        have HB := n4_
                                        clear n0_ n1_ n2_ n3_ n4_
                                        have p438 : 0 ≤ ((ji53) : Int) := of_decide_eq_true (by first | (with_reducible assumption) | assumption)
                                        have q438 : (ji53) < (y437.length : Int) := (by have h_ : ((ji53) : Int) < ((t407.length : Int) : Int) := of_decide_eq_true (by first | (with_reducible assumption) | assumption); first | (have e_ := (Kd.S_reads' HO_6.out).1; omega) | simpa only [Ny437.out, List.length_set] using h_)
                                        have ql438 : (((ji53) : Int) < ((t407.length : Int) : Int)) = True := eq_true (of_decide_eq_true (by first | (with_reducible assumption) | assumption))
                                        obtain ⟨ad438, A438_0, c438_0, e438, hx438_0, hl438_0, hi438_0⟩ := at_L1 (Kd.S_reads' HO_6.out).2.2 (ji53) p438 q438
                                        obtain rfl : (⟨go57, 0, none⟩ : Addr) = ad438 := (by injection e438)
                                        obtain ⟨ce438, hce438, hMe438, hcc438⟩ := Kd.S_get HO_6.out [] (ji53) p438 (by first | exact q438 | exact of_decide_eq_true (by first | (with_reducible assumption) | assumption) | (have e_ := (Kd.S_reads' HO_6.out).1; omega))
                                        obtain ⟨ve438_0, rfl, ge438_0⟩ := hMe438
                                        have hv438_0 := hcc438 0 _ rfl
                                        rw [Nat.add_zero, show ((Kd.slice 3 (Kd.int .i64))).sz = 1 from rfl, Nat.mul_one] at hv438_0
                                        replace hv438_0 := Option.some.inj (hv438_0.symm.trans hx438_0)
                                        rw [hv438_0] at ge438_0
                                        have HL438_0 := Aside0.mk (show Kd.R (Kd.int .i64) 3 _ _ _ _ (rd_L1 y437 (ji53)) from ge438_0)
                                        clear hv438_0 ge438_0
                                        have HX438_0 := Aside0.mk hx438_0
                                        have HVE := Aside0.mk (show v435 = .slice A438_0 (rd_L1 y437 (ji53)).length c438_0 from Option.some.inj (HV9.out.symm.trans (by first | exact HX438_0.out | (have h_ := HX438_0.out; simp only [add_plain, Nat.zero_add, Nat.mul_one] at h_; exact h_) | (have h_ := HX438_0.out; simp only [add_at, Nat.zero_add, Nat.mul_one] at h_; exact h_))))
                                        clear hcc438 hce438
                                        (first | simp only [add_plain] at hx438_0 | simp only [add_at] at hx438_0 | simp only [Addr.add, Nat.zero_add] at hx438_0 | skip)
                                        have HR438_0 := Aside0.mk hi438_0
                                        have HC438_0 := Aside0.mk hl438_0
                                        clear hi438_0 hl438_0
                                        replace p438 := eq_true p438
                                        replace q438 := eq_true q438
                                        have p439 : 0 ≤ ((ji53) : Int) := of_decide_eq_true (by first | (with_reducible assumption) | assumption)
                                        have q439 : (ji53) < (y437.length : Int) := (by have h_ : ((ji53) : Int) < ((t407.length : Int) : Int) := of_decide_eq_true (by first | (with_reducible assumption) | assumption); first | (have e_ := (Kd.S_reads' HO_6.out).1; omega) | simpa only [Ny437.out, List.length_set] using h_)
                                        have ql439 : (((ji53) : Int) < ((t407.length : Int) : Int)) = True := eq_true (of_decide_eq_true (by first | (with_reducible assumption) | assumption))
                                        obtain ⟨ad439, A439_0, c439_0, e439, hx439_0, hl439_0, hi439_0⟩ := at_L1 (Kd.S_reads' HO_6.out).2.2 (ji53) p439 q439
                                        obtain rfl : (⟨go57, 0, none⟩ : Addr) = ad439 := (by injection e439)
                                        obtain ⟨ce439, hce439, hMe439, hcc439⟩ := Kd.S_get HO_6.out [] (ji53) p439 (by first | exact q439 | exact of_decide_eq_true (by first | (with_reducible assumption) | assumption) | (have e_ := (Kd.S_reads' HO_6.out).1; omega))
                                        obtain ⟨ve439_0, rfl, ge439_0⟩ := hMe439
                                        have hv439_0 := hcc439 0 _ rfl
                                        rw [Nat.add_zero, show ((Kd.slice 3 (Kd.int .i64))).sz = 1 from rfl, Nat.mul_one] at hv439_0
                                        replace hv439_0 := Option.some.inj (hv439_0.symm.trans hx439_0)
                                        rw [hv439_0] at ge439_0
                                        have HL439_0 := Aside0.mk (show Kd.R (Kd.int .i64) 3 _ _ _ _ (rd_L1 y437 (ji53)) from ge439_0)
                                        clear hv439_0 ge439_0
                                        have HX439_0 := Aside0.mk hx439_0
                                        clear hcc439 hce439
                                        (first | simp only [add_plain] at hx439_0 | simp only [add_at] at hx439_0 | simp only [Addr.add, Nat.zero_add] at hx439_0 | skip)
                                        have HR439_0 := Aside0.mk hi439_0
                                        have HC439_0 := Aside0.mk hl439_0
                                        clear hi439_0 hl439_0
                                        replace p439 := eq_true p439
                                        replace q439 := eq_true q439
                                        have ea_ := Option.some.inj (hx438_0.symm.trans hx439_0)
                                        injection ea_ with ea_ en_ ec_
                                        subst ea_
                                        subst ec_
                                        clear en_
                                        have p440 : 0 ≤ ((ji58) : Int) := of_decide_eq_true (by first | (with_reducible assumption) | assumption)
                                        have q440 : (ji58) < ((rd_L1 y437 (ji53)).length : Int) := of_decide_eq_true (by first | (with_reducible assumption) | assumption)
                                        obtain ⟨ad440, e440, hx440_0⟩ := Kd.at_int (by repeat (first | (with_reducible exact HR439_0.out) | (with_reducible refine Kd.C_alloc ?_ _) | (with_reducible refine Kd.C_drewN ?_ _) | (with_reducible refine Kd.C_drew ?_) | exact HR439_0.out)) (ji58) p440 q440
                                        cases e440
                                        replace p440 := eq_true p440
                                        replace q440 := eq_true q440
                                        refine start_ (n := 20) (S := fun w' => w'.cell? ⟨go57, ((ji53)).toNat, none⟩ = some (.slice (some ad440) (rd_L1 y437 (ji53)).length c438_0) ∧ w'.cell? ⟨go57, ((ji53)).toNat, none⟩ = some (.slice (some ad440) (rd_L1 y437 (ji53)).length c438_0) ∧ w'.cell? (ad440.add ((ji58)).toNat) = some (.int .i64 (rd (rd_L1 y437 (ji53)) (ji58)))) (ds := [19]) #[false, false, false, false, false, false, false, false, false, false, false, false, false, false, false, false, false, false, false, false] (by kernel_rfl) rfl rfl ⟨hx438_0, hx439_0, hx440_0⟩ (fun hHeld => ?_); refine with_tabW laws_FnRecords.tab23 laws_FnRecords.bits23 (fun HT_ HW_ => ?_)
                                        generalize w93.drew = w94 at HO_3 HO_6 HL429_0 HL433_0 HB HL438_0 HL439_0 HR438_0 HR439_0 HX438_0 HX439_0 hx438_0 hx439_0 hx440_0 hHeld ⊢
                                        refine pure_ (i := 0) (N := some 131) (v := ?_) (a' := ?_) #[true, false, false, false, false, false, false, false, false, false, false, false, false, false, false, false, false, false, false, false] rfl rfl (any_of HT_.out (by kernel_rfl)) (fun _ _ _ h => h) (Or.inl ⟨by rfl, ?_⟩) ?_ ?_
                                        rotate_left
                                        · intro w'
                                          go_simp
                                          with_reducible rfl
                                        rotate_left
                                        · simp only [Act.put, List.setIfInBounds_toArray, List.set_cons_zero, List.set_cons_succ, i64_w, i32_w]
                                          rfl
                                        refine pure_ (i := 1) (N := some 132) (v := ?_) (a' := ?_) #[true, true, false, false, false, false, false, false, false, false, false, false, false, false, false, false, false, false, false, false] rfl rfl (any_of HT_.out (by kernel_rfl)) (fun _ _ _ h => h) (Or.inl ⟨by rfl, ?_⟩) ?_ ?_
                                        rotate_left
                                        · intro w'
                                          go_simp
                                          with_reducible rfl
                                        rotate_left
                                        · simp only [Act.put, List.setIfInBounds_toArray, List.set_cons_zero, List.set_cons_succ, i64_w, i32_w]
                                          rfl
                                        refine pure_ (i := 2) (N := some 133) (v := ?_) (a' := ?_) #[true, true, true, false, false, false, false, false, false, false, false, false, false, false, false, false, false, false, false, false] rfl rfl (any_of HT_.out (by kernel_rfl)) (fun _ _ _ h => h) (Or.inl ⟨by rfl, ?_⟩) ?_ ?_
                                        rotate_left
                                        · intro w'
                                          go_simp
                                          with_reducible rfl
                                        rotate_left
                                        · simp only [Act.put, List.setIfInBounds_toArray, List.set_cons_zero, List.set_cons_succ, i64_w, i32_w]
                                          rfl
                                        refine pure_ (i := 4) (N := some 135) (v := ?_) (a' := ?_) #[true, true, true, false, true, false, false, false, false, false, false, false, false, false, false, false, false, false, false, false] rfl rfl (any_of HT_.out (by kernel_rfl)) (fun _ _ _ h => h) (Or.inl ⟨by rfl, ?_⟩) ?_ ?_
                                        rotate_left
                                        · intro w'
                                          go_simp
                                          with_reducible rfl
                                        rotate_left
                                        · simp only [Act.put, List.setIfInBounds_toArray, List.set_cons_zero, List.set_cons_succ, i64_w, i32_w]
                                          rfl
                                        refine pure_ (i := 5) (N := some 136) (v := ?_) (a' := ?_) #[true, true, true, false, true, true, false, false, false, false, false, false, false, false, false, false, false, false, false, false] rfl rfl (any_of HT_.out (by kernel_rfl)) (fun _ _ _ h => h) (Or.inl ⟨by rfl, ?_⟩) ?_ ?_
                                        rotate_left
                                        · intro w'
                                          go_simp
                                          with_reducible rfl
                                        rotate_left
                                        · simp only [Act.put, List.setIfInBounds_toArray, List.set_cons_zero, List.set_cons_succ, i64_w, i32_w]
                                          rfl
                                        refine pure_ (i := 6) (N := some 137) (v := ?_) (a' := ?_) #[true, true, true, false, true, true, true, false, false, false, false, false, false, false, false, false, false, false, false, false] rfl rfl (any_of HT_.out (by kernel_rfl)) (fun _ _ _ h => h) (Or.inl ⟨by rfl, ?_⟩) ?_ ?_
                                        rotate_left
                                        · intro w'
                                          go_simp
                                          with_reducible rfl
                                        rotate_left
                                        · simp only [Act.put, List.setIfInBounds_toArray, List.set_cons_zero, List.set_cons_succ, i64_w, i32_w]
                                          rfl
                                        refine pure_ (i := 7) (N := some 138) (v := ?_) (a' := ?_) #[true, true, true, false, true, true, true, true, false, false, false, false, false, false, false, false, false, false, false, false] rfl rfl (any_of HT_.out (by kernel_rfl)) (fun _ _ _ h => h) (Or.inl ⟨by rfl, ?_⟩) ?_ ?_
                                        rotate_left
                                        · intro w'
                                          go_simp
                                          with_reducible rfl
                                        rotate_left
                                        · simp only [Act.put, List.setIfInBounds_toArray, List.set_cons_zero, List.set_cons_succ, i64_w, i32_w]
                                          rfl
                                        refine pure_ (i := 9) (N := some 140) (v := ?_) (a' := ?_) #[true, true, true, false, true, true, true, true, false, true, false, false, false, false, false, false, false, false, false, false] rfl rfl (any_of HT_.out (by kernel_rfl)) (fun _ _ _ h => h) (Or.inl ⟨by rfl, ?_⟩) ?_ ?_
                                        rotate_left
                                        · intro w'
                                          go_simp
                                          with_reducible rfl
                                        rotate_left
                                        · simp only [Act.put, List.setIfInBounds_toArray, List.set_cons_zero, List.set_cons_succ, i64_w, i32_w]
                                          rfl
                                        refine pure_ (i := 13) (N := some 144) (v := ?_) (a' := ?_) #[true, true, true, false, true, true, true, true, false, true, false, false, false, true, false, false, false, false, false, false] rfl rfl (any_of HT_.out (by kernel_rfl)) (fun _ _ _ h => h) (Or.inl ⟨by rfl, ?_⟩) ?_ ?_
                                        rotate_left
                                        · intro w'
                                          go_simp
                                          with_reducible rfl
                                        rotate_left
                                        · simp only [Act.put, List.setIfInBounds_toArray, List.set_cons_zero, List.set_cons_succ, i64_w, i32_w]
                                          rfl
                                        refine take_ (i := 3) (N := some 134) (v := ?_) (a' := ?_) #[true, true, true, true, true, true, true, true, false, true, false, false, false, true, false, false, false, false, false, false] rfl rfl (take_ofW HT_.out HW_.out (by kernel_rfl)) (fun _ _ _ h => h) (Or.inl ⟨by rfl, ?_⟩) hHeld ?_ ?_
                                        rotate_left
                                        · rintro w' ⟨s0, s1, s2⟩
                                          go_simp
                                          with_reducible rfl
                                        rotate_left
                                        · simp only [Act.put, List.setIfInBounds_toArray, List.set_cons_zero, List.set_cons_succ, i64_w, i32_w]
                                          rfl
                                        refine take_ (i := 8) (N := some 139) (v := ?_) (a' := ?_) #[true, true, true, true, true, true, true, true, true, true, false, false, false, true, false, false, false, false, false, false] rfl rfl (take_ofW HT_.out HW_.out (by kernel_rfl)) (fun _ _ _ h => h) (Or.inl ⟨by rfl, ?_⟩) hHeld ?_ ?_
                                        rotate_left
                                        · rintro w' ⟨s0, s1, s2⟩
                                          go_simp
                                          with_reducible rfl
                                        rotate_left
                                        · simp only [Act.put, List.setIfInBounds_toArray, List.set_cons_zero, List.set_cons_succ, i64_w, i32_w]
                                          rfl
                                        refine pure_ (i := 10) (N := some 141) (v := ?_) (a' := ?_) #[true, true, true, true, true, true, true, true, true, true, true, false, false, true, false, false, false, false, false, false] rfl rfl (any_of HT_.out (by kernel_rfl)) (fun _ _ _ h => h) (Or.inl ⟨by rfl, ?_⟩) ?_ ?_
                                        rotate_left
                                        · intro w'
                                          go_simp
                                          with_reducible rfl
                                        rotate_left
                                        · simp only [Act.put, List.setIfInBounds_toArray, List.set_cons_zero, List.set_cons_succ, i64_w, i32_w]
                                          rfl
                                        refine take_ (i := 11) (N := some 142) (v := ?_) (a' := ?_) #[true, true, true, true, true, true, true, true, true, true, true, true, false, true, false, false, false, false, false, false] rfl rfl (take_ofW HT_.out HW_.out (by kernel_rfl)) (fun _ _ _ h => h) (Or.inl ⟨by rfl, ?_⟩) hHeld ?_ ?_
                                        rotate_left
                                        · rintro w' ⟨s0, s1, s2⟩
                                          go_simp
                                          with_reducible rfl
                                        rotate_left
                                        · simp only [Act.put, List.setIfInBounds_toArray, List.set_cons_zero, List.set_cons_succ, i64_w, i32_w]
                                          rfl
                                        refine pure_ (i := 12) (N := some 143) (v := ?_) (a' := ?_) #[true, true, true, true, true, true, true, true, true, true, true, true, true, true, false, false, false, false, false, false] rfl rfl (any_of HT_.out (by kernel_rfl)) (fun _ _ _ h => h) (Or.inl ⟨by rfl, ?_⟩) ?_ ?_
                                        rotate_left
                                        · intro w'
                                          go_simp
                                          with_reducible rfl
                                        rotate_left
                                        · simp only [Act.put, List.setIfInBounds_toArray, List.set_cons_zero, List.set_cons_succ, i64_w, i32_w]
                                          rfl
                                        refine one_ (i := 14) (N := some 145) #[true, true, true, true, true, true, true, true, true, true, true, true, true, true, true, false, false, false, false, false] rfl rfl (one_of HT_.out (by kernel_rfl)) (by decide) (fun K hK => ?_)
                                        refine goes_ Try.func22 (by kernel_rfl) rfl #[.slice A0 l0.length c0, .int .i64 3] (by rfl) rfl rfl (by (try simp only [List.map_toArray, List.map_cons, List.map_nil]); first | done | rfl | (simp only [List.length_drop, List.length_take]; rfl)) ?_
                                        with_reducible refine (laws_at.calls _ _ l0 3 t441 _ ?side1 ?side2 A61.out).mono ?_
                                        (case side1 => repeat (first | exact (Kd.C_below HR0.out HB.out) | (with_reducible refine Kd.C_alloc ?_ _) | (with_reducible refine Kd.C_drewN ?_ _) | (with_reducible refine Kd.C_drew ?_)))
                                        (case side2 => exact HC0.out)
                                        rintro e w' ⟨rfl, ⟨nd, rfl⟩⟩
                                        refine ⟨_, rfl, ?_⟩
                                        have p62 : 0 ≤ ((ji58) : Int) := of_decide_eq_true (by first | (with_reducible assumption) | assumption)
                                        have q62 : ((ji58) : Int) < (((rd_L1 y437 (ji53)).length : Int) : Int) := of_decide_eq_true (by first | (with_reducible assumption) | assumption)
                                        obtain ⟨go62, co62, eo62, gb62, gl62, cl62, HG62⟩ := Kd.R_form HL438_0.out (by omega)
                                        (first | cases eo62 | (injection eo62 with ea_ en_ ec_; (first | subst ea_ | (injection ea_ with ea_; subst ea_)); subst ec_; clear en_))
                                        have GB62 := Aside0.mk gb62
                                        have GG62 := Aside0.mk HG62
                                        clear gb62 gl62 HG62
                                        (first | simp only [add_plain] at hx440_0 | skip)
                                        obtain ⟨hx62_0, hf62_0⟩ := Kd.R_celln 0 HL438_0.out ((ji58) : Int) p62 q62
                                        replace p62 := eq_true p62
                                        replace q62 := eq_true q62
                                        have hq95 : ((ji53) : Int) < (y437.length : Int) := (by have h_ : ((ji53) : Int) < ((t407.length : Int) : Int) := of_decide_eq_true (by first | (with_reducible assumption) | assumption); first | exact h_ | (have e_ := (Kd.S_reads' HO_6.out).1; omega) | simpa only [Ny437.out, List.length_set] using h_)
                                        obtain ⟨oki95, ce95, hcl95, hM95, hcc95, hok95, hbk95⟩ := Kd.S_borrow HO_6.out [] ((ji53) : Int) (of_decide_eq_true (by first | (with_reducible assumption) | assumption)) (by first | exact hq95 | (have e_ := (Kd.S_reads' HO_6.out).1; omega))
                                        obtain ⟨ve95_0, rfl, ge95_0⟩ := hM95
                                        have hv95 := hcc95 0 _ rfl
                                        rw [Nat.add_zero, show ((Kd.slice 3 (Kd.int .i64))).sz = 1 from rfl, Nat.mul_one] at hv95
                                        replace hv95 := Option.some.inj (hv95.symm.trans HX438_0.out)
                                        subst hv95
                                        clear hcc95 hcl95
                                        replace ge95_0 := (show Kd.R (Kd.int .i64) 3 _ _ _ _ (rd_L1 y437 (ji53)) from ge95_0)
                                        have HP95 := Kd.R_putg ge95_0 ((ji58) : Int) (wrap64 ((wrap64 ((rd (rd_L1 y437 (ji53)) (ji58)) + 1)) - (wrap64 (2 * (Int.tmod t441 2)))))
                                        rw [← Ny442.out] at HP95
                                        have HS95 := hbk95 HP95.2 (fun k_ e_ => by injection e_ with e_; subst e_; exact ge95_0.1 _ rfl) (x' := y442) (Kd.M_row HP95.1)
                                        rw [← Ny444.out] at HS95
                                        have HQ95 := Aside0.mk HS95
                                        clear HP95 HS95 hbk95 hok95
                                        refine hK.out _ _ ⟨hHeld.1, hHeld.2.1, hHeld.2.2⟩ (fun hHeld => ?_)
                                        clear hK K
                                        refine norm_ (a' := ?_) ?_ ?_
                                        rotate_left
                                        · show Act.put _ (some 145) _ = _
                                          simp only [Act.put, List.setIfInBounds_toArray, List.set_cons_zero, List.set_cons_succ, i64_w, i32_w]
                                          rfl
                                        refine pure_ (i := 15) (N := some 146) (v := ?_) (a' := ?_) #[true, true, true, true, true, true, true, true, true, true, true, true, true, true, true, true, false, false, false, false] rfl rfl (any_of HT_.out (by kernel_rfl)) (fun _ _ _ h => h) (Or.inl ⟨by rfl, ?_⟩) ?_ ?_
                                        rotate_left
                                        · intro w'
                                          go_simp
                                          with_reducible rfl
                                        rotate_left
                                        · simp only [Act.put, List.setIfInBounds_toArray, List.set_cons_zero, List.set_cons_succ, i64_w, i32_w]
                                          rfl
                                        refine pure_ (i := 16) (N := some 147) (v := ?_) (a' := ?_) #[true, true, true, true, true, true, true, true, true, true, true, true, true, true, true, true, true, false, false, false] rfl rfl (any_of HT_.out (by kernel_rfl)) (fun _ _ _ h => h) (Or.inl ⟨by rfl, ?_⟩) ?_ ?_
                                        rotate_left
                                        · intro w'
                                          go_simp
                                          with_reducible rfl
                                        rotate_left
                                        · simp only [Act.put, List.setIfInBounds_toArray, List.set_cons_zero, List.set_cons_succ, i64_w, i32_w]
                                          rfl
                                        refine pure_ (i := 17) (N := some 148) (v := ?_) (a' := ?_) #[true, true, true, true, true, true, true, true, true, true, true, true, true, true, true, true, true, true, false, false] rfl rfl (any_of HT_.out (by kernel_rfl)) (fun _ _ _ h => h) (Or.inl ⟨by rfl, ?_⟩) ?_ ?_
                                        rotate_left
                                        · intro w'
                                          go_simp
                                          with_reducible rfl
                                        rotate_left
                                        · simp only [Act.put, List.setIfInBounds_toArray, List.set_cons_zero, List.set_cons_succ, i64_w, i32_w]
                                          rfl
                                        refine pure_ (i := 18) (N := some 149) (v := ?_) (a' := ?_) #[true, true, true, true, true, true, true, true, true, true, true, true, true, true, true, true, true, true, true, false] rfl rfl (any_of HT_.out (by kernel_rfl)) (fun _ _ _ h => h) (Or.inl ⟨by rfl, ?_⟩) ?_ ?_
                                        rotate_left
                                        · intro w'
                                          go_simp
                                          with_reducible rfl
                                        rotate_left
                                        · simp only [Act.put, List.setIfInBounds_toArray, List.set_cons_zero, List.set_cons_succ, i64_w, i32_w]
                                          rfl
                                        refine last_ (i := 19) (N := none) #[true, true, true, true, true, true, true, true, true, true, true, true, true, true, true, true, true, true, true, true] rfl rfl (one_of HT_.out (by kernel_rfl)) (by decide) (fun K hK => ?_)
                                        refine skip_ (w1 := ?_) (by rfl) rfl ?_ ?_
                                        rotate_left
                                        · go_simp
                                          rfl
                                        refine hK.out _ _ ?_
                                        clear hK K
                                        refine done_ (done_of HT_.out (by kernel_rfl)) ?_
                                        go_upto_if 174 with (first | ((with_reducible refine gate_callee (f := 17) rfl ?_); refine goesL_ (some 153) rfl rfl Try.func17 (by kernel_rfl) rfl #[.slice (some ad429) t399.length co9, .slice (some ⟨go57, 0, none⟩) y444.length co19] rfl (by (try simp only [List.map_toArray, List.map_cons, List.map_nil]); first | done | (rw [show y444.length = t407.length from (Kd.S_reads' HQ95.out).1.symm] <;> rfl) | rfl | (simp only [List.length_drop, List.length_take]; rfl)) ?_; (with_reducible refine (impl_Same20.calls kj27 _ _ t399 _ _ y444 t445 t446 t447 _ ?side1 ?side2 ?side3 ?side4 A63.out).mono ?_); (case side1 => refine (Kd.S_reads' (e := 32) (base := w.heap.size) (ok := fun k_ => some k_ ≠ (.slice (some ⟨go57, 0, none⟩) t407.length co19 : Value).ownBlock) (n := t399.length) (c := co9) ?_).2.2; exact (by (with_reducible repeat (first | apply Kd.S_alloc | apply Kd.S_drewN | apply Kd.S_drew)); exact Kd.S_mono (Kd.S_far (p := ⟨go62, ((ji58) : Int).toNat, none⟩) (S_and_ HO_3.out (Q := fun k_ => k_ ≠ go62) (fun k_ hk_ e_ => hk_.1 (by rw [HVE.out, e_]; rfl))) (fun _ hk => hk.2) (.int .i64 (wrap64 ((wrap64 ((rd (rd_L1 y437 (ji53)) (ji58)) + 1)) - (wrap64 (2 * (Int.tmod t441 2))))))) (fun _ hk => hk.1.2))); (case side2 => exact (Kd.S_reads' HO_3.out).2.1); (case side3 => refine (Kd.S_reads' (e := 32) (base := w.heap.size) (ok := fun k_ => some k_ ≠ (.slice (some ad429) t399.length co9 : Value).ownBlock) (n := t407.length) (c := co19) ?_).2.2; exact (by (with_reducible repeat (first | apply Kd.S_alloc | apply Kd.S_drewN | apply Kd.S_drew)); exact HQ95.out)); (case side4 => rw [show y444.length = t407.length from (Kd.S_reads' HQ95.out).1.symm]; exact (Kd.S_reads' HO_6.out).2.1); rintro e w97 ⟨rfl, hb⟩; refine ⟨_, rfl, ?_⟩; have n0_ := Aside0.mk (Kd.S_below (by (with_reducible repeat (first | apply Kd.S_alloc | apply Kd.S_drewN | apply Kd.S_drew)); exact (Kd.S_mono (Kd.S_far (p := ⟨go62, ((ji58) : Int).toNat, none⟩) (S_and_ HO_3.out (Q := fun k_ => k_ ≠ go62) (fun k_ hk_ e_ => hk_.1 (by rw [HVE.out, e_]; rfl))) (fun _ hk => hk.2) (.int .i64 (wrap64 ((wrap64 ((rd (rd_L1 y437 (ji53)) (ji58)) + 1)) - (wrap64 (2 * (Int.tmod t441 2))))))) (fun _ h_ => h_.1))) hb); have n1_ := Aside0.mk (Kd.S_below (by (with_reducible repeat (first | apply Kd.S_alloc | apply Kd.S_drewN | apply Kd.S_drew)); exact HQ95.out) hb); have n2_ := Aside0.mk (below_step (by repeat (first | (with_reducible first | exact HB.out | apply below_alloc | apply pw_below_drewN | apply below_drew1 | refine below_set ?_ GB62.out) | exact HB.out)) hb); clear HO_3; clear HO_6; clear HB; have HO_3 := n0_; have HO_6 := n1_; have HB := n2_; clear n0_ n1_ n2_; (try clear hb); (try clear hb2); (try clear hk); (try clear hi); have p448 : 0 ≤ ((ji53) : Int) := of_decide_eq_true (by first | (with_reducible assumption) | assumption); have q448 : (ji53) < (y444.length : Int) := (by have h_ : ((ji53) : Int) < ((t407.length : Int) : Int) := of_decide_eq_true (by first | (with_reducible assumption) | assumption); first | (have e_ := (Kd.S_reads' HO_6.out).1; omega) | simpa only [Ny437.out, Ny444.out, List.length_set] using h_); have ql448 : (((ji53) : Int) < ((t407.length : Int) : Int)) = True := eq_true (of_decide_eq_true (by first | (with_reducible assumption) | assumption)); obtain ⟨ad448, A448_0, c448_0, e448, hx448_0, hl448_0, hi448_0⟩ := at_L1 (Kd.S_reads' HO_6.out).2.2 (ji53) p448 q448; obtain rfl : (⟨go57, 0, none⟩ : Addr) = ad448 := (by injection e448); obtain ⟨ce448, hce448, hMe448, hcc448⟩ := Kd.S_get HO_6.out [] (ji53) p448 (by first | exact q448 | exact of_decide_eq_true (by first | (with_reducible assumption) | assumption) | (have e_ := (Kd.S_reads' HO_6.out).1; omega)); obtain ⟨ve448_0, rfl, ge448_0⟩ := hMe448; have hv448_0 := hcc448 0 _ rfl; rw [Nat.add_zero, show ((Kd.slice 3 (Kd.int .i64))).sz = 1 from rfl, Nat.mul_one] at hv448_0; replace hv448_0 := Option.some.inj (hv448_0.symm.trans hx448_0); rw [hv448_0] at ge448_0; have HL448_0 := Aside0.mk (show Kd.R (Kd.int .i64) 3 _ _ _ _ (rd_L1 y444 (ji53)) from ge448_0); clear hv448_0 ge448_0; have HX448_0 := Aside0.mk hx448_0; clear hcc448 hce448; (first | simp only [add_plain] at hx448_0 | simp only [add_at] at hx448_0 | simp only [Addr.add, Nat.zero_add] at hx448_0 | skip); have HR448_0 := Aside0.mk hi448_0; have HC448_0 := Aside0.mk hl448_0; clear hi448_0 hl448_0; replace p448 := eq_true p448; replace q448 := eq_true q448; have p449 : 0 ≤ ((ji58) : Int) := of_decide_eq_true (by first | (with_reducible assumption) | assumption); have q449 : (ji58) < ((rd_L1 y444 (ji53)).length : Int) := of_decide_eq_true (by first | (with_reducible assumption) | assumption); obtain ⟨ad449, e449, hx449_0⟩ := Kd.at_int (by repeat (first | (with_reducible exact HR448_0.out) | (with_reducible refine Kd.C_alloc ?_ _) | (with_reducible refine Kd.C_drewN ?_ _) | (with_reducible refine Kd.C_drew ?_) | exact HR448_0.out)) (ji58) p449 q449; cases e449; replace p449 := eq_true p449; replace q449 := eq_true q449; have p450 : 0 ≤ ((ji53) : Int) := of_decide_eq_true (by first | (with_reducible assumption) | assumption); have q450 : (ji53) < (y444.length : Int) := (by have h_ : ((ji53) : Int) < ((t407.length : Int) : Int) := of_decide_eq_true (by first | (with_reducible assumption) | assumption); first | (have e_ := (Kd.S_reads' HO_6.out).1; omega) | simpa only [Ny437.out, Ny444.out, List.length_set] using h_); have ql450 : (((ji53) : Int) < ((t407.length : Int) : Int)) = True := eq_true (of_decide_eq_true (by first | (with_reducible assumption) | assumption)); obtain ⟨ad450, A450_0, c450_0, e450, hx450_0, hl450_0, hi450_0⟩ := at_L1 (Kd.S_reads' HO_6.out).2.2 (ji53) p450 q450; obtain rfl : (⟨go57, 0, none⟩ : Addr) = ad450 := (by injection e450); obtain ⟨ce450, hce450, hMe450, hcc450⟩ := Kd.S_get HO_6.out [] (ji53) p450 (by first | exact q450 | exact of_decide_eq_true (by first | (with_reducible assumption) | assumption) | (have e_ := (Kd.S_reads' HO_6.out).1; omega)); obtain ⟨ve450_0, rfl, ge450_0⟩ := hMe450; have hv450_0 := hcc450 0 _ rfl; rw [Nat.add_zero, show ((Kd.slice 3 (Kd.int .i64))).sz = 1 from rfl, Nat.mul_one] at hv450_0; replace hv450_0 := Option.some.inj (hv450_0.symm.trans hx450_0); rw [hv450_0] at ge450_0; have HL450_0 := Aside0.mk (show Kd.R (Kd.int .i64) 3 _ _ _ _ (rd_L1 y444 (ji53)) from ge450_0); clear hv450_0 ge450_0; have HX450_0 := Aside0.mk hx450_0; clear hcc450 hce450; (first | simp only [add_plain] at hx450_0 | simp only [add_at] at hx450_0 | simp only [Addr.add, Nat.zero_add] at hx450_0 | skip); have HR450_0 := Aside0.mk hi450_0; have HC450_0 := Aside0.mk hl450_0; clear hi450_0 hl450_0; replace p450 := eq_true p450; replace q450 := eq_true q450; have ea_ := Option.some.inj (hx448_0.symm.trans hx450_0); injection ea_ with ea_ en_ ec_; subst ea_; subst ec_; clear en_; have p451 : 0 ≤ ((ji58) : Int) := of_decide_eq_true (by first | (with_reducible assumption) | assumption); have q451 : (ji58) < ((rd_L1 y444 (ji53)).length : Int) := of_decide_eq_true (by first | (with_reducible assumption) | assumption); obtain ⟨ad451, e451, hx451_0⟩ := Kd.at_int (by repeat (first | (with_reducible exact HR450_0.out) | (with_reducible refine Kd.C_alloc ?_ _) | (with_reducible refine Kd.C_drewN ?_ _) | (with_reducible refine Kd.C_drew ?_) | exact HR450_0.out)) (ji58) p451 q451; cases e451; replace p451 := eq_true p451; replace q451 := eq_true q451))
                                        have H := HC87.out
                                        clear HC87
                                        by_cases c98 : (rd (rd_L1 y444 (ji53)) (ji58)) < (-30000)
                                        · rw [if_pos c98] at H
                                          have c98b0 : decide ((rd (rd_L1 y444 (ji53)) (ji58)) < (-30000)) = true := decide_eq_true c98
                                          clear c98
                                          (first | rw [c98b0] | (simp only [i64_w, i32_w]; rw [c98b0]) | skip)
                                          by_cases c99 : t447 = true
                                          · subst c99
                                            have H1 : (some false) = some r := by rw [if_pos rfl] at H; exact H
                                            clear H
                                            have H := H1
                                            clear H1
                                            cases H.trans (congrArg some hr_)
                                          · replace c99 := Bool.eq_false_iff.mpr c99
                                            subst c99
                                            have H1 : (some (t445 == (-2))) = some r := by rw [if_neg (show ¬ (false = true) by decide)] at H; exact H
                                            clear H
                                            have H := H1
                                            clear H1
                                            obtain rfl := Option.some.inj H
                                            go_wp2
                                            go_ret
                                            exact ⟨by first | rfl | (simp [errW_none, errW_some] <;> rfl) | (simp only [← hji53, ← hji58]; first | rfl | (simp [errW_none, errW_some] <;> rfl)) | (simp [*, errW_none, errW_some] <;> rfl), by repeat (first | (with_reducible first | exact HB.out | apply below_alloc | apply pw_below_drewN | apply below_drew1) | exact HB.out)⟩
                                        · rw [if_neg c98] at H
                                          have c98b0 : decide ((rd (rd_L1 y444 (ji53)) (ji58)) < (-30000)) = false := decide_eq_false c98
                                          clear c98
                                          (first | rw [c98b0] | (simp only [i64_w, i32_w]; rw [c98b0]) | skip)
                                          by_cases c100 : t447 = true
                                          · subst c100
                                            have H1 : (some false) = some r := by rw [if_pos rfl] at H; exact H
                                            clear H
                                            have H := H1
                                            clear H1
                                            cases H.trans (congrArg some hr_)
                                          · replace c100 := Bool.eq_false_iff.mpr c100
                                            subst c100
                                            have H1 : (if t445 = (ji53) then (some (t446 == (ji58))) else (some false)) = some r := by rw [if_neg (show ¬ (false = true) by decide)] at H; exact H
                                            clear H
                                            have H := H1
                                            clear H1
                                            by_cases c101 : t445 = (ji53)
                                            · rw [if_pos c101] at H
                                              have c101b0 : (t445 == (ji53)) = true := beq_iff_eq.mpr c101
                                              have c101b1 : (t445 != (ji53)) = false := bne_eq_false_iff_eq.mpr c101
                                              clear c101
                                              obtain rfl := Option.some.inj H
                                              go_wp2
                                              go_ret
                                              exact ⟨by first | rfl | (simp [errW_none, errW_some] <;> rfl) | (simp only [← hji53, ← hji58]; first | rfl | (simp [errW_none, errW_some] <;> rfl)) | (simp [*, errW_none, errW_some] <;> rfl), by repeat (first | (with_reducible first | exact HB.out | apply below_alloc | apply pw_below_drewN | apply below_drew1) | exact HB.out)⟩
                                            · rw [if_neg c101] at H
                                              have c101b0 : (t445 == (ji53)) = false := beq_eq_false_iff_ne.mpr c101
                                              have c101b1 : (t445 != (ji53)) = true := bne_iff_ne.mpr c101
                                              cases H.trans (congrArg some hr_)
                                    · rw [if_neg c64] at H
                                      exact absurd H (by simp)
                                  · rw [if_neg c60] at H
                                    exact absurd H (by simp)
                                · rw [if_neg c59] at H
                                  exact absurd H (by simp)
                              · rw [if_neg c56] at H
                                exact absurd H (by simp)
                            · rw [if_neg c55] at H
                              exact absurd H (by simp)
                          · rw [if_neg c54] at H
                            exact absurd H (by simp)
                      · rw [if_neg c51] at H
                        exact absurd H (by simp)

/-- THE ONE PURE STATEMENT of laws_FnRecords: yours. -/
def laws_FnRecords.Pure : Prop := ∀ (l0 : List Int), l0.length ≤ maxLen → l0.length * 1 ≤ 140737488351232 → (∀ x ∈ l0, (Lit.int .u8 x).wf = true) → ∃ k, laws_FnRecords.f k l0 = some true
theorem laws_FnRecords.walk (P : laws_FnRecords.Pure) (a0 : Option Addr) (len0 cap0 : Nat) (z0 : List Int) (w : World) (w0 : (a0 = none ∧ len0 = 0 ∧ cap0 = 0 ∧ z0 = []) ∨ ∃ x, a0 = some x ∧ len0 ≤ cap0 ∧ cap0 ≤ maxLen ∧ z0.length = cap0 ∧ (∀ i, i < z0.length → w.cell? (x.add i) = some (.int .u8 (z0.getD i 0))) ∧ ∀ n ∈ z0, (Lit.int .u8 n).wf = true) (y0 : len0 * 1 ≤ 140737488351232) :
    Calls Try.prog 10 #[.slice a0 len0 cap0] w fun e w' => e = .returned (.bool true) ∧ Below w.heap.size w w' := by
  obtain ⟨l0, rfl, hr0, hm0, hw0, hc0⟩ := ReadsInt.ofRowC w0
  obtain ⟨k, h⟩ := P l0 hm0 y0 hw0
  refine (laws_FnRecords.calls k _ _ l0 true rfl w (Kd.C_of_reads (d := (0 : Int)) (h1 := fun _ => rfl) hr0) hc0 h).mono ?_
  rintro e w' ⟨rfl, hd⟩
  exact ⟨rfl, hd⟩

end Go.Proofs.Ytaaelkbkmgnciaa.PFnRecords
