-- Written by a program of this session (wip/xprint.py) out of the translation; Lean checks it.
import Derived.Test.YtdimdlifjdbgnaaPFnKeptx0
import Derived.Test.YtdimdlifjdbgnaaPFnKeptx1
import Derived.Test.YtdimdlifjdbgnaaPFnKeptx2
import Derived.Test.YtdimdlifjdbgnaaPFnKeptx3
import Derived.Test.YtdimdlifjdbgnaaPFnKeptx4
import Derived.Test.YtdimdlifjdbgnaaPFnKeptx5
import Derived.Test.YtdimdlifjdbgnaaPFnKeptx6
import Derived.Test.YtdimdlifjdbgnaaPFnKeptx7
import Derived.Test.YtdimdlifjdbgnaaPFnKeptx8
import Derived.Test.YtdimdlifjdbgnaaPFnKeptx9
import Derived.Test.YtdimdlifjdbgnaaPFnKeptx10
import Derived.Test.YtdimdlifjdbgnaaPFnKeptx11
import Derived.Test.YtdimdlifjdbgnaaPFnKeptx12
import Derived.Test.YtdimdlifjdbgnaaPFnKeptx13
namespace Go.Proofs.Ytdimdlifjdbgnaa.PFnKept
open Go.RowKit Go.Proofs.YtdimdlifjdbgnaaW.PrintWords Go.Proofs.YtdimdlifjdbgnaaW.PrintLast Go.Proofs.YtdimdlifjdbgnaaW.PrintMore Go.Proofs.Ytdimdlifjdbgnaa.Sq
attribute [local go_sem] max2_int min2_int max_two min_two max_three min_three max_four min_four   -- for this text's walks alone
set_option linter.unusedVariables false
set_option linter.unusedSimpArgs false

/-! ### impl_RecordOk: function 42 -/
mutual
def impl_RecordOk.l0 : Nat → List (List Int) → List (List Int) → Int → Int → Option (Bool)
 | 0, _, _, _, _ => none
 | k + 1, x0, x5, x6, x7 => if x7 < x6 then (if 0 ≤ x7 then (if x7 < (x5.length : Int) then (if 0 < (x0.length : Int) then (if ((rd_L13 x5 x7).length : Int) = ((rd_L13 x0 0).length : Int) then ((impl_in.f ((rd_L13 x5 x7).length : Int) 1 8).bind fun t504 => (if t504 = true then ((impl_allIn.f k (rd_L13 x5 x7) (-30000) 30000).bind fun t505 => (impl_RecordOk.j1 k x0 x5 x6 x7 (!t505))) else (impl_RecordOk.j1 k x0 x5 x6 x7 true))) else (impl_RecordOk.j1 k x0 x5 x6 x7 true)) else (none)) else (none)) else (none)) else (some (decide ((x0.length : Int) ≤ 200)))
def impl_RecordOk.j1 : Nat → List (List Int) → List (List Int) → Int → Int → Bool → Option (Bool)
 | 0, _, _, _, _, _ => none
 | k + 1, x0, x5, x6, x7, x28 => if x28 = true then (some false) else (impl_RecordOk.l0 k x0 x5 x6 (wrap64 (x7 + 1)))
end
def impl_RecordOk.f (k : Nat) (l0 : List (List Int)) : Option (Bool) := impl_RecordOk.l0 k l0 l0 (l0.length : Int) 0
theorem impl_RecordOk.mono_l : ∀ k, (∀ y0 y1 y2 y3, LeO (impl_RecordOk.l0 k y0 y1 y2 y3) (impl_RecordOk.l0 (k + 1) y0 y1 y2 y3)) ∧ (∀ y0 y1 y2 y3 y4, LeO (impl_RecordOk.j1 k y0 y1 y2 y3 y4) (impl_RecordOk.j1 (k + 1) y0 y1 y2 y3 y4))
 | 0 => ⟨fun _ _ _ _ r h => by simp [impl_RecordOk.l0] at h, fun _ _ _ _ _ r h => by simp [impl_RecordOk.j1] at h⟩
 | k + 1 => by
  obtain ⟨ih0, ih1⟩ := impl_RecordOk.mono_l k
  refine ⟨?_, ?_⟩
  ·
   intro y0 y1 y2 y3
   unfold impl_RecordOk.l0
   repeat' first
   | (with_reducible exact ih0 _ _ _ _)
   | (with_reducible exact ih1 _ _ _ _ _)
   | (with_reducible exact impl_allIn.mono _ _ _ _)
   | (with_reducible exact LeO.refl _)
   | (with_reducible exact LeO.none _)
   | (with_reducible refine LeO.ite ?_ ?_)
   | (with_reducible refine LeO.bind ?_ (fun _ => ?_))
   | exact ih0 _ _ _ _
   | exact ih1 _ _ _ _ _
   | exact impl_allIn.mono _ _ _ _
   | exact LeO.none _
   | refine LeO.ite ?_ ?_
   | refine LeO.bind ?_ (fun _ => ?_)
  ·
   intro y0 y1 y2 y3 y4
   unfold impl_RecordOk.j1
   repeat' first
   | (with_reducible exact ih0 _ _ _ _)
   | (with_reducible exact ih1 _ _ _ _ _)
   | (with_reducible exact impl_allIn.mono _ _ _ _)
   | (with_reducible exact LeO.refl _)
   | (with_reducible exact LeO.none _)
   | (with_reducible refine LeO.ite ?_ ?_)
   | (with_reducible refine LeO.bind ?_ (fun _ => ?_))
   | exact ih0 _ _ _ _
   | exact ih1 _ _ _ _ _
   | exact impl_allIn.mono _ _ _ _
   | exact LeO.none _
   | refine LeO.ite ?_ ?_
   | refine LeO.bind ?_ (fun _ => ?_)
theorem impl_RecordOk.mono : ∀ a0 k, LeO (impl_RecordOk.f k a0) (impl_RecordOk.f (k + 1) a0) := by
 intro a0 k
 obtain ⟨ih0, ih1⟩ := impl_RecordOk.mono_l k
 unfold impl_RecordOk.f
 repeat' first
   | (with_reducible exact ih0 _ _ _ _)
   | (with_reducible exact ih1 _ _ _ _ _)
   | (with_reducible exact impl_allIn.mono _ _ _ _)
   | (with_reducible exact LeO.refl _)
   | (with_reducible exact LeO.none _)
   | (with_reducible refine LeO.ite ?_ ?_)
   | (with_reducible refine LeO.bind ?_ (fun _ => ?_))
   | exact ih0 _ _ _ _
   | exact ih1 _ _ _ _ _
   | exact impl_allIn.mono _ _ _ _
   | exact LeO.none _
   | refine LeO.ite ?_ ?_
   | refine LeO.bind ?_ (fun _ => ?_)
set_option maxHeartbeats 8000000 in
set_option maxRecDepth 100000 in
theorem impl_RecordOk.calls (k : Nat) (A0 : Option Addr) (c0 : Nat) (l0 : List (List Int)) (r : Bool) (w : World) (hr0 : Kd.C (Kd.slice 3 (Kd.int .i64)) w A0 l0.length l0) (hc0 : l0.length ≤ c0) (h : impl_RecordOk.f k l0 = some r) :
  Calls Try.prog 42 #[.slice A0 l0.length c0] w fun e w' => e = .returned (.bool r) ∧ Drawn0 w w' := by
 have HR0 := Aside0.mk hr0
 have HC0 := Aside0.mk hc0
 clear hr0 hc0
 have H : (impl_RecordOk.l0 k l0 l0 (l0.length : Int) 0) = some r := h
 clear h
 have H' := Aside0.mk H
 clear H
 go_enter Try.func42, Try.ntmps42
 go_wp2
 go_loopg [7] k (fun kq v7 w' => ∃ (x7_1 : Int), v7 = .int .i64 x7_1 ∧ Aside0 (impl_RecordOk.l0 kq l0 l0 (l0.length : Int) x7_1 = some r) ∧ Aside0 (kq ≤ k) ∧ Drawn0 w w')
 case atStart => exact ⟨(0), (by first | rfl | (simp; done) | (simp [*]; done)), H', ⟨Nat.le_refl _⟩, by repeat (first | exact Drawn0.refl _ | apply Drawn0.step)⟩
 case round =>
  clear H'
  obtain ⟨x7_1, rfl, HA, HK1, ⟨m1, rfl⟩⟩ := hrel
  cases gk with
  | zero => exact absurd HA.out (by simp [impl_RecordOk.l0])
  | succ k1 =>
   have H := HA.out
   clear HA
   simp only [impl_RecordOk.l0] at H
   by_cases c2 : x7_1 < (l0.length : Int)
   ·
    rw [if_pos c2] at H
    have c2b0 : decide (x7_1 < (l0.length : Int)) = true := decide_eq_true c2
    clear c2
    by_cases c3 : 0 ≤ x7_1
    ·
     rw [if_pos c3] at H
     have c3b0 : decide (0 ≤ x7_1) = true := decide_eq_true c3
     clear c3
     by_cases c4 : x7_1 < (l0.length : Int)
     ·
      rw [if_pos c4] at H
      have c4b0 : decide (x7_1 < (l0.length : Int)) = true := decide_eq_true c4
      clear c4
      have HC5 := Aside0.mk H
      clear H
      have p502 : 0 ≤ (x7_1 : Int) := of_decide_eq_true (by first | (with_reducible assumption) | assumption)
      have q502 : x7_1 < (l0.length : Int) := of_decide_eq_true (by first | (with_reducible assumption) | assumption)
      obtain ⟨ad502, A502_0, c502_0, e502, hx502_0, hl502_0, hi502_0⟩ := at_L13 HR0.out x7_1 p502 q502
      cases e502
      have HR502_0 := Aside0.mk hi502_0
      have HC502_0 := Aside0.mk hl502_0
      clear hi502_0 hl502_0
      replace p502 := eq_true p502
      replace q502 := eq_true q502
      go_upto_region 4 with (fail)
      go_cut [28] (fun v28 wc => ∃ (kq : Nat) (x28_4 : Bool), v28 = .bool x28_4 ∧ Aside0 (impl_RecordOk.j1 kq l0 l0 (l0.length : Int) x7_1 x28_4 = some r) ∧ Aside0 (kq ≤ k1) ∧ Drawn0 w wc)
      case first =>
       have H := HC5.out
       clear HC5
       by_cases c6 : 0 < (l0.length : Int)
       ·
        rw [if_pos c6] at H
        have c6b0 : decide (0 < (l0.length : Int)) = true := decide_eq_true c6
        have c6b1 : decide (0 < l0.length) = true := decide_eq_true (by omega)
        clear c6
        (first | rw [c6b0] | (simp only [i64_w, i32_w]; rw [c6b0]) | rw [c6b1] | skip)
        by_cases c7 : ((rd_L13 l0 x7_1).length : Int) = ((rd_L13 l0 0).length : Int)
        ·
         rw [if_pos c7] at H
         have c7b0 : (((rd_L13 l0 x7_1).length : Int) == ((rd_L13 l0 0).length : Int)) = true := beq_iff_eq.mpr c7
         have c7b1 : (((rd_L13 l0 x7_1).length : Int) != ((rd_L13 l0 0).length : Int)) = false := bne_eq_false_iff_eq.mpr c7
         have c7b2 : ((rd_L13 l0 x7_1).length == (rd_L13 l0 0).length) = true := by first | simpa using c7 | (simp at c7 ⊢; omega)
         clear c7
         replace H := Option.bind_eq_some_iff.mp H
         obtain ⟨t504, A80, H⟩ := H
         replace H : (if t504 = true then ((impl_allIn.f k1 (rd_L13 l0 x7_1) (-30000) 30000).bind fun t505 => (impl_RecordOk.j1 k1 l0 l0 (l0.length : Int) x7_1 (!t505))) else (impl_RecordOk.j1 k1 l0 l0 (l0.length : Int) x7_1 true)) = some r := H
         have A8 := Aside0.mk A80
         clear A80
         by_cases c9 : t504 = true
         ·
          subst c9
          have H1 : ((impl_allIn.f k1 (rd_L13 l0 x7_1) (-30000) 30000).bind fun t505 => (impl_RecordOk.j1 k1 l0 l0 (l0.length : Int) x7_1 (!t505))) = some r := by rw [if_pos rfl] at H; exact H
          clear H
          have H := H1
          clear H1
          replace H := Option.bind_eq_some_iff.mp H
          obtain ⟨t505, A100, H⟩ := H
          replace H : (impl_RecordOk.j1 k1 l0 l0 (l0.length : Int) x7_1 (!t505)) = some r := H
          have A10 := Aside0.mk A100
          clear A100
          have H' := Aside0.mk H
          clear H
          have p503 : 0 ≤ (0 : Int) := (by omega)
          have q503 : 0 < (l0.length : Int) := of_decide_eq_true (by first | (with_reducible assumption) | assumption)
          obtain ⟨ad503, A503_0, c503_0, e503, hx503_0, hl503_0, hi503_0⟩ := at_L13 HR0.out 0 p503 q503
          obtain rfl : ad502 = ad503 := (by injection e503)
          have qi503 : (0 < l0.length) = True := eq_true (by omega)
          (try rw [show ((0 : Int)).toNat = 0 from rfl] at hx503_0)
          (try rw [Addr.add_zero'] at hx503_0)
          have HR503_0 := Aside0.mk hi503_0
          have HC503_0 := Aside0.mk hl503_0
          clear hi503_0 hl503_0
          replace p503 := eq_true p503
          replace q503 := eq_true q503
          go_wp2_with (first | (go_at_call 32; (with_reducible refine (impl_in.calls ((rd_L13 l0 x7_1).length : Int) 1 8 true _ A8.out).mono ?_); rintro e w' ⟨rfl, ⟨nd, rfl⟩⟩) | (go_at_call 33; (with_reducible refine (impl_allIn.calls k1 _ _ (rd_L13 l0 x7_1) (-30000) 30000 t505 _ ?side1 ?side2 A10.out).mono ?_); (case side1 => exact rc HR502_0.out); (case side2 => exact HC502_0.out); rintro e w' ⟨rfl, ⟨nd, rfl⟩⟩))
          go_meet
          case rel => exact ⟨_, (!t505), (by first | rfl | (simp; done) | (simp [*]; done)), H', ⟨by have := HK1.out; first | omega | exact Nat.le_refl _⟩, by repeat (first | exact Drawn0.refl _ | apply Drawn0.step)⟩
         ·
          replace c9 := Bool.eq_false_iff.mpr c9
          subst c9
          have H1 : (impl_RecordOk.j1 k1 l0 l0 (l0.length : Int) x7_1 true) = some r := by rw [if_neg (show ¬ (false = true) by decide)] at H; exact H
          clear H
          have H := H1
          clear H1
          have H' := Aside0.mk H
          clear H
          have p503 : 0 ≤ (0 : Int) := (by omega)
          have q503 : 0 < (l0.length : Int) := of_decide_eq_true (by first | (with_reducible assumption) | assumption)
          obtain ⟨ad503, A503_0, c503_0, e503, hx503_0, hl503_0, hi503_0⟩ := at_L13 HR0.out 0 p503 q503
          obtain rfl : ad502 = ad503 := (by injection e503)
          have qi503 : (0 < l0.length) = True := eq_true (by omega)
          (try rw [show ((0 : Int)).toNat = 0 from rfl] at hx503_0)
          (try rw [Addr.add_zero'] at hx503_0)
          have HR503_0 := Aside0.mk hi503_0
          have HC503_0 := Aside0.mk hl503_0
          clear hi503_0 hl503_0
          replace p503 := eq_true p503
          replace q503 := eq_true q503
          go_wp2_with (first | (go_at_call 32; (with_reducible refine (impl_in.calls ((rd_L13 l0 x7_1).length : Int) 1 8 false _ A8.out).mono ?_); rintro e w' ⟨rfl, ⟨nd, rfl⟩⟩))
          go_meet
          case rel => exact ⟨_, (true), (by first | rfl | (simp; done) | (simp [*]; done)), H', ⟨by have := HK1.out; first | omega | exact Nat.le_refl _⟩, by repeat (first | exact Drawn0.refl _ | apply Drawn0.step)⟩
        ·
         rw [if_neg c7] at H
         have c7b0 : (((rd_L13 l0 x7_1).length : Int) == ((rd_L13 l0 0).length : Int)) = false := beq_eq_false_iff_ne.mpr c7
         have c7b1 : (((rd_L13 l0 x7_1).length : Int) != ((rd_L13 l0 0).length : Int)) = true := bne_iff_ne.mpr c7
         have c7b2 : ((rd_L13 l0 x7_1).length == (rd_L13 l0 0).length) = false := by first | simpa using c7 | (simp at c7 ⊢; omega)
         have H' := Aside0.mk H
         clear H
         have p503 : 0 ≤ (0 : Int) := (by omega)
         have q503 : 0 < (l0.length : Int) := of_decide_eq_true (by first | (with_reducible assumption) | assumption)
         obtain ⟨ad503, A503_0, c503_0, e503, hx503_0, hl503_0, hi503_0⟩ := at_L13 HR0.out 0 p503 q503
         obtain rfl : ad502 = ad503 := (by injection e503)
         have qi503 : (0 < l0.length) = True := eq_true (by omega)
         (try rw [show ((0 : Int)).toNat = 0 from rfl] at hx503_0)
         (try rw [Addr.add_zero'] at hx503_0)
         have HR503_0 := Aside0.mk hi503_0
         have HC503_0 := Aside0.mk hl503_0
         clear hi503_0 hl503_0
         replace p503 := eq_true p503
         replace q503 := eq_true q503
         go_wp2
         go_meet
         case rel => exact ⟨_, (true), (by first | rfl | (simp; done) | (simp [*]; done)), H', ⟨by have := HK1.out; first | omega | exact Nat.le_refl _⟩, by repeat (first | exact Drawn0.refl _ | apply Drawn0.step)⟩
       ·
        rw [if_neg c6] at H
        exact absurd H (by simp)
      case rest =>
       clear HC5
       try clear c2
       try clear c2b0
       try clear p2
       try clear c3
       try clear c3b0
       try clear c4
       try clear c4b0
       try clear c5
       try clear p5
       try clear q5
       try clear hx5
       try clear qi5
       try clear c6
       try clear c6b0
       try clear c6b1
       try clear c7
       try clear c7b0
       try clear c7b1
       try clear c7b2
       try clear c9
       try clear hx502_0
       try clear hx503_0
       try clear p502
       try clear p503
       try clear q502
       try clear q503
       obtain ⟨kq, x28_4, rfl, HA, HJ4, ⟨mc4, rfl⟩⟩ := hcut
       cases kq with
       | zero => exact absurd HA.out (by simp [impl_RecordOk.j1])
       | succ kj4 =>
        have H := HA.out
        clear HA
        simp only [impl_RecordOk.j1] at H
        by_cases c11 : x28_4 = true
        ·
         subst c11
         have H1 : (some false) = some r := by rw [if_pos rfl] at H; exact H
         clear H
         have H := H1
         clear H1
         obtain rfl := Option.some.inj H
         go_wp2
         go_ret
         exact ⟨by first | rfl | (simp; done) | (simp [*]; done), by repeat (first | exact Drawn0.refl _ | apply Drawn0.step)⟩
        ·
         replace c11 := Bool.eq_false_iff.mpr c11
         subst c11
         have H1 : (impl_RecordOk.l0 kj4 l0 l0 (l0.length : Int) (wrap64 (x7_1 + 1))) = some r := by rw [if_neg (show ¬ (false = true) by decide)] at H; exact H
         clear H
         have H := H1
         clear H1
         have H' := Aside0.mk H
         clear H
         go_wp2
         go_roundg kj4
         case measure => have := HK1.out; have := HJ4.out; omega
         case rel => exact ⟨(wrap64 (x7_1 + 1)), (by first | rfl | (simp; done) | (simp [*]; done)), H', ⟨by have := HK1.out; have := HJ4.out; omega⟩, by repeat (first | exact Drawn0.refl _ | apply Drawn0.step)⟩
     ·
      rw [if_neg c4] at H
      exact absurd H (by simp)
    ·
     rw [if_neg c3] at H
     exact absurd H (by simp)
   ·
    rw [if_neg c2] at H
    have c2b0 : decide (x7_1 < (l0.length : Int)) = false := decide_eq_false c2
    clear c2
    obtain rfl := Option.some.inj H
    go_wp2
    go_ret
    exact ⟨by first | rfl | (simp; done) | (simp [*]; done), by repeat (first | exact Drawn0.refl _ | apply Drawn0.step)⟩

end Go.Proofs.Ytdimdlifjdbgnaa.PFnKept
