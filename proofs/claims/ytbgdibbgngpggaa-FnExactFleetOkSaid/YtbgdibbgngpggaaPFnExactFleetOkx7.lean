-- Written by a program of this session (wip/xprint.py) out of the translation; Lean checks it.
import Derived.Test.YtbgdibbgngpggaaPFnExactFleetOkx0
import Derived.Test.YtbgdibbgngpggaaPFnExactFleetOkx6
namespace Go.Proofs.Ytbgdibbgngpggaa.PFnExactFleetOk
open Go.RowKit Go.Proofs.YtbgdibbgngpggaaW.PrintWords Go.Proofs.YtbgdibbgngpggaaW.PrintLast Go.Proofs.YtbgdibbgngpggaaW.PrintMore Go.Proofs.Ytbgdibbgngpggaa.Sq
attribute [local go_sem] max2_int min2_int max_two min_two max_three min_three max_four min_four   -- for this text's walks alone
set_option linter.unusedVariables false
set_option linter.unusedSimpArgs false

/-! ### impl_isName: function 51 -/
mutual
def impl_isName.l0 : Nat → ByteArray → Int → Int → Option (Bool)
 | 0, _, _, _ => none
 | k + 1, x0, x6, x7 => if x7 < x6 then (if 0 ≤ x7 then (if x7 < (x0.size : Int) then (if (bt x0 x7) ≥ 97 then (if (bt x0 x7) ≤ 122 then (impl_isName.j1 k x0 x6 x7 (!true)) else (if (bt x0 x7) ≥ 65 then (if (bt x0 x7) ≤ 90 then (impl_isName.j1 k x0 x6 x7 (!true)) else (if (bt x0 x7) ≥ 48 then (if (bt x0 x7) ≤ 57 then (impl_isName.j1 k x0 x6 x7 (!true)) else (impl_isName.j1 k x0 x6 x7 (!((bt x0 x7) == 45)))) else (impl_isName.j1 k x0 x6 x7 (!((bt x0 x7) == 45))))) else (if (bt x0 x7) ≥ 48 then (if (bt x0 x7) ≤ 57 then (impl_isName.j1 k x0 x6 x7 (!true)) else (impl_isName.j1 k x0 x6 x7 (!((bt x0 x7) == 45)))) else (impl_isName.j1 k x0 x6 x7 (!((bt x0 x7) == 45)))))) else (if (bt x0 x7) ≥ 65 then (if (bt x0 x7) ≤ 90 then (impl_isName.j1 k x0 x6 x7 (!true)) else (if (bt x0 x7) ≥ 48 then (if (bt x0 x7) ≤ 57 then (impl_isName.j1 k x0 x6 x7 (!true)) else (impl_isName.j1 k x0 x6 x7 (!((bt x0 x7) == 45)))) else (impl_isName.j1 k x0 x6 x7 (!((bt x0 x7) == 45))))) else (if (bt x0 x7) ≥ 48 then (if (bt x0 x7) ≤ 57 then (impl_isName.j1 k x0 x6 x7 (!true)) else (impl_isName.j1 k x0 x6 x7 (!((bt x0 x7) == 45)))) else (impl_isName.j1 k x0 x6 x7 (!((bt x0 x7) == 45)))))) else (none)) else (none)) else ((impl_in.f (x0.size : Int) 1 20).bind fun t226 => (some t226))
def impl_isName.j1 : Nat → ByteArray → Int → Int → Bool → Option (Bool)
 | 0, _, _, _, _ => none
 | k + 1, x0, x6, x7, x39 => if x39 = true then (some false) else (impl_isName.l0 k x0 x6 (wrap64 (x7 + 1)))
end
def impl_isName.f (k : Nat) (a0 : ByteArray) : Option (Bool) := impl_isName.l0 k a0 (a0.size : Int) 0
theorem impl_isName.mono_l : ∀ k, (∀ y0 y1 y2, LeO (impl_isName.l0 k y0 y1 y2) (impl_isName.l0 (k + 1) y0 y1 y2)) ∧ (∀ y0 y1 y2 y3, LeO (impl_isName.j1 k y0 y1 y2 y3) (impl_isName.j1 (k + 1) y0 y1 y2 y3))
 | 0 => ⟨fun _ _ _ r h => by simp [impl_isName.l0] at h, fun _ _ _ _ r h => by simp [impl_isName.j1] at h⟩
 | k + 1 => by
  obtain ⟨ih0, ih1⟩ := impl_isName.mono_l k
  refine ⟨?_, ?_⟩
  ·
   intro y0 y1 y2
   unfold impl_isName.l0
   repeat' first
   | (with_reducible exact ih0 _ _ _)
   | (with_reducible exact ih1 _ _ _ _)
   | (with_reducible exact LeO.refl _)
   | (with_reducible exact LeO.none _)
   | (with_reducible refine LeO.ite ?_ ?_)
   | (with_reducible refine LeO.bind ?_ (fun _ => ?_))
   | exact ih0 _ _ _
   | exact ih1 _ _ _ _
   | exact LeO.none _
   | refine LeO.ite ?_ ?_
   | refine LeO.bind ?_ (fun _ => ?_)
  ·
   intro y0 y1 y2 y3
   unfold impl_isName.j1
   repeat' first
   | (with_reducible exact ih0 _ _ _)
   | (with_reducible exact ih1 _ _ _ _)
   | (with_reducible exact LeO.refl _)
   | (with_reducible exact LeO.none _)
   | (with_reducible refine LeO.ite ?_ ?_)
   | (with_reducible refine LeO.bind ?_ (fun _ => ?_))
   | exact ih0 _ _ _
   | exact ih1 _ _ _ _
   | exact LeO.none _
   | refine LeO.ite ?_ ?_
   | refine LeO.bind ?_ (fun _ => ?_)
theorem impl_isName.mono : ∀ a0 k, LeO (impl_isName.f k a0) (impl_isName.f (k + 1) a0) := by
 intro a0 k
 obtain ⟨ih0, ih1⟩ := impl_isName.mono_l k
 unfold impl_isName.f
 repeat' first
   | (with_reducible exact ih0 _ _ _)
   | (with_reducible exact ih1 _ _ _ _)
   | (with_reducible exact LeO.refl _)
   | (with_reducible exact LeO.none _)
   | (with_reducible refine LeO.ite ?_ ?_)
   | (with_reducible refine LeO.bind ?_ (fun _ => ?_))
   | exact ih0 _ _ _
   | exact ih1 _ _ _ _
   | exact LeO.none _
   | refine LeO.ite ?_ ?_
   | refine LeO.bind ?_ (fun _ => ?_)
set_option maxHeartbeats 8000000 in
set_option maxRecDepth 100000 in
theorem impl_isName.calls (k : Nat) (a0 : ByteArray) (r : Bool) (w : World) (h : impl_isName.f k a0 = some r) :
  Calls Try.prog 51 #[.string a0] w fun e w' => e = .returned (.bool r) ∧ Drawn0 w w' := by
 have H : (impl_isName.l0 k a0 (a0.size : Int) 0) = some r := h
 clear h
 have H' := Aside0.mk H
 clear H
 go_enter Try.func51, Try.ntmps51
 go_wp2
 go_loopg [7] k (fun kq v7 w' => ∃ (x7_1 : Int), v7 = .int .i64 x7_1 ∧ Aside0 (impl_isName.l0 kq a0 (a0.size : Int) x7_1 = some r) ∧ Aside0 (kq ≤ k) ∧ Drawn0 w w')
 case atStart => exact ⟨(0), (by first | rfl | (simp; done) | (simp [*]; done)), H', ⟨Nat.le_refl _⟩, by repeat (first | exact Drawn0.refl _ | apply Drawn0.step)⟩
 case round =>
  clear H'
  obtain ⟨x7_1, rfl, HA, HK1, ⟨m1, rfl⟩⟩ := hrel
  cases gk with
  | zero => exact absurd HA.out (by simp [impl_isName.l0])
  | succ k1 =>
   have H := HA.out
   clear HA
   simp only [impl_isName.l0] at H
   by_cases c2 : x7_1 < (a0.size : Int)
   ·
    rw [if_pos c2] at H
    have c2b0 : decide (x7_1 < (a0.size : Int)) = true := decide_eq_true c2
    clear c2
    by_cases c3 : 0 ≤ x7_1
    ·
     rw [if_pos c3] at H
     have c3b0 : decide (0 ≤ x7_1) = true := decide_eq_true c3
     clear c3
     by_cases c4 : x7_1 < (a0.size : Int)
     ·
      rw [if_pos c4] at H
      have c4b0 : decide (x7_1 < (a0.size : Int)) = true := decide_eq_true c4
      clear c4
      have HC6 := Aside0.mk H
      clear H
      have p5 : 0 ≤ (x7_1 : Int) := of_decide_eq_true (by first | (with_reducible assumption) | assumption)
      have q5 : x7_1 < (a0.size : Int) := of_decide_eq_true (by first | (with_reducible assumption) | assumption)
      have hx5 := bt_at a0 x7_1
      replace p5 := eq_true p5
      replace q5 := eq_true q5
      go_upto_region 5 with (fail)
      go_cut [39] (fun v39 wc => ∃ (kq : Nat) (x39_5 : Bool), v39 = .bool x39_5 ∧ Aside0 (impl_isName.j1 kq a0 (a0.size : Int) x7_1 x39_5 = some r) ∧ Aside0 (kq ≤ k1) ∧ Drawn0 w wc)
      case first =>
       have H := HC6.out
       clear HC6
       by_cases c7 : (bt a0 x7_1) ≥ 97
       ·
        rw [if_pos c7] at H
        have c7b0 : decide (97 ≤ (bt a0 x7_1)) = true := decide_eq_true c7
        clear c7
        (first | rw [c7b0] | (simp only [i64_w, i32_w]; rw [c7b0]) | skip)
        by_cases c8 : (bt a0 x7_1) ≤ 122
        ·
         rw [if_pos c8] at H
         have c8b0 : decide ((bt a0 x7_1) ≤ 122) = true := decide_eq_true c8
         clear c8
         have H' := Aside0.mk H
         clear H
         go_wp2
         go_meet
         case rel => exact ⟨_, (!true), (by first | rfl | (simp; done) | (simp [*]; done)), H', ⟨by have := HK1.out; first | omega | exact Nat.le_refl _⟩, by repeat (first | exact Drawn0.refl _ | apply Drawn0.step)⟩
        ·
         rw [if_neg c8] at H
         have c8b0 : decide ((bt a0 x7_1) ≤ 122) = false := decide_eq_false c8
         clear c8
         by_cases c9 : (bt a0 x7_1) ≥ 65
         ·
          rw [if_pos c9] at H
          have c9b0 : decide (65 ≤ (bt a0 x7_1)) = true := decide_eq_true c9
          clear c9
          by_cases c10 : (bt a0 x7_1) ≤ 90
          ·
           rw [if_pos c10] at H
           have c10b0 : decide ((bt a0 x7_1) ≤ 90) = true := decide_eq_true c10
           clear c10
           have H' := Aside0.mk H
           clear H
           go_wp2
           go_meet
           case rel => exact ⟨_, (!true), (by first | rfl | (simp; done) | (simp [*]; done)), H', ⟨by have := HK1.out; first | omega | exact Nat.le_refl _⟩, by repeat (first | exact Drawn0.refl _ | apply Drawn0.step)⟩
          ·
           rw [if_neg c10] at H
           have c10b0 : decide ((bt a0 x7_1) ≤ 90) = false := decide_eq_false c10
           clear c10
           by_cases c11 : (bt a0 x7_1) ≥ 48
           ·
            rw [if_pos c11] at H
            have c11b0 : decide (48 ≤ (bt a0 x7_1)) = true := decide_eq_true c11
            clear c11
            by_cases c12 : (bt a0 x7_1) ≤ 57
            ·
             rw [if_pos c12] at H
             have c12b0 : decide ((bt a0 x7_1) ≤ 57) = true := decide_eq_true c12
             clear c12
             have H' := Aside0.mk H
             clear H
             go_wp2
             go_meet
             case rel => exact ⟨_, (!true), (by first | rfl | (simp; done) | (simp [*]; done)), H', ⟨by have := HK1.out; first | omega | exact Nat.le_refl _⟩, by repeat (first | exact Drawn0.refl _ | apply Drawn0.step)⟩
            ·
             rw [if_neg c12] at H
             have c12b0 : decide ((bt a0 x7_1) ≤ 57) = false := decide_eq_false c12
             clear c12
             have H' := Aside0.mk H
             clear H
             go_wp2
             go_meet
             case rel => exact ⟨_, (!((bt a0 x7_1) == 45)), (by first | rfl | (simp; done) | (simp [*]; done)), H', ⟨by have := HK1.out; first | omega | exact Nat.le_refl _⟩, by repeat (first | exact Drawn0.refl _ | apply Drawn0.step)⟩
           ·
            rw [if_neg c11] at H
            have c11b0 : decide (48 ≤ (bt a0 x7_1)) = false := decide_eq_false c11
            clear c11
            have H' := Aside0.mk H
            clear H
            go_wp2
            go_meet
            case rel => exact ⟨_, (!((bt a0 x7_1) == 45)), (by first | rfl | (simp; done) | (simp [*]; done)), H', ⟨by have := HK1.out; first | omega | exact Nat.le_refl _⟩, by repeat (first | exact Drawn0.refl _ | apply Drawn0.step)⟩
         ·
          rw [if_neg c9] at H
          have c9b0 : decide (65 ≤ (bt a0 x7_1)) = false := decide_eq_false c9
          clear c9
          by_cases c13 : (bt a0 x7_1) ≥ 48
          ·
           rw [if_pos c13] at H
           have c13b0 : decide (48 ≤ (bt a0 x7_1)) = true := decide_eq_true c13
           clear c13
           by_cases c14 : (bt a0 x7_1) ≤ 57
           ·
            rw [if_pos c14] at H
            have c14b0 : decide ((bt a0 x7_1) ≤ 57) = true := decide_eq_true c14
            clear c14
            have H' := Aside0.mk H
            clear H
            go_wp2
            go_meet
            case rel => exact ⟨_, (!true), (by first | rfl | (simp; done) | (simp [*]; done)), H', ⟨by have := HK1.out; first | omega | exact Nat.le_refl _⟩, by repeat (first | exact Drawn0.refl _ | apply Drawn0.step)⟩
           ·
            rw [if_neg c14] at H
            have c14b0 : decide ((bt a0 x7_1) ≤ 57) = false := decide_eq_false c14
            clear c14
            have H' := Aside0.mk H
            clear H
            go_wp2
            go_meet
            case rel => exact ⟨_, (!((bt a0 x7_1) == 45)), (by first | rfl | (simp; done) | (simp [*]; done)), H', ⟨by have := HK1.out; first | omega | exact Nat.le_refl _⟩, by repeat (first | exact Drawn0.refl _ | apply Drawn0.step)⟩
          ·
           rw [if_neg c13] at H
           have c13b0 : decide (48 ≤ (bt a0 x7_1)) = false := decide_eq_false c13
           clear c13
           have H' := Aside0.mk H
           clear H
           go_wp2
           go_meet
           case rel => exact ⟨_, (!((bt a0 x7_1) == 45)), (by first | rfl | (simp; done) | (simp [*]; done)), H', ⟨by have := HK1.out; first | omega | exact Nat.le_refl _⟩, by repeat (first | exact Drawn0.refl _ | apply Drawn0.step)⟩
       ·
        rw [if_neg c7] at H
        have c7b0 : decide (97 ≤ (bt a0 x7_1)) = false := decide_eq_false c7
        clear c7
        (first | rw [c7b0] | (simp only [i64_w, i32_w]; rw [c7b0]) | skip)
        by_cases c15 : (bt a0 x7_1) ≥ 65
        ·
         rw [if_pos c15] at H
         have c15b0 : decide (65 ≤ (bt a0 x7_1)) = true := decide_eq_true c15
         clear c15
         by_cases c16 : (bt a0 x7_1) ≤ 90
         ·
          rw [if_pos c16] at H
          have c16b0 : decide ((bt a0 x7_1) ≤ 90) = true := decide_eq_true c16
          clear c16
          have H' := Aside0.mk H
          clear H
          go_wp2
          go_meet
          case rel => exact ⟨_, (!true), (by first | rfl | (simp; done) | (simp [*]; done)), H', ⟨by have := HK1.out; first | omega | exact Nat.le_refl _⟩, by repeat (first | exact Drawn0.refl _ | apply Drawn0.step)⟩
         ·
          rw [if_neg c16] at H
          have c16b0 : decide ((bt a0 x7_1) ≤ 90) = false := decide_eq_false c16
          clear c16
          by_cases c17 : (bt a0 x7_1) ≥ 48
          ·
           rw [if_pos c17] at H
           have c17b0 : decide (48 ≤ (bt a0 x7_1)) = true := decide_eq_true c17
           clear c17
           by_cases c18 : (bt a0 x7_1) ≤ 57
           ·
            rw [if_pos c18] at H
            have c18b0 : decide ((bt a0 x7_1) ≤ 57) = true := decide_eq_true c18
            clear c18
            have H' := Aside0.mk H
            clear H
            go_wp2
            go_meet
            case rel => exact ⟨_, (!true), (by first | rfl | (simp; done) | (simp [*]; done)), H', ⟨by have := HK1.out; first | omega | exact Nat.le_refl _⟩, by repeat (first | exact Drawn0.refl _ | apply Drawn0.step)⟩
           ·
            rw [if_neg c18] at H
            have c18b0 : decide ((bt a0 x7_1) ≤ 57) = false := decide_eq_false c18
            clear c18
            have H' := Aside0.mk H
            clear H
            go_wp2
            go_meet
            case rel => exact ⟨_, (!((bt a0 x7_1) == 45)), (by first | rfl | (simp; done) | (simp [*]; done)), H', ⟨by have := HK1.out; first | omega | exact Nat.le_refl _⟩, by repeat (first | exact Drawn0.refl _ | apply Drawn0.step)⟩
          ·
           rw [if_neg c17] at H
           have c17b0 : decide (48 ≤ (bt a0 x7_1)) = false := decide_eq_false c17
           clear c17
           have H' := Aside0.mk H
           clear H
           go_wp2
           go_meet
           case rel => exact ⟨_, (!((bt a0 x7_1) == 45)), (by first | rfl | (simp; done) | (simp [*]; done)), H', ⟨by have := HK1.out; first | omega | exact Nat.le_refl _⟩, by repeat (first | exact Drawn0.refl _ | apply Drawn0.step)⟩
        ·
         rw [if_neg c15] at H
         have c15b0 : decide (65 ≤ (bt a0 x7_1)) = false := decide_eq_false c15
         clear c15
         by_cases c19 : (bt a0 x7_1) ≥ 48
         ·
          rw [if_pos c19] at H
          have c19b0 : decide (48 ≤ (bt a0 x7_1)) = true := decide_eq_true c19
          clear c19
          by_cases c20 : (bt a0 x7_1) ≤ 57
          ·
           rw [if_pos c20] at H
           have c20b0 : decide ((bt a0 x7_1) ≤ 57) = true := decide_eq_true c20
           clear c20
           have H' := Aside0.mk H
           clear H
           go_wp2
           go_meet
           case rel => exact ⟨_, (!true), (by first | rfl | (simp; done) | (simp [*]; done)), H', ⟨by have := HK1.out; first | omega | exact Nat.le_refl _⟩, by repeat (first | exact Drawn0.refl _ | apply Drawn0.step)⟩
          ·
           rw [if_neg c20] at H
           have c20b0 : decide ((bt a0 x7_1) ≤ 57) = false := decide_eq_false c20
           clear c20
           have H' := Aside0.mk H
           clear H
           go_wp2
           go_meet
           case rel => exact ⟨_, (!((bt a0 x7_1) == 45)), (by first | rfl | (simp; done) | (simp [*]; done)), H', ⟨by have := HK1.out; first | omega | exact Nat.le_refl _⟩, by repeat (first | exact Drawn0.refl _ | apply Drawn0.step)⟩
         ·
          rw [if_neg c19] at H
          have c19b0 : decide (48 ≤ (bt a0 x7_1)) = false := decide_eq_false c19
          clear c19
          have H' := Aside0.mk H
          clear H
          go_wp2
          go_meet
          case rel => exact ⟨_, (!((bt a0 x7_1) == 45)), (by first | rfl | (simp; done) | (simp [*]; done)), H', ⟨by have := HK1.out; first | omega | exact Nat.le_refl _⟩, by repeat (first | exact Drawn0.refl _ | apply Drawn0.step)⟩
      case rest =>
       clear HC6
       try clear c1
       try clear c2
       try clear c2b0
       try clear p2
       try clear c3
       try clear c3b0
       try clear c4
       try clear c4b0
       try clear c5
       try clear p5
       try clear q5
       try clear hx5
       try clear c7
       try clear c7b0
       try clear c8
       try clear c8b0
       try clear c9
       try clear c9b0
       try clear c10
       try clear c10b0
       try clear c11
       try clear c11b0
       try clear c12
       try clear c12b0
       try clear c13
       try clear c13b0
       try clear c14
       try clear c14b0
       try clear c15
       try clear c15b0
       try clear c16
       try clear c16b0
       try clear c17
       try clear c17b0
       try clear c18
       try clear c18b0
       try clear c19
       try clear c19b0
       try clear c20
       try clear c20b0
       try clear p5
       try clear q5
       obtain ⟨kq, x39_5, rfl, HA, HJ5, ⟨mc5, rfl⟩⟩ := hcut
       cases kq with
       | zero => exact absurd HA.out (by simp [impl_isName.j1])
       | succ kj5 =>
        have H := HA.out
        clear HA
        simp only [impl_isName.j1] at H
        by_cases c21 : x39_5 = true
        ·
         subst c21
         have H1 : (some false) = some r := by rw [if_pos rfl] at H; exact H
         clear H
         have H := H1
         clear H1
         obtain rfl := Option.some.inj H
         go_wp2
         go_ret
         exact ⟨by first | rfl | (simp; done) | (simp [*]; done), by repeat (first | exact Drawn0.refl _ | apply Drawn0.step)⟩
        ·
         replace c21 := Bool.eq_false_iff.mpr c21
         subst c21
         have H1 : (impl_isName.l0 kj5 a0 (a0.size : Int) (wrap64 (x7_1 + 1))) = some r := by rw [if_neg (show ¬ (false = true) by decide)] at H; exact H
         clear H
         have H := H1
         clear H1
         have H' := Aside0.mk H
         clear H
         go_wp2
         go_roundg kj5
         case measure => have := HK1.out; have := HJ5.out; omega
         case rel => exact ⟨(wrap64 (x7_1 + 1)), (by first | rfl | (simp; done) | (simp [*]; done)), H', ⟨by have := HK1.out; have := HJ5.out; omega⟩, by repeat (first | exact Drawn0.refl _ | apply Drawn0.step)⟩
     ·
      rw [if_neg c4] at H
      exact absurd H (by simp)
    ·
     rw [if_neg c3] at H
     exact absurd H (by simp)
   ·
    rw [if_neg c2] at H
    have c2b0 : decide (x7_1 < (a0.size : Int)) = false := decide_eq_false c2
    clear c2
    replace H := Option.bind_eq_some_iff.mp H
    obtain ⟨t226, A220, H⟩ := H
    replace H : (some t226) = some r := H
    have A22 := Aside0.mk A220
    clear A220
    obtain rfl := Option.some.inj H
    go_wp2_with (first | ((with_reducible refine gate_callee (f := 55) rfl ?_); refine goesL_ (some 43) rfl rfl Try.func55 (by kernel_rfl) rfl #[.int .i64 (a0.size : Int), .int .i64 1, .int .i64 20] rfl (by (try simp only [am_]); first | done | rfl) ?_; (with_reducible refine (impl_in.calls (a0.size : Int) 1 20 t226 _ A22.out).mono ?_); rintro e w' ⟨rfl, ⟨nd, rfl⟩⟩; refine ⟨_, rfl, ?_⟩))
    go_ret
    exact ⟨by first | rfl | (simp; done) | (simp [*]; done), by repeat (first | exact Drawn0.refl _ | apply Drawn0.step)⟩

/-! ### slices_Max_int_int: function 52 -/
def slices_Max_int_int.l0 : Nat → List Int → Int → Int → Option (Int)
 | 0, _, _, _ => none
 | k + 1, x0, x3, x4 => if x4 < (x0.length : Int) then (if 0 ≤ x4 then (slices_Max_int_int.l0 k x0 (mx x3 (rd x0 x4)) (wrap64 (x4 + 1))) else (none)) else (some x3)
def slices_Max_int_int.f (k : Nat) (l0 : List Int) : Option (Int) := if (l0.length : Int) < 1 then (none) else (if 0 < (l0.length : Int) then (slices_Max_int_int.l0 k l0 (rd l0 0) 1) else (none))
theorem slices_Max_int_int.mono_l : ∀ k, (∀ y0 y1 y2, LeO (slices_Max_int_int.l0 k y0 y1 y2) (slices_Max_int_int.l0 (k + 1) y0 y1 y2))
 | 0 => fun _ _ _ r h => by simp [slices_Max_int_int.l0] at h
 | k + 1 => by
  have ih0 := slices_Max_int_int.mono_l k
  ·
   intro y0 y1 y2
   unfold slices_Max_int_int.l0
   repeat' first
   | (with_reducible exact ih0 _ _ _)
   | (with_reducible exact LeO.refl _)
   | (with_reducible exact LeO.none _)
   | (with_reducible refine LeO.ite ?_ ?_)
   | (with_reducible refine LeO.bind ?_ (fun _ => ?_))
   | exact ih0 _ _ _
   | exact LeO.none _
   | refine LeO.ite ?_ ?_
   | refine LeO.bind ?_ (fun _ => ?_)
theorem slices_Max_int_int.mono : ∀ a0 k, LeO (slices_Max_int_int.f k a0) (slices_Max_int_int.f (k + 1) a0) := by
 intro a0 k
 have ih0 := slices_Max_int_int.mono_l k
 unfold slices_Max_int_int.f
 repeat' first
   | (with_reducible exact ih0 _ _ _)
   | (with_reducible exact LeO.refl _)
   | (with_reducible exact LeO.none _)
   | (with_reducible refine LeO.ite ?_ ?_)
   | (with_reducible refine LeO.bind ?_ (fun _ => ?_))
   | exact ih0 _ _ _
   | exact LeO.none _
   | refine LeO.ite ?_ ?_
   | refine LeO.bind ?_ (fun _ => ?_)
set_option maxHeartbeats 8000000 in
set_option maxRecDepth 100000 in
theorem slices_Max_int_int.calls (k : Nat) (A0 : Option Addr) (c0 : Nat) (l0 : List Int) (r : Int) (w : World) (hr0 : Kd.C (Kd.int .i64) w A0 l0.length l0) (hc0 : l0.length ≤ c0) (h : slices_Max_int_int.f k l0 = some r) :
  Calls Try.prog 52 #[.slice A0 l0.length c0] w fun e w' => e = .returned (.int .i64 r) ∧ Below w.heap.size w w' := by
 have HR0 := Aside0.mk hr0
 have HC0 := Aside0.mk hc0
 clear hr0 hc0
 have HB := Aside0.mk (Below.refl w.heap.size w)
 have H : (if (l0.length : Int) < 1 then (none) else (if 0 < (l0.length : Int) then (slices_Max_int_int.l0 k l0 (rd l0 0) 1) else (none))) = some r := h
 clear h
 by_cases c2 : (l0.length : Int) < 1
 ·
  rw [if_pos c2] at H
  exact absurd H (by simp)
 ·
  rw [if_neg c2] at H
  have c2b0 : decide ((l0.length : Int) < 1) = false := decide_eq_false c2
  have c2b1 : decide (l0.length < 1) = false := decide_eq_false (by omega)
  clear c2
  by_cases c3 : 0 < (l0.length : Int)
  ·
   rw [if_pos c3] at H
   have c3b0 : decide (0 < (l0.length : Int)) = true := decide_eq_true c3
   have c3b1 : decide (0 < l0.length) = true := decide_eq_true (by omega)
   clear c3
   have H' := Aside0.mk H
   clear H
   have p227 : 0 ≤ (0 : Int) := (by omega)
   have q227 : 0 < (l0.length : Int) := of_decide_eq_true (by first | (with_reducible assumption) | assumption)
   obtain ⟨ad227, e227, hx227_0⟩ := Kd.at_int HR0.out 0 p227 q227
   cases e227
   have qi227 : (0 < l0.length) = True := eq_true (by omega)
   (try rw [show ((0 : Int)).toNat = 0 from rfl] at hx227_0)
   (try rw [Addr.add_zero'] at hx227_0)
   replace p227 := eq_true p227
   replace q227 := eq_true q227
   go_enter Try.func52, Try.ntmps52
   go_wp2
   go_loopg [3, 4] k (fun kq v3 v4 w' => ∃ (x3_1 : Int) (x4_1 : Int), v3 = .int .i64 x3_1 ∧ v4 = .int .i64 x4_1 ∧ Aside0 (slices_Max_int_int.l0 kq l0 x3_1 x4_1 = some r) ∧ Aside0 (kq ≤ k) ∧ Aside0 (Below w.heap.size w w'))
   case atStart => exact ⟨(rd l0 0), (1), (by first | rfl | (simp; done) | (simp [*]; done)), (by first | rfl | (simp; done) | (simp [*]; done)), H', ⟨Nat.le_refl _⟩, ⟨bl HB.out⟩⟩
   case round =>
    clear H'
    try clear c2
    try clear c2b0
    try clear c2b1
    try clear p2
    try clear q2
    try clear hx2
    try clear qi2
    try clear c3
    try clear c3b0
    try clear c3b1
    try clear hx227_0
    try clear p227
    try clear q227
    obtain ⟨x3_1, x4_1, rfl, rfl, HA, HK1, HB⟩ := hrel
    cases gk with
    | zero => exact absurd HA.out (by simp [slices_Max_int_int.l0])
    | succ k1 =>
     have H := HA.out
     clear HA
     simp only [slices_Max_int_int.l0] at H
     by_cases c4 : x4_1 < (l0.length : Int)
     ·
      rw [if_pos c4] at H
      have c4b0 : decide (x4_1 < (l0.length : Int)) = true := decide_eq_true c4
      clear c4
      by_cases c5 : 0 ≤ x4_1
      ·
       rw [if_pos c5] at H
       have c5b0 : decide (0 ≤ x4_1) = true := decide_eq_true c5
       clear c5
       obtain ⟨ji6, hji6⟩ : ∃ j_ : Int, (mx x3_1 (rd l0 x4_1)) = j_ := ⟨_, rfl⟩
       replace H : (slices_Max_int_int.l0 k1 l0 ji6 (wrap64 (x4_1 + 1))) = some r := by first | (rw [hji6] at H; exact H) | (simp only [hji6] at H ⊢; exact H)
       have hji6_ : (if x3_1 < (rd l0 x4_1) then (rd l0 x4_1) else x3_1) = ji6 := hji6
       have H' := Aside0.mk H
       clear H
       have p228 : 0 ≤ (x4_1 : Int) := of_decide_eq_true (by first | (with_reducible assumption) | assumption)
       have q228 : x4_1 < (l0.length : Int) := of_decide_eq_true (by first | (with_reducible assumption) | assumption)
       obtain ⟨ad228, e228, hx228_0⟩ := Kd.at_int HR0.out x4_1 p228 q228
       obtain rfl : ad227 = ad228 := (by injection e228)
       replace hx228_0 := (HB.out.cell (World.block_lt_of_cell? w _ hx228_0)).trans hx228_0
       replace p228 := eq_true p228
       replace q228 := eq_true q228
       go_wp2
       go_roundg k1
       case measure => have := HK1.out; omega
       case rel => exact ⟨(ji6), (wrap64 (x4_1 + 1)), (by first | rfl | (simp; done) | (simp only [← hji6] <;> (first | rfl | simp)) | (simp [*]; done)), (by first | rfl | (simp; done) | (simp [*]; done)), H', ⟨by have := HK1.out; omega⟩, ⟨bl HB.out⟩⟩
      ·
       rw [if_neg c5] at H
       exact absurd H (by simp)
     ·
      rw [if_neg c4] at H
      have c4b0 : decide (x4_1 < (l0.length : Int)) = false := decide_eq_false c4
      clear c4
      obtain rfl := Option.some.inj H
      go_wp2
      go_ret
      exact ⟨by first | rfl | (simp [errW_none, errW_some] <;> rfl) | (simp [*, errW_none, errW_some] <;> rfl), bl HB.out⟩
  ·
   rw [if_neg c3] at H
   exact absurd H (by simp)

/-! ### impl_TaskOk: function 19 -/
def impl_TaskOk.f (k : Nat) (a0_0 : ByteArray) (a0_1 : Int) (a0_2 : Int) (a0_3 : Int) (a0_4 : Int) (a0_5 : Int) (a0_6 : Int) : Option (Bool) := (impl_Task_numbers.f a0_0 a0_1 a0_2 a0_3 a0_4 a0_5 a0_6).bind fun t230 => ((impl_isName.f k a0_0).bind fun t233 => (if t233 = true then ((impl_allIn.f k t230 0 100000).bind fun t234 => (if t234 = true then ((slices_Max_int_int.f k t230).bind fun t235 => (if t235 > 0 then ((impl_ClockOk.f k a0_4 a0_5 a0_6).bind fun t236 => (some t236)) else (some false))) else (some false))) else (some false)))
theorem impl_TaskOk.mono : ∀ a0 a1 a2 a3 a4 a5 a6 k, LeO (impl_TaskOk.f k a0 a1 a2 a3 a4 a5 a6) (impl_TaskOk.f (k + 1) a0 a1 a2 a3 a4 a5 a6) := by
 intro a0 a1 a2 a3 a4 a5 a6 k
 unfold impl_TaskOk.f
 repeat' first
   | (with_reducible exact impl_ClockOk.mono _ _ _ _)
   | (with_reducible exact impl_allIn.mono _ _ _ _)
   | (with_reducible exact impl_isName.mono _ _)
   | (with_reducible exact slices_Max_int_int.mono _ _)
   | (with_reducible exact LeO.refl _)
   | (with_reducible exact LeO.none _)
   | (with_reducible refine LeO.ite ?_ ?_)
   | (with_reducible refine LeO.bind ?_ (fun _ => ?_))
   | exact impl_ClockOk.mono _ _ _ _
   | exact impl_allIn.mono _ _ _ _
   | exact impl_isName.mono _ _
   | exact slices_Max_int_int.mono _ _
   | exact LeO.none _
   | refine LeO.ite ?_ ?_
   | refine LeO.bind ?_ (fun _ => ?_)
set_option maxHeartbeats 8000000 in
set_option maxRecDepth 100000 in
theorem impl_TaskOk.calls (k : Nat) (a0_0 : ByteArray) (a0_1 : Int) (a0_2 : Int) (a0_3 : Int) (a0_4 : Int) (a0_5 : Int) (a0_6 : Int) (r : Bool) (w : World) (h : impl_TaskOk.f k a0_0 a0_1 a0_2 a0_3 a0_4 a0_5 a0_6 = some r) :
  Calls Try.prog 19 #[.agg #[.string a0_0, .int .i64 a0_1, .int .i64 a0_2, .int .i64 a0_3, .int .i64 a0_4, .int .i64 a0_5, .int .i64 a0_6]] w fun e w' => e = .returned (.bool r) ∧ Below w.heap.size w w' := by
 have hu33 := Try.underlying33
 have hu25 := Try.underlying25
 have HB := Aside0.mk (Below.refl w.heap.size w)
 have H : ((impl_Task_numbers.f a0_0 a0_1 a0_2 a0_3 a0_4 a0_5 a0_6).bind fun t230 => ((impl_isName.f k a0_0).bind fun t233 => (if t233 = true then ((impl_allIn.f k t230 0 100000).bind fun t234 => (if t234 = true then ((slices_Max_int_int.f k t230).bind fun t235 => (if t235 > 0 then ((impl_ClockOk.f k a0_4 a0_5 a0_6).bind fun t236 => (some t236)) else (some false))) else (some false))) else (some false)))) = some r := h
 clear h
 replace H := Option.bind_eq_some_iff.mp H
 obtain ⟨t230, A20, H⟩ := H
 replace H : ((impl_isName.f k a0_0).bind fun t233 => (if t233 = true then ((impl_allIn.f k t230 0 100000).bind fun t234 => (if t234 = true then ((slices_Max_int_int.f k t230).bind fun t235 => (if t235 > 0 then ((impl_ClockOk.f k a0_4 a0_5 a0_6).bind fun t236 => (some t236)) else (some false))) else (some false))) else (some false))) = some r := H
 have A2 := Aside0.mk A20
 clear A20
 replace H := Option.bind_eq_some_iff.mp H
 obtain ⟨t233, A30, H⟩ := H
 replace H : (if t233 = true then ((impl_allIn.f k t230 0 100000).bind fun t234 => (if t234 = true then ((slices_Max_int_int.f k t230).bind fun t235 => (if t235 > 0 then ((impl_ClockOk.f k a0_4 a0_5 a0_6).bind fun t236 => (some t236)) else (some false))) else (some false))) else (some false)) = some r := H
 have A3 := Aside0.mk A30
 clear A30
 by_cases c4 : t233 = true
 ·
  subst c4
  have H1 : ((impl_allIn.f k t230 0 100000).bind fun t234 => (if t234 = true then ((slices_Max_int_int.f k t230).bind fun t235 => (if t235 > 0 then ((impl_ClockOk.f k a0_4 a0_5 a0_6).bind fun t236 => (some t236)) else (some false))) else (some false))) = some r := by rw [if_pos rfl] at H; exact H
  clear H
  have H := H1
  clear H1
  replace H := Option.bind_eq_some_iff.mp H
  obtain ⟨t234, A50, H⟩ := H
  replace H : (if t234 = true then ((slices_Max_int_int.f k t230).bind fun t235 => (if t235 > 0 then ((impl_ClockOk.f k a0_4 a0_5 a0_6).bind fun t236 => (some t236)) else (some false))) else (some false)) = some r := H
  have A5 := Aside0.mk A50
  clear A50
  by_cases c6 : t234 = true
  ·
   subst c6
   have H1 : ((slices_Max_int_int.f k t230).bind fun t235 => (if t235 > 0 then ((impl_ClockOk.f k a0_4 a0_5 a0_6).bind fun t236 => (some t236)) else (some false))) = some r := by rw [if_pos rfl] at H; exact H
   clear H
   have H := H1
   clear H1
   replace H := Option.bind_eq_some_iff.mp H
   obtain ⟨t235, A70, H⟩ := H
   replace H : (if t235 > 0 then ((impl_ClockOk.f k a0_4 a0_5 a0_6).bind fun t236 => (some t236)) else (some false)) = some r := H
   have A7 := Aside0.mk A70
   clear A70
   by_cases c8 : t235 > 0
   ·
    rw [if_pos c8] at H
    have c8b0 : decide (0 < t235) = true := decide_eq_true c8
    clear c8
    replace H := Option.bind_eq_some_iff.mp H
    obtain ⟨t236, A90, H⟩ := H
    replace H : (some t236) = some r := H
    have A9 := Aside0.mk A90
    clear A90
    obtain rfl := Option.some.inj H
    go_enter Try.func19, Try.ntmps19
    go_wp2_with (first | ((with_reducible refine gate_dst (N := 1) rfl ?_); refine box_event ?hg (N := 1) ?hd (cs := #[.string a0_0, .int .i64 a0_1, .int .i64 a0_2, .int .i64 a0_3, .int .i64 a0_4, .int .i64 a0_5, .int .i64 a0_6]) (t := 33) ?hr ?_; (case hd => rfl); (case hg => rfl); (case hr => first | (go_simp; done) | (go_simp; rfl)); intro gb229 hg w10 hbox hb; have n0_ := Aside0.mk (below_step (bl HB.out) hb); have n1_ := Aside0.mk (hbox); have n2_ := Aside0.mk ((by rw [hg]; exact (below_size (bl HB.out)) : w.heap.size ≤ gb229)); have n3_ := Aside0.mk ((by rw [hg]; exact (below_size (bl HB.out)) : w.heap.size ≤ gb229)); clear HB; have HB := n0_; have BK229 := n1_; have GW229 := n2_; have GE229 := n3_; clear n0_ n1_ n2_ n3_; clear hb hbox hg; have hcz11_0 := ck (v := .string a0_0) BK229.out 0 rfl; have hcz11_1 := ck (v := .int .i64 a0_1) BK229.out 1 rfl; have hcz11_2 := ck (v := .int .i64 a0_2) BK229.out 2 rfl; have hcz11_3 := ck (v := .int .i64 a0_3) BK229.out 3 rfl; have hcz11_4 := ck (v := .int .i64 a0_4) BK229.out 4 rfl; have hcz11_5 := ck (v := .int .i64 a0_5) BK229.out 5 rfl; have hcz11_6 := ck (v := .int .i64 a0_6) BK229.out 6 rfl; have hfz11_0 := blk_frozen BK229.out 0; have hfz11_1 := blk_frozen BK229.out 1; have hfz11_2 := blk_frozen BK229.out 2; have hfz11_3 := blk_frozen BK229.out 3; have hfz11_4 := blk_frozen BK229.out 4; have hfz11_5 := blk_frozen BK229.out 5; have hfz11_6 := blk_frozen BK229.out 6) | ((with_reducible refine gate_callee (f := 50) rfl ?_); refine goesL_ (some 5) rfl rfl Try.func50 (by kernel_rfl) rfl #[.agg #[.string a0_0, .int .i64 a0_1, .int .i64 a0_2, .int .i64 a0_3, .int .i64 a0_4, .int .i64 a0_5, .int .i64 a0_6]] rfl (by (try simp only [am_]); first | done | rfl) ?_; (with_reducible refine (impl_Task_numbers.calls a0_0 a0_1 a0_2 a0_3 a0_4 a0_5 a0_6 t230 _ A2.out).mono ?_); rintro e w12 ⟨v231, rfl, ho0, hb⟩; refine ⟨_, rfl, ?_⟩; have n0_ := Aside0.mk (Kd.R_lower ho0 (below_size (by repeat with_reducible first | exact bl HB.out | refine below_set ?_ GE229.out | refine bq ?_))); have n1_ := Aside0.mk (blk_below (bk BK229.out) hb); have n2_ := Aside0.mk (below_step (by repeat with_reducible first | exact bl HB.out | refine below_set ?_ GE229.out | refine bq ?_) hb); clear BK229; clear HB; have HO232 := n0_; have BK229 := n1_; have HB := n2_; clear n0_ n1_ n2_; (try clear hb); (try clear hb2); (try clear hk); (try clear hi); (try clear ho0); have hcz13_0 := ck (v := .string a0_0) BK229.out 0 rfl; have hcz13_1 := ck (v := .int .i64 a0_1) BK229.out 1 rfl; have hcz13_2 := ck (v := .int .i64 a0_2) BK229.out 2 rfl; have hcz13_3 := ck (v := .int .i64 a0_3) BK229.out 3 rfl; have hcz13_4 := ck (v := .int .i64 a0_4) BK229.out 4 rfl; have hcz13_5 := ck (v := .int .i64 a0_5) BK229.out 5 rfl; have hcz13_6 := ck (v := .int .i64 a0_6) BK229.out 6 rfl; have hfz13_0 := blk_frozen BK229.out 0; have hfz13_1 := blk_frozen BK229.out 1; have hfz13_2 := blk_frozen BK229.out 2; have hfz13_3 := blk_frozen BK229.out 3; have hfz13_4 := blk_frozen BK229.out 4; have hfz13_5 := blk_frozen BK229.out 5; have hfz13_6 := blk_frozen BK229.out 6) | ((with_reducible refine gate_callee (f := 51) rfl ?_); refine goesL_ (some 8) rfl rfl Try.func51 (by kernel_rfl) rfl #[.string a0_0] rfl (by (try simp only [am_]); first | done | rfl) ?_; (with_reducible refine (impl_isName.calls k a0_0 true _ A3.out).mono ?_); rintro e w' ⟨rfl, ⟨nd, rfl⟩⟩; refine ⟨_, rfl, ?_⟩; obtain ⟨Ao14, co14, eo14⟩ := Kd.R_slice HO232.out; subst eo14) | (go_at_call 47; (with_reducible refine (impl_allIn.calls k _ _ t230 0 100000 true _ ?side1 ?side2 A5.out).mono ?_); (case side1 => exact rc (Kd.R_reads' HO232.out).2.2); (case side2 => exact (Kd.R_reads' HO232.out).2.1); rintro e w' ⟨rfl, ⟨nd, rfl⟩⟩) | (go_at_call 52; (with_reducible refine (slices_Max_int_int.calls k _ _ t230 t235 _ ?side1 ?side2 A7.out).mono ?_); (case side1 => exact rc (Kd.R_reads' HO232.out).2.2); (case side2 => exact (Kd.R_reads' HO232.out).2.1); rintro e w15 ⟨rfl, hb⟩; have n0_ := Aside0.mk (Kd.R_below (rl HO232.out) hb); have n1_ := Aside0.mk (blk_below (bk BK229.out) hb); have n2_ := Aside0.mk (below_step (by repeat with_reducible first | exact bl HB.out | refine below_set ?_ GE229.out | refine bq ?_) hb); clear HO232; clear BK229; clear HB; have HO232 := n0_; have BK229 := n1_; have HB := n2_; clear n0_ n1_ n2_; (try clear hb); (try clear hb2); (try clear hk); (try clear hi); have hcz16_0 := ck (v := .string a0_0) BK229.out 0 rfl; have hcz16_1 := ck (v := .int .i64 a0_1) BK229.out 1 rfl; have hcz16_2 := ck (v := .int .i64 a0_2) BK229.out 2 rfl; have hcz16_3 := ck (v := .int .i64 a0_3) BK229.out 3 rfl; have hcz16_4 := ck (v := .int .i64 a0_4) BK229.out 4 rfl; have hcz16_5 := ck (v := .int .i64 a0_5) BK229.out 5 rfl; have hcz16_6 := ck (v := .int .i64 a0_6) BK229.out 6 rfl; have hfz16_0 := blk_frozen BK229.out 0; have hfz16_1 := blk_frozen BK229.out 1; have hfz16_2 := blk_frozen BK229.out 2; have hfz16_3 := blk_frozen BK229.out 3; have hfz16_4 := blk_frozen BK229.out 4; have hfz16_5 := blk_frozen BK229.out 5; have hfz16_6 := blk_frozen BK229.out 6) | (go_at_call 15; (with_reducible refine (impl_ClockOk.calls k a0_4 a0_5 a0_6 t236 _ A9.out).mono ?_); rintro e w17 ⟨rfl, hb⟩; have n0_ := Aside0.mk (Kd.R_below (rl HO232.out) hb); have n1_ := Aside0.mk (blk_below (bk BK229.out) hb); have n2_ := Aside0.mk (below_step (by repeat with_reducible first | exact bl HB.out | refine below_set ?_ GE229.out | refine bq ?_) hb); clear HO232; clear BK229; clear HB; have HO232 := n0_; have BK229 := n1_; have HB := n2_; clear n0_ n1_ n2_; (try clear hb); (try clear hb2); (try clear hk); (try clear hi)))
    go_ret
    exact ⟨by first | rfl | (simp [errW_none, errW_some] <;> rfl) | (simp [*, errW_none, errW_some] <;> rfl), by repeat with_reducible first | exact bl HB.out | refine below_set ?_ GE229.out | refine bq ?_⟩
   ·
    rw [if_neg c8] at H
    have c8b0 : decide (0 < t235) = false := decide_eq_false c8
    clear c8
    obtain rfl := Option.some.inj H
    go_enter Try.func19, Try.ntmps19
    go_wp2_with (first | ((with_reducible refine gate_dst (N := 1) rfl ?_); refine box_event ?hg (N := 1) ?hd (cs := #[.string a0_0, .int .i64 a0_1, .int .i64 a0_2, .int .i64 a0_3, .int .i64 a0_4, .int .i64 a0_5, .int .i64 a0_6]) (t := 33) ?hr ?_; (case hd => rfl); (case hg => rfl); (case hr => first | (go_simp; done) | (go_simp; rfl)); intro gb229 hg w18 hbox hb; have n0_ := Aside0.mk (below_step (bl HB.out) hb); have n1_ := Aside0.mk (hbox); have n2_ := Aside0.mk ((by rw [hg]; exact (below_size (bl HB.out)) : w.heap.size ≤ gb229)); have n3_ := Aside0.mk ((by rw [hg]; exact (below_size (bl HB.out)) : w.heap.size ≤ gb229)); clear HB; have HB := n0_; have BK229 := n1_; have GW229 := n2_; have GE229 := n3_; clear n0_ n1_ n2_ n3_; clear hb hbox hg; have hcz19_0 := ck (v := .string a0_0) BK229.out 0 rfl; have hcz19_1 := ck (v := .int .i64 a0_1) BK229.out 1 rfl; have hcz19_2 := ck (v := .int .i64 a0_2) BK229.out 2 rfl; have hcz19_3 := ck (v := .int .i64 a0_3) BK229.out 3 rfl; have hcz19_4 := ck (v := .int .i64 a0_4) BK229.out 4 rfl; have hcz19_5 := ck (v := .int .i64 a0_5) BK229.out 5 rfl; have hcz19_6 := ck (v := .int .i64 a0_6) BK229.out 6 rfl; have hfz19_0 := blk_frozen BK229.out 0; have hfz19_1 := blk_frozen BK229.out 1; have hfz19_2 := blk_frozen BK229.out 2; have hfz19_3 := blk_frozen BK229.out 3; have hfz19_4 := blk_frozen BK229.out 4; have hfz19_5 := blk_frozen BK229.out 5; have hfz19_6 := blk_frozen BK229.out 6) | ((with_reducible refine gate_callee (f := 50) rfl ?_); refine goesL_ (some 5) rfl rfl Try.func50 (by kernel_rfl) rfl #[.agg #[.string a0_0, .int .i64 a0_1, .int .i64 a0_2, .int .i64 a0_3, .int .i64 a0_4, .int .i64 a0_5, .int .i64 a0_6]] rfl (by (try simp only [am_]); first | done | rfl) ?_; (with_reducible refine (impl_Task_numbers.calls a0_0 a0_1 a0_2 a0_3 a0_4 a0_5 a0_6 t230 _ A2.out).mono ?_); rintro e w20 ⟨v231, rfl, ho0, hb⟩; refine ⟨_, rfl, ?_⟩; have n0_ := Aside0.mk (Kd.R_lower ho0 (below_size (by repeat with_reducible first | exact bl HB.out | refine below_set ?_ GE229.out | refine bq ?_))); have n1_ := Aside0.mk (blk_below (bk BK229.out) hb); have n2_ := Aside0.mk (below_step (by repeat with_reducible first | exact bl HB.out | refine below_set ?_ GE229.out | refine bq ?_) hb); clear BK229; clear HB; have HO232 := n0_; have BK229 := n1_; have HB := n2_; clear n0_ n1_ n2_; (try clear hb); (try clear hb2); (try clear hk); (try clear hi); (try clear ho0); have hcz21_0 := ck (v := .string a0_0) BK229.out 0 rfl; have hcz21_1 := ck (v := .int .i64 a0_1) BK229.out 1 rfl; have hcz21_2 := ck (v := .int .i64 a0_2) BK229.out 2 rfl; have hcz21_3 := ck (v := .int .i64 a0_3) BK229.out 3 rfl; have hcz21_4 := ck (v := .int .i64 a0_4) BK229.out 4 rfl; have hcz21_5 := ck (v := .int .i64 a0_5) BK229.out 5 rfl; have hcz21_6 := ck (v := .int .i64 a0_6) BK229.out 6 rfl; have hfz21_0 := blk_frozen BK229.out 0; have hfz21_1 := blk_frozen BK229.out 1; have hfz21_2 := blk_frozen BK229.out 2; have hfz21_3 := blk_frozen BK229.out 3; have hfz21_4 := blk_frozen BK229.out 4; have hfz21_5 := blk_frozen BK229.out 5; have hfz21_6 := blk_frozen BK229.out 6) | ((with_reducible refine gate_callee (f := 51) rfl ?_); refine goesL_ (some 8) rfl rfl Try.func51 (by kernel_rfl) rfl #[.string a0_0] rfl (by (try simp only [am_]); first | done | rfl) ?_; (with_reducible refine (impl_isName.calls k a0_0 true _ A3.out).mono ?_); rintro e w' ⟨rfl, ⟨nd, rfl⟩⟩; refine ⟨_, rfl, ?_⟩; obtain ⟨Ao22, co22, eo22⟩ := Kd.R_slice HO232.out; subst eo22) | (go_at_call 47; (with_reducible refine (impl_allIn.calls k _ _ t230 0 100000 true _ ?side1 ?side2 A5.out).mono ?_); (case side1 => exact rc (Kd.R_reads' HO232.out).2.2); (case side2 => exact (Kd.R_reads' HO232.out).2.1); rintro e w' ⟨rfl, ⟨nd, rfl⟩⟩) | (go_at_call 52; (with_reducible refine (slices_Max_int_int.calls k _ _ t230 t235 _ ?side1 ?side2 A7.out).mono ?_); (case side1 => exact rc (Kd.R_reads' HO232.out).2.2); (case side2 => exact (Kd.R_reads' HO232.out).2.1); rintro e w23 ⟨rfl, hb⟩; have n0_ := Aside0.mk (Kd.R_below (rl HO232.out) hb); have n1_ := Aside0.mk (blk_below (bk BK229.out) hb); have n2_ := Aside0.mk (below_step (by repeat with_reducible first | exact bl HB.out | refine below_set ?_ GE229.out | refine bq ?_) hb); clear HO232; clear BK229; clear HB; have HO232 := n0_; have BK229 := n1_; have HB := n2_; clear n0_ n1_ n2_; (try clear hb); (try clear hb2); (try clear hk); (try clear hi)))
    go_ret
    exact ⟨by first | rfl | (simp [errW_none, errW_some] <;> rfl) | (simp [*, errW_none, errW_some] <;> rfl), by repeat with_reducible first | exact bl HB.out | refine below_set ?_ GE229.out | refine bq ?_⟩
  ·
   replace c6 := Bool.eq_false_iff.mpr c6
   subst c6
   have H1 : (some false) = some r := by rw [if_neg (show ¬ (false = true) by decide)] at H; exact H
   clear H
   have H := H1
   clear H1
   obtain rfl := Option.some.inj H
   go_enter Try.func19, Try.ntmps19
   go_wp2_with (first | ((with_reducible refine gate_dst (N := 1) rfl ?_); refine box_event ?hg (N := 1) ?hd (cs := #[.string a0_0, .int .i64 a0_1, .int .i64 a0_2, .int .i64 a0_3, .int .i64 a0_4, .int .i64 a0_5, .int .i64 a0_6]) (t := 33) ?hr ?_; (case hd => rfl); (case hg => rfl); (case hr => first | (go_simp; done) | (go_simp; rfl)); intro gb229 hg w24 hbox hb; have n0_ := Aside0.mk (below_step (bl HB.out) hb); have n1_ := Aside0.mk (hbox); have n2_ := Aside0.mk ((by rw [hg]; exact (below_size (bl HB.out)) : w.heap.size ≤ gb229)); have n3_ := Aside0.mk ((by rw [hg]; exact (below_size (bl HB.out)) : w.heap.size ≤ gb229)); clear HB; have HB := n0_; have BK229 := n1_; have GW229 := n2_; have GE229 := n3_; clear n0_ n1_ n2_ n3_; clear hb hbox hg; have hcz25_0 := ck (v := .string a0_0) BK229.out 0 rfl; have hcz25_1 := ck (v := .int .i64 a0_1) BK229.out 1 rfl; have hcz25_2 := ck (v := .int .i64 a0_2) BK229.out 2 rfl; have hcz25_3 := ck (v := .int .i64 a0_3) BK229.out 3 rfl; have hcz25_4 := ck (v := .int .i64 a0_4) BK229.out 4 rfl; have hcz25_5 := ck (v := .int .i64 a0_5) BK229.out 5 rfl; have hcz25_6 := ck (v := .int .i64 a0_6) BK229.out 6 rfl; have hfz25_0 := blk_frozen BK229.out 0; have hfz25_1 := blk_frozen BK229.out 1; have hfz25_2 := blk_frozen BK229.out 2; have hfz25_3 := blk_frozen BK229.out 3; have hfz25_4 := blk_frozen BK229.out 4; have hfz25_5 := blk_frozen BK229.out 5; have hfz25_6 := blk_frozen BK229.out 6) | ((with_reducible refine gate_callee (f := 50) rfl ?_); refine goesL_ (some 5) rfl rfl Try.func50 (by kernel_rfl) rfl #[.agg #[.string a0_0, .int .i64 a0_1, .int .i64 a0_2, .int .i64 a0_3, .int .i64 a0_4, .int .i64 a0_5, .int .i64 a0_6]] rfl (by (try simp only [am_]); first | done | rfl) ?_; (with_reducible refine (impl_Task_numbers.calls a0_0 a0_1 a0_2 a0_3 a0_4 a0_5 a0_6 t230 _ A2.out).mono ?_); rintro e w26 ⟨v231, rfl, ho0, hb⟩; refine ⟨_, rfl, ?_⟩; have n0_ := Aside0.mk (Kd.R_lower ho0 (below_size (by repeat with_reducible first | exact bl HB.out | refine below_set ?_ GE229.out | refine bq ?_))); have n1_ := Aside0.mk (blk_below (bk BK229.out) hb); have n2_ := Aside0.mk (below_step (by repeat with_reducible first | exact bl HB.out | refine below_set ?_ GE229.out | refine bq ?_) hb); clear BK229; clear HB; have HO232 := n0_; have BK229 := n1_; have HB := n2_; clear n0_ n1_ n2_; (try clear hb); (try clear hb2); (try clear hk); (try clear hi); (try clear ho0); have hcz27_0 := ck (v := .string a0_0) BK229.out 0 rfl; have hcz27_1 := ck (v := .int .i64 a0_1) BK229.out 1 rfl; have hcz27_2 := ck (v := .int .i64 a0_2) BK229.out 2 rfl; have hcz27_3 := ck (v := .int .i64 a0_3) BK229.out 3 rfl; have hcz27_4 := ck (v := .int .i64 a0_4) BK229.out 4 rfl; have hcz27_5 := ck (v := .int .i64 a0_5) BK229.out 5 rfl; have hcz27_6 := ck (v := .int .i64 a0_6) BK229.out 6 rfl; have hfz27_0 := blk_frozen BK229.out 0; have hfz27_1 := blk_frozen BK229.out 1; have hfz27_2 := blk_frozen BK229.out 2; have hfz27_3 := blk_frozen BK229.out 3; have hfz27_4 := blk_frozen BK229.out 4; have hfz27_5 := blk_frozen BK229.out 5; have hfz27_6 := blk_frozen BK229.out 6) | ((with_reducible refine gate_callee (f := 51) rfl ?_); refine goesL_ (some 8) rfl rfl Try.func51 (by kernel_rfl) rfl #[.string a0_0] rfl (by (try simp only [am_]); first | done | rfl) ?_; (with_reducible refine (impl_isName.calls k a0_0 true _ A3.out).mono ?_); rintro e w' ⟨rfl, ⟨nd, rfl⟩⟩; refine ⟨_, rfl, ?_⟩; obtain ⟨Ao28, co28, eo28⟩ := Kd.R_slice HO232.out; subst eo28) | (go_at_call 47; (with_reducible refine (impl_allIn.calls k _ _ t230 0 100000 false _ ?side1 ?side2 A5.out).mono ?_); (case side1 => exact rc (Kd.R_reads' HO232.out).2.2); (case side2 => exact (Kd.R_reads' HO232.out).2.1); rintro e w' ⟨rfl, ⟨nd, rfl⟩⟩))
   go_ret
   exact ⟨by first | rfl | (simp [errW_none, errW_some] <;> rfl) | (simp [*, errW_none, errW_some] <;> rfl), by repeat with_reducible first | exact bl HB.out | refine below_set ?_ GE229.out | refine bq ?_⟩
 ·
  replace c4 := Bool.eq_false_iff.mpr c4
  subst c4
  have H1 : (some false) = some r := by rw [if_neg (show ¬ (false = true) by decide)] at H; exact H
  clear H
  have H := H1
  clear H1
  obtain rfl := Option.some.inj H
  go_enter Try.func19, Try.ntmps19
  go_wp2_with (first | ((with_reducible refine gate_dst (N := 1) rfl ?_); refine box_event ?hg (N := 1) ?hd (cs := #[.string a0_0, .int .i64 a0_1, .int .i64 a0_2, .int .i64 a0_3, .int .i64 a0_4, .int .i64 a0_5, .int .i64 a0_6]) (t := 33) ?hr ?_; (case hd => rfl); (case hg => rfl); (case hr => first | (go_simp; done) | (go_simp; rfl)); intro gb229 hg w29 hbox hb; have n0_ := Aside0.mk (below_step (bl HB.out) hb); have n1_ := Aside0.mk (hbox); have n2_ := Aside0.mk ((by rw [hg]; exact (below_size (bl HB.out)) : w.heap.size ≤ gb229)); have n3_ := Aside0.mk ((by rw [hg]; exact (below_size (bl HB.out)) : w.heap.size ≤ gb229)); clear HB; have HB := n0_; have BK229 := n1_; have GW229 := n2_; have GE229 := n3_; clear n0_ n1_ n2_ n3_; clear hb hbox hg; have hcz30_0 := ck (v := .string a0_0) BK229.out 0 rfl; have hcz30_1 := ck (v := .int .i64 a0_1) BK229.out 1 rfl; have hcz30_2 := ck (v := .int .i64 a0_2) BK229.out 2 rfl; have hcz30_3 := ck (v := .int .i64 a0_3) BK229.out 3 rfl; have hcz30_4 := ck (v := .int .i64 a0_4) BK229.out 4 rfl; have hcz30_5 := ck (v := .int .i64 a0_5) BK229.out 5 rfl; have hcz30_6 := ck (v := .int .i64 a0_6) BK229.out 6 rfl; have hfz30_0 := blk_frozen BK229.out 0; have hfz30_1 := blk_frozen BK229.out 1; have hfz30_2 := blk_frozen BK229.out 2; have hfz30_3 := blk_frozen BK229.out 3; have hfz30_4 := blk_frozen BK229.out 4; have hfz30_5 := blk_frozen BK229.out 5; have hfz30_6 := blk_frozen BK229.out 6) | ((with_reducible refine gate_callee (f := 50) rfl ?_); refine goesL_ (some 5) rfl rfl Try.func50 (by kernel_rfl) rfl #[.agg #[.string a0_0, .int .i64 a0_1, .int .i64 a0_2, .int .i64 a0_3, .int .i64 a0_4, .int .i64 a0_5, .int .i64 a0_6]] rfl (by (try simp only [am_]); first | done | rfl) ?_; (with_reducible refine (impl_Task_numbers.calls a0_0 a0_1 a0_2 a0_3 a0_4 a0_5 a0_6 t230 _ A2.out).mono ?_); rintro e w31 ⟨v231, rfl, ho0, hb⟩; refine ⟨_, rfl, ?_⟩; have n0_ := Aside0.mk (Kd.R_lower ho0 (below_size (by repeat with_reducible first | exact bl HB.out | refine below_set ?_ GE229.out | refine bq ?_))); have n1_ := Aside0.mk (blk_below (bk BK229.out) hb); have n2_ := Aside0.mk (below_step (by repeat with_reducible first | exact bl HB.out | refine below_set ?_ GE229.out | refine bq ?_) hb); clear BK229; clear HB; have HO232 := n0_; have BK229 := n1_; have HB := n2_; clear n0_ n1_ n2_; (try clear hb); (try clear hb2); (try clear hk); (try clear hi); (try clear ho0); have hcz32_0 := ck (v := .string a0_0) BK229.out 0 rfl; have hcz32_1 := ck (v := .int .i64 a0_1) BK229.out 1 rfl; have hcz32_2 := ck (v := .int .i64 a0_2) BK229.out 2 rfl; have hcz32_3 := ck (v := .int .i64 a0_3) BK229.out 3 rfl; have hcz32_4 := ck (v := .int .i64 a0_4) BK229.out 4 rfl; have hcz32_5 := ck (v := .int .i64 a0_5) BK229.out 5 rfl; have hcz32_6 := ck (v := .int .i64 a0_6) BK229.out 6 rfl; have hfz32_0 := blk_frozen BK229.out 0; have hfz32_1 := blk_frozen BK229.out 1; have hfz32_2 := blk_frozen BK229.out 2; have hfz32_3 := blk_frozen BK229.out 3; have hfz32_4 := blk_frozen BK229.out 4; have hfz32_5 := blk_frozen BK229.out 5; have hfz32_6 := blk_frozen BK229.out 6) | ((with_reducible refine gate_callee (f := 51) rfl ?_); refine goesL_ (some 8) rfl rfl Try.func51 (by kernel_rfl) rfl #[.string a0_0] rfl (by (try simp only [am_]); first | done | rfl) ?_; (with_reducible refine (impl_isName.calls k a0_0 false _ A3.out).mono ?_); rintro e w' ⟨rfl, ⟨nd, rfl⟩⟩; refine ⟨_, rfl, ?_⟩))
  go_ret
  exact ⟨by first | rfl | (simp [errW_none, errW_some] <;> rfl) | (simp [*, errW_none, errW_some] <;> rfl), by repeat with_reducible first | exact bl HB.out | refine below_set ?_ GE229.out | refine bq ?_⟩

end Go.Proofs.Ytbgdibbgngpggaa.PFnExactFleetOk
