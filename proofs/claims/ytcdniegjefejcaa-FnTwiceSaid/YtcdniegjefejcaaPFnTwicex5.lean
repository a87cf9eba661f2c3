-- Written by a program of this session (wip/xprint.py) out of the translation; Lean checks it.
import Derived.Test.YtcdniegjefejcaaPFnTwicex0
import Derived.Test.YtcdniegjefejcaaPFnTwicex1
import Derived.Test.YtcdniegjefejcaaPFnTwicex2
import Derived.Test.YtcdniegjefejcaaPFnTwicex3
namespace Go.Proofs.Ytcdniegjefejcaa.PFnTwice
open Go.RowKit Go.Proofs.YtcdniegjefejcaaW.PrintWords Go.Proofs.YtcdniegjefejcaaW.PrintLast Go.Proofs.YtcdniegjefejcaaW.PrintMore Go.Proofs.Ytcdniegjefejcaa.Sq
attribute [local go_sem] max2_int min2_int max_two min_two max_three min_three max_four min_four   -- for this text's walks alone
set_option linter.unusedVariables false
set_option linter.unusedSimpArgs false

attribute [local go_sem high] eqA25
/-! ### laws_FnTwice: function 7 -/
mutual
def laws_FnTwice.l0 : Nat → List (S41) → List Bool → List Bool → List (List Int) → List (List Int) → List (S41) → Int → Bool → Int → Option (Bool)
 | 0, _, _, _, _, _, _, _, _, _ => none
 | k + 1, x3, x4, x5, x6, x7, x8, x9, x10, x11 => if x11 < (x3.length : Int) then (if 0 ≤ x11 then ((impl_Put16.f k ((rd_T41 x3 x11).f0) ((rd_T41 x3 x11).f1) ((rd_T41 x3 x11).f2)).bind fun bt226 => (if bt226.2 = true then ((some (([] : List Int) : List Int)).bind fun y233 => (if x11 < (x4.length : Int) then (if rdOf false x4 x11 = true then (laws_FnTwice.j1 k x3 x4 x5 x6 x7 x8 x9 x10 x11 bt226.1 (([] : List Int)) y233) else (laws_FnTwice.j1 k x3 x4 x5 x6 x7 x8 x9 x10 x11 bt226.1 bt226.1 y233)) else (none))) else (some false))) else (none)) else ((impl_Both16.f k 5 (-1) 50 x6 x7).bind fun bt250 => (if (bt250.1.length : Int) = (x8.length : Int) then ((impl_ReceiverOk.f bt250.2.2.1 bt250.2.2.2.1 bt250.2.2.2.2).bind fun t258 => (laws_FnTwice.j4 k x3 x4 x5 x8 x9 bt250.1 bt250.2.1 (!t258) bt250.2.2.1 bt250.2.2.2.1 bt250.2.2.2.2)) else (laws_FnTwice.j4 k x3 x4 x5 x8 x9 bt250.1 bt250.2.1 true bt250.2.2.1 bt250.2.2.2.1 bt250.2.2.2.2)))
def laws_FnTwice.j1 : Nat → List (S41) → List Bool → List Bool → List (List Int) → List (List Int) → List (S41) → Int → Bool → Int → List Int → List Int → List Int → Option (Bool)
 | 0, _, _, _, _, _, _, _, _, _, _, _, _ => none
 | k + 1, x3, x4, x5, x6, x7, x8, x9, x10, x11, x12, x14, x15 => if 0 ≤ x11 then (if x11 < (x5.length : Int) then (if rdOf false x5 x11 = true then (laws_FnTwice.j2 k x3 x4 x5 x6 x7 x8 x9 x10 x11 x14 x15) else (laws_FnTwice.j2 k x3 x4 x5 x6 x7 x8 x9 x10 x11 x14 x12)) else (none)) else (none)
def laws_FnTwice.j2 : Nat → List (S41) → List Bool → List Bool → List (List Int) → List (List Int) → List (S41) → Int → Bool → Int → List Int → List Int → Option (Bool)
 | 0, _, _, _, _, _, _, _, _, _, _, _ => none
 | k + 1, x3, x4, x5, x6, x7, x8, x9, x10, x11, x14, x15 => if x6.length < 5864062014805 then ((some (x6 ++ [x14] : List (List Int))).bind fun y238 => (if x7.length < 5864062014805 then ((some (x7 ++ [x15] : List (List Int))).bind fun y241 => (if 0 ≤ x11 then (if x11 < (x4.length : Int) then (if rdOf false x4 x11 = true then (if x11 < (x5.length : Int) then (laws_FnTwice.j3 k x3 x4 x5 y238 y241 x8 x9 x10 x11 (rdOf false x5 x11)) else (none)) else (laws_FnTwice.j3 k x3 x4 x5 y238 y241 x8 x9 x10 x11 false)) else (none)) else (none))) else (none))) else (none)
def laws_FnTwice.j3 : Nat → List (S41) → List Bool → List Bool → List (List Int) → List (List Int) → List (S41) → Int → Bool → Int → Bool → Option (Bool)
 | 0, _, _, _, _, _, _, _, _, _, _ => none
 | k + 1, x3, x4, x5, x6, x7, x8, x9, x10, x11, x83 => if x83 = true then (if x10 = true then (laws_FnTwice.l0 k x3 x4 x5 x6 x7 x8 (wrap64 (x9 + 1)) x10 (wrap64 (x11 + 1))) else (laws_FnTwice.l0 k x3 x4 x5 x6 x7 x8 x9 x10 (wrap64 (x11 + 1)))) else (if 0 ≤ x11 then (if x11 < (x3.length : Int) then (if x8.length < 3518437208883 then (laws_FnTwice.l0 k x3 x4 x5 x6 x7 (x8 ++ [(⟨(rd_T41 x3 x11).f0, (rd_T41 x3 x11).f1, (rd_T41 x3 x11).f2⟩ : S41)]) x9 true (wrap64 (x11 + 1))) else (none)) else (none)) else (none))
def laws_FnTwice.j4 : Nat → List (S41) → List Bool → List Bool → List (S41) → Int → List (S41) → Int → Bool → Int → Int → Int → Option (Bool)
 | 0, _, _, _, _, _, _, _, _, _, _, _ => none
 | k + 1, x3, x4, x5, x8, x9, x16, x17, x111, x258000, x258001, x258002 => if x111 = true then (some false) else (laws_FnTwice.l1 k x3 x4 x5 x8 x9 x16 x17 0 x258000 x258001 x258002)
def laws_FnTwice.l1 : Nat → List (S41) → List Bool → List Bool → List (S41) → Int → List (S41) → Int → Int → Int → Int → Int → Option (Bool)
 | 0, _, _, _, _, _, _, _, _, _, _, _ => none
 | k + 1, x3, x4, x5, x8, x9, x16, x17, x19, x258000, x258001, x258002 => if x19 < (x16.length : Int) then (if 0 ≤ x19 then (if x19 < (x8.length : Int) then (if ((rd_T41 x16 x19).f1) = ((rd_T41 x8 x19).f1) then (if (strOfNums ((rd_T41 x16 x19).f2)).toList = (strOfNums ((rd_T41 x8 x19).f2)).toList then (laws_FnTwice.l1 k x3 x4 x5 x8 x9 x16 x17 (wrap64 (x19 + 1)) x258000 x258001 x258002) else (some false)) else (some false)) else (none)) else (none)) else (laws_FnTwice.l2 k x4 x5 x8 x9 x17 0 (wrap64 ((x3.length : Int) - 1)) x258000 x258001 x258002)
def laws_FnTwice.l2 : Nat → List Bool → List Bool → List (S41) → Int → Int → Int → Int → Int → Int → Int → Option (Bool)
 | 0, _, _, _, _, _, _, _, _, _, _ => none
 | k + 1, x4, x5, x8, x9, x17, x20, x21, x258000, x258001, x258002 => if x21 ≥ 0 then (if 0 ≤ x21 then (if x21 < (x4.length : Int) then (if rdOf false x4 x21 = true then (if x21 < (x5.length : Int) then (laws_FnTwice.j7 k x4 x5 x8 x9 x17 x20 x21 (rdOf false x5 x21) x258000 x258001 x258002) else (none)) else (laws_FnTwice.j7 k x4 x5 x8 x9 x17 x20 x21 false x258000 x258001 x258002)) else (none)) else (none)) else (laws_FnTwice.j7 k x4 x5 x8 x9 x17 x20 x21 false x258000 x258001 x258002)
def laws_FnTwice.j7 : Nat → List Bool → List Bool → List (S41) → Int → Int → Int → Int → Bool → Int → Int → Int → Option (Bool)
 | 0, _, _, _, _, _, _, _, _, _, _, _ => none
 | k + 1, x4, x5, x8, x9, x17, x20, x21, x160, x258000, x258001, x258002 => if x160 = true then (laws_FnTwice.l2 k x4 x5 x8 x9 x17 (wrap64 (x20 + 1)) (wrap64 (x21 - 1)) x258000 x258001 x258002) else (if (x8.length : Int) = 0 then (if x17 = 0 then (some (x258001 == (-1))) else (some false)) else (if 0 ≤ (wrap64 ((x8.length : Int) - 1)) then (if (wrap64 ((x8.length : Int) - 1)) < (x8.length : Int) then ((impl_Accept.f k x258000 x258001 x258002 ((rd_T41 x8 (wrap64 ((x8.length : Int) - 1))).f0) ((rd_T41 x8 (wrap64 ((x8.length : Int) - 1))).f1) ((rd_T41 x8 (wrap64 ((x8.length : Int) - 1))).f2)).bind fun bt266 => (if x17 = (wrap64 (x9 - x20)) then (if x258001 = (Int.tmod (wrap64 (((rd_T41 x8 (wrap64 ((x8.length : Int) - 1))).f1) + 1)) 256) then (if bt266.2.2.2.1 = true then (some false) else (some (bt266.1 == x258000 && (bt266.2.1 == x258001 && (bt266.2.2.1 == x258002))))) else (some false)) else (some false))) else (none)) else (none)))
end
def laws_FnTwice.f (k : Nat) (l0 : List Int) : Option (Bool) := (laws_big.f l0).bind fun t206 => (if t206 = true then (some true) else ((spec_DrawLines.f k l0).bind fun bt207 => (laws_FnTwice.l0 k bt207.1 bt207.2.1 bt207.2.2 (([] : List (List Int))) (([] : List (List Int))) (([] : List (S41))) 0 false 0)))
theorem laws_FnTwice.mono_l : ∀ k, (∀ y0 y1 y2 y3 y4 y5 y6 y7 y8, LeO (laws_FnTwice.l0 k y0 y1 y2 y3 y4 y5 y6 y7 y8) (laws_FnTwice.l0 (k + 1) y0 y1 y2 y3 y4 y5 y6 y7 y8)) ∧ (∀ y0 y1 y2 y3 y4 y5 y6 y7 y8 y9 y10 y11, LeO (laws_FnTwice.j1 k y0 y1 y2 y3 y4 y5 y6 y7 y8 y9 y10 y11) (laws_FnTwice.j1 (k + 1) y0 y1 y2 y3 y4 y5 y6 y7 y8 y9 y10 y11)) ∧ (∀ y0 y1 y2 y3 y4 y5 y6 y7 y8 y9 y10, LeO (laws_FnTwice.j2 k y0 y1 y2 y3 y4 y5 y6 y7 y8 y9 y10) (laws_FnTwice.j2 (k + 1) y0 y1 y2 y3 y4 y5 y6 y7 y8 y9 y10)) ∧ (∀ y0 y1 y2 y3 y4 y5 y6 y7 y8 y9, LeO (laws_FnTwice.j3 k y0 y1 y2 y3 y4 y5 y6 y7 y8 y9) (laws_FnTwice.j3 (k + 1) y0 y1 y2 y3 y4 y5 y6 y7 y8 y9)) ∧ (∀ y0 y1 y2 y3 y4 y5 y6 y7 y8 y9 y10, LeO (laws_FnTwice.j4 k y0 y1 y2 y3 y4 y5 y6 y7 y8 y9 y10) (laws_FnTwice.j4 (k + 1) y0 y1 y2 y3 y4 y5 y6 y7 y8 y9 y10)) ∧ (∀ y0 y1 y2 y3 y4 y5 y6 y7 y8 y9 y10, LeO (laws_FnTwice.l1 k y0 y1 y2 y3 y4 y5 y6 y7 y8 y9 y10) (laws_FnTwice.l1 (k + 1) y0 y1 y2 y3 y4 y5 y6 y7 y8 y9 y10)) ∧ (∀ y0 y1 y2 y3 y4 y5 y6 y7 y8 y9, LeO (laws_FnTwice.l2 k y0 y1 y2 y3 y4 y5 y6 y7 y8 y9) (laws_FnTwice.l2 (k + 1) y0 y1 y2 y3 y4 y5 y6 y7 y8 y9)) ∧ (∀ y0 y1 y2 y3 y4 y5 y6 y7 y8 y9 y10, LeO (laws_FnTwice.j7 k y0 y1 y2 y3 y4 y5 y6 y7 y8 y9 y10) (laws_FnTwice.j7 (k + 1) y0 y1 y2 y3 y4 y5 y6 y7 y8 y9 y10))
 | 0 => ⟨fun _ _ _ _ _ _ _ _ _ r h => by simp [laws_FnTwice.l0] at h, fun _ _ _ _ _ _ _ _ _ _ _ _ r h => by simp [laws_FnTwice.j1] at h, fun _ _ _ _ _ _ _ _ _ _ _ r h => by simp [laws_FnTwice.j2] at h, fun _ _ _ _ _ _ _ _ _ _ r h => by simp [laws_FnTwice.j3] at h, fun _ _ _ _ _ _ _ _ _ _ _ r h => by simp [laws_FnTwice.j4] at h, fun _ _ _ _ _ _ _ _ _ _ _ r h => by simp [laws_FnTwice.l1] at h, fun _ _ _ _ _ _ _ _ _ _ r h => by simp [laws_FnTwice.l2] at h, fun _ _ _ _ _ _ _ _ _ _ _ r h => by simp [laws_FnTwice.j7] at h⟩
 | k + 1 => by
  obtain ⟨ih0, ih1, ih2, ih3, ih4, ih5, ih6, ih7⟩ := laws_FnTwice.mono_l k
  refine ⟨?_, ?_, ?_, ?_, ?_, ?_, ?_, ?_⟩
  ·
   intro y0 y1 y2 y3 y4 y5 y6 y7 y8
   unfold laws_FnTwice.l0
   repeat' first
   | (with_reducible exact ih0 _ _ _ _ _ _ _ _ _)
   | (with_reducible exact ih1 _ _ _ _ _ _ _ _ _ _ _ _)
   | (with_reducible exact ih2 _ _ _ _ _ _ _ _ _ _ _)
   | (with_reducible exact ih3 _ _ _ _ _ _ _ _ _ _)
   | (with_reducible exact ih4 _ _ _ _ _ _ _ _ _ _ _)
   | (with_reducible exact ih5 _ _ _ _ _ _ _ _ _ _ _)
   | (with_reducible exact ih6 _ _ _ _ _ _ _ _ _ _)
   | (with_reducible exact ih7 _ _ _ _ _ _ _ _ _ _ _)
   | (with_reducible exact impl_Accept.mono _ _ _ _ _ _ _)
   | (with_reducible exact impl_Both16.mono _ _ _ _ _ _)
   | (with_reducible exact impl_Put16.mono _ _ _ _)
   | (with_reducible exact spec_DrawLines.mono _ _)
   | (with_reducible exact LeO.refl _)
   | (with_reducible exact LeO.none _)
   | (with_reducible refine LeO.ite ?_ ?_)
   | (with_reducible refine LeO.bind ?_ (fun _ => ?_))
   | exact ih0 _ _ _ _ _ _ _ _ _
   | exact ih1 _ _ _ _ _ _ _ _ _ _ _ _
   | exact ih2 _ _ _ _ _ _ _ _ _ _ _
   | exact ih3 _ _ _ _ _ _ _ _ _ _
   | exact ih4 _ _ _ _ _ _ _ _ _ _ _
   | exact ih5 _ _ _ _ _ _ _ _ _ _ _
   | exact ih6 _ _ _ _ _ _ _ _ _ _
   | exact ih7 _ _ _ _ _ _ _ _ _ _ _
   | exact impl_Accept.mono _ _ _ _ _ _ _
   | exact impl_Both16.mono _ _ _ _ _ _
   | exact impl_Put16.mono _ _ _ _
   | exact spec_DrawLines.mono _ _
   | exact LeO.none _
   | refine LeO.ite ?_ ?_
   | refine LeO.bind ?_ (fun _ => ?_)
  ·
   intro y0 y1 y2 y3 y4 y5 y6 y7 y8 y9 y10 y11
   unfold laws_FnTwice.j1
   repeat' first
   | (with_reducible exact ih0 _ _ _ _ _ _ _ _ _)
   | (with_reducible exact ih1 _ _ _ _ _ _ _ _ _ _ _ _)
   | (with_reducible exact ih2 _ _ _ _ _ _ _ _ _ _ _)
   | (with_reducible exact ih3 _ _ _ _ _ _ _ _ _ _)
   | (with_reducible exact ih4 _ _ _ _ _ _ _ _ _ _ _)
   | (with_reducible exact ih5 _ _ _ _ _ _ _ _ _ _ _)
   | (with_reducible exact ih6 _ _ _ _ _ _ _ _ _ _)
   | (with_reducible exact ih7 _ _ _ _ _ _ _ _ _ _ _)
   | (with_reducible exact impl_Accept.mono _ _ _ _ _ _ _)
   | (with_reducible exact impl_Both16.mono _ _ _ _ _ _)
   | (with_reducible exact impl_Put16.mono _ _ _ _)
   | (with_reducible exact spec_DrawLines.mono _ _)
   | (with_reducible exact LeO.refl _)
   | (with_reducible exact LeO.none _)
   | (with_reducible refine LeO.ite ?_ ?_)
   | (with_reducible refine LeO.bind ?_ (fun _ => ?_))
   | exact ih0 _ _ _ _ _ _ _ _ _
   | exact ih1 _ _ _ _ _ _ _ _ _ _ _ _
   | exact ih2 _ _ _ _ _ _ _ _ _ _ _
   | exact ih3 _ _ _ _ _ _ _ _ _ _
   | exact ih4 _ _ _ _ _ _ _ _ _ _ _
   | exact ih5 _ _ _ _ _ _ _ _ _ _ _
   | exact ih6 _ _ _ _ _ _ _ _ _ _
   | exact ih7 _ _ _ _ _ _ _ _ _ _ _
   | exact impl_Accept.mono _ _ _ _ _ _ _
   | exact impl_Both16.mono _ _ _ _ _ _
   | exact impl_Put16.mono _ _ _ _
   | exact spec_DrawLines.mono _ _
   | exact LeO.none _
   | refine LeO.ite ?_ ?_
   | refine LeO.bind ?_ (fun _ => ?_)
  ·
   intro y0 y1 y2 y3 y4 y5 y6 y7 y8 y9 y10
   unfold laws_FnTwice.j2
   repeat' first
   | (with_reducible exact ih0 _ _ _ _ _ _ _ _ _)
   | (with_reducible exact ih1 _ _ _ _ _ _ _ _ _ _ _ _)
   | (with_reducible exact ih2 _ _ _ _ _ _ _ _ _ _ _)
   | (with_reducible exact ih3 _ _ _ _ _ _ _ _ _ _)
   | (with_reducible exact ih4 _ _ _ _ _ _ _ _ _ _ _)
   | (with_reducible exact ih5 _ _ _ _ _ _ _ _ _ _ _)
   | (with_reducible exact ih6 _ _ _ _ _ _ _ _ _ _)
   | (with_reducible exact ih7 _ _ _ _ _ _ _ _ _ _ _)
   | (with_reducible exact impl_Accept.mono _ _ _ _ _ _ _)
   | (with_reducible exact impl_Both16.mono _ _ _ _ _ _)
   | (with_reducible exact impl_Put16.mono _ _ _ _)
   | (with_reducible exact spec_DrawLines.mono _ _)
   | (with_reducible exact LeO.refl _)
   | (with_reducible exact LeO.none _)
   | (with_reducible refine LeO.ite ?_ ?_)
   | (with_reducible refine LeO.bind ?_ (fun _ => ?_))
   | exact ih0 _ _ _ _ _ _ _ _ _
   | exact ih1 _ _ _ _ _ _ _ _ _ _ _ _
   | exact ih2 _ _ _ _ _ _ _ _ _ _ _
   | exact ih3 _ _ _ _ _ _ _ _ _ _
   | exact ih4 _ _ _ _ _ _ _ _ _ _ _
   | exact ih5 _ _ _ _ _ _ _ _ _ _ _
   | exact ih6 _ _ _ _ _ _ _ _ _ _
   | exact ih7 _ _ _ _ _ _ _ _ _ _ _
   | exact impl_Accept.mono _ _ _ _ _ _ _
   | exact impl_Both16.mono _ _ _ _ _ _
   | exact impl_Put16.mono _ _ _ _
   | exact spec_DrawLines.mono _ _
   | exact LeO.none _
   | refine LeO.ite ?_ ?_
   | refine LeO.bind ?_ (fun _ => ?_)
  ·
   intro y0 y1 y2 y3 y4 y5 y6 y7 y8 y9
   unfold laws_FnTwice.j3
   repeat' first
   | (with_reducible exact ih0 _ _ _ _ _ _ _ _ _)
   | (with_reducible exact ih1 _ _ _ _ _ _ _ _ _ _ _ _)
   | (with_reducible exact ih2 _ _ _ _ _ _ _ _ _ _ _)
   | (with_reducible exact ih3 _ _ _ _ _ _ _ _ _ _)
   | (with_reducible exact ih4 _ _ _ _ _ _ _ _ _ _ _)
   | (with_reducible exact ih5 _ _ _ _ _ _ _ _ _ _ _)
   | (with_reducible exact ih6 _ _ _ _ _ _ _ _ _ _)
   | (with_reducible exact ih7 _ _ _ _ _ _ _ _ _ _ _)
   | (with_reducible exact impl_Accept.mono _ _ _ _ _ _ _)
   | (with_reducible exact impl_Both16.mono _ _ _ _ _ _)
   | (with_reducible exact impl_Put16.mono _ _ _ _)
   | (with_reducible exact spec_DrawLines.mono _ _)
   | (with_reducible exact LeO.refl _)
   | (with_reducible exact LeO.none _)
   | (with_reducible refine LeO.ite ?_ ?_)
   | (with_reducible refine LeO.bind ?_ (fun _ => ?_))
   | exact ih0 _ _ _ _ _ _ _ _ _
   | exact ih1 _ _ _ _ _ _ _ _ _ _ _ _
   | exact ih2 _ _ _ _ _ _ _ _ _ _ _
   | exact ih3 _ _ _ _ _ _ _ _ _ _
   | exact ih4 _ _ _ _ _ _ _ _ _ _ _
   | exact ih5 _ _ _ _ _ _ _ _ _ _ _
   | exact ih6 _ _ _ _ _ _ _ _ _ _
   | exact ih7 _ _ _ _ _ _ _ _ _ _ _
   | exact impl_Accept.mono _ _ _ _ _ _ _
   | exact impl_Both16.mono _ _ _ _ _ _
   | exact impl_Put16.mono _ _ _ _
   | exact spec_DrawLines.mono _ _
   | exact LeO.none _
   | refine LeO.ite ?_ ?_
   | refine LeO.bind ?_ (fun _ => ?_)
  ·
   intro y0 y1 y2 y3 y4 y5 y6 y7 y8 y9 y10
   unfold laws_FnTwice.j4
   repeat' first
   | (with_reducible exact ih0 _ _ _ _ _ _ _ _ _)
   | (with_reducible exact ih1 _ _ _ _ _ _ _ _ _ _ _ _)
   | (with_reducible exact ih2 _ _ _ _ _ _ _ _ _ _ _)
   | (with_reducible exact ih3 _ _ _ _ _ _ _ _ _ _)
   | (with_reducible exact ih4 _ _ _ _ _ _ _ _ _ _ _)
   | (with_reducible exact ih5 _ _ _ _ _ _ _ _ _ _ _)
   | (with_reducible exact ih6 _ _ _ _ _ _ _ _ _ _)
   | (with_reducible exact ih7 _ _ _ _ _ _ _ _ _ _ _)
   | (with_reducible exact impl_Accept.mono _ _ _ _ _ _ _)
   | (with_reducible exact impl_Both16.mono _ _ _ _ _ _)
   | (with_reducible exact impl_Put16.mono _ _ _ _)
   | (with_reducible exact spec_DrawLines.mono _ _)
   | (with_reducible exact LeO.refl _)
   | (with_reducible exact LeO.none _)
   | (with_reducible refine LeO.ite ?_ ?_)
   | (with_reducible refine LeO.bind ?_ (fun _ => ?_))
   | exact ih0 _ _ _ _ _ _ _ _ _
   | exact ih1 _ _ _ _ _ _ _ _ _ _ _ _
   | exact ih2 _ _ _ _ _ _ _ _ _ _ _
   | exact ih3 _ _ _ _ _ _ _ _ _ _
   | exact ih4 _ _ _ _ _ _ _ _ _ _ _
   | exact ih5 _ _ _ _ _ _ _ _ _ _ _
   | exact ih6 _ _ _ _ _ _ _ _ _ _
   | exact ih7 _ _ _ _ _ _ _ _ _ _ _
   | exact impl_Accept.mono _ _ _ _ _ _ _
   | exact impl_Both16.mono _ _ _ _ _ _
   | exact impl_Put16.mono _ _ _ _
   | exact spec_DrawLines.mono _ _
   | exact LeO.none _
   | refine LeO.ite ?_ ?_
   | refine LeO.bind ?_ (fun _ => ?_)
  ·
   intro y0 y1 y2 y3 y4 y5 y6 y7 y8 y9 y10
   unfold laws_FnTwice.l1
   repeat' first
   | (with_reducible exact ih0 _ _ _ _ _ _ _ _ _)
   | (with_reducible exact ih1 _ _ _ _ _ _ _ _ _ _ _ _)
   | (with_reducible exact ih2 _ _ _ _ _ _ _ _ _ _ _)
   | (with_reducible exact ih3 _ _ _ _ _ _ _ _ _ _)
   | (with_reducible exact ih4 _ _ _ _ _ _ _ _ _ _ _)
   | (with_reducible exact ih5 _ _ _ _ _ _ _ _ _ _ _)
   | (with_reducible exact ih6 _ _ _ _ _ _ _ _ _ _)
   | (with_reducible exact ih7 _ _ _ _ _ _ _ _ _ _ _)
   | (with_reducible exact impl_Accept.mono _ _ _ _ _ _ _)
   | (with_reducible exact impl_Both16.mono _ _ _ _ _ _)
   | (with_reducible exact impl_Put16.mono _ _ _ _)
   | (with_reducible exact spec_DrawLines.mono _ _)
   | (with_reducible exact LeO.refl _)
   | (with_reducible exact LeO.none _)
   | (with_reducible refine LeO.ite ?_ ?_)
   | (with_reducible refine LeO.bind ?_ (fun _ => ?_))
   | exact ih0 _ _ _ _ _ _ _ _ _
   | exact ih1 _ _ _ _ _ _ _ _ _ _ _ _
   | exact ih2 _ _ _ _ _ _ _ _ _ _ _
   | exact ih3 _ _ _ _ _ _ _ _ _ _
   | exact ih4 _ _ _ _ _ _ _ _ _ _ _
   | exact ih5 _ _ _ _ _ _ _ _ _ _ _
   | exact ih6 _ _ _ _ _ _ _ _ _ _
   | exact ih7 _ _ _ _ _ _ _ _ _ _ _
   | exact impl_Accept.mono _ _ _ _ _ _ _
   | exact impl_Both16.mono _ _ _ _ _ _
   | exact impl_Put16.mono _ _ _ _
   | exact spec_DrawLines.mono _ _
   | exact LeO.none _
   | refine LeO.ite ?_ ?_
   | refine LeO.bind ?_ (fun _ => ?_)
  ·
   intro y0 y1 y2 y3 y4 y5 y6 y7 y8 y9
   unfold laws_FnTwice.l2
   repeat' first
   | (with_reducible exact ih0 _ _ _ _ _ _ _ _ _)
   | (with_reducible exact ih1 _ _ _ _ _ _ _ _ _ _ _ _)
   | (with_reducible exact ih2 _ _ _ _ _ _ _ _ _ _ _)
   | (with_reducible exact ih3 _ _ _ _ _ _ _ _ _ _)
   | (with_reducible exact ih4 _ _ _ _ _ _ _ _ _ _ _)
   | (with_reducible exact ih5 _ _ _ _ _ _ _ _ _ _ _)
   | (with_reducible exact ih6 _ _ _ _ _ _ _ _ _ _)
   | (with_reducible exact ih7 _ _ _ _ _ _ _ _ _ _ _)
   | (with_reducible exact impl_Accept.mono _ _ _ _ _ _ _)
   | (with_reducible exact impl_Both16.mono _ _ _ _ _ _)
   | (with_reducible exact impl_Put16.mono _ _ _ _)
   | (with_reducible exact spec_DrawLines.mono _ _)
   | (with_reducible exact LeO.refl _)
   | (with_reducible exact LeO.none _)
   | (with_reducible refine LeO.ite ?_ ?_)
   | (with_reducible refine LeO.bind ?_ (fun _ => ?_))
   | exact ih0 _ _ _ _ _ _ _ _ _
   | exact ih1 _ _ _ _ _ _ _ _ _ _ _ _
   | exact ih2 _ _ _ _ _ _ _ _ _ _ _
   | exact ih3 _ _ _ _ _ _ _ _ _ _
   | exact ih4 _ _ _ _ _ _ _ _ _ _ _
   | exact ih5 _ _ _ _ _ _ _ _ _ _ _
   | exact ih6 _ _ _ _ _ _ _ _ _ _
   | exact ih7 _ _ _ _ _ _ _ _ _ _ _
   | exact impl_Accept.mono _ _ _ _ _ _ _
   | exact impl_Both16.mono _ _ _ _ _ _
   | exact impl_Put16.mono _ _ _ _
   | exact spec_DrawLines.mono _ _
   | exact LeO.none _
   | refine LeO.ite ?_ ?_
   | refine LeO.bind ?_ (fun _ => ?_)
  ·
   intro y0 y1 y2 y3 y4 y5 y6 y7 y8 y9 y10
   unfold laws_FnTwice.j7
   repeat' first
   | (with_reducible exact ih0 _ _ _ _ _ _ _ _ _)
   | (with_reducible exact ih1 _ _ _ _ _ _ _ _ _ _ _ _)
   | (with_reducible exact ih2 _ _ _ _ _ _ _ _ _ _ _)
   | (with_reducible exact ih3 _ _ _ _ _ _ _ _ _ _)
   | (with_reducible exact ih4 _ _ _ _ _ _ _ _ _ _ _)
   | (with_reducible exact ih5 _ _ _ _ _ _ _ _ _ _ _)
   | (with_reducible exact ih6 _ _ _ _ _ _ _ _ _ _)
   | (with_reducible exact ih7 _ _ _ _ _ _ _ _ _ _ _)
   | (with_reducible exact impl_Accept.mono _ _ _ _ _ _ _)
   | (with_reducible exact impl_Both16.mono _ _ _ _ _ _)
   | (with_reducible exact impl_Put16.mono _ _ _ _)
   | (with_reducible exact spec_DrawLines.mono _ _)
   | (with_reducible exact LeO.refl _)
   | (with_reducible exact LeO.none _)
   | (with_reducible refine LeO.ite ?_ ?_)
   | (with_reducible refine LeO.bind ?_ (fun _ => ?_))
   | exact ih0 _ _ _ _ _ _ _ _ _
   | exact ih1 _ _ _ _ _ _ _ _ _ _ _ _
   | exact ih2 _ _ _ _ _ _ _ _ _ _ _
   | exact ih3 _ _ _ _ _ _ _ _ _ _
   | exact ih4 _ _ _ _ _ _ _ _ _ _ _
   | exact ih5 _ _ _ _ _ _ _ _ _ _ _
   | exact ih6 _ _ _ _ _ _ _ _ _ _
   | exact ih7 _ _ _ _ _ _ _ _ _ _ _
   | exact impl_Accept.mono _ _ _ _ _ _ _
   | exact impl_Both16.mono _ _ _ _ _ _
   | exact impl_Put16.mono _ _ _ _
   | exact spec_DrawLines.mono _ _
   | exact LeO.none _
   | refine LeO.ite ?_ ?_
   | refine LeO.bind ?_ (fun _ => ?_)
theorem laws_FnTwice.mono : ∀ a0 k, LeO (laws_FnTwice.f k a0) (laws_FnTwice.f (k + 1) a0) := by
 intro a0 k
 obtain ⟨ih0, ih1, ih2, ih3, ih4, ih5, ih6, ih7⟩ := laws_FnTwice.mono_l k
 unfold laws_FnTwice.f
 repeat' first
   | (with_reducible exact ih0 _ _ _ _ _ _ _ _ _)
   | (with_reducible exact ih1 _ _ _ _ _ _ _ _ _ _ _ _)
   | (with_reducible exact ih2 _ _ _ _ _ _ _ _ _ _ _)
   | (with_reducible exact ih3 _ _ _ _ _ _ _ _ _ _)
   | (with_reducible exact ih4 _ _ _ _ _ _ _ _ _ _ _)
   | (with_reducible exact ih5 _ _ _ _ _ _ _ _ _ _ _)
   | (with_reducible exact ih6 _ _ _ _ _ _ _ _ _ _)
   | (with_reducible exact ih7 _ _ _ _ _ _ _ _ _ _ _)
   | (with_reducible exact impl_Accept.mono _ _ _ _ _ _ _)
   | (with_reducible exact impl_Both16.mono _ _ _ _ _ _)
   | (with_reducible exact impl_Put16.mono _ _ _ _)
   | (with_reducible exact spec_DrawLines.mono _ _)
   | (with_reducible exact LeO.refl _)
   | (with_reducible exact LeO.none _)
   | (with_reducible refine LeO.ite ?_ ?_)
   | (with_reducible refine LeO.bind ?_ (fun _ => ?_))
   | exact ih0 _ _ _ _ _ _ _ _ _
   | exact ih1 _ _ _ _ _ _ _ _ _ _ _ _
   | exact ih2 _ _ _ _ _ _ _ _ _ _ _
   | exact ih3 _ _ _ _ _ _ _ _ _ _
   | exact ih4 _ _ _ _ _ _ _ _ _ _ _
   | exact ih5 _ _ _ _ _ _ _ _ _ _ _
   | exact ih6 _ _ _ _ _ _ _ _ _ _
   | exact ih7 _ _ _ _ _ _ _ _ _ _ _
   | exact impl_Accept.mono _ _ _ _ _ _ _
   | exact impl_Both16.mono _ _ _ _ _ _
   | exact impl_Put16.mono _ _ _ _
   | exact spec_DrawLines.mono _ _
   | exact LeO.none _
   | refine LeO.ite ?_ ?_
   | refine LeO.bind ?_ (fun _ => ?_)
def laws_FnTwice.T31 : Bool × List (List Nat × List Nat) := (true, [([], []), ([], []), ([0, 1], [0, 1]), ([2], [2]), ([3], [3]), ([], []), ([], []), ([5, 6], [5, 6]), ([7], [7]), ([8], [8]), ([4, 9], [4, 9]), ([10], [10]), ([11], [11]), ([11], [11]), ([12, 13, 11], [11, 12, 13]), ([14, 11], [11, 14]), ([15, 11], [11, 15]), ([16, 11], [11, 16]), ([11], [11]), ([11], [11]), ([18, 19, 11], [11, 18, 19]), ([20, 11], [11, 20]), ([21, 11], [11, 21]), ([22, 11], [11, 22]), ([17, 23, 11], [11, 17, 23]), ([11, 24], [11, 24])])
def laws_FnTwice.B31 : List Nat := [0, 0, 3, 7, 15, 0, 0, 96, 224, 480, 1023, 2047, 4095, 4095, 16383, 32767, 65535, 131071, 4095, 4095, 790527, 1839103, 3936255, 8130559, 16777215, 33554431]
theorem laws_FnTwice.tab31 : rtab .any (opsOf Try.f7 31) = laws_FnTwice.T31 := by kernel_rfl
theorem laws_FnTwice.bits31 : waitsOk laws_FnTwice.T31.2 laws_FnTwice.B31 = true := by kernel_rfl
def laws_FnTwice.T40 : Bool × List (List Nat × List Nat) := (true, [([], []), ([], []), ([], []), ([2], [2]), ([3], [3]), ([1, 4], [1, 4]), ([5], [5]), ([0, 6], [0, 6]), ([7], [7]), ([8], [8]), ([8], [8]), ([8], [8]), ([], []), ([12, 9, 7, 0, 1, 2, 3, 4, 5, 6, 7, 8, 9, 12], [9, 12]), ([10, 13, 0, 1, 2, 3, 4, 5, 6, 7, 8, 9, 10, 12, 13], [10]), ([11, 14, 0, 1, 2, 3, 4, 5, 6, 7, 8, 9, 10, 11, 12, 13, 14], [11])])
def laws_FnTwice.B40 : List Nat := [0, 0, 0, 4, 12, 30, 62, 127, 255, 511, 511, 511, 0, 5119, 14335, 32767]
theorem laws_FnTwice.tab40 : rtab .any (opsOf Try.f7 40) = laws_FnTwice.T40 := by kernel_rfl
theorem laws_FnTwice.bits40 : waitsOk laws_FnTwice.T40.2 laws_FnTwice.B40 = true := by kernel_rfl
def laws_FnTwice.T41 : Bool × List (List Nat × List Nat) := (true, [([], []), ([], []), ([], []), ([1, 2], [1, 2]), ([0, 3], [0, 3]), ([4], [4]), ([5], [5]), ([6, 5], [5, 6]), ([5], [5]), ([5], [5]), ([9, 5], [5, 9]), ([10, 5], [5, 10]), ([8, 11, 5], [5, 8, 11]), ([12, 5], [5, 12]), ([13, 5], [5, 13]), ([14, 5], [5, 14]), ([15, 5], [5, 15]), ([7, 16, 5], [5, 7, 16]), ([5, 17], [5, 17]), ([18, 5], [18]), ([19], [19]), ([20, 19], [19, 20]), ([19, 21], [19, 21]), ([22, 19], [22]), ([23], [23]), ([23], [23]), ([24, 25, 23], [23, 24, 25]), ([23, 26], [23, 26]), ([27, 23, 0, 1, 2, 3, 4, 5, 6, 7, 8, 9, 10, 11, 12, 13, 14, 15, 16, 17, 18, 19, 20, 21, 22, 23, 24, 25, 26, 27], [27])])
def laws_FnTwice.B41 : List Nat := [0, 0, 0, 6, 15, 31, 63, 127, 63, 63, 575, 1599, 3903, 7999, 16191, 32575, 65343, 131071, 262143, 524287, 1048575, 2097151, 4194303, 8388607, 16777215, 16777215, 67108863, 134217727, 268435455]
theorem laws_FnTwice.tab41 : rtab .any (opsOf Try.f7 41) = laws_FnTwice.T41 := by kernel_rfl
theorem laws_FnTwice.bits41 : waitsOk laws_FnTwice.T41.2 laws_FnTwice.B41 = true := by kernel_rfl
set_option maxHeartbeats 8000000 in
set_option maxRecDepth 100000 in
theorem laws_FnTwice.calls (k : Nat) (A0 : Option Addr) (c0 : Nat) (l0 : List Int) (r : Bool) (hr_ : r = true) (w : World) (hr0 : Kd.C (Kd.int .u8) w A0 l0.length l0) (hc0 : l0.length ≤ c0) (h : laws_FnTwice.f k l0 = some r) :
  Calls Try.prog 7 #[.slice A0 l0.length c0] w fun e w' => e = .returned (.bool r) ∧ Below w.heap.size w w' := by
 have hu41 := Try.underlying41
 have hu25 := Try.underlying25
 have HR0 := Aside0.mk hr0
 have HC0 := Aside0.mk hc0
 clear hr0 hc0
 have HB := Aside0.mk (Below.refl w.heap.size w)
 have H : ((laws_big.f l0).bind fun t206 => (if t206 = true then (some true) else ((spec_DrawLines.f k l0).bind fun bt207 => (laws_FnTwice.l0 k bt207.1 bt207.2.1 bt207.2.2 (([] : List (List Int))) (([] : List (List Int))) (([] : List (S41))) 0 false 0)))) = some r := h
 clear h
 replace H := Option.bind_eq_some_iff.mp H
 obtain ⟨t206, A20, H⟩ := H
 replace H : (if t206 = true then (some true) else ((spec_DrawLines.f k l0).bind fun bt207 => (laws_FnTwice.l0 k bt207.1 bt207.2.1 bt207.2.2 (([] : List (List Int))) (([] : List (List Int))) (([] : List (S41))) 0 false 0))) = some r := H
 have A2 := Aside0.mk A20
 clear A20
 by_cases c3 : t206 = true
 ·
  subst c3
  have H1 : (some true) = some r := by rw [if_pos rfl] at H; exact H
  clear H
  have H := H1
  clear H1
  obtain rfl := Option.some.inj H
  go_enter Try.func7, Try.ntmps7
  go_wp2_with (first | ((with_reducible refine gate_callee (f := 17) rfl ?_); refine goesL_ (some 26) rfl rfl Try.func17 (by kernel_rfl) rfl #[.slice A0 l0.length c0] rfl (by (try simp only [am_]); first | done | rfl) ?_; (with_reducible refine (laws_big.calls _ _ l0 true _ ?side1 ?side2 A2.out).mono ?_); (case side1 => exact rc HR0.out); (case side2 => exact HC0.out); rintro e w' ⟨rfl, ⟨nd, rfl⟩⟩; refine ⟨_, rfl, ?_⟩))
  go_ret
  exact ⟨by first | rfl | (simp [errW_none, errW_some] <;> rfl) | (simp [*, errW_none, errW_some] <;> rfl), bl HB.out⟩
 ·
  replace c3 := Bool.eq_false_iff.mpr c3
  subst c3
  have H1 : ((spec_DrawLines.f k l0).bind fun bt207 => (laws_FnTwice.l0 k bt207.1 bt207.2.1 bt207.2.2 (([] : List (List Int))) (([] : List (List Int))) (([] : List (S41))) 0 false 0)) = some r := by rw [if_neg (show ¬ (false = true) by decide)] at H; exact H
  clear H
  have H := H1
  clear H1
  replace H := Option.bind_eq_some_iff.mp H
  obtain ⟨⟨t207, t208, t209⟩, A40, H⟩ := H
  replace H : (laws_FnTwice.l0 k t207 t208 t209 (([] : List (List Int))) (([] : List (List Int))) (([] : List (S41))) 0 false 0) = some r := H
  have A4 := Aside0.mk A40
  clear A40
  obtain ⟨y216, hy216⟩ : ∃ y_ : List (List Int), y_ = (([] : List (List Int))) := ⟨_, rfl⟩
  replace H : (laws_FnTwice.l0 k t207 t208 t209 y216 (([] : List (List Int))) (([] : List (S41))) 0 false 0) = some r := by first | (rw [hy216]; with_reducible exact H) | (have H2_ := (Option.bind_some _ _).symm.trans H; rw [hy216]; with_reducible exact H2_) | (have H2_ := (Option.bind_some _ _).symm.trans H; with_reducible exact H2_) | with_reducible exact H | (rw [hy216]; exact H) | exact H
  have Ny216 := Aside0.mk hy216
  clear hy216
  obtain ⟨y219, hy219⟩ : ∃ y_ : List (List Int), y_ = (([] : List (List Int))) := ⟨_, rfl⟩
  replace H : (laws_FnTwice.l0 k t207 t208 t209 y216 y219 (([] : List (S41))) 0 false 0) = some r := by first | (rw [hy219]; with_reducible exact H) | (have H2_ := (Option.bind_some _ _).symm.trans H; rw [hy219]; with_reducible exact H2_) | (have H2_ := (Option.bind_some _ _).symm.trans H; with_reducible exact H2_) | with_reducible exact H | (rw [hy219]; exact H) | exact H
  have Ny219 := Aside0.mk hy219
  clear hy219
  obtain ⟨y222, hy222⟩ : ∃ y_ : List (S41), y_ = (([] : List (S41))) := ⟨_, rfl⟩
  replace H : (laws_FnTwice.l0 k t207 t208 t209 y216 y219 y222 0 false 0) = some r := by first | (rw [hy222]; with_reducible exact H) | (have H2_ := (Option.bind_some _ _).symm.trans H; rw [hy222]; with_reducible exact H2_) | (have H2_ := (Option.bind_some _ _).symm.trans H; with_reducible exact H2_) | with_reducible exact H | (rw [hy222]; exact H) | exact H
  have Ny222 := Aside0.mk hy222
  clear hy222
  have H' := Aside0.mk H
  clear H
  go_enter Try.func7, Try.ntmps7
  go_wp2_with (first | ((with_reducible refine gate_callee (f := 17) rfl ?_); refine goesL_ (some 26) rfl rfl Try.func17 (by kernel_rfl) rfl #[.slice A0 l0.length c0] rfl (by (try simp only [am_]); first | done | rfl) ?_; (with_reducible refine (laws_big.calls _ _ l0 false _ ?side1 ?side2 A2.out).mono ?_); (case side1 => exact rc HR0.out); (case side2 => exact HC0.out); rintro e w' ⟨rfl, ⟨nd, rfl⟩⟩; refine ⟨_, rfl, ?_⟩) | ((with_reducible refine gate_callee (f := 29) rfl ?_); refine goesL_ (some 29) rfl rfl Try.func29 (by kernel_rfl) rfl #[.slice A0 l0.length c0] rfl (by (try simp only [am_]); first | done | rfl) ?_; (with_reducible refine (spec_DrawLines.calls k _ _ l0 t207 t208 t209 _ ?side1 ?side2 A4.out).mono ?_); (case side1 => exact rc HR0.out); (case side2 => exact HC0.out); rintro e w5 ⟨v210, v212, v214, rfl, ho0, ho1, ho2, hb⟩; refine ⟨_, rfl, ?_⟩; have HO211 := Aside0.mk (Kd.N_lower (Kd.N_mono (ok' := fun k_ => some k_ ≠ (v212 : Value).ownBlock ∧ some k_ ≠ (v214 : Value).ownBlock) (Kd.S_N (Kd.S_bound (Kd.S_apart' (Kd.S_apart' ho0 (Kd.R_typed ho1) (by decide)) (Kd.R_typed ho2) (by decide)))) (fun k_ hk_ => ⟨hk_.1.1.2, hk_.1.2⟩)) (below_size (bl HB.out))); have HO213 := Aside0.mk (Kd.R_lower ho1 (below_size (bl HB.out))); have HO215 := Aside0.mk (Kd.R_lower ho2 (below_size (bl HB.out))); replace HB := Aside0.mk (below_step (bl HB.out) hb); (try clear hb); (try clear hb2); (try clear hk); (try clear hi); (try clear ho0); (try clear ho1); (try clear ho2)) | ((with_reducible refine gate_dst (N := 33) rfl ?_); (try (refine gate_guard (by rfl) ?_; dsimp only)); refine Kd.N_lit (Kd.slice 5 (Kd.int .u8)) _ 28 ?hg (N' := 33) ?hd (xs := ([] : List (List Int))) (inner := []) (ok := (fun k_ => some k_ ≠ (v210 : Value).ownBlock ∧ some k_ ≠ (v212 : Value).ownBlock ∧ some k_ ≠ (v214 : Value).ownBlock)) (okp := (fun k_ => some k_ ≠ (v210 : Value).ownBlock ∧ some k_ ≠ (v212 : Value).ownBlock ∧ some k_ ≠ (v214 : Value).ownBlock)) ?hr ?hp (fun _ hk => hk) ((show ∀ k_, w5.heap.size ≤ k_ → (fun k_ => some k_ ≠ (v210 : Value).ownBlock ∧ some k_ ≠ (v212 : Value).ownBlock ∧ some k_ ≠ (v214 : Value).ownBlock) k_ from fun k_ hk => ⟨Kd.fresh' (Kd.N_lt (by (with_reducible repeat (first | apply Kd.N_alloc | apply Kd.N_drewN | apply Kd.N_drew)); exact HO211.out)) k_ hk, Kd.fresh' (Kd.R_lt (by (repeat apply rl1); exact HO213.out)) k_ hk, Kd.fresh' (Kd.R_lt (by (repeat apply rl1); exact HO215.out)) k_ hk⟩) _ (Nat.le_refl _)) (Below.refl _ _) (Nat.le_refl _) (by simp) ?_; (case hd => rfl); (case hg => rfl); (case hr => first | (go_simp; done) | (go_simp; rfl)); (case hp => exact (Reps.none _ _)); intro v217 w6 ho7 hb hg_ hnew_; clear hg_ hnew_; (first | rw [← Ny216.out] at ho7 | (simp only [Int.reduceToNat] at ho7; rw [← Ny216.out] at ho7)); replace HO211 := Aside0.mk (Kd.N_elder' (by (with_reducible repeat (first | apply Kd.N_alloc | apply Kd.N_drewN | apply Kd.N_drew)); exact HO211.out) (Kd.N_base ho7) hb); replace HO213 := Aside0.mk (Kd.R_below (rl HO213.out) hb); replace HO215 := Aside0.mk (Kd.R_below (rl HO215.out) hb); have HO218 := Aside0.mk (Kd.N_lower ho7 (below_size (bl HB.out))); replace HB := Aside0.mk (below_step (bl HB.out) hb); clear hb ho7) | ((with_reducible refine gate_dst (N := 34) rfl ?_); (try (refine gate_guard (by rfl) ?_; dsimp only)); refine Kd.N_lit (Kd.slice 5 (Kd.int .u8)) _ 28 ?hg (N' := 34) ?hd (xs := ([] : List (List Int))) (inner := []) (ok := (fun k_ => some k_ ≠ (v210 : Value).ownBlock ∧ some k_ ≠ (v212 : Value).ownBlock ∧ some k_ ≠ (v214 : Value).ownBlock ∧ some k_ ≠ (v217 : Value).ownBlock)) (okp := (fun k_ => some k_ ≠ (v210 : Value).ownBlock ∧ some k_ ≠ (v212 : Value).ownBlock ∧ some k_ ≠ (v214 : Value).ownBlock ∧ some k_ ≠ (v217 : Value).ownBlock)) ?hr ?hp (fun _ hk => hk) ((show ∀ k_, w6.heap.size ≤ k_ → (fun k_ => some k_ ≠ (v210 : Value).ownBlock ∧ some k_ ≠ (v212 : Value).ownBlock ∧ some k_ ≠ (v214 : Value).ownBlock ∧ some k_ ≠ (v217 : Value).ownBlock) k_ from fun k_ hk => ⟨Kd.fresh' (Kd.N_lt (by (with_reducible repeat (first | apply Kd.N_alloc | apply Kd.N_drewN | apply Kd.N_drew)); exact HO211.out)) k_ hk, Kd.fresh' (Kd.R_lt (by (repeat apply rl1); exact HO213.out)) k_ hk, Kd.fresh' (Kd.R_lt (by (repeat apply rl1); exact HO215.out)) k_ hk, Kd.fresh' (Kd.N_lt (by (with_reducible repeat (first | apply Kd.N_alloc | apply Kd.N_drewN | apply Kd.N_drew)); exact HO218.out)) k_ hk⟩) _ (Nat.le_refl _)) (Below.refl _ _) (Nat.le_refl _) (by simp) ?_; (case hd => rfl); (case hg => rfl); (case hr => first | (go_simp; done) | (go_simp; rfl)); (case hp => exact (Reps.none _ _)); intro v220 w8 ho9 hb hg_ hnew_; clear hg_ hnew_; (first | rw [← Ny219.out] at ho9 | (simp only [Int.reduceToNat] at ho9; rw [← Ny219.out] at ho9)); replace HO211 := Aside0.mk (Kd.N_elder' (by (with_reducible repeat (first | apply Kd.N_alloc | apply Kd.N_drewN | apply Kd.N_drew)); exact HO211.out) (Kd.N_base ho9) hb); replace HO213 := Aside0.mk (Kd.R_below (rl HO213.out) hb); replace HO215 := Aside0.mk (Kd.R_below (rl HO215.out) hb); replace HO218 := Aside0.mk (Kd.N_elder' (by (with_reducible repeat (first | apply Kd.N_alloc | apply Kd.N_drewN | apply Kd.N_drew)); exact HO218.out) (Kd.N_base ho9) hb); have HO221 := Aside0.mk (Kd.N_lower ho9 (below_size (bl HB.out))); replace HB := Aside0.mk (below_step (bl HB.out) hb); clear hb ho9) | ((with_reducible refine gate_dst (N := 35) rfl ?_); (try (refine gate_guard (by rfl) ?_; dsimp only)); refine Kd.N_lit k41 _ 41 ?hg (N' := 35) ?hd (xs := ([] : List (S41))) (inner := []) (ok := (fun k_ => some k_ ≠ (v210 : Value).ownBlock ∧ some k_ ≠ (v212 : Value).ownBlock ∧ some k_ ≠ (v214 : Value).ownBlock ∧ some k_ ≠ (v217 : Value).ownBlock ∧ some k_ ≠ (v220 : Value).ownBlock)) (okp := (fun k_ => some k_ ≠ (v210 : Value).ownBlock ∧ some k_ ≠ (v212 : Value).ownBlock ∧ some k_ ≠ (v214 : Value).ownBlock ∧ some k_ ≠ (v217 : Value).ownBlock ∧ some k_ ≠ (v220 : Value).ownBlock)) ?hr ?hp (fun _ hk => hk) ((show ∀ k_, w8.heap.size ≤ k_ → (fun k_ => some k_ ≠ (v210 : Value).ownBlock ∧ some k_ ≠ (v212 : Value).ownBlock ∧ some k_ ≠ (v214 : Value).ownBlock ∧ some k_ ≠ (v217 : Value).ownBlock ∧ some k_ ≠ (v220 : Value).ownBlock) k_ from fun k_ hk => ⟨Kd.fresh' (Kd.N_lt (by (with_reducible repeat (first | apply Kd.N_alloc | apply Kd.N_drewN | apply Kd.N_drew)); exact HO211.out)) k_ hk, Kd.fresh' (Kd.R_lt (by (repeat apply rl1); exact HO213.out)) k_ hk, Kd.fresh' (Kd.R_lt (by (repeat apply rl1); exact HO215.out)) k_ hk, Kd.fresh' (Kd.N_lt (by (with_reducible repeat (first | apply Kd.N_alloc | apply Kd.N_drewN | apply Kd.N_drew)); exact HO218.out)) k_ hk, Kd.fresh' (Kd.N_lt (by (with_reducible repeat (first | apply Kd.N_alloc | apply Kd.N_drewN | apply Kd.N_drew)); exact HO221.out)) k_ hk⟩) _ (Nat.le_refl _)) (Below.refl _ _) (Nat.le_refl _) (by simp) ?_; (case hd => rfl); (case hg => rfl); (case hr => first | (go_simp; done) | (go_simp; rfl)); (case hp => exact (Reps.none _ _)); intro v223 w10 ho11 hb hg_ hnew_; clear hg_ hnew_; (first | rw [← Ny222.out] at ho11 | (simp only [Int.reduceToNat] at ho11; rw [← Ny222.out] at ho11)); replace HO211 := Aside0.mk (Kd.N_elder' (by (with_reducible repeat (first | apply Kd.N_alloc | apply Kd.N_drewN | apply Kd.N_drew)); exact HO211.out) (Kd.N_base ho11) hb); replace HO213 := Aside0.mk (Kd.R_below (rl HO213.out) hb); replace HO215 := Aside0.mk (Kd.R_below (rl HO215.out) hb); replace HO218 := Aside0.mk (Kd.N_elder' (by (with_reducible repeat (first | apply Kd.N_alloc | apply Kd.N_drewN | apply Kd.N_drew)); exact HO218.out) (Kd.N_base ho11) hb); replace HO221 := Aside0.mk (Kd.N_elder' (by (with_reducible repeat (first | apply Kd.N_alloc | apply Kd.N_drewN | apply Kd.N_drew)); exact HO221.out) (Kd.N_base ho11) hb); have HO224 := Aside0.mk (Kd.N_lower ho11 (below_size (bl HB.out))); replace HB := Aside0.mk (below_step (bl HB.out) hb); clear hb ho11))
  go_loopg [6, 7, 8, 9, 10, 11] k (fun kq v6 v7 v8 v9 v10 v11 w' => ∃ (x6_1 : List (List Int)) (x7_1 : List (List Int)) (x8_1 : List (S41)) (x9_1 : Int) (x10_1 : Bool) (x11_1 : Int), v9 = .int .i64 x9_1 ∧ v10 = .bool x10_1 ∧ v11 = .int .i64 x11_1 ∧ Aside0 (laws_FnTwice.l0 kq t207 t208 t209 x6_1 x7_1 x8_1 x9_1 x10_1 x11_1 = some r) ∧ Aside0 (kq ≤ k) ∧ Aside0 (Kd.N k41 41 w' w.heap.size (fun k_ => some k_ ≠ (v212 : Value).ownBlock ∧ some k_ ≠ (v214 : Value).ownBlock ∧ some k_ ≠ (v6 : Value).ownBlock ∧ some k_ ≠ (v7 : Value).ownBlock ∧ some k_ ≠ (v8 : Value).ownBlock) v210 t207) ∧ Aside0 (Kd.R Kd.bool 4 w' w.heap.size (fun k_ => some k_ ≠ (v214 : Value).ownBlock) v212 t208) ∧ Aside0 (Kd.R Kd.bool 4 w' w.heap.size (fun k_ => some k_ ≠ (v212 : Value).ownBlock) v214 t209) ∧ Aside0 (Kd.N (Kd.slice 5 (Kd.int .u8)) 28 w' w.heap.size (fun k_ => some k_ ≠ (v210 : Value).ownBlock ∧ some k_ ≠ (v212 : Value).ownBlock ∧ some k_ ≠ (v214 : Value).ownBlock ∧ some k_ ≠ (v7 : Value).ownBlock ∧ some k_ ≠ (v8 : Value).ownBlock) v6 x6_1) ∧ Aside0 (Kd.N (Kd.slice 5 (Kd.int .u8)) 28 w' w.heap.size (fun k_ => some k_ ≠ (v210 : Value).ownBlock ∧ some k_ ≠ (v212 : Value).ownBlock ∧ some k_ ≠ (v214 : Value).ownBlock ∧ some k_ ≠ (v6 : Value).ownBlock ∧ some k_ ≠ (v8 : Value).ownBlock) v7 x7_1) ∧ Aside0 (Kd.N k41 41 w' w.heap.size (fun k_ => some k_ ≠ (v210 : Value).ownBlock ∧ some k_ ≠ (v212 : Value).ownBlock ∧ some k_ ≠ (v214 : Value).ownBlock ∧ some k_ ≠ (v6 : Value).ownBlock ∧ some k_ ≠ (v7 : Value).ownBlock) v8 x8_1) ∧ Aside0 (Below w.heap.size w w'))
  case atStart => exact ⟨(y216), (y219), (y222), (0), (false), (0), (by first | rfl | (simp; done) | (simp [*]; done)), (by first | rfl | (simp; done) | (simp [*]; done)), (by first | rfl | (simp; done) | (simp [*]; done)), H', ⟨Nat.le_refl _⟩, ⟨by (with_reducible repeat (first | apply Kd.N_alloc | apply Kd.N_drewN | apply Kd.N_drew)); exact Kd.N_mono HO211.out (fun _ hk => ⟨hk.1.1.1.1, ⟨hk.1.1.1.2, ⟨hk.1.1.2, ⟨hk.1.2, hk.2⟩⟩⟩⟩)⟩, ⟨rl HO213.out⟩, ⟨rl HO215.out⟩, ⟨by (with_reducible repeat (first | apply Kd.N_alloc | apply Kd.N_drewN | apply Kd.N_drew)); exact Kd.N_mono HO218.out (fun _ hk => ⟨hk.1.1.1, ⟨hk.1.1.2.1, ⟨hk.1.1.2.2, ⟨hk.1.2, hk.2⟩⟩⟩⟩)⟩, ⟨by (with_reducible repeat (first | apply Kd.N_alloc | apply Kd.N_drewN | apply Kd.N_drew)); exact Kd.N_mono HO221.out (fun _ hk => ⟨hk.1.1, ⟨hk.1.2.1, ⟨hk.1.2.2.1, ⟨hk.1.2.2.2, hk.2⟩⟩⟩⟩)⟩, ⟨by (with_reducible repeat (first | apply Kd.N_alloc | apply Kd.N_drewN | apply Kd.N_drew)); exact HO224.out⟩, ⟨bl HB.out⟩⟩
  case round =>
   clear H'
   try clear c1
   try clear c2
   try clear p2
   try clear c3
   try clear c7
   obtain ⟨x6_1, x7_1, x8_1, x9_1, x10_1, x11_1, rfl, rfl, rfl, HA, HK1, HO_3, HO_4, HO_5, HO_6, HO_7, HO_8, HB⟩ := hrel
   cases gk with
   | zero => exact absurd HA.out (by simp [laws_FnTwice.l0])
   | succ k1 =>
    have H := HA.out
    clear HA
    simp only [laws_FnTwice.l0] at H
    by_cases c12 : x11_1 < (t207.length : Int)
    ·
     rw [if_pos c12] at H
     have c12b0 : decide (x11_1 < (t207.length : Int)) = true := decide_eq_true c12
     clear c12
     by_cases c13 : 0 ≤ x11_1
     ·
      rw [if_pos c13] at H
      have c13b0 : decide (0 ≤ x11_1) = true := decide_eq_true c13
      clear c13
      replace H := Option.bind_eq_some_iff.mp H
      obtain ⟨⟨t226, t229⟩, A140, H⟩ := H
      replace H : (if t229 = true then ((some (([] : List Int) : List Int)).bind fun y233 => (if x11_1 < (t208.length : Int) then (if rdOf false t208 x11_1 = true then (laws_FnTwice.j1 k1 t207 t208 t209 x6_1 x7_1 x8_1 x9_1 x10_1 x11_1 t226 (([] : List Int)) y233) else (laws_FnTwice.j1 k1 t207 t208 t209 x6_1 x7_1 x8_1 x9_1 x10_1 x11_1 t226 t226 y233)) else (none))) else (some false)) = some r := H
      have A14 := Aside0.mk A140
      clear A140
      by_cases c15 : t229 = true
      ·
       subst c15
       have H1 : ((some (([] : List Int) : List Int)).bind fun y233 => (if x11_1 < (t208.length : Int) then (if rdOf false t208 x11_1 = true then (laws_FnTwice.j1 k1 t207 t208 t209 x6_1 x7_1 x8_1 x9_1 x10_1 x11_1 t226 (([] : List Int)) y233) else (laws_FnTwice.j1 k1 t207 t208 t209 x6_1 x7_1 x8_1 x9_1 x10_1 x11_1 t226 t226 y233)) else (none))) = some r := by rw [if_pos rfl] at H; exact H
       clear H
       have H := H1
       clear H1
       obtain ⟨y230, hy230⟩ : ∃ y_ : List Int, y_ = (([] : List Int)) := ⟨_, rfl⟩
       replace H : ((some (([] : List Int) : List Int)).bind fun y233 => (if x11_1 < (t208.length : Int) then (if rdOf false t208 x11_1 = true then (laws_FnTwice.j1 k1 t207 t208 t209 x6_1 x7_1 x8_1 x9_1 x10_1 x11_1 t226 y230 y233) else (laws_FnTwice.j1 k1 t207 t208 t209 x6_1 x7_1 x8_1 x9_1 x10_1 x11_1 t226 t226 y233)) else (none))) = some r := by first | (rw [hy230]; with_reducible exact H) | (have H2_ := (Option.bind_some _ _).symm.trans H; rw [hy230]; with_reducible exact H2_) | (have H2_ := (Option.bind_some _ _).symm.trans H; with_reducible exact H2_) | with_reducible exact H | (rw [hy230]; exact H) | exact H
       have Ny230 := Aside0.mk hy230
       clear hy230
       obtain ⟨y233, hy233⟩ : ∃ y_ : List Int, y_ = (([] : List Int)) := ⟨_, rfl⟩
       replace H : (if x11_1 < (t208.length : Int) then (if rdOf false t208 x11_1 = true then (laws_FnTwice.j1 k1 t207 t208 t209 x6_1 x7_1 x8_1 x9_1 x10_1 x11_1 t226 y230 y233) else (laws_FnTwice.j1 k1 t207 t208 t209 x6_1 x7_1 x8_1 x9_1 x10_1 x11_1 t226 t226 y233)) else (none)) = some r := by first | (rw [hy233]; with_reducible exact H) | (have H2_ := (Option.bind_some _ _).symm.trans H; rw [hy233]; with_reducible exact H2_) | (have H2_ := (Option.bind_some _ _).symm.trans H; with_reducible exact H2_) | with_reducible exact H | (rw [hy233]; exact H) | exact H
       have Ny233 := Aside0.mk hy233
       clear hy233
       by_cases c16 : x11_1 < (t208.length : Int)
       ·
        rw [if_pos c16] at H
        have c16b0 : decide (x11_1 < (t208.length : Int)) = true := decide_eq_true c16
        clear c16
        have HC17 := Aside0.mk H
        clear H
        obtain ⟨Ao18, co18, eo18⟩ := Kd.N_slice HO_3.out
        subst eo18
        have p225 : 0 ≤ (x11_1 : Int) := of_decide_eq_true (by first | (with_reducible assumption) | assumption)
        have q225 : x11_1 < (t207.length : Int) := of_decide_eq_true (by first | (with_reducible assumption) | assumption)
        obtain ⟨ad225, A225_2, c225_2, e225, hx225_0, hx225_1, hx225_2, hl225_2, hi225_2⟩ := at_T41 (Kd.N_reads' HO_3.out).2.2 x11_1 p225 q225
        cases e225
        obtain ⟨ce225, hce225, hMe225, hcc225⟩ := Kd.N_get HO_3.out z41 x11_1 p225 (by first | exact q225 | exact of_decide_eq_true (by first | (with_reducible assumption) | assumption) | (have e_ := (Kd.N_reads' HO_3.out).1; omega))
        obtain ⟨ua225_2, uc225_2, rfl, ul225_2, ge225_2⟩ := k41_openF hMe225
        have hv225_2 := hcc225 2 _ rfl
        rw [add_field _ _ 2 (by omega)] at hv225_2
        replace hv225_2 := Option.some.inj (hv225_2.symm.trans hx225_2)
        injection hv225_2 with hva_ hvn_ hvc_
        rw [hva_] at ge225_2
        rw [hvc_] at ul225_2
        have HL225_2 := Aside0.mk (show Kd.V (Kd.int .u8) 5 _ w.heap.size _ _ ((rd_T41 t207 x11_1).f2) from Kd.V_mk ul225_2 ge225_2)
        clear hva_ hvn_ hvc_ ge225_2 ul225_2
        clear hcc225 hce225
        have HR225_2 := Aside0.mk hi225_2
        have HC225_2 := Aside0.mk hl225_2
        clear hi225_2 hl225_2
        replace p225 := eq_true p225
        replace q225 := eq_true q225
        go_upto_if 58 with (first | ((with_reducible refine gate_callee (f := 30) rfl ?_); refine goesL_ (some 47) rfl rfl Try.func30 (by kernel_rfl) rfl #[.agg #[.int .i64 ((rd_T41 t207 x11_1).f0), .int .i64 ((rd_T41 t207 x11_1).f1), .slice A225_2 ((rd_T41 t207 x11_1).f2).length c225_2]] rfl (by (try simp only [am_]); first | done | rfl) ?_; (with_reducible refine (impl_Put16.calls k1 ((rd_T41 t207 x11_1).f0) ((rd_T41 t207 x11_1).f1) _ _ ((rd_T41 t207 x11_1).f2) t226 true _ ?side1 ?side2 A14.out).mono ?_); (case side1 => repeat (first | exact (by repeat (first | (with_reducible exact HR225_2.out) | (with_reducible refine Kd.C_alloc ?_ _) | (with_reducible refine Kd.C_drewN ?_ _) | (with_reducible refine Kd.C_drew ?_) | exact HR225_2.out)) | (with_reducible refine Kd.C_alloc ?_ _) | (with_reducible refine Kd.C_drewN ?_ _) | (with_reducible refine Kd.C_drew ?_))); (case side2 => exact HC225_2.out); rintro e w19 ⟨v227, rfl, ho0, hb⟩; refine ⟨_, rfl, ?_⟩; replace HO_3 := Aside0.mk (Kd.N_elder' (by (with_reducible repeat (first | apply Kd.N_alloc | apply Kd.N_drewN | apply Kd.N_drew)); exact HO_3.out) (Kd.R_base ho0) hb); replace HO_4 := Aside0.mk (Kd.R_below (rl HO_4.out) hb); replace HO_5 := Aside0.mk (Kd.R_below (rl HO_5.out) hb); replace HO_6 := Aside0.mk (Kd.N_elder' (by (with_reducible repeat (first | apply Kd.N_alloc | apply Kd.N_drewN | apply Kd.N_drew)); exact HO_6.out) (Kd.R_base ho0) hb); replace HO_7 := Aside0.mk (Kd.N_elder' (by (with_reducible repeat (first | apply Kd.N_alloc | apply Kd.N_drewN | apply Kd.N_drew)); exact HO_7.out) (Kd.R_base ho0) hb); replace HO_8 := Aside0.mk (Kd.N_elder' (by (with_reducible repeat (first | apply Kd.N_alloc | apply Kd.N_drewN | apply Kd.N_drew)); exact HO_8.out) (Kd.R_base ho0) hb); replace HL225_2 := Aside0.mk (Kd.V_elder' (by (with_reducible repeat (first | apply Kd.V_alloc | apply Kd.V_drewN | apply Kd.V_drew)); exact HL225_2.out) (Kd.R_base ho0) hb); have HO228 := Aside0.mk (Kd.R_lower ho0 (below_size (bl HB.out))); replace HR225_2 := Aside0.mk (Kd.C_below (by repeat (first | (with_reducible exact HR225_2.out) | (with_reducible refine Kd.C_alloc ?_ _) | (with_reducible refine Kd.C_drewN ?_ _) | (with_reducible refine Kd.C_drew ?_) | exact HR225_2.out)) hb); replace HB := Aside0.mk (below_step (bl HB.out) hb); (try clear hb); (try clear hb2); (try clear hk); (try clear hi); (try clear ho0)) | ((with_reducible refine gate_dst (N := 52) rfl ?_); (try (refine gate_guard (by rfl) ?_; dsimp only)); refine Kd.R_lit (Kd.int .u8) _ 5 ?hg (N := 52) ?hd (xs := ([] : List Int)) (inner := []) (ok := fun _ => True) (okp := fun _ => True) ?hr ?hp (fun _ hk => hk) trivial (Below.refl _ _) (Nat.le_refl _) (by simp) ?_; (case hd => rfl); (case hg => rfl); (case hr => first | (go_simp; done) | (go_simp; rfl)); (case hp => exact (Reps.none _ _)); intro v231 w20 ho21 hb hg_ hnew_; clear hg_ hnew_; (first | rw [← Ny230.out] at ho21 | (simp only [Int.reduceToNat] at ho21; rw [← Ny230.out] at ho21)); replace HO_3 := Aside0.mk (Kd.N_elder' (by (with_reducible repeat (first | apply Kd.N_alloc | apply Kd.N_drewN | apply Kd.N_drew)); exact HO_3.out) (Kd.R_base ho21) hb); replace HO_4 := Aside0.mk (Kd.R_below (rl HO_4.out) hb); replace HO_5 := Aside0.mk (Kd.R_below (rl HO_5.out) hb); replace HO_6 := Aside0.mk (Kd.N_elder' (by (with_reducible repeat (first | apply Kd.N_alloc | apply Kd.N_drewN | apply Kd.N_drew)); exact HO_6.out) (Kd.R_base ho21) hb); replace HO_7 := Aside0.mk (Kd.N_elder' (by (with_reducible repeat (first | apply Kd.N_alloc | apply Kd.N_drewN | apply Kd.N_drew)); exact HO_7.out) (Kd.R_base ho21) hb); replace HO_8 := Aside0.mk (Kd.N_elder' (by (with_reducible repeat (first | apply Kd.N_alloc | apply Kd.N_drewN | apply Kd.N_drew)); exact HO_8.out) (Kd.R_base ho21) hb); replace HL225_2 := Aside0.mk (Kd.V_elder' (by (with_reducible repeat (first | apply Kd.V_alloc | apply Kd.V_drewN | apply Kd.V_drew)); exact HL225_2.out) (Kd.R_base ho21) hb); have HO232 := Aside0.mk (Kd.R_lower (Kd.R_new' ho21 (Kd.R_lt (by (repeat apply rl1); exact HO228.out))) (below_size (bl HB.out))); replace HO228 := Aside0.mk (Kd.R_elder' (rl HO228.out) (Kd.R_base ho21) hb); replace HR225_2 := Aside0.mk (Kd.C_below (by repeat (first | (with_reducible exact HR225_2.out) | (with_reducible refine Kd.C_alloc ?_ _) | (with_reducible refine Kd.C_drewN ?_ _) | (with_reducible refine Kd.C_drew ?_) | exact HR225_2.out)) hb); replace HB := Aside0.mk (below_step (bl HB.out) hb); clear hb ho21) | ((with_reducible refine gate_dst (N := 53) rfl ?_); (try (refine gate_guard (by rfl) ?_; dsimp only)); refine Kd.R_lit (Kd.int .u8) _ 5 ?hg (N := 53) ?hd (xs := ([] : List Int)) (inner := []) (ok := fun _ => True) (okp := fun _ => True) ?hr ?hp (fun _ hk => hk) trivial (Below.refl _ _) (Nat.le_refl _) (by simp) ?_; (case hd => rfl); (case hg => rfl); (case hr => first | (go_simp; done) | (go_simp; rfl)); (case hp => exact (Reps.none _ _)); intro v234 w22 ho23 hb hg_ hnew_; clear hg_ hnew_; (first | rw [← Ny233.out] at ho23 | (simp only [Int.reduceToNat] at ho23; rw [← Ny233.out] at ho23)); replace HO_3 := Aside0.mk (Kd.N_elder' (by (with_reducible repeat (first | apply Kd.N_alloc | apply Kd.N_drewN | apply Kd.N_drew)); exact HO_3.out) (Kd.R_base ho23) hb); replace HO_4 := Aside0.mk (Kd.R_below (rl HO_4.out) hb); replace HO_5 := Aside0.mk (Kd.R_below (rl HO_5.out) hb); replace HO_6 := Aside0.mk (Kd.N_elder' (by (with_reducible repeat (first | apply Kd.N_alloc | apply Kd.N_drewN | apply Kd.N_drew)); exact HO_6.out) (Kd.R_base ho23) hb); replace HO_7 := Aside0.mk (Kd.N_elder' (by (with_reducible repeat (first | apply Kd.N_alloc | apply Kd.N_drewN | apply Kd.N_drew)); exact HO_7.out) (Kd.R_base ho23) hb); replace HO_8 := Aside0.mk (Kd.N_elder' (by (with_reducible repeat (first | apply Kd.N_alloc | apply Kd.N_drewN | apply Kd.N_drew)); exact HO_8.out) (Kd.R_base ho23) hb); replace HL225_2 := Aside0.mk (Kd.V_elder' (by (with_reducible repeat (first | apply Kd.V_alloc | apply Kd.V_drewN | apply Kd.V_drew)); exact HL225_2.out) (Kd.R_base ho23) hb); have HO235 := Aside0.mk (Kd.R_lower (Kd.R_new' (Kd.R_new' ho23 (Kd.R_lt (by (repeat apply rl1); exact HO228.out))) (Kd.R_lt (by (repeat apply rl1); exact HO232.out))) (below_size (bl HB.out))); replace HO228 := Aside0.mk (Kd.R_elder' (rl HO228.out) (Kd.R_base ho23) hb); replace HO232 := Aside0.mk (Kd.R_elder' (rl HO232.out) (Kd.R_base ho23) hb); replace HR225_2 := Aside0.mk (Kd.C_below (by repeat (first | (with_reducible exact HR225_2.out) | (with_reducible refine Kd.C_alloc ?_ _) | (with_reducible refine Kd.C_drewN ?_ _) | (with_reducible refine Kd.C_drew ?_) | exact HR225_2.out)) hb); replace HB := Aside0.mk (below_step (bl HB.out) hb); clear hb ho23; obtain ⟨Ao24, co24, eo24⟩ := Kd.R_slice HO_4.out; subst eo24; have p236 : 0 ≤ (x11_1 : Int) := of_decide_eq_true (by first | (with_reducible assumption) | assumption); have q236 : x11_1 < (t208.length : Int) := of_decide_eq_true (by first | (with_reducible assumption) | assumption); obtain ⟨ad236, e236, hx236_0⟩ := Kd.at_bool (Kd.R_reads' HO_4.out).2.2 x11_1 p236 q236; cases e236; replace p236 := eq_true p236; replace q236 := eq_true q236))
        (try simp only [Act.put, List.setIfInBounds_toArray, List.set_cons_zero, List.set_cons_succ])
        go_cut [14] (fun v14 wc => ∃ (kq : Nat) (x14_16 : List Int), Aside0 (laws_FnTwice.j1 kq t207 t208 t209 x6_1 x7_1 x8_1 x9_1 x10_1 x11_1 t226 x14_16 y233 = some r) ∧ Aside0 (kq ≤ k1) ∧ Aside0 (Kd.N k41 41 wc w.heap.size (fun k_ => some k_ ≠ ((.slice (some ad236) t208.length co24) : Value).ownBlock ∧ some k_ ≠ (v214 : Value).ownBlock ∧ some k_ ≠ (u6 : Value).ownBlock ∧ some k_ ≠ (u7 : Value).ownBlock ∧ some k_ ≠ (u8 : Value).ownBlock ∧ some k_ ≠ (v227 : Value).ownBlock ∧ some k_ ≠ (v14 : Value).ownBlock ∧ some k_ ≠ (v234 : Value).ownBlock) (.slice (some ad225) t207.length co18) t207) ∧ Aside0 (Kd.R Kd.bool 4 wc w.heap.size (fun k_ => some k_ ≠ (v214 : Value).ownBlock) (.slice (some ad236) t208.length co24) t208) ∧ Aside0 (Kd.R Kd.bool 4 wc w.heap.size (fun k_ => some k_ ≠ ((.slice (some ad236) t208.length co24) : Value).ownBlock) v214 t209) ∧ Aside0 (Kd.N (Kd.slice 5 (Kd.int .u8)) 28 wc w.heap.size (fun k_ => some k_ ≠ ((.slice (some ad225) t207.length co18) : Value).ownBlock ∧ some k_ ≠ ((.slice (some ad236) t208.length co24) : Value).ownBlock ∧ some k_ ≠ (v214 : Value).ownBlock ∧ some k_ ≠ (u7 : Value).ownBlock ∧ some k_ ≠ (u8 : Value).ownBlock ∧ some k_ ≠ (v227 : Value).ownBlock ∧ some k_ ≠ (v14 : Value).ownBlock ∧ some k_ ≠ (v234 : Value).ownBlock) u6 x6_1) ∧ Aside0 (Kd.N (Kd.slice 5 (Kd.int .u8)) 28 wc w.heap.size (fun k_ => some k_ ≠ ((.slice (some ad225) t207.length co18) : Value).ownBlock ∧ some k_ ≠ ((.slice (some ad236) t208.length co24) : Value).ownBlock ∧ some k_ ≠ (v214 : Value).ownBlock ∧ some k_ ≠ (u6 : Value).ownBlock ∧ some k_ ≠ (u8 : Value).ownBlock ∧ some k_ ≠ (v227 : Value).ownBlock ∧ some k_ ≠ (v14 : Value).ownBlock ∧ some k_ ≠ (v234 : Value).ownBlock) u7 x7_1) ∧ Aside0 (Kd.N k41 41 wc w.heap.size (fun k_ => some k_ ≠ ((.slice (some ad225) t207.length co18) : Value).ownBlock ∧ some k_ ≠ ((.slice (some ad236) t208.length co24) : Value).ownBlock ∧ some k_ ≠ (v214 : Value).ownBlock ∧ some k_ ≠ (u6 : Value).ownBlock ∧ some k_ ≠ (u7 : Value).ownBlock ∧ some k_ ≠ (v227 : Value).ownBlock ∧ some k_ ≠ (v14 : Value).ownBlock ∧ some k_ ≠ (v234 : Value).ownBlock) u8 x8_1) ∧ Aside0 (Kd.R (Kd.int .u8) 5 wc w.heap.size (fun k_ => some k_ ≠ (v234 : Value).ownBlock) v227 t226) ∧ Aside0 (Kd.R (Kd.int .u8) 5 wc w.heap.size (fun _ => True) v14 x14_16) ∧ Aside0 (Kd.R (Kd.int .u8) 5 wc w.heap.size (fun k_ => some k_ ≠ (v227 : Value).ownBlock) v234 y233) ∧ Aside0 (Kd.C (Kd.int .u8) wc A225_2 ((rd_T41 t207 x11_1).f2).length ((rd_T41 t207 x11_1).f2)) ∧ Aside0 (Below w.heap.size w wc))
        case first =>
         have H := HC17.out
         clear HC17
         obtain ⟨bq25, hbq25⟩ : ∃ b_ : Bool, b_ = (rdOf false t208 x11_1) := ⟨_, rfl⟩
         replace H : (if bq25 = true then (laws_FnTwice.j1 k1 t207 t208 t209 x6_1 x7_1 x8_1 x9_1 x10_1 x11_1 t226 y230 y233) else (laws_FnTwice.j1 k1 t207 t208 t209 x6_1 x7_1 x8_1 x9_1 x10_1 x11_1 t226 t226 y233)) = some r := by rw [← hbq25] at H; exact H
         have Nbq25 := Aside0.mk hbq25
         clear hbq25
         (try rw [← Nbq25.out])
         by_cases c26 : bq25 = true
         ·
          subst c26
          have H1 : (laws_FnTwice.j1 k1 t207 t208 t209 x6_1 x7_1 x8_1 x9_1 x10_1 x11_1 t226 y230 y233) = some r := by rw [if_pos rfl] at H; exact H
          clear H
          have H := H1
          clear H1
          have H' := Aside0.mk H
          clear H
          go_wp2
          go_meet
          case rel => exact ⟨_, (y230), H', ⟨by have := HK1.out; first | omega | exact Nat.le_refl _⟩, ⟨by (with_reducible repeat (first | apply Kd.N_alloc | apply Kd.N_drewN | apply Kd.N_drew)); exact Kd.N_mono HO_3.out (fun _ hk => ⟨hk.1.1.1.1, ⟨hk.1.1.1.2.1, ⟨hk.1.1.1.2.2.1, ⟨hk.1.1.1.2.2.2.1, ⟨hk.1.1.1.2.2.2.2, ⟨hk.1.1.2, ⟨hk.1.2, hk.2⟩⟩⟩⟩⟩⟩⟩)⟩, ⟨rl HO_4.out⟩, ⟨rl HO_5.out⟩, ⟨by (with_reducible repeat (first | apply Kd.N_alloc | apply Kd.N_drewN | apply Kd.N_drew)); exact Kd.N_mono HO_6.out (fun _ hk => ⟨hk.1.1.1.1, ⟨hk.1.1.1.2.1, ⟨hk.1.1.1.2.2.1, ⟨hk.1.1.1.2.2.2.1, ⟨hk.1.1.1.2.2.2.2, ⟨hk.1.1.2, ⟨hk.1.2, hk.2⟩⟩⟩⟩⟩⟩⟩)⟩, ⟨by (with_reducible repeat (first | apply Kd.N_alloc | apply Kd.N_drewN | apply Kd.N_drew)); exact Kd.N_mono HO_7.out (fun _ hk => ⟨hk.1.1.1.1, ⟨hk.1.1.1.2.1, ⟨hk.1.1.1.2.2.1, ⟨hk.1.1.1.2.2.2.1, ⟨hk.1.1.1.2.2.2.2, ⟨hk.1.1.2, ⟨hk.1.2, hk.2⟩⟩⟩⟩⟩⟩⟩)⟩, ⟨by (with_reducible repeat (first | apply Kd.N_alloc | apply Kd.N_drewN | apply Kd.N_drew)); exact Kd.N_mono HO_8.out (fun _ hk => ⟨hk.1.1.1.1, ⟨hk.1.1.1.2.1, ⟨hk.1.1.1.2.2.1, ⟨hk.1.1.1.2.2.2.1, ⟨hk.1.1.1.2.2.2.2, ⟨hk.1.1.2, ⟨hk.1.2, hk.2⟩⟩⟩⟩⟩⟩⟩)⟩, ⟨by (repeat apply rl1); exact Kd.R_mono HO228.out (fun _ hk => hk.2)⟩, ⟨by (repeat apply rl1); exact Kd.R_mono HO232.out (fun _ hk => trivial)⟩, ⟨by (repeat apply rl1); exact Kd.R_mono HO235.out (fun _ hk => hk.1.2)⟩, ⟨by repeat (first | (with_reducible exact HR225_2.out) | (with_reducible refine Kd.C_alloc ?_ _) | (with_reducible refine Kd.C_drewN ?_ _) | (with_reducible refine Kd.C_drew ?_) | exact HR225_2.out)⟩, ⟨bl HB.out⟩⟩
         ·
          replace c26 := Bool.eq_false_iff.mpr c26
          subst c26
          have H1 : (laws_FnTwice.j1 k1 t207 t208 t209 x6_1 x7_1 x8_1 x9_1 x10_1 x11_1 t226 t226 y233) = some r := by rw [if_neg (show ¬ (false = true) by decide)] at H; exact H
          clear H
          have H := H1
          clear H1
          have H' := Aside0.mk H
          clear H
          go_wp2
          go_meet
          case rel => exact ⟨_, (t226), H', ⟨by have := HK1.out; first | omega | exact Nat.le_refl _⟩, ⟨by (with_reducible repeat (first | apply Kd.N_alloc | apply Kd.N_drewN | apply Kd.N_drew)); exact Kd.N_mono HO_3.out (fun _ hk => ⟨hk.1.1.1.1, ⟨hk.1.1.1.2.1, ⟨hk.1.1.1.2.2.1, ⟨hk.1.1.1.2.2.2.1, ⟨hk.1.1.1.2.2.2.2, ⟨hk.1.1.2, ⟨hk.1.1.2, hk.2⟩⟩⟩⟩⟩⟩⟩)⟩, ⟨rl HO_4.out⟩, ⟨rl HO_5.out⟩, ⟨by (with_reducible repeat (first | apply Kd.N_alloc | apply Kd.N_drewN | apply Kd.N_drew)); exact Kd.N_mono HO_6.out (fun _ hk => ⟨hk.1.1.1.1, ⟨hk.1.1.1.2.1, ⟨hk.1.1.1.2.2.1, ⟨hk.1.1.1.2.2.2.1, ⟨hk.1.1.1.2.2.2.2, ⟨hk.1.1.2, ⟨hk.1.1.2, hk.2⟩⟩⟩⟩⟩⟩⟩)⟩, ⟨by (with_reducible repeat (first | apply Kd.N_alloc | apply Kd.N_drewN | apply Kd.N_drew)); exact Kd.N_mono HO_7.out (fun _ hk => ⟨hk.1.1.1.1, ⟨hk.1.1.1.2.1, ⟨hk.1.1.1.2.2.1, ⟨hk.1.1.1.2.2.2.1, ⟨hk.1.1.1.2.2.2.2, ⟨hk.1.1.2, ⟨hk.1.1.2, hk.2⟩⟩⟩⟩⟩⟩⟩)⟩, ⟨by (with_reducible repeat (first | apply Kd.N_alloc | apply Kd.N_drewN | apply Kd.N_drew)); exact Kd.N_mono HO_8.out (fun _ hk => ⟨hk.1.1.1.1, ⟨hk.1.1.1.2.1, ⟨hk.1.1.1.2.2.1, ⟨hk.1.1.1.2.2.2.1, ⟨hk.1.1.1.2.2.2.2, ⟨hk.1.1.2, ⟨hk.1.1.2, hk.2⟩⟩⟩⟩⟩⟩⟩)⟩, ⟨by (repeat apply rl1); exact Kd.R_mono HO228.out (fun _ hk => hk.2)⟩, ⟨by (repeat apply rl1); exact Kd.R_mono HO228.out (fun _ hk => trivial)⟩, ⟨by (repeat apply rl1); exact Kd.R_mono HO235.out (fun _ hk => hk.1.2)⟩, ⟨by repeat (first | (with_reducible exact HR225_2.out) | (with_reducible refine Kd.C_alloc ?_ _) | (with_reducible refine Kd.C_drewN ?_ _) | (with_reducible refine Kd.C_drew ?_) | exact HR225_2.out)⟩, ⟨bl HB.out⟩⟩
        case rest =>
         clear HC17
         try clear c1
         try clear c2
         try clear p2
         try clear q2
         try clear hx2
         try clear c3
         try clear c7
         try clear c12
         try clear c12b0
         try clear c13
         try clear c13b0
         try clear c15
         try clear c16
         try clear c16b0
         try clear c17
         try clear c22
         try clear p22
         try clear q22
         try clear hx22
         try clear p23
         try clear q23
         try clear hx23
         try clear q25
         try clear c26
         try clear hx225_0
         try clear hx225_1
         try clear hx225_2
         try clear hx236_0
         try clear p2
         try clear p225
         try clear p236
         try clear q225
         try clear q236
         obtain ⟨kq, x14_16, HA, HJ16, HO_3, HO_4, HO_5, HO_6, HO_7, HO_8, HO_12, HO_14, HO_15, HR225_2, HB⟩ := hcut
         cases kq with
         | zero => exact absurd HA.out (by simp [laws_FnTwice.j1])
         | succ kj16 =>
          have H := HA.out
          clear HA
          simp only [laws_FnTwice.j1] at H
          by_cases c27 : 0 ≤ x11_1
          ·
           rw [if_pos c27] at H
           have c27b0 : decide (0 ≤ x11_1) = true := decide_eq_true c27
           clear c27
           by_cases c28 : x11_1 < (t209.length : Int)
           ·
            rw [if_pos c28] at H
            have c28b0 : decide (x11_1 < (t209.length : Int)) = true := decide_eq_true c28
            clear c28
            have HC29 := Aside0.mk H
            clear H
            obtain ⟨Ao30, co30, eo30⟩ := Kd.R_slice HO_5.out
            subst eo30
            have p237 : 0 ≤ (x11_1 : Int) := of_decide_eq_true (by first | (with_reducible assumption) | assumption)
            have q237 : x11_1 < (t209.length : Int) := of_decide_eq_true (by first | (with_reducible assumption) | assumption)
            obtain ⟨ad237, e237, hx237_0⟩ := Kd.at_bool (Kd.R_reads' HO_5.out).2.2 x11_1 p237 q237
            cases e237
            replace p237 := eq_true p237
            replace q237 := eq_true q237
            go_upto_if 64 with (fail)
            go_cut [15] (fun v15 wc => ∃ (kq : Nat) (x15_28 : List Int), Aside0 (laws_FnTwice.j2 kq t207 t208 t209 x6_1 x7_1 x8_1 x9_1 x10_1 x11_1 x14_16 x15_28 = some r) ∧ Aside0 (kq ≤ kj16) ∧ Aside0 (Kd.N k41 41 wc w.heap.size (fun k_ => some k_ ≠ ((.slice (some ad236) t208.length co24) : Value).ownBlock ∧ some k_ ≠ ((.slice (some ad237) t209.length co30) : Value).ownBlock ∧ some k_ ≠ (u6 : Value).ownBlock ∧ some k_ ≠ (u7 : Value).ownBlock ∧ some k_ ≠ (u8 : Value).ownBlock ∧ some k_ ≠ (u14 : Value).ownBlock ∧ some k_ ≠ (v15 : Value).ownBlock) (.slice (some ad225) t207.length co18) t207) ∧ Aside0 (Kd.R Kd.bool 4 wc w.heap.size (fun k_ => some k_ ≠ ((.slice (some ad237) t209.length co30) : Value).ownBlock) (.slice (some ad236) t208.length co24) t208) ∧ Aside0 (Kd.R Kd.bool 4 wc w.heap.size (fun k_ => some k_ ≠ ((.slice (some ad236) t208.length co24) : Value).ownBlock) (.slice (some ad237) t209.length co30) t209) ∧ Aside0 (Kd.N (Kd.slice 5 (Kd.int .u8)) 28 wc w.heap.size (fun k_ => some k_ ≠ ((.slice (some ad225) t207.length co18) : Value).ownBlock ∧ some k_ ≠ ((.slice (some ad236) t208.length co24) : Value).ownBlock ∧ some k_ ≠ ((.slice (some ad237) t209.length co30) : Value).ownBlock ∧ some k_ ≠ (u7 : Value).ownBlock ∧ some k_ ≠ (u8 : Value).ownBlock ∧ some k_ ≠ (u14 : Value).ownBlock ∧ some k_ ≠ (v15 : Value).ownBlock) u6 x6_1) ∧ Aside0 (Kd.N (Kd.slice 5 (Kd.int .u8)) 28 wc w.heap.size (fun k_ => some k_ ≠ ((.slice (some ad225) t207.length co18) : Value).ownBlock ∧ some k_ ≠ ((.slice (some ad236) t208.length co24) : Value).ownBlock ∧ some k_ ≠ ((.slice (some ad237) t209.length co30) : Value).ownBlock ∧ some k_ ≠ (u6 : Value).ownBlock ∧ some k_ ≠ (u8 : Value).ownBlock ∧ some k_ ≠ (u14 : Value).ownBlock ∧ some k_ ≠ (v15 : Value).ownBlock) u7 x7_1) ∧ Aside0 (Kd.N k41 41 wc w.heap.size (fun k_ => some k_ ≠ ((.slice (some ad225) t207.length co18) : Value).ownBlock ∧ some k_ ≠ ((.slice (some ad236) t208.length co24) : Value).ownBlock ∧ some k_ ≠ ((.slice (some ad237) t209.length co30) : Value).ownBlock ∧ some k_ ≠ (u6 : Value).ownBlock ∧ some k_ ≠ (u7 : Value).ownBlock ∧ some k_ ≠ (u14 : Value).ownBlock ∧ some k_ ≠ (v15 : Value).ownBlock) u8 x8_1) ∧ Aside0 (Kd.R (Kd.int .u8) 5 wc w.heap.size (fun _ => True) u14 x14_16) ∧ Aside0 (Kd.R (Kd.int .u8) 5 wc w.heap.size (fun _ => True) v15 x15_28) ∧ Aside0 (Kd.C (Kd.int .u8) wc A225_2 ((rd_T41 t207 x11_1).f2).length ((rd_T41 t207 x11_1).f2)) ∧ Aside0 (Below w.heap.size w wc))
            case first =>
             have H := HC29.out
             clear HC29
             obtain ⟨bq31, hbq31⟩ : ∃ b_ : Bool, b_ = (rdOf false t209 x11_1) := ⟨_, rfl⟩
             replace H : (if bq31 = true then (laws_FnTwice.j2 kj16 t207 t208 t209 x6_1 x7_1 x8_1 x9_1 x10_1 x11_1 x14_16 y233) else (laws_FnTwice.j2 kj16 t207 t208 t209 x6_1 x7_1 x8_1 x9_1 x10_1 x11_1 x14_16 t226)) = some r := by rw [← hbq31] at H; exact H
             have Nbq31 := Aside0.mk hbq31
             clear hbq31
             (try rw [← Nbq31.out])
             by_cases c32 : bq31 = true
             ·
              subst c32
              have H1 : (laws_FnTwice.j2 kj16 t207 t208 t209 x6_1 x7_1 x8_1 x9_1 x10_1 x11_1 x14_16 y233) = some r := by rw [if_pos rfl] at H; exact H
              clear H
              have H := H1
              clear H1
              have H' := Aside0.mk H
              clear H
              go_wp2
              go_meet
              case rel => exact ⟨_, (y233), H', ⟨by have := HK1.out; have := HJ16.out; first | omega | exact Nat.le_refl _⟩, ⟨by (with_reducible repeat (first | apply Kd.N_alloc | apply Kd.N_drewN | apply Kd.N_drew)); exact Kd.N_mono HO_3.out (fun _ hk => ⟨hk.1, ⟨hk.2.1, ⟨hk.2.2.1, ⟨hk.2.2.2.1, ⟨hk.2.2.2.2.1, ⟨hk.2.2.2.2.2.2.1, hk.2.2.2.2.2.2.2⟩⟩⟩⟩⟩⟩)⟩, ⟨rl HO_4.out⟩, ⟨rl HO_5.out⟩, ⟨by (with_reducible repeat (first | apply Kd.N_alloc | apply Kd.N_drewN | apply Kd.N_drew)); exact Kd.N_mono HO_6.out (fun _ hk => ⟨hk.1, ⟨hk.2.1, ⟨hk.2.2.1, ⟨hk.2.2.2.1, ⟨hk.2.2.2.2.1, ⟨hk.2.2.2.2.2.2.1, hk.2.2.2.2.2.2.2⟩⟩⟩⟩⟩⟩)⟩, ⟨by (with_reducible repeat (first | apply Kd.N_alloc | apply Kd.N_drewN | apply Kd.N_drew)); exact Kd.N_mono HO_7.out (fun _ hk => ⟨hk.1, ⟨hk.2.1, ⟨hk.2.2.1, ⟨hk.2.2.2.1, ⟨hk.2.2.2.2.1, ⟨hk.2.2.2.2.2.2.1, hk.2.2.2.2.2.2.2⟩⟩⟩⟩⟩⟩)⟩, ⟨by (with_reducible repeat (first | apply Kd.N_alloc | apply Kd.N_drewN | apply Kd.N_drew)); exact Kd.N_mono HO_8.out (fun _ hk => ⟨hk.1, ⟨hk.2.1, ⟨hk.2.2.1, ⟨hk.2.2.2.1, ⟨hk.2.2.2.2.1, ⟨hk.2.2.2.2.2.2.1, hk.2.2.2.2.2.2.2⟩⟩⟩⟩⟩⟩)⟩, ⟨rl HO_14.out⟩, ⟨by (repeat apply rl1); exact Kd.R_mono HO_15.out (fun _ hk => trivial)⟩, ⟨by repeat (first | (with_reducible exact HR225_2.out) | (with_reducible refine Kd.C_alloc ?_ _) | (with_reducible refine Kd.C_drewN ?_ _) | (with_reducible refine Kd.C_drew ?_) | exact HR225_2.out)⟩, ⟨bl HB.out⟩⟩
             ·
              replace c32 := Bool.eq_false_iff.mpr c32
              subst c32
              have H1 : (laws_FnTwice.j2 kj16 t207 t208 t209 x6_1 x7_1 x8_1 x9_1 x10_1 x11_1 x14_16 t226) = some r := by rw [if_neg (show ¬ (false = true) by decide)] at H; exact H
              clear H
              have H := H1
              clear H1
              have H' := Aside0.mk H
              clear H
              go_wp2
              go_meet
              case rel => exact ⟨_, (t226), H', ⟨by have := HK1.out; have := HJ16.out; first | omega | exact Nat.le_refl _⟩, ⟨by (with_reducible repeat (first | apply Kd.N_alloc | apply Kd.N_drewN | apply Kd.N_drew)); exact Kd.N_mono HO_3.out (fun _ hk => ⟨hk.1, ⟨hk.2.1, ⟨hk.2.2.1, ⟨hk.2.2.2.1, ⟨hk.2.2.2.2.1, ⟨hk.2.2.2.2.2.2.1, hk.2.2.2.2.2.1⟩⟩⟩⟩⟩⟩)⟩, ⟨rl HO_4.out⟩, ⟨rl HO_5.out⟩, ⟨by (with_reducible repeat (first | apply Kd.N_alloc | apply Kd.N_drewN | apply Kd.N_drew)); exact Kd.N_mono HO_6.out (fun _ hk => ⟨hk.1, ⟨hk.2.1, ⟨hk.2.2.1, ⟨hk.2.2.2.1, ⟨hk.2.2.2.2.1, ⟨hk.2.2.2.2.2.2.1, hk.2.2.2.2.2.1⟩⟩⟩⟩⟩⟩)⟩, ⟨by (with_reducible repeat (first | apply Kd.N_alloc | apply Kd.N_drewN | apply Kd.N_drew)); exact Kd.N_mono HO_7.out (fun _ hk => ⟨hk.1, ⟨hk.2.1, ⟨hk.2.2.1, ⟨hk.2.2.2.1, ⟨hk.2.2.2.2.1, ⟨hk.2.2.2.2.2.2.1, hk.2.2.2.2.2.1⟩⟩⟩⟩⟩⟩)⟩, ⟨by (with_reducible repeat (first | apply Kd.N_alloc | apply Kd.N_drewN | apply Kd.N_drew)); exact Kd.N_mono HO_8.out (fun _ hk => ⟨hk.1, ⟨hk.2.1, ⟨hk.2.2.1, ⟨hk.2.2.2.1, ⟨hk.2.2.2.2.1, ⟨hk.2.2.2.2.2.2.1, hk.2.2.2.2.2.1⟩⟩⟩⟩⟩⟩)⟩, ⟨rl HO_14.out⟩, ⟨by (repeat apply rl1); exact Kd.R_mono HO_12.out (fun _ hk => trivial)⟩, ⟨by repeat (first | (with_reducible exact HR225_2.out) | (with_reducible refine Kd.C_alloc ?_ _) | (with_reducible refine Kd.C_drewN ?_ _) | (with_reducible refine Kd.C_drew ?_) | exact HR225_2.out)⟩, ⟨bl HB.out⟩⟩
            case rest =>
             clear HC29
             try clear c1
             try clear c2
             try clear p2
             try clear q2
             try clear hx2
             try clear c3
             try clear q3
             try clear c7
             try clear c12
             try clear c12b0
             try clear c13
             try clear c13b0
             try clear c15
             try clear c16
             try clear c16b0
             try clear c17
             try clear c22
             try clear p22
             try clear q22
             try clear hx22
             try clear p23
             try clear q23
             try clear hx23
             try clear q25
             try clear c26
             try clear c27
             try clear c27b0
             try clear c28
             try clear c28b0
             try clear c29
             try clear c30
             try clear q31
             try clear c32
             try clear hx225_0
             try clear hx225_1
             try clear hx225_2
             try clear hx236_0
             try clear hx237_0
             try clear p2
             try clear p22
             try clear p225
             try clear p23
             try clear p236
             try clear p237
             try clear q2
             try clear q22
             try clear q225
             try clear q23
             try clear q236
             try clear q237
             try clear q25
             obtain ⟨kq, x15_28, HA, HJ28, HO_3, HO_4, HO_5, HO_6, HO_7, HO_8, HO_14, HO_15, HR225_2, HB⟩ := hcut
             cases kq with
             | zero => exact absurd HA.out (by simp [laws_FnTwice.j2])
             | succ kj28 =>
              have H := HA.out
              clear HA
              simp only [laws_FnTwice.j2] at H
              by_cases c33 : x6_1.length < 5864062014805
              ·
               rw [if_pos c33] at H
               have LMc33 := Aside0.mk c33
               clear c33
               obtain ⟨y238, hy238⟩ : ∃ y_ : List (List Int), y_ = (x6_1 ++ [x14_16]) := ⟨_, rfl⟩
               replace H : (if x7_1.length < 5864062014805 then ((some (x7_1 ++ [x15_28] : List (List Int))).bind fun y241 => (if 0 ≤ x11_1 then (if x11_1 < (t208.length : Int) then (if rdOf false t208 x11_1 = true then (if x11_1 < (t209.length : Int) then (laws_FnTwice.j3 kj28 t207 t208 t209 y238 y241 x8_1 x9_1 x10_1 x11_1 (rdOf false t209 x11_1)) else (none)) else (laws_FnTwice.j3 kj28 t207 t208 t209 y238 y241 x8_1 x9_1 x10_1 x11_1 false)) else (none)) else (none))) else (none)) = some r := by first | (rw [hy238]; with_reducible exact H) | (have H2_ := (Option.bind_some _ _).symm.trans H; rw [hy238]; with_reducible exact H2_) | (have H2_ := (Option.bind_some _ _).symm.trans H; with_reducible exact H2_) | with_reducible exact H | (rw [hy238]; exact H) | exact H
               have Ny238 := Aside0.mk hy238
               clear hy238
               by_cases c34 : x7_1.length < 5864062014805
               ·
                rw [if_pos c34] at H
                have LMc34 := Aside0.mk c34
                clear c34
                obtain ⟨y241, hy241⟩ : ∃ y_ : List (List Int), y_ = (x7_1 ++ [x15_28]) := ⟨_, rfl⟩
                replace H : (if 0 ≤ x11_1 then (if x11_1 < (t208.length : Int) then (if rdOf false t208 x11_1 = true then (if x11_1 < (t209.length : Int) then (laws_FnTwice.j3 kj28 t207 t208 t209 y238 y241 x8_1 x9_1 x10_1 x11_1 (rdOf false t209 x11_1)) else (none)) else (laws_FnTwice.j3 kj28 t207 t208 t209 y238 y241 x8_1 x9_1 x10_1 x11_1 false)) else (none)) else (none)) = some r := by first | (rw [hy241]; with_reducible exact H) | (have H2_ := (Option.bind_some _ _).symm.trans H; rw [hy241]; with_reducible exact H2_) | (have H2_ := (Option.bind_some _ _).symm.trans H; with_reducible exact H2_) | with_reducible exact H | (rw [hy241]; exact H) | exact H
                have Ny241 := Aside0.mk hy241
                clear hy241
                have HC35 := Aside0.mk H
                clear H
                obtain ⟨Ao37, co37, eo37⟩ := Kd.R_slice HO_14.out
                subst eo37
                go_upto_region 20 with (first | ((with_reducible refine gate_builtin (b := .append) (xs := #[.tmp 66, .tmp 68]) rfl ?_); (try (refine gate_guard (by rfl) ?_; dsimp only)); at_builtin; refine Kd.N_append (Kd.slice 5 (Kd.int .u8)) (w0 := w) w.heap.size rfl (.tmp 66) (.tmp 68) 49 28 (.slice none 0 0) 24 rfl Try.underlying49 info28 rfl (by decide) (by omega) u6 x6_1 x14_16 [.slice Ao37 x14_16.length co37] (fun k_ => some k_ ≠ (.slice (some ad225) t207.length co18 : Value).ownBlock ∧ some k_ ≠ (.slice (some ad236) t208.length co24 : Value).ownBlock ∧ some k_ ≠ (.slice (some ad237) t209.length co30 : Value).ownBlock ∧ some k_ ≠ (u7 : Value).ownBlock ∧ some k_ ≠ (u8 : Value).ownBlock) (fun k_ => ((fun k_ => some k_ ≠ (.slice (some ad225) t207.length co18 : Value).ownBlock ∧ some k_ ≠ (.slice (some ad236) t208.length co24 : Value).ownBlock ∧ some k_ ≠ (.slice (some ad237) t209.length co30 : Value).ownBlock ∧ some k_ ≠ (u7 : Value).ownBlock ∧ some k_ ≠ (u8 : Value).ownBlock)) k_ ∧ some k_ ≠ (u6 : Value).ownBlock) rfl rfl ?aP (fun _ hk => hk) ?aF ?aO ?aB ?aS ?aL ?_; (case aP => exact (Kd.FK_slice_mk (Kd.R_reads' (Kd.R_mono (ok' := (fun k_ => ((fun k_ => some k_ ≠ (.slice (some ad225) t207.length co18 : Value).ownBlock ∧ some k_ ≠ (.slice (some ad236) t208.length co24 : Value).ownBlock ∧ some k_ ≠ (.slice (some ad237) t209.length co30 : Value).ownBlock ∧ some k_ ≠ (u7 : Value).ownBlock ∧ some k_ ≠ (u8 : Value).ownBlock)) k_ ∧ some k_ ≠ (u6 : Value).ownBlock)) (Kd.R_apart' (Kd.R_apart' (Kd.R_apart' (Kd.R_apart' (Kd.R_apart' (Kd.R_apart' (HO_14.out) (Kd.N_typed HO_3.out) (by decide)) (Kd.R_typed HO_4.out) (by decide)) (Kd.R_typed HO_5.out) (by decide)) (Kd.N_typed HO_7.out) (by decide)) (Kd.N_typed HO_8.out) (by decide)) (Kd.N_typed HO_6.out) (by decide)) (fun k_ hk => ⟨⟨hk.1.1.1.1.1.2, ⟨hk.1.1.1.1.2, ⟨hk.1.1.1.2, ⟨hk.1.1.2, hk.1.2⟩⟩⟩⟩, hk.2⟩))).2.1 (Kd.R_F (Kd.R_mono (ok' := (fun k_ => ((fun k_ => some k_ ≠ (.slice (some ad225) t207.length co18 : Value).ownBlock ∧ some k_ ≠ (.slice (some ad236) t208.length co24 : Value).ownBlock ∧ some k_ ≠ (.slice (some ad237) t209.length co30 : Value).ownBlock ∧ some k_ ≠ (u7 : Value).ownBlock ∧ some k_ ≠ (u8 : Value).ownBlock)) k_ ∧ some k_ ≠ (u6 : Value).ownBlock)) (Kd.R_apart' (Kd.R_apart' (Kd.R_apart' (Kd.R_apart' (Kd.R_apart' (Kd.R_apart' (HO_14.out) (Kd.N_typed HO_3.out) (by decide)) (Kd.R_typed HO_4.out) (by decide)) (Kd.R_typed HO_5.out) (by decide)) (Kd.N_typed HO_7.out) (by decide)) (Kd.N_typed HO_8.out) (by decide)) (Kd.N_typed HO_6.out) (by decide)) (fun k_ hk => ⟨⟨hk.1.1.1.1.1.2, ⟨hk.1.1.1.1.2, ⟨hk.1.1.1.2, ⟨hk.1.1.2, hk.1.2⟩⟩⟩⟩, hk.2⟩))))); (case aB => exact (bl HB.out)); (case aF => exact (fun k_ hk => ⟨Kd.fresh' (Kd.N_lt (by (with_reducible repeat (first | apply Kd.N_alloc | apply Kd.N_drewN | apply Kd.N_drew)); exact HO_3.out)) k_ hk, Kd.fresh' (Kd.R_lt (by (repeat apply rl1); exact HO_4.out)) k_ hk, Kd.fresh' (Kd.R_lt (by (repeat apply rl1); exact HO_5.out)) k_ hk, Kd.fresh' (Kd.N_lt (by (with_reducible repeat (first | apply Kd.N_alloc | apply Kd.N_drewN | apply Kd.N_drew)); exact HO_7.out)) k_ hk, Kd.fresh' (Kd.N_lt (by (with_reducible repeat (first | apply Kd.N_alloc | apply Kd.N_drewN | apply Kd.N_drew)); exact HO_8.out)) k_ hk⟩)); (case aO => exact (by (with_reducible repeat (first | apply Kd.N_alloc | apply Kd.N_drewN | apply Kd.N_drew)); exact Kd.N_mono HO_6.out (fun _ hk => ⟨hk.1, ⟨hk.2.1, ⟨hk.2.2.1, ⟨hk.2.2.2.1, hk.2.2.2.2.1⟩⟩⟩⟩))); (case aS => exact (below_size (bl HB.out))); (case aL => have := LMc33.out; omega); intro v239 w36 ho hb hg hat; rw [← Ny238.out] at ho; replace HO_3 := Aside0.mk (Kd.N_afterv (ok := (fun k_ => some k_ ≠ (.slice (some ad236) t208.length co24 : Value).ownBlock ∧ some k_ ≠ (.slice (some ad237) t209.length co30 : Value).ownBlock ∧ some k_ ≠ (u7 : Value).ownBlock ∧ some k_ ≠ (u8 : Value).ownBlock ∧ some k_ ≠ (.slice Ao37 x14_16.length co37 : Value).ownBlock ∧ some k_ ≠ (u15 : Value).ownBlock)) (by (with_reducible repeat (first | apply Kd.N_alloc | apply Kd.N_drewN | apply Kd.N_drew)); exact Kd.N_mono HO_3.out (fun _ hk => ⟨⟨hk.1, ⟨hk.2.1, ⟨hk.2.2.2.1, ⟨hk.2.2.2.2.1, ⟨hk.2.2.2.2.2.1, hk.2.2.2.2.2.2⟩⟩⟩⟩⟩, hk.2.2.1⟩)) hg hat); replace HO_4 := Aside0.mk (Kd.R_over' (rl HO_4.out) (Kd.N_typed (by (with_reducible repeat (first | apply Kd.N_alloc | apply Kd.N_drewN | apply Kd.N_drew)); exact HO_6.out)) (by decide) hg); replace HO_5 := Aside0.mk (Kd.R_over' (rl HO_5.out) (Kd.N_typed (by (with_reducible repeat (first | apply Kd.N_alloc | apply Kd.N_drewN | apply Kd.N_drew)); exact HO_6.out)) (by decide) hg); replace HO_7 := Aside0.mk (Kd.N_afterv (ok := (fun k_ => some k_ ≠ (.slice (some ad225) t207.length co18 : Value).ownBlock ∧ some k_ ≠ (.slice (some ad236) t208.length co24 : Value).ownBlock ∧ some k_ ≠ (.slice (some ad237) t209.length co30 : Value).ownBlock ∧ some k_ ≠ (u8 : Value).ownBlock ∧ some k_ ≠ (.slice Ao37 x14_16.length co37 : Value).ownBlock ∧ some k_ ≠ (u15 : Value).ownBlock)) (by (with_reducible repeat (first | apply Kd.N_alloc | apply Kd.N_drewN | apply Kd.N_drew)); exact Kd.N_mono HO_7.out (fun _ hk => ⟨⟨hk.1, ⟨hk.2.1, ⟨hk.2.2.1, ⟨hk.2.2.2.2.1, ⟨hk.2.2.2.2.2.1, hk.2.2.2.2.2.2⟩⟩⟩⟩⟩, hk.2.2.2.1⟩)) hg hat); replace HO_8 := Aside0.mk (Kd.N_afterv (ok := (fun k_ => some k_ ≠ (.slice (some ad225) t207.length co18 : Value).ownBlock ∧ some k_ ≠ (.slice (some ad236) t208.length co24 : Value).ownBlock ∧ some k_ ≠ (.slice (some ad237) t209.length co30 : Value).ownBlock ∧ some k_ ≠ (u7 : Value).ownBlock ∧ some k_ ≠ (.slice Ao37 x14_16.length co37 : Value).ownBlock ∧ some k_ ≠ (u15 : Value).ownBlock)) (by (with_reducible repeat (first | apply Kd.N_alloc | apply Kd.N_drewN | apply Kd.N_drew)); exact Kd.N_mono HO_8.out (fun _ hk => ⟨⟨hk.1, ⟨hk.2.1, ⟨hk.2.2.1, ⟨hk.2.2.2.2.1, ⟨hk.2.2.2.2.2.1, hk.2.2.2.2.2.2⟩⟩⟩⟩⟩, hk.2.2.2.1⟩)) hg hat); replace HO_15 := Aside0.mk (Kd.R_over' (rl HO_15.out) (Kd.N_typed (by (with_reducible repeat (first | apply Kd.N_alloc | apply Kd.N_drewN | apply Kd.N_drew)); exact HO_6.out)) (by decide) hg); replace HB := Aside0.mk (hb); have HO240 := Aside0.mk (ho); clear HO_6 HO_14; clear ho hb hg hat; obtain ⟨Ao39, co39, eo39⟩ := Kd.R_slice HO_15.out; subst eo39) | ((with_reducible refine gate_builtin (b := .append) (xs := #[.tmp 70, .tmp 72]) rfl ?_); (try (refine gate_guard (by rfl) ?_; dsimp only)); at_builtin; refine Kd.N_append (Kd.slice 5 (Kd.int .u8)) (w0 := w) w.heap.size rfl (.tmp 70) (.tmp 72) 49 28 (.slice none 0 0) 24 rfl Try.underlying49 info28 rfl (by decide) (by omega) u7 x7_1 x15_28 [.slice Ao39 x15_28.length co39] (fun k_ => some k_ ≠ (.slice (some ad225) t207.length co18 : Value).ownBlock ∧ some k_ ≠ (.slice (some ad236) t208.length co24 : Value).ownBlock ∧ some k_ ≠ (.slice (some ad237) t209.length co30 : Value).ownBlock ∧ some k_ ≠ (u8 : Value).ownBlock ∧ some k_ ≠ (v239 : Value).ownBlock) (fun k_ => ((fun k_ => some k_ ≠ (.slice (some ad225) t207.length co18 : Value).ownBlock ∧ some k_ ≠ (.slice (some ad236) t208.length co24 : Value).ownBlock ∧ some k_ ≠ (.slice (some ad237) t209.length co30 : Value).ownBlock ∧ some k_ ≠ (u8 : Value).ownBlock ∧ some k_ ≠ (v239 : Value).ownBlock)) k_ ∧ some k_ ≠ (u7 : Value).ownBlock) rfl rfl ?aP (fun _ hk => hk) ?aF ?aO ?aB ?aS ?aL ?_; (case aP => exact (Kd.FK_slice_mk (Kd.R_reads' (Kd.R_mono (ok' := (fun k_ => ((fun k_ => some k_ ≠ (.slice (some ad225) t207.length co18 : Value).ownBlock ∧ some k_ ≠ (.slice (some ad236) t208.length co24 : Value).ownBlock ∧ some k_ ≠ (.slice (some ad237) t209.length co30 : Value).ownBlock ∧ some k_ ≠ (u8 : Value).ownBlock ∧ some k_ ≠ (v239 : Value).ownBlock)) k_ ∧ some k_ ≠ (u7 : Value).ownBlock)) (Kd.R_apart' (Kd.R_apart' (Kd.R_apart' (Kd.R_apart' (Kd.R_apart' (Kd.R_apart' (HO_15.out) (Kd.N_typed HO_3.out) (by decide)) (Kd.R_typed HO_4.out) (by decide)) (Kd.R_typed HO_5.out) (by decide)) (Kd.N_typed HO_8.out) (by decide)) (Kd.N_typed HO240.out) (by decide)) (Kd.N_typed HO_7.out) (by decide)) (fun k_ hk => ⟨⟨hk.1.1.1.1.1.2, ⟨hk.1.1.1.1.2, ⟨hk.1.1.1.2, ⟨hk.1.1.2, hk.1.2⟩⟩⟩⟩, hk.2⟩))).2.1 (Kd.R_F (Kd.R_mono (ok' := (fun k_ => ((fun k_ => some k_ ≠ (.slice (some ad225) t207.length co18 : Value).ownBlock ∧ some k_ ≠ (.slice (some ad236) t208.length co24 : Value).ownBlock ∧ some k_ ≠ (.slice (some ad237) t209.length co30 : Value).ownBlock ∧ some k_ ≠ (u8 : Value).ownBlock ∧ some k_ ≠ (v239 : Value).ownBlock)) k_ ∧ some k_ ≠ (u7 : Value).ownBlock)) (Kd.R_apart' (Kd.R_apart' (Kd.R_apart' (Kd.R_apart' (Kd.R_apart' (Kd.R_apart' (HO_15.out) (Kd.N_typed HO_3.out) (by decide)) (Kd.R_typed HO_4.out) (by decide)) (Kd.R_typed HO_5.out) (by decide)) (Kd.N_typed HO_8.out) (by decide)) (Kd.N_typed HO240.out) (by decide)) (Kd.N_typed HO_7.out) (by decide)) (fun k_ hk => ⟨⟨hk.1.1.1.1.1.2, ⟨hk.1.1.1.1.2, ⟨hk.1.1.1.2, ⟨hk.1.1.2, hk.1.2⟩⟩⟩⟩, hk.2⟩))))); (case aB => exact (bl HB.out)); (case aF => exact (fun k_ hk => ⟨Kd.fresh' (Kd.N_lt (by (with_reducible repeat (first | apply Kd.N_alloc | apply Kd.N_drewN | apply Kd.N_drew)); exact HO_3.out)) k_ hk, Kd.fresh' (Kd.R_lt (by (repeat apply rl1); exact HO_4.out)) k_ hk, Kd.fresh' (Kd.R_lt (by (repeat apply rl1); exact HO_5.out)) k_ hk, Kd.fresh' (Kd.N_lt (by (with_reducible repeat (first | apply Kd.N_alloc | apply Kd.N_drewN | apply Kd.N_drew)); exact HO_8.out)) k_ hk, Kd.fresh' (Kd.N_lt (by (with_reducible repeat (first | apply Kd.N_alloc | apply Kd.N_drewN | apply Kd.N_drew)); exact HO240.out)) k_ hk⟩)); (case aO => exact (by (with_reducible repeat (first | apply Kd.N_alloc | apply Kd.N_drewN | apply Kd.N_drew)); exact Kd.N_mono HO_7.out (fun _ hk => ⟨hk.1.1, ⟨hk.1.2.1, ⟨hk.1.2.2.1, ⟨hk.1.2.2.2.1, hk.2⟩⟩⟩⟩))); (case aS => exact (below_size (bl HB.out))); (case aL => have := LMc34.out; omega); intro v242 w38 ho hb hg hat; rw [← Ny241.out] at ho; replace HO_3 := Aside0.mk (Kd.N_afterv (ok := (fun k_ => some k_ ≠ (.slice (some ad236) t208.length co24 : Value).ownBlock ∧ some k_ ≠ (.slice (some ad237) t209.length co30 : Value).ownBlock ∧ some k_ ≠ (u8 : Value).ownBlock ∧ some k_ ≠ (.slice Ao39 x15_28.length co39 : Value).ownBlock ∧ some k_ ≠ (v239 : Value).ownBlock)) (by (with_reducible repeat (first | apply Kd.N_alloc | apply Kd.N_drewN | apply Kd.N_drew)); exact Kd.N_mono HO_3.out (fun _ hk => ⟨⟨hk.1.1, ⟨hk.1.2.1, ⟨hk.1.2.2.2.1, ⟨hk.1.2.2.2.2.2, hk.2⟩⟩⟩⟩, hk.1.2.2.1⟩)) hg hat); replace HO_4 := Aside0.mk (Kd.R_over' (rl HO_4.out) (Kd.N_typed (by (with_reducible repeat (first | apply Kd.N_alloc | apply Kd.N_drewN | apply Kd.N_drew)); exact HO_7.out)) (by decide) hg); replace HO_5 := Aside0.mk (Kd.R_over' (rl HO_5.out) (Kd.N_typed (by (with_reducible repeat (first | apply Kd.N_alloc | apply Kd.N_drewN | apply Kd.N_drew)); exact HO_7.out)) (by decide) hg); replace HO_8 := Aside0.mk (Kd.N_afterv (ok := (fun k_ => some k_ ≠ (.slice (some ad225) t207.length co18 : Value).ownBlock ∧ some k_ ≠ (.slice (some ad236) t208.length co24 : Value).ownBlock ∧ some k_ ≠ (.slice (some ad237) t209.length co30 : Value).ownBlock ∧ some k_ ≠ (.slice Ao39 x15_28.length co39 : Value).ownBlock ∧ some k_ ≠ (v239 : Value).ownBlock)) (by (with_reducible repeat (first | apply Kd.N_alloc | apply Kd.N_drewN | apply Kd.N_drew)); exact Kd.N_mono HO_8.out (fun _ hk => ⟨⟨hk.1.1, ⟨hk.1.2.1, ⟨hk.1.2.2.1, ⟨hk.1.2.2.2.2.2, hk.2⟩⟩⟩⟩, hk.1.2.2.2.1⟩)) hg hat); replace HO240 := Aside0.mk (Kd.N_afterv (ok := (fun k_ => some k_ ≠ (.slice (some ad225) t207.length co18 : Value).ownBlock ∧ some k_ ≠ (.slice (some ad236) t208.length co24 : Value).ownBlock ∧ some k_ ≠ (.slice (some ad237) t209.length co30 : Value).ownBlock ∧ some k_ ≠ (u8 : Value).ownBlock)) (by (with_reducible repeat (first | apply Kd.N_alloc | apply Kd.N_drewN | apply Kd.N_drew)); exact Kd.N_mono HO240.out (fun _ hk => ⟨⟨hk.1, ⟨hk.2.1, ⟨hk.2.2.1, hk.2.2.2.2⟩⟩⟩, hk.2.2.2.1⟩)) hg hat); replace HB := Aside0.mk (hb); have HO243 := Aside0.mk (ho); clear HO_7 HO_15; clear ho hb hg hat))
                (try simp only [Act.put, List.setIfInBounds_toArray, List.set_cons_zero, List.set_cons_succ])
                go_cut [83] (fun v83 wc => ∃ (kq : Nat) (x83_34 : Bool), v83 = .bool x83_34 ∧ Aside0 (laws_FnTwice.j3 kq t207 t208 t209 y238 y241 x8_1 x9_1 x10_1 x11_1 x83_34 = some r) ∧ Aside0 (kq ≤ kj28) ∧ Aside0 (Kd.N k41 41 wc w.heap.size (fun k_ => some k_ ≠ ((.slice (some ad236) t208.length co24) : Value).ownBlock ∧ some k_ ≠ ((.slice (some ad237) t209.length co30) : Value).ownBlock ∧ some k_ ≠ (v239 : Value).ownBlock ∧ some k_ ≠ (v242 : Value).ownBlock ∧ some k_ ≠ (u8 : Value).ownBlock) (.slice (some ad225) t207.length co18) t207) ∧ Aside0 (Kd.R Kd.bool 4 wc w.heap.size (fun k_ => some k_ ≠ ((.slice (some ad237) t209.length co30) : Value).ownBlock) (.slice (some ad236) t208.length co24) t208) ∧ Aside0 (Kd.R Kd.bool 4 wc w.heap.size (fun k_ => some k_ ≠ ((.slice (some ad236) t208.length co24) : Value).ownBlock) (.slice (some ad237) t209.length co30) t209) ∧ Aside0 (Kd.N (Kd.slice 5 (Kd.int .u8)) 28 wc w.heap.size (fun k_ => some k_ ≠ ((.slice (some ad225) t207.length co18) : Value).ownBlock ∧ some k_ ≠ ((.slice (some ad236) t208.length co24) : Value).ownBlock ∧ some k_ ≠ ((.slice (some ad237) t209.length co30) : Value).ownBlock ∧ some k_ ≠ (v242 : Value).ownBlock ∧ some k_ ≠ (u8 : Value).ownBlock) v239 y238) ∧ Aside0 (Kd.N (Kd.slice 5 (Kd.int .u8)) 28 wc w.heap.size (fun k_ => some k_ ≠ ((.slice (some ad225) t207.length co18) : Value).ownBlock ∧ some k_ ≠ ((.slice (some ad236) t208.length co24) : Value).ownBlock ∧ some k_ ≠ ((.slice (some ad237) t209.length co30) : Value).ownBlock ∧ some k_ ≠ (v239 : Value).ownBlock ∧ some k_ ≠ (u8 : Value).ownBlock) v242 y241) ∧ Aside0 (Kd.N k41 41 wc w.heap.size (fun k_ => some k_ ≠ ((.slice (some ad225) t207.length co18) : Value).ownBlock ∧ some k_ ≠ ((.slice (some ad236) t208.length co24) : Value).ownBlock ∧ some k_ ≠ ((.slice (some ad237) t209.length co30) : Value).ownBlock ∧ some k_ ≠ (v239 : Value).ownBlock ∧ some k_ ≠ (v242 : Value).ownBlock) u8 x8_1) ∧ Aside0 (Below w.heap.size w wc))
                case first =>
                 have H := HC35.out
                 clear HC35
                 by_cases c40 : 0 ≤ x11_1
                 ·
                  rw [if_pos c40] at H
                  have c40b0 : decide (0 ≤ x11_1) = true := decide_eq_true c40
                  clear c40
                  (first | rw [c40b0] | (simp only [i64_w, i32_w]; rw [c40b0]) | skip)
                  by_cases c41 : x11_1 < (t208.length : Int)
                  ·
                   rw [if_pos c41] at H
                   have c41b0 : decide (x11_1 < (t208.length : Int)) = true := decide_eq_true c41
                   clear c41
                   obtain ⟨bq42, hbq42⟩ : ∃ b_ : Bool, b_ = (rdOf false t208 x11_1) := ⟨_, rfl⟩
                   replace H : (if bq42 = true then (if x11_1 < (t209.length : Int) then (laws_FnTwice.j3 kj28 t207 t208 t209 y238 y241 x8_1 x9_1 x10_1 x11_1 (rdOf false t209 x11_1)) else (none)) else (laws_FnTwice.j3 kj28 t207 t208 t209 y238 y241 x8_1 x9_1 x10_1 x11_1 false)) = some r := by rw [← hbq42] at H; exact H
                   have Nbq42 := Aside0.mk hbq42
                   clear hbq42
                   by_cases c43 : bq42 = true
                   ·
                    subst c43
                    have H1 : (if x11_1 < (t209.length : Int) then (laws_FnTwice.j3 kj28 t207 t208 t209 y238 y241 x8_1 x9_1 x10_1 x11_1 (rdOf false t209 x11_1)) else (none)) = some r := by rw [if_pos rfl] at H; exact H
                    clear H
                    have H := H1
                    clear H1
                    by_cases c44 : x11_1 < (t209.length : Int)
                    ·
                     rw [if_pos c44] at H
                     have c44b0 : decide (x11_1 < (t209.length : Int)) = true := decide_eq_true c44
                     clear c44
                     have H' := Aside0.mk H
                     clear H
                     have p244 : 0 ≤ (x11_1 : Int) := of_decide_eq_true (by first | (with_reducible assumption) | assumption)
                     have q244 : x11_1 < (t208.length : Int) := of_decide_eq_true (by first | (with_reducible assumption) | assumption)
                     obtain ⟨ad244, e244, hx244_0⟩ := Kd.at_bool (Kd.R_reads' HO_4.out).2.2 x11_1 p244 q244
                     (try rw [← Nbq42.out] at hx244_0)
                     obtain rfl : ad236 = ad244 := (by injection e244)
                     replace p244 := eq_true p244
                     replace q244 := eq_true q244
                     have p245 : 0 ≤ (x11_1 : Int) := of_decide_eq_true (by first | (with_reducible assumption) | assumption)
                     have q245 : x11_1 < (t209.length : Int) := of_decide_eq_true (by first | (with_reducible assumption) | assumption)
                     obtain ⟨ad245, e245, hx245_0⟩ := Kd.at_bool (Kd.R_reads' HO_5.out).2.2 x11_1 p245 q245
                     (try rw [← Nbq42.out] at hx245_0)
                     obtain rfl : ad237 = ad245 := (by injection e245)
                     replace p245 := eq_true p245
                     replace q245 := eq_true q245
                     go_wp2
                     go_meet
                     case rel => exact ⟨_, (rdOf false t209 x11_1), (by first | rfl | (simp; done) | (simp [*]; done)), H', ⟨by have := HK1.out; have := HJ16.out; have := HJ28.out; first | omega | exact Nat.le_refl _⟩, ⟨by (with_reducible repeat (first | apply Kd.N_alloc | apply Kd.N_drewN | apply Kd.N_drew)); exact Kd.N_mono HO_3.out (fun _ hk => ⟨hk.1.1, ⟨hk.1.2.1, ⟨hk.1.2.2.2.2, ⟨hk.2, hk.1.2.2.1⟩⟩⟩⟩)⟩, ⟨rl HO_4.out⟩, ⟨rl HO_5.out⟩, ⟨by (with_reducible repeat (first | apply Kd.N_alloc | apply Kd.N_drewN | apply Kd.N_drew)); exact Kd.N_mono HO240.out (fun _ hk => ⟨hk.1.1, ⟨hk.1.2.1, ⟨hk.1.2.2.1, ⟨hk.2, hk.1.2.2.2⟩⟩⟩⟩)⟩, ⟨by (with_reducible repeat (first | apply Kd.N_alloc | apply Kd.N_drewN | apply Kd.N_drew)); exact Kd.N_mono HO243.out (fun _ hk => ⟨hk.1, ⟨hk.2.1, ⟨hk.2.2.1, ⟨hk.2.2.2.2, hk.2.2.2.1⟩⟩⟩⟩)⟩, ⟨by (with_reducible repeat (first | apply Kd.N_alloc | apply Kd.N_drewN | apply Kd.N_drew)); exact Kd.N_mono HO_8.out (fun _ hk => ⟨hk.1.1, ⟨hk.1.2.1, ⟨hk.1.2.2.1, ⟨hk.1.2.2.2.2, hk.2⟩⟩⟩⟩)⟩, ⟨bl HB.out⟩⟩
                    ·
                     rw [if_neg c44] at H
                     exact absurd H (by simp)
                   ·
                    replace c43 := Bool.eq_false_iff.mpr c43
                    subst c43
                    have H1 : (laws_FnTwice.j3 kj28 t207 t208 t209 y238 y241 x8_1 x9_1 x10_1 x11_1 false) = some r := by rw [if_neg (show ¬ (false = true) by decide)] at H; exact H
                    clear H
                    have H := H1
                    clear H1
                    have H' := Aside0.mk H
                    clear H
                    have p244 : 0 ≤ (x11_1 : Int) := of_decide_eq_true (by first | (with_reducible assumption) | assumption)
                    have q244 : x11_1 < (t208.length : Int) := of_decide_eq_true (by first | (with_reducible assumption) | assumption)
                    obtain ⟨ad244, e244, hx244_0⟩ := Kd.at_bool (Kd.R_reads' HO_4.out).2.2 x11_1 p244 q244
                    (try rw [← Nbq42.out] at hx244_0)
                    obtain rfl : ad236 = ad244 := (by injection e244)
                    replace p244 := eq_true p244
                    replace q244 := eq_true q244
                    go_wp2
                    go_meet
                    case rel => exact ⟨_, (false), (by first | rfl | (simp; done) | (simp [*]; done)), H', ⟨by have := HK1.out; have := HJ16.out; have := HJ28.out; first | omega | exact Nat.le_refl _⟩, ⟨by (with_reducible repeat (first | apply Kd.N_alloc | apply Kd.N_drewN | apply Kd.N_drew)); exact Kd.N_mono HO_3.out (fun _ hk => ⟨hk.1.1, ⟨hk.1.2.1, ⟨hk.1.2.2.2.2, ⟨hk.2, hk.1.2.2.1⟩⟩⟩⟩)⟩, ⟨rl HO_4.out⟩, ⟨rl HO_5.out⟩, ⟨by (with_reducible repeat (first | apply Kd.N_alloc | apply Kd.N_drewN | apply Kd.N_drew)); exact Kd.N_mono HO240.out (fun _ hk => ⟨hk.1.1, ⟨hk.1.2.1, ⟨hk.1.2.2.1, ⟨hk.2, hk.1.2.2.2⟩⟩⟩⟩)⟩, ⟨by (with_reducible repeat (first | apply Kd.N_alloc | apply Kd.N_drewN | apply Kd.N_drew)); exact Kd.N_mono HO243.out (fun _ hk => ⟨hk.1, ⟨hk.2.1, ⟨hk.2.2.1, ⟨hk.2.2.2.2, hk.2.2.2.1⟩⟩⟩⟩)⟩, ⟨by (with_reducible repeat (first | apply Kd.N_alloc | apply Kd.N_drewN | apply Kd.N_drew)); exact Kd.N_mono HO_8.out (fun _ hk => ⟨hk.1.1, ⟨hk.1.2.1, ⟨hk.1.2.2.1, ⟨hk.1.2.2.2.2, hk.2⟩⟩⟩⟩)⟩, ⟨bl HB.out⟩⟩
                  ·
                   rw [if_neg c41] at H
                   exact absurd H (by simp)
                 ·
                  rw [if_neg c40] at H
                  exact absurd H (by simp)
                case rest =>
                 clear HC35
                 try clear c1
                 try clear c2
                 try clear p2
                 try clear q2
                 try clear hx2
                 try clear c3
                 try clear q3
                 try clear c4
                 try clear q4
                 try clear c7
                 try clear c12
                 try clear c12b0
                 try clear c13
                 try clear c13b0
                 try clear c15
                 try clear c16
                 try clear c16b0
                 try clear c17
                 try clear c22
                 try clear p22
                 try clear q22
                 try clear hx22
                 try clear p23
                 try clear q23
                 try clear hx23
                 try clear p24
                 try clear q24
                 try clear hx24
                 try clear q25
                 try clear c26
                 try clear c27
                 try clear c27b0
                 try clear c28
                 try clear c28b0
                 try clear c29
                 try clear c30
                 try clear q31
                 try clear c32
                 try clear c33
                 try clear c34
                 try clear c40
                 try clear c40b0
                 try clear c41
                 try clear c41b0
                 try clear q42
                 try clear c43
                 try clear c44
                 try clear c44b0
                 try clear hx225_0
                 try clear hx225_1
                 try clear hx225_2
                 try clear hx236_0
                 try clear hx237_0
                 try clear hx244_0
                 try clear hx245_0
                 try clear p2
                 try clear p22
                 try clear p225
                 try clear p23
                 try clear p236
                 try clear p237
                 try clear p244
                 try clear p245
                 try clear q2
                 try clear q22
                 try clear q225
                 try clear q23
                 try clear q236
                 try clear q237
                 try clear q244
                 try clear q245
                 try clear q25
                 try clear q3
                 try clear q31
                 obtain ⟨kq, x83_34, rfl, HA, HJ34, HO_3, HO_4, HO_5, HO_6, HO_7, HO_8, HB⟩ := hcut
                 cases kq with
                 | zero => exact absurd HA.out (by simp [laws_FnTwice.j3])
                 | succ kj34 =>
                  have H := HA.out
                  clear HA
                  simp only [laws_FnTwice.j3] at H
                  by_cases c45 : x83_34 = true
                  ·
                   subst c45
                   have H1 : (if x10_1 = true then (laws_FnTwice.l0 kj34 t207 t208 t209 y238 y241 x8_1 (wrap64 (x9_1 + 1)) x10_1 (wrap64 (x11_1 + 1))) else (laws_FnTwice.l0 kj34 t207 t208 t209 y238 y241 x8_1 x9_1 x10_1 (wrap64 (x11_1 + 1)))) = some r := by rw [if_pos rfl] at H; exact H
                   clear H
                   have H := H1
                   clear H1
                   by_cases c46 : x10_1 = true
                   ·
                    subst c46
                    have H1 : (laws_FnTwice.l0 kj34 t207 t208 t209 y238 y241 x8_1 (wrap64 (x9_1 + 1)) true (wrap64 (x11_1 + 1))) = some r := by rw [if_pos rfl] at H; exact H
                    clear H
                    have H := H1
                    clear H1
                    have H' := Aside0.mk H
                    clear H
                    go_wp2
                    go_roundg kj34
                    case measure => have := HK1.out; have := HJ16.out; have := HJ28.out; have := HJ34.out; omega
                    case rel => exact ⟨(y238), (y241), (x8_1), (wrap64 (x9_1 + 1)), (true), (wrap64 (x11_1 + 1)), (by first | rfl | (simp; done) | (simp [*]; done)), (by first | rfl | (simp; done) | (simp [*]; done)), (by first | rfl | (simp; done) | (simp [*]; done)), H', ⟨by have := HK1.out; have := HJ16.out; have := HJ28.out; have := HJ34.out; omega⟩, ⟨by (with_reducible repeat (first | apply Kd.N_alloc | apply Kd.N_drewN | apply Kd.N_drew)); exact HO_3.out⟩, ⟨rl HO_4.out⟩, ⟨rl HO_5.out⟩, ⟨by (with_reducible repeat (first | apply Kd.N_alloc | apply Kd.N_drewN | apply Kd.N_drew)); exact HO_6.out⟩, ⟨by (with_reducible repeat (first | apply Kd.N_alloc | apply Kd.N_drewN | apply Kd.N_drew)); exact HO_7.out⟩, ⟨by (with_reducible repeat (first | apply Kd.N_alloc | apply Kd.N_drewN | apply Kd.N_drew)); exact HO_8.out⟩, ⟨bl HB.out⟩⟩
                   ·
                    replace c46 := Bool.eq_false_iff.mpr c46
                    subst c46
                    have H1 : (laws_FnTwice.l0 kj34 t207 t208 t209 y238 y241 x8_1 x9_1 false (wrap64 (x11_1 + 1))) = some r := by rw [if_neg (show ¬ (false = true) by decide)] at H; exact H
                    clear H
                    have H := H1
                    clear H1
                    have H' := Aside0.mk H
                    clear H
                    go_wp2
                    go_roundg kj34
                    case measure => have := HK1.out; have := HJ16.out; have := HJ28.out; have := HJ34.out; omega
                    case rel => exact ⟨(y238), (y241), (x8_1), (x9_1), (false), (wrap64 (x11_1 + 1)), (by first | rfl | (simp; done) | (simp [*]; done)), (by first | rfl | (simp; done) | (simp [*]; done)), (by first | rfl | (simp; done) | (simp [*]; done)), H', ⟨by have := HK1.out; have := HJ16.out; have := HJ28.out; have := HJ34.out; omega⟩, ⟨by (with_reducible repeat (first | apply Kd.N_alloc | apply Kd.N_drewN | apply Kd.N_drew)); exact HO_3.out⟩, ⟨rl HO_4.out⟩, ⟨rl HO_5.out⟩, ⟨by (with_reducible repeat (first | apply Kd.N_alloc | apply Kd.N_drewN | apply Kd.N_drew)); exact HO_6.out⟩, ⟨by (with_reducible repeat (first | apply Kd.N_alloc | apply Kd.N_drewN | apply Kd.N_drew)); exact HO_7.out⟩, ⟨by (with_reducible repeat (first | apply Kd.N_alloc | apply Kd.N_drewN | apply Kd.N_drew)); exact HO_8.out⟩, ⟨bl HB.out⟩⟩
                  ·
                   replace c45 := Bool.eq_false_iff.mpr c45
                   subst c45
                   have H1 : (if 0 ≤ x11_1 then (if x11_1 < (t207.length : Int) then (if x8_1.length < 3518437208883 then (laws_FnTwice.l0 kj34 t207 t208 t209 y238 y241 (x8_1 ++ [(⟨(rd_T41 t207 x11_1).f0, (rd_T41 t207 x11_1).f1, (rd_T41 t207 x11_1).f2⟩ : S41)]) x9_1 true (wrap64 (x11_1 + 1))) else (none)) else (none)) else (none)) = some r := by rw [if_neg (show ¬ (false = true) by decide)] at H; exact H
                   clear H
                   have H := H1
                   clear H1
                   by_cases c47 : 0 ≤ x11_1
                   ·
                    rw [if_pos c47] at H
                    have c47b0 : decide (0 ≤ x11_1) = true := decide_eq_true c47
                    clear c47
                    by_cases c48 : x11_1 < (t207.length : Int)
                    ·
                     rw [if_pos c48] at H
                     have c48b0 : decide (x11_1 < (t207.length : Int)) = true := decide_eq_true c48
                     clear c48
                     by_cases c49 : x8_1.length < 3518437208883
                     ·
                      rw [if_pos c49] at H
                      have LMc49 := Aside0.mk c49
                      clear c49
                      obtain ⟨y247, hy247⟩ : ∃ y_ : List (S41), y_ = (x8_1 ++ [(⟨(rd_T41 t207 x11_1).f0, (rd_T41 t207 x11_1).f1, (rd_T41 t207 x11_1).f2⟩ : S41)]) := ⟨_, rfl⟩
                      replace H : (laws_FnTwice.l0 kj34 t207 t208 t209 y238 y241 y247 x9_1 true (wrap64 (x11_1 + 1))) = some r := by first | (rw [hy247]; with_reducible exact H) | (have H2_ := (Option.bind_some _ _).symm.trans H; rw [hy247]; with_reducible exact H2_) | (have H2_ := (Option.bind_some _ _).symm.trans H; with_reducible exact H2_) | with_reducible exact H | (rw [hy247]; exact H) | exact H
                      have Ny247 := Aside0.mk hy247
                      clear hy247
                      have H' := Aside0.mk H
                      clear H
                      have p246 : 0 ≤ (x11_1 : Int) := of_decide_eq_true (by first | (with_reducible assumption) | assumption)
                      have q246 : x11_1 < (t207.length : Int) := of_decide_eq_true (by first | (with_reducible assumption) | assumption)
                      obtain ⟨ad246, A246_2, c246_2, e246, hx246_0, hx246_1, hx246_2, hl246_2, hi246_2⟩ := at_T41 (Kd.N_reads' HO_3.out).2.2 x11_1 p246 q246
                      obtain rfl : ad225 = ad246 := (by injection e246)
                      obtain ⟨ce246, hce246, hMe246, hcc246⟩ := Kd.N_get HO_3.out z41 x11_1 p246 (by first | exact q246 | exact of_decide_eq_true (by first | (with_reducible assumption) | assumption) | (have e_ := (Kd.N_reads' HO_3.out).1; omega))
                      obtain ⟨ua246_2, uc246_2, rfl, ul246_2, ge246_2⟩ := k41_openF hMe246
                      have hv246_2 := hcc246 2 _ rfl
                      rw [add_field _ _ 2 (by omega)] at hv246_2
                      replace hv246_2 := Option.some.inj (hv246_2.symm.trans hx246_2)
                      injection hv246_2 with hva_ hvn_ hvc_
                      rw [hva_] at ge246_2
                      rw [hvc_] at ul246_2
                      have HL246_2 := Aside0.mk (show Kd.V (Kd.int .u8) 5 _ w.heap.size _ _ ((rd_T41 t207 x11_1).f2) from Kd.V_mk ul246_2 ge246_2)
                      clear hva_ hvn_ hvc_ ge246_2 ul246_2
                      clear hcc246 hce246
                      have HR246_2 := Aside0.mk hi246_2
                      have HC246_2 := Aside0.mk hl246_2
                      clear hi246_2 hl246_2
                      replace p246 := eq_true p246
                      replace q246 := eq_true q246
                      go_wp2_with (first | ((with_reducible refine gate_builtin (b := .append) (xs := #[.tmp 87, .tmp 92]) rfl ?_); (try (refine gate_guard (by rfl) ?_; dsimp only)); at_builtin; refine Kd.N_append k41 (w0 := w) w.heap.size rfl (.tmp 87) (.tmp 92) 45 41 (.agg #[(.int .i64 0), (.int .i64 0), (.slice none 0 0)]) 40 rfl Try.underlying45 info41 rfl (by decide) (by omega) u8 x8_1 (⟨(rd_T41 t207 x11_1).f0, (rd_T41 t207 x11_1).f1, (rd_T41 t207 x11_1).f2⟩ : S41) [.int .i64 ((rd_T41 t207 x11_1).f0), .int .i64 ((rd_T41 t207 x11_1).f1), .slice A246_2 ((rd_T41 t207 x11_1).f2).length c246_2] (fun k_ => some k_ ≠ (.slice (some ad225) t207.length co18 : Value).ownBlock ∧ some k_ ≠ (.slice (some ad236) t208.length co24 : Value).ownBlock ∧ some k_ ≠ (.slice (some ad237) t209.length co30 : Value).ownBlock ∧ some k_ ≠ (v239 : Value).ownBlock ∧ some k_ ≠ (v242 : Value).ownBlock) (fun k_ => ((fun k_ => some k_ ≠ (.slice (some ad225) t207.length co18 : Value).ownBlock ∧ some k_ ≠ (.slice (some ad236) t208.length co24 : Value).ownBlock ∧ some k_ ≠ (.slice (some ad237) t209.length co30 : Value).ownBlock ∧ some k_ ≠ (v239 : Value).ownBlock ∧ some k_ ≠ (v242 : Value).ownBlock)) k_ ∧ some k_ ≠ (u8 : Value).ownBlock) rfl rfl ?aP (fun _ hk => hk) ?aF ?aO ?aB ?aS ?aL ?_; (case aP => exact (k41_mkF _ _ (⟨(rd_T41 t207 x11_1).f0, (rd_T41 t207 x11_1).f1, (rd_T41 t207 x11_1).f2⟩ : S41) (Kd.V_reads' (Kd.V_mono (ok' := (fun k_ => ((fun k_ => some k_ ≠ (.slice (some ad225) t207.length co18 : Value).ownBlock ∧ some k_ ≠ (.slice (some ad236) t208.length co24 : Value).ownBlock ∧ some k_ ≠ (.slice (some ad237) t209.length co30 : Value).ownBlock ∧ some k_ ≠ (v239 : Value).ownBlock ∧ some k_ ≠ (v242 : Value).ownBlock)) k_ ∧ some k_ ≠ (u8 : Value).ownBlock)) (HL246_2.out) (fun k_ hk => ⟨⟨hk.2, ⟨hk.1.1, ⟨hk.1.2.1, ⟨hk.1.2.2.1, hk.1.2.2.2.1⟩⟩⟩⟩, hk.1.2.2.2.2⟩))).2.1 (Kd.V_F (Kd.V_mono (ok' := (fun k_ => ((fun k_ => some k_ ≠ (.slice (some ad225) t207.length co18 : Value).ownBlock ∧ some k_ ≠ (.slice (some ad236) t208.length co24 : Value).ownBlock ∧ some k_ ≠ (.slice (some ad237) t209.length co30 : Value).ownBlock ∧ some k_ ≠ (v239 : Value).ownBlock ∧ some k_ ≠ (v242 : Value).ownBlock)) k_ ∧ some k_ ≠ (u8 : Value).ownBlock)) (HL246_2.out) (fun k_ hk => ⟨⟨hk.2, ⟨hk.1.1, ⟨hk.1.2.1, ⟨hk.1.2.2.1, hk.1.2.2.2.1⟩⟩⟩⟩, hk.1.2.2.2.2⟩))))); (case aB => exact (bl HB.out)); (case aF => exact (fun k_ hk => ⟨Kd.fresh' (Kd.N_lt (by (with_reducible repeat (first | apply Kd.N_alloc | apply Kd.N_drewN | apply Kd.N_drew)); exact HO_3.out)) k_ hk, Kd.fresh' (Kd.R_lt (by (repeat apply rl1); exact HO_4.out)) k_ hk, Kd.fresh' (Kd.R_lt (by (repeat apply rl1); exact HO_5.out)) k_ hk, Kd.fresh' (Kd.N_lt (by (with_reducible repeat (first | apply Kd.N_alloc | apply Kd.N_drewN | apply Kd.N_drew)); exact HO_6.out)) k_ hk, Kd.fresh' (Kd.N_lt (by (with_reducible repeat (first | apply Kd.N_alloc | apply Kd.N_drewN | apply Kd.N_drew)); exact HO_7.out)) k_ hk⟩)); (case aO => exact (by (with_reducible repeat (first | apply Kd.N_alloc | apply Kd.N_drewN | apply Kd.N_drew)); exact HO_8.out)); (case aS => exact (below_size (bl HB.out))); (case aL => have := LMc49.out; omega); intro v248 w50 ho hb hg hat; rw [← Ny247.out] at ho; replace HO_3 := Aside0.mk (Kd.N_afterv (ok := (fun k_ => some k_ ≠ (.slice (some ad236) t208.length co24 : Value).ownBlock ∧ some k_ ≠ (.slice (some ad237) t209.length co30 : Value).ownBlock ∧ some k_ ≠ (v239 : Value).ownBlock ∧ some k_ ≠ (v242 : Value).ownBlock)) (by (with_reducible repeat (first | apply Kd.N_alloc | apply Kd.N_drewN | apply Kd.N_drew)); exact Kd.N_mono HO_3.out (fun _ hk => ⟨⟨hk.1, ⟨hk.2.1, ⟨hk.2.2.1, hk.2.2.2.1⟩⟩⟩, hk.2.2.2.2⟩)) hg hat); replace HO_4 := Aside0.mk (Kd.R_over' (rl HO_4.out) (Kd.N_typed (by (with_reducible repeat (first | apply Kd.N_alloc | apply Kd.N_drewN | apply Kd.N_drew)); exact HO_8.out)) (by decide) hg); replace HO_5 := Aside0.mk (Kd.R_over' (rl HO_5.out) (Kd.N_typed (by (with_reducible repeat (first | apply Kd.N_alloc | apply Kd.N_drewN | apply Kd.N_drew)); exact HO_8.out)) (by decide) hg); replace HO_6 := Aside0.mk (Kd.N_afterv (ok := (fun k_ => some k_ ≠ (.slice (some ad225) t207.length co18 : Value).ownBlock ∧ some k_ ≠ (.slice (some ad236) t208.length co24 : Value).ownBlock ∧ some k_ ≠ (.slice (some ad237) t209.length co30 : Value).ownBlock ∧ some k_ ≠ (v242 : Value).ownBlock)) (by (with_reducible repeat (first | apply Kd.N_alloc | apply Kd.N_drewN | apply Kd.N_drew)); exact Kd.N_mono HO_6.out (fun _ hk => ⟨⟨hk.1, ⟨hk.2.1, ⟨hk.2.2.1, hk.2.2.2.1⟩⟩⟩, hk.2.2.2.2⟩)) hg hat); replace HO_7 := Aside0.mk (Kd.N_afterv (ok := (fun k_ => some k_ ≠ (.slice (some ad225) t207.length co18 : Value).ownBlock ∧ some k_ ≠ (.slice (some ad236) t208.length co24 : Value).ownBlock ∧ some k_ ≠ (.slice (some ad237) t209.length co30 : Value).ownBlock ∧ some k_ ≠ (v239 : Value).ownBlock)) (by (with_reducible repeat (first | apply Kd.N_alloc | apply Kd.N_drewN | apply Kd.N_drew)); exact Kd.N_mono HO_7.out (fun _ hk => ⟨⟨hk.1, ⟨hk.2.1, ⟨hk.2.2.1, hk.2.2.2.1⟩⟩⟩, hk.2.2.2.2⟩)) hg hat); replace HL246_2 := Aside0.mk (Kd.V_afterv (ok := (fun k_ => some k_ ≠ (.slice (some ad225) t207.length co18 : Value).ownBlock ∧ some k_ ≠ (.slice (some ad236) t208.length co24 : Value).ownBlock ∧ some k_ ≠ (.slice (some ad237) t209.length co30 : Value).ownBlock ∧ some k_ ≠ (v239 : Value).ownBlock ∧ some k_ ≠ (v242 : Value).ownBlock)) (by (with_reducible repeat (first | apply Kd.V_alloc | apply Kd.V_drewN | apply Kd.V_drew)); exact Kd.V_mono HL246_2.out (fun _ hk => ⟨⟨hk.2, ⟨hk.1.1, ⟨hk.1.2.1, ⟨hk.1.2.2.1, hk.1.2.2.2.1⟩⟩⟩⟩, hk.1.2.2.2.2⟩)) hg hat); replace HB := Aside0.mk (hb); have HO249 := Aside0.mk (ho); clear HO_8; clear ho hb hg hat))
                      go_roundg kj34
                      case measure => have := HK1.out; have := HJ16.out; have := HJ28.out; have := HJ34.out; omega
                      case rel => exact ⟨(y238), (y241), (y247), (x9_1), (true), (wrap64 (x11_1 + 1)), (by first | rfl | (simp; done) | (simp [*]; done)), (by first | rfl | (simp; done) | (simp [*]; done)), (by first | rfl | (simp; done) | (simp [*]; done)), H', ⟨by have := HK1.out; have := HJ16.out; have := HJ28.out; have := HJ34.out; omega⟩, ⟨by (with_reducible repeat (first | apply Kd.N_alloc | apply Kd.N_drewN | apply Kd.N_drew)); exact Kd.N_mono HO_3.out (fun _ hk => ⟨hk.1.1, ⟨hk.1.2.1, ⟨hk.1.2.2.1, ⟨hk.1.2.2.2, hk.2⟩⟩⟩⟩)⟩, ⟨rl HO_4.out⟩, ⟨rl HO_5.out⟩, ⟨by (with_reducible repeat (first | apply Kd.N_alloc | apply Kd.N_drewN | apply Kd.N_drew)); exact Kd.N_mono HO_6.out (fun _ hk => ⟨hk.1.1, ⟨hk.1.2.1, ⟨hk.1.2.2.1, ⟨hk.1.2.2.2, hk.2⟩⟩⟩⟩)⟩, ⟨by (with_reducible repeat (first | apply Kd.N_alloc | apply Kd.N_drewN | apply Kd.N_drew)); exact Kd.N_mono HO_7.out (fun _ hk => ⟨hk.1.1, ⟨hk.1.2.1, ⟨hk.1.2.2.1, ⟨hk.1.2.2.2, hk.2⟩⟩⟩⟩)⟩, ⟨by (with_reducible repeat (first | apply Kd.N_alloc | apply Kd.N_drewN | apply Kd.N_drew)); exact HO249.out⟩, ⟨bl HB.out⟩⟩
                     ·
                      rw [if_neg c49] at H
                      exact absurd H (by simp)
                    ·
                     rw [if_neg c48] at H
                     exact absurd H (by simp)
                   ·
                    rw [if_neg c47] at H
                    exact absurd H (by simp)
               ·
                rw [if_neg c34] at H
                exact absurd H (by simp)
              ·
               rw [if_neg c33] at H
               exact absurd H (by simp)
           ·
            rw [if_neg c28] at H
            exact absurd H (by simp)
          ·
           rw [if_neg c27] at H
           exact absurd H (by simp)
       ·
        rw [if_neg c16] at H
        exact absurd H (by simp)
      ·
       replace c15 := Bool.eq_false_iff.mpr c15
       subst c15
       have H1 : (some false) = some r := by rw [if_neg (show ¬ (false = true) by decide)] at H; exact H
       clear H
       have H := H1
       clear H1
       cases H.trans (congrArg some hr_)
     ·
      rw [if_neg c13] at H
      exact absurd H (by simp)
    ·
     rw [if_neg c12] at H
     have c12b0 : decide (x11_1 < (t207.length : Int)) = false := decide_eq_false c12
     clear c12
     replace H := Option.bind_eq_some_iff.mp H
     obtain ⟨⟨t250, t253, t254, t255, t256⟩, A530, H⟩ := H
     replace H : (if (t250.length : Int) = (x8_1.length : Int) then ((impl_ReceiverOk.f t254 t255 t256).bind fun t258 => (laws_FnTwice.j4 k1 t207 t208 t209 x8_1 x9_1 t250 t253 (!t258) t254 t255 t256)) else (laws_FnTwice.j4 k1 t207 t208 t209 x8_1 x9_1 t250 t253 true t254 t255 t256)) = some r := H
     have A53 := Aside0.mk A530
     clear A530
     have HC54 := Aside0.mk H
     clear H
     obtain ⟨Ao55, co55, eo55⟩ := Kd.N_slice HO_3.out
     subst eo55
     obtain ⟨Ao56, co56, eo56⟩ := Kd.N_slice HO_6.out
     subst eo56
     obtain ⟨Ao57, co57, eo57⟩ := Kd.N_slice HO_7.out
     subst eo57
     go_upto_region 26 with (first | ((with_reducible refine gate_callee (f := 31) rfl ?_); refine goesL_ (some 98) rfl rfl Try.func31 (by kernel_rfl) rfl #[.agg #[.int .i64 5, .int .i64 (-1), .int .i64 50], .slice Ao56 x6_1.length co56, .slice Ao57 x7_1.length co57] rfl (by (try simp only [am_]); first | done | rfl) ?_; (with_reducible refine (impl_Both16.calls k1 5 (-1) 50 _ _ x6_1 _ _ x7_1 t250 t253 t254 t255 t256 _ ?side1 ?side2 ?side3 ?side4 A53.out).mono ?_); (case side1 => repeat (first | exact (Kd.N_reads' HO_6.out).2.2 | (with_reducible refine Kd.C_alloc ?_ _) | (with_reducible refine Kd.C_drewN ?_ _) | (with_reducible refine Kd.C_drew ?_))); (case side2 => exact (Kd.N_reads' HO_6.out).2.1); (case side3 => repeat (first | exact (Kd.N_reads' HO_7.out).2.2 | (with_reducible refine Kd.C_alloc ?_ _) | (with_reducible refine Kd.C_drewN ?_ _) | (with_reducible refine Kd.C_drew ?_))); (case side4 => exact (Kd.N_reads' HO_7.out).2.1); rintro e w58 ⟨v251, rfl, ho0, hb⟩; refine ⟨_, rfl, ?_⟩; have HO252 := Aside0.mk (Kd.N_lower (Kd.N_mono (ok' := fun k_ => some k_ ≠ (.slice Ao55 t207.length co55 : Value).ownBlock ∧ some k_ ≠ (v212 : Value).ownBlock ∧ some k_ ≠ (v214 : Value).ownBlock ∧ some k_ ≠ (.slice Ao56 x6_1.length co56 : Value).ownBlock ∧ some k_ ≠ (.slice Ao57 x7_1.length co57 : Value).ownBlock ∧ some k_ ≠ (u8 : Value).ownBlock) (Kd.S_N (Kd.S_bound ho0)) (fun k_ hk_ => ⟨(Kd.fresh' (Kd.N_lt (by (with_reducible repeat (first | apply Kd.N_alloc | apply Kd.N_drewN | apply Kd.N_drew)); exact HO_3.out)) k_ hk_.2.1), (Kd.fresh' (Kd.R_lt (by (repeat apply rl1); exact HO_4.out)) k_ hk_.2.1), (Kd.fresh' (Kd.R_lt (by (repeat apply rl1); exact HO_5.out)) k_ hk_.2.1), (Kd.fresh' (Kd.N_lt (by (with_reducible repeat (first | apply Kd.N_alloc | apply Kd.N_drewN | apply Kd.N_drew)); exact HO_6.out)) k_ hk_.2.1), (Kd.fresh' (Kd.N_lt (by (with_reducible repeat (first | apply Kd.N_alloc | apply Kd.N_drewN | apply Kd.N_drew)); exact HO_7.out)) k_ hk_.2.1), (Kd.fresh' (Kd.N_lt (by (with_reducible repeat (first | apply Kd.N_alloc | apply Kd.N_drewN | apply Kd.N_drew)); exact HO_8.out)) k_ hk_.2.1)⟩)) (below_size (bl HB.out))); replace HO_3 := Aside0.mk (Kd.N_elder' (by (with_reducible repeat (first | apply Kd.N_alloc | apply Kd.N_drewN | apply Kd.N_drew)); exact HO_3.out) (Kd.S_base ho0) hb); replace HO_4 := Aside0.mk (Kd.R_below (rl HO_4.out) hb); replace HO_5 := Aside0.mk (Kd.R_below (rl HO_5.out) hb); replace HO_6 := Aside0.mk (Kd.N_elder' (by (with_reducible repeat (first | apply Kd.N_alloc | apply Kd.N_drewN | apply Kd.N_drew)); exact HO_6.out) (Kd.S_base ho0) hb); replace HO_7 := Aside0.mk (Kd.N_elder' (by (with_reducible repeat (first | apply Kd.N_alloc | apply Kd.N_drewN | apply Kd.N_drew)); exact HO_7.out) (Kd.S_base ho0) hb); replace HO_8 := Aside0.mk (Kd.N_elder' (by (with_reducible repeat (first | apply Kd.N_alloc | apply Kd.N_drewN | apply Kd.N_drew)); exact HO_8.out) (Kd.S_base ho0) hb); replace HB := Aside0.mk (below_step (bl HB.out) hb); (try clear hb); (try clear hb2); (try clear hk); (try clear hi); (try clear ho0)) | ((with_reducible refine gate_dst (N := 18) rfl ?_); (try (refine gate_guard (by rfl) ?_; dsimp only)); refine box_event ?hg (N := 18) ?hd (cs := #[.int .i64 0, .int .i64 0, .int .i64 0]) (t := 25) ?hr ?_; (case hd => rfl); (case hg => rfl); (case hr => first | (go_simp; done) | (go_simp; rfl)); intro gb257 hg w59 hbox hb; replace HO_3 := Aside0.mk (Kd.N_below (Kd.N_elderB (by (with_reducible repeat (first | apply Kd.N_alloc | apply Kd.N_drewN | apply Kd.N_drew)); exact HO_3.out) gb257 (Nat.le_of_eq hg.symm)) hb); replace HO_4 := Aside0.mk (Kd.R_below (rl HO_4.out) hb); replace HO_5 := Aside0.mk (Kd.R_below (rl HO_5.out) hb); replace HO_6 := Aside0.mk (Kd.N_below (Kd.N_elderB (by (with_reducible repeat (first | apply Kd.N_alloc | apply Kd.N_drewN | apply Kd.N_drew)); exact HO_6.out) gb257 (Nat.le_of_eq hg.symm)) hb); replace HO_7 := Aside0.mk (Kd.N_below (Kd.N_elderB (by (with_reducible repeat (first | apply Kd.N_alloc | apply Kd.N_drewN | apply Kd.N_drew)); exact HO_7.out) gb257 (Nat.le_of_eq hg.symm)) hb); replace HO_8 := Aside0.mk (Kd.N_below (Kd.N_elderB (by (with_reducible repeat (first | apply Kd.N_alloc | apply Kd.N_drewN | apply Kd.N_drew)); exact HO_8.out) gb257 (Nat.le_of_eq hg.symm)) hb); replace HO252 := Aside0.mk (Kd.N_below (Kd.N_elderB (by (with_reducible repeat (first | apply Kd.N_alloc | apply Kd.N_drewN | apply Kd.N_drew)); exact HO252.out) gb257 (Nat.le_of_eq hg.symm)) hb); have BK257 := Aside0.mk (hbox); have GW257 := Aside0.mk ((by rw [hg]; exact (below_size (bl HB.out)) : w.heap.size ≤ gb257)); have GE257 := GW257; replace HB := Aside0.mk (below_step (bl HB.out) hb); clear hb hbox hg; obtain ⟨hcz60_0, hcz60_1, hcz60_2⟩ := ck3 BK257.out; obtain ⟨hfz60_0, hfz60_1, hfz60_2⟩ := fz3 BK257.out))
     (try simp only [Act.put, List.setIfInBounds_toArray, List.set_cons_zero, List.set_cons_succ])
     go_cut [111] (fun v111 wc => ∃ (kq : Nat) (x111_53 : Bool), v111 = .bool x111_53 ∧ Aside0 (laws_FnTwice.j4 kq t207 t208 t209 x8_1 x9_1 t250 t253 x111_53 t254 t255 t256 = some r) ∧ Aside0 (kq ≤ k1) ∧ Aside0 (Kd.N k41 41 wc w.heap.size (fun k_ => some k_ ≠ (v212 : Value).ownBlock ∧ some k_ ≠ (v214 : Value).ownBlock ∧ some k_ ≠ (u8 : Value).ownBlock ∧ some k_ ≠ (v251 : Value).ownBlock ∧ k_ ≠ gb257) (.slice Ao55 t207.length co55) t207) ∧ Aside0 (Kd.R Kd.bool 4 wc w.heap.size (fun k_ => some k_ ≠ (v214 : Value).ownBlock) v212 t208) ∧ Aside0 (Kd.R Kd.bool 4 wc w.heap.size (fun k_ => some k_ ≠ (v212 : Value).ownBlock) v214 t209) ∧ Aside0 (Kd.N k41 41 wc w.heap.size (fun k_ => some k_ ≠ ((.slice Ao55 t207.length co55) : Value).ownBlock ∧ some k_ ≠ (v212 : Value).ownBlock ∧ some k_ ≠ (v214 : Value).ownBlock ∧ some k_ ≠ (v251 : Value).ownBlock ∧ k_ ≠ gb257) u8 x8_1) ∧ Aside0 (Kd.N k41 41 wc w.heap.size (fun k_ => some k_ ≠ ((.slice Ao55 t207.length co55) : Value).ownBlock ∧ some k_ ≠ (v212 : Value).ownBlock ∧ some k_ ≠ (v214 : Value).ownBlock ∧ some k_ ≠ (u8 : Value).ownBlock ∧ k_ ≠ gb257) v251 t250) ∧ Aside0 (wc.heap[gb257]? = some (.cells #[.int .i64 t254, .int .i64 t255, .int .i64 t256] 25 (0, 0))) ∧ Aside0 (Below w.heap.size w wc))
     case first =>
      have H := HC54.out
      clear HC54
      by_cases c61 : (t250.length : Int) = (x8_1.length : Int)
      ·
       rw [if_pos c61] at H
       have c61b0 : ((t250.length : Int) == (x8_1.length : Int)) = true := beq_iff_eq.mpr c61
       have c61b1 : ((t250.length : Int) != (x8_1.length : Int)) = false := bne_eq_false_iff_eq.mpr c61
       have c61b2 : (t250.length == x8_1.length) = true := by first | simpa using c61 | (simp at c61 ⊢; omega)
       clear c61
       (first | rw [c61b0] | (simp only [i64_w, i32_w]; rw [c61b0]) | skip)
       replace H := Option.bind_eq_some_iff.mp H
       obtain ⟨t258, A620, H⟩ := H
       replace H : (laws_FnTwice.j4 k1 t207 t208 t209 x8_1 x9_1 t250 t253 (!t258) t254 t255 t256) = some r := H
       have A62 := Aside0.mk A620
       clear A620
       have H' := Aside0.mk H
       clear H
       obtain ⟨Ao63, co63, eo63⟩ := Kd.N_slice HO252.out
       subst eo63
       obtain ⟨Ao64, co64, eo64⟩ := Kd.N_slice HO_8.out
       subst eo64
       obtain ⟨hcz65_0, hcz65_1, hcz65_2⟩ := ck3 BK257.out
       obtain ⟨hfz65_0, hfz65_1, hfz65_2⟩ := fz3 BK257.out
       go_wp2_with (first | (go_at_call 16; (with_reducible refine (impl_ReceiverOk.calls t254 t255 t256 t258 _ A62.out).mono ?_); rintro e w66 ⟨rfl, hb⟩; replace HO_3 := Aside0.mk (Kd.N_below (by (with_reducible repeat (first | apply Kd.N_alloc | apply Kd.N_drewN | apply Kd.N_drew)); exact (Kd.N_mono (Kd.N_far (p := ⟨gb257, 2, none⟩) (Kd.N_far (p := ⟨gb257, 1, none⟩) (Kd.N_far (p := ⟨gb257, 0, none⟩) (Kd.N_mono HO_3.out (fun k_ hk => (⟨hk, hk.2⟩ : _ ∧ k_ ≠ gb257))) (fun _ hk => hk.2) (.int .i64 t254)) (fun _ hk => hk.2) (.int .i64 t255)) (fun _ hk => hk.2) (.int .i64 t256)) (fun _ h_ => h_.1))) hb); replace HO_4 := Aside0.mk (Kd.R_below (by (repeat apply rl1); exact (Kd.R_mono (Kd.R_far (p := ⟨gb257, 2, none⟩) (Kd.R_far (p := ⟨gb257, 1, none⟩) (Kd.R_far (p := ⟨gb257, 0, none⟩) (Kd.R_types HO_4.out BK257.out (by decide)) (fun _ hk => hk.2) (.int .i64 t254)) (fun _ hk => hk.2) (.int .i64 t255)) (fun _ hk => hk.2) (.int .i64 t256)) (fun _ h_ => h_.1))) hb); replace HO_5 := Aside0.mk (Kd.R_below (by (repeat apply rl1); exact (Kd.R_mono (Kd.R_far (p := ⟨gb257, 2, none⟩) (Kd.R_far (p := ⟨gb257, 1, none⟩) (Kd.R_far (p := ⟨gb257, 0, none⟩) (Kd.R_types HO_5.out BK257.out (by decide)) (fun _ hk => hk.2) (.int .i64 t254)) (fun _ hk => hk.2) (.int .i64 t255)) (fun _ hk => hk.2) (.int .i64 t256)) (fun _ h_ => h_.1))) hb); replace HO_6 := Aside0.mk (Kd.N_below (by (with_reducible repeat (first | apply Kd.N_alloc | apply Kd.N_drewN | apply Kd.N_drew)); exact (Kd.N_mono (Kd.N_far (p := ⟨gb257, 2, none⟩) (Kd.N_far (p := ⟨gb257, 1, none⟩) (Kd.N_far (p := ⟨gb257, 0, none⟩) (Kd.N_mono HO_6.out (fun k_ hk => (⟨hk, hk.2⟩ : _ ∧ k_ ≠ gb257))) (fun _ hk => hk.2) (.int .i64 t254)) (fun _ hk => hk.2) (.int .i64 t255)) (fun _ hk => hk.2) (.int .i64 t256)) (fun _ h_ => h_.1))) hb); replace HO_7 := Aside0.mk (Kd.N_below (by (with_reducible repeat (first | apply Kd.N_alloc | apply Kd.N_drewN | apply Kd.N_drew)); exact (Kd.N_mono (Kd.N_far (p := ⟨gb257, 2, none⟩) (Kd.N_far (p := ⟨gb257, 1, none⟩) (Kd.N_far (p := ⟨gb257, 0, none⟩) (Kd.N_mono HO_7.out (fun k_ hk => (⟨hk, hk.2⟩ : _ ∧ k_ ≠ gb257))) (fun _ hk => hk.2) (.int .i64 t254)) (fun _ hk => hk.2) (.int .i64 t255)) (fun _ hk => hk.2) (.int .i64 t256)) (fun _ h_ => h_.1))) hb); replace HO_8 := Aside0.mk (Kd.N_below (by (with_reducible repeat (first | apply Kd.N_alloc | apply Kd.N_drewN | apply Kd.N_drew)); exact (Kd.N_mono (Kd.N_far (p := ⟨gb257, 2, none⟩) (Kd.N_far (p := ⟨gb257, 1, none⟩) (Kd.N_far (p := ⟨gb257, 0, none⟩) (Kd.N_mono HO_8.out (fun k_ hk => (⟨hk, hk.2⟩ : _ ∧ k_ ≠ gb257))) (fun _ hk => hk.2) (.int .i64 t254)) (fun _ hk => hk.2) (.int .i64 t255)) (fun _ hk => hk.2) (.int .i64 t256)) (fun _ h_ => h_.1))) hb); replace HO252 := Aside0.mk (Kd.N_below (by (with_reducible repeat (first | apply Kd.N_alloc | apply Kd.N_drewN | apply Kd.N_drew)); exact (Kd.N_mono (Kd.N_far (p := ⟨gb257, 2, none⟩) (Kd.N_far (p := ⟨gb257, 1, none⟩) (Kd.N_far (p := ⟨gb257, 0, none⟩) (Kd.N_mono HO252.out (fun k_ hk => (⟨hk, hk.2⟩ : _ ∧ k_ ≠ gb257))) (fun _ hk => hk.2) (.int .i64 t254)) (fun _ hk => hk.2) (.int .i64 t255)) (fun _ hk => hk.2) (.int .i64 t256)) (fun _ h_ => h_.1))) hb); replace BK257 := Aside0.mk (blk_below (g := gb257) (o := .cells #[.int .i64 t254, .int .i64 t255, .int .i64 t256] 25 (0, 0)) (by (repeat refine bk1 ?_); refine blk_put (cs := #[.int .i64 t254, .int .i64 t255, .int .i64 0]) ?_ 2 _ rfl; (repeat refine bk1 ?_); refine blk_put (cs := #[.int .i64 t254, .int .i64 0, .int .i64 0]) ?_ 1 _ rfl; (repeat refine bk1 ?_); refine blk_put (cs := #[.int .i64 0, .int .i64 0, .int .i64 0]) ?_ 0 _ rfl; (repeat refine bk1 ?_); exact BK257.out) hb); replace HB := Aside0.mk (below_step (by repeat with_reducible first | exact bl HB.out | refine below_set ?_ GE257.out | refine bq ?_) hb); (try clear hb); (try clear hb2); (try clear hk); (try clear hi)))
       go_meet
       case rel => exact ⟨_, (!t258), (by first | rfl | (simp; done) | (simp [*]; done)), H', ⟨by have := HK1.out; first | omega | exact Nat.le_refl _⟩, ⟨by (with_reducible repeat (first | apply Kd.N_alloc | apply Kd.N_drewN | apply Kd.N_drew)); exact Kd.N_mono HO_3.out (fun _ hk => ⟨hk.1.1.1, ⟨hk.1.1.2.1, ⟨hk.1.1.2.2.2.2, ⟨hk.1.2, hk.2⟩⟩⟩⟩)⟩, ⟨rl HO_4.out⟩, ⟨rl HO_5.out⟩, ⟨by (with_reducible repeat (first | apply Kd.N_alloc | apply Kd.N_drewN | apply Kd.N_drew)); exact Kd.N_mono HO_8.out (fun _ hk => ⟨hk.1.1.1, ⟨hk.1.1.2.1, ⟨hk.1.1.2.2.1, ⟨hk.1.2, hk.2⟩⟩⟩⟩)⟩, ⟨by (with_reducible repeat (first | apply Kd.N_alloc | apply Kd.N_drewN | apply Kd.N_drew)); exact Kd.N_mono HO252.out (fun _ hk => ⟨hk.1.1, ⟨hk.1.2.1, ⟨hk.1.2.2.1, ⟨hk.1.2.2.2.2.2, hk.2⟩⟩⟩⟩)⟩, ⟨bk BK257.out⟩, ⟨by repeat with_reducible first | exact bl HB.out | refine below_set ?_ GE257.out | refine bq ?_⟩⟩
      ·
       rw [if_neg c61] at H
       have c61b0 : ((t250.length : Int) == (x8_1.length : Int)) = false := beq_eq_false_iff_ne.mpr c61
       have c61b1 : ((t250.length : Int) != (x8_1.length : Int)) = true := bne_iff_ne.mpr c61
       have c61b2 : (t250.length == x8_1.length) = false := by first | simpa using c61 | (simp at c61 ⊢; omega)
       (first | rw [c61b0] | (simp only [i64_w, i32_w]; rw [c61b0]) | skip)
       have H' := Aside0.mk H
       clear H
       obtain ⟨Ao67, co67, eo67⟩ := Kd.N_slice HO252.out
       subst eo67
       obtain ⟨Ao68, co68, eo68⟩ := Kd.N_slice HO_8.out
       subst eo68
       go_wp2
       go_meet
       case rel => exact ⟨_, (true), (by first | rfl | (simp; done) | (simp [*]; done)), H', ⟨by have := HK1.out; first | omega | exact Nat.le_refl _⟩, ⟨by (with_reducible repeat (first | apply Kd.N_alloc | apply Kd.N_drewN | apply Kd.N_drew)); exact Kd.N_mono (Kd.N_far (p := ⟨gb257, 2, none⟩) (Kd.N_far (p := ⟨gb257, 1, none⟩) (Kd.N_far (p := ⟨gb257, 0, none⟩) (Kd.N_mono HO_3.out (fun k_ hk => (⟨hk, hk.2⟩ : _ ∧ k_ ≠ gb257))) (fun _ hk => hk.2) (.int .i64 t254)) (fun _ hk => hk.2) (.int .i64 t255)) (fun _ hk => hk.2) (.int .i64 t256)) (fun _ hk => ⟨hk.1.1.1.1, ⟨hk.1.1.1.2.1, ⟨hk.1.1.1.2.2.2.2, ⟨hk.1.1.2, hk.1.2⟩⟩⟩⟩)⟩, ⟨by (repeat apply rl1); exact Kd.R_mono (Kd.R_far (p := ⟨gb257, 2, none⟩) (Kd.R_far (p := ⟨gb257, 1, none⟩) (Kd.R_far (p := ⟨gb257, 0, none⟩) (Kd.R_types HO_4.out BK257.out (by decide)) (fun _ hk => hk.2) (.int .i64 t254)) (fun _ hk => hk.2) (.int .i64 t255)) (fun _ hk => hk.2) (.int .i64 t256)) (fun _ hk => hk.1)⟩, ⟨by (repeat apply rl1); exact Kd.R_mono (Kd.R_far (p := ⟨gb257, 2, none⟩) (Kd.R_far (p := ⟨gb257, 1, none⟩) (Kd.R_far (p := ⟨gb257, 0, none⟩) (Kd.R_types HO_5.out BK257.out (by decide)) (fun _ hk => hk.2) (.int .i64 t254)) (fun _ hk => hk.2) (.int .i64 t255)) (fun _ hk => hk.2) (.int .i64 t256)) (fun _ hk => hk.1)⟩, ⟨by (with_reducible repeat (first | apply Kd.N_alloc | apply Kd.N_drewN | apply Kd.N_drew)); exact Kd.N_mono (Kd.N_far (p := ⟨gb257, 2, none⟩) (Kd.N_far (p := ⟨gb257, 1, none⟩) (Kd.N_far (p := ⟨gb257, 0, none⟩) (Kd.N_mono HO_8.out (fun k_ hk => (⟨hk, hk.2⟩ : _ ∧ k_ ≠ gb257))) (fun _ hk => hk.2) (.int .i64 t254)) (fun _ hk => hk.2) (.int .i64 t255)) (fun _ hk => hk.2) (.int .i64 t256)) (fun _ hk => ⟨hk.1.1.1.1, ⟨hk.1.1.1.2.1, ⟨hk.1.1.1.2.2.1, ⟨hk.1.1.2, hk.1.2⟩⟩⟩⟩)⟩, ⟨by (with_reducible repeat (first | apply Kd.N_alloc | apply Kd.N_drewN | apply Kd.N_drew)); exact Kd.N_mono (Kd.N_far (p := ⟨gb257, 2, none⟩) (Kd.N_far (p := ⟨gb257, 1, none⟩) (Kd.N_far (p := ⟨gb257, 0, none⟩) (Kd.N_mono HO252.out (fun k_ hk => (⟨hk, hk.2⟩ : _ ∧ k_ ≠ gb257))) (fun _ hk => hk.2) (.int .i64 t254)) (fun _ hk => hk.2) (.int .i64 t255)) (fun _ hk => hk.2) (.int .i64 t256)) (fun _ hk => ⟨hk.1.1.1, ⟨hk.1.1.2.1, ⟨hk.1.1.2.2.1, ⟨hk.1.1.2.2.2.2.2, hk.1.2⟩⟩⟩⟩)⟩, ⟨by (repeat refine bk1 ?_); refine blk_put (cs := #[.int .i64 t254, .int .i64 t255, .int .i64 0]) ?_ 2 _ rfl; (repeat refine bk1 ?_); refine blk_put (cs := #[.int .i64 t254, .int .i64 0, .int .i64 0]) ?_ 1 _ rfl; (repeat refine bk1 ?_); refine blk_put (cs := #[.int .i64 0, .int .i64 0, .int .i64 0]) ?_ 0 _ rfl; (repeat refine bk1 ?_); exact BK257.out⟩, ⟨by repeat with_reducible first | exact bl HB.out | refine below_set ?_ GE257.out | refine bq ?_⟩⟩
     case rest =>
      clear HC54
      try clear c1
      try clear c2
      try clear p2
      try clear q2
      try clear hx2
      try clear c3
      try clear q3
      try clear c4
      try clear q4
      try clear c6
      try clear p6
      try clear c7
      try clear c12
      try clear c12b0
      try clear c13
      try clear c13b0
      try clear c15
      try clear c16
      try clear c16b0
      try clear c17
      try clear c22
      try clear p22
      try clear q22
      try clear hx22
      try clear p23
      try clear q23
      try clear hx23
      try clear c24
      try clear p24
      try clear q24
      try clear hx24
      try clear q25
      try clear c26
      try clear c27
      try clear c27b0
      try clear c28
      try clear c28b0
      try clear c29
      try clear c30
      try clear c31
      try clear q31
      try clear c32
      try clear c33
      try clear c34
      try clear c40
      try clear c40b0
      try clear c41
      try clear c41b0
      try clear q42
      try clear c43
      try clear c44
      try clear c44b0
      try clear c45
      try clear c46
      try clear c47
      try clear c47b0
      try clear c48
      try clear c48b0
      try clear c49
      try clear c61
      try clear c61b0
      try clear c61b1
      try clear c61b2
      try clear p64
      try clear hcz60_0 hcz60_1 hcz60_2 hfz60_0 hfz60_1 hfz60_2
      try clear hcz65_0 hcz65_1 hcz65_2 hfz65_0 hfz65_1 hfz65_2
      try clear hx225_0
      try clear hx225_1
      try clear hx225_2
      try clear hx236_0
      try clear hx237_0
      try clear hx244_0
      try clear hx245_0
      try clear hx246_0
      try clear hx246_1
      try clear hx246_2
      try clear p2
      try clear p22
      try clear p225
      try clear p23
      try clear p236
      try clear p237
      try clear p24
      try clear p244
      try clear p245
      try clear p246
      try clear q2
      try clear q22
      try clear q225
      try clear q23
      try clear q236
      try clear q237
      try clear q24
      try clear q244
      try clear q245
      try clear q246
      try clear q25
      try clear q3
      try clear q31
      try clear q4
      try clear q42
      obtain ⟨kq, x111_53, rfl, HA, HJ53, HO_3, HO_4, HO_5, HO_8, HO_16, BK257, HB⟩ := hcut
      cases kq with
      | zero => exact absurd HA.out (by simp [laws_FnTwice.j4])
      | succ kj53 =>
       have H := HA.out
       clear HA
       simp only [laws_FnTwice.j4] at H
       by_cases c69 : x111_53 = true
       ·
        subst c69
        have H1 : (some false) = some r := by rw [if_pos rfl] at H; exact H
        clear H
        have H := H1
        clear H1
        cases H.trans (congrArg some hr_)
       ·
        replace c69 := Bool.eq_false_iff.mpr c69
        subst c69
        have H1 : (laws_FnTwice.l1 kj53 t207 t208 t209 x8_1 x9_1 t250 t253 0 t254 t255 t256) = some r := by rw [if_neg (show ¬ (false = true) by decide)] at H; exact H
        clear H
        have H := H1
        clear H1
        have H' := Aside0.mk H
        clear H
        go_wp2
        go_loopg [19] kj53 (fun kq v19 w' => ∃ (x19_3 : Int), v19 = .int .i64 x19_3 ∧ Aside0 (laws_FnTwice.l1 kq t207 t208 t209 x8_1 x9_1 t250 t253 x19_3 t254 t255 t256 = some r) ∧ Aside0 (kq ≤ kj53) ∧ Aside0 (Kd.N k41 41 w' w.heap.size (fun k_ => some k_ ≠ (v212 : Value).ownBlock ∧ some k_ ≠ (v214 : Value).ownBlock ∧ some k_ ≠ (u8 : Value).ownBlock ∧ some k_ ≠ (v251 : Value).ownBlock ∧ k_ ≠ gb257) (.slice Ao55 t207.length co55) t207) ∧ Aside0 (Kd.R Kd.bool 4 w' w.heap.size (fun k_ => some k_ ≠ (v214 : Value).ownBlock) v212 t208) ∧ Aside0 (Kd.R Kd.bool 4 w' w.heap.size (fun k_ => some k_ ≠ (v212 : Value).ownBlock) v214 t209) ∧ Aside0 (Kd.N k41 41 w' w.heap.size (fun k_ => some k_ ≠ ((.slice Ao55 t207.length co55) : Value).ownBlock ∧ some k_ ≠ (v212 : Value).ownBlock ∧ some k_ ≠ (v214 : Value).ownBlock ∧ some k_ ≠ (v251 : Value).ownBlock ∧ k_ ≠ gb257) u8 x8_1) ∧ Aside0 (Kd.N k41 41 w' w.heap.size (fun k_ => some k_ ≠ ((.slice Ao55 t207.length co55) : Value).ownBlock ∧ some k_ ≠ (v212 : Value).ownBlock ∧ some k_ ≠ (v214 : Value).ownBlock ∧ some k_ ≠ (u8 : Value).ownBlock ∧ k_ ≠ gb257) v251 t250) ∧ Aside0 (w'.heap[gb257]? = some (.cells #[.int .i64 t254, .int .i64 t255, .int .i64 t256] 25 (0, 0))) ∧ Aside0 (Below w.heap.size w w'))
        case atStart => exact ⟨(0), (by first | rfl | (simp; done) | (simp [*]; done)), H', ⟨Nat.le_refl _⟩, ⟨by (with_reducible repeat (first | apply Kd.N_alloc | apply Kd.N_drewN | apply Kd.N_drew)); exact HO_3.out⟩, ⟨rl HO_4.out⟩, ⟨rl HO_5.out⟩, ⟨by (with_reducible repeat (first | apply Kd.N_alloc | apply Kd.N_drewN | apply Kd.N_drew)); exact HO_8.out⟩, ⟨by (with_reducible repeat (first | apply Kd.N_alloc | apply Kd.N_drewN | apply Kd.N_drew)); exact HO_16.out⟩, ⟨bk BK257.out⟩, ⟨by repeat with_reducible first | exact bl HB.out | refine below_set ?_ GE257.out | refine bq ?_⟩⟩
        case round =>
         clear H'
         try clear c1
         try clear c2
         try clear p2
         try clear q2
         try clear hx2
         try clear c3
         try clear q3
         try clear c4
         try clear q4
         try clear c6
         try clear p6
         try clear c7
         try clear c12
         try clear c12b0
         try clear c13
         try clear c13b0
         try clear c15
         try clear c16
         try clear c16b0
         try clear c17
         try clear c22
         try clear p22
         try clear q22
         try clear hx22
         try clear p23
         try clear q23
         try clear hx23
         try clear c24
         try clear p24
         try clear q24
         try clear hx24
         try clear q25
         try clear c26
         try clear c27
         try clear c27b0
         try clear c28
         try clear c28b0
         try clear c29
         try clear c30
         try clear c31
         try clear q31
         try clear c32
         try clear c33
         try clear c34
         try clear c40
         try clear c40b0
         try clear c41
         try clear c41b0
         try clear q42
         try clear c43
         try clear c44
         try clear c44b0
         try clear c45
         try clear c46
         try clear c47
         try clear c47b0
         try clear c48
         try clear c48b0
         try clear c49
         try clear c61
         try clear c61b0
         try clear c61b1
         try clear c61b2
         try clear p64
         try clear c69
         try clear hcz60_0 hcz60_1 hcz60_2 hfz60_0 hfz60_1 hfz60_2
         try clear hcz65_0 hcz65_1 hcz65_2 hfz65_0 hfz65_1 hfz65_2
         try clear hx225_0
         try clear hx225_1
         try clear hx225_2
         try clear hx236_0
         try clear hx237_0
         try clear hx244_0
         try clear hx245_0
         try clear hx246_0
         try clear hx246_1
         try clear hx246_2
         try clear p2
         try clear p22
         try clear p225
         try clear p23
         try clear p236
         try clear p237
         try clear p24
         try clear p244
         try clear p245
         try clear p246
         try clear p6
         try clear p64
         try clear q2
         try clear q22
         try clear q225
         try clear q23
         try clear q236
         try clear q237
         try clear q24
         try clear q244
         try clear q245
         try clear q246
         try clear q25
         try clear q3
         try clear q31
         try clear q4
         try clear q42
         obtain ⟨x19_3, rfl, HA, HK3, HO_3, HO_4, HO_5, HO_8, HO_16, BK257, HB⟩ := hrel
         cases gk with
         | zero => exact absurd HA.out (by simp [laws_FnTwice.l1])
         | succ k3 =>
          have H := HA.out
          clear HA
          simp only [laws_FnTwice.l1] at H
          by_cases c70 : x19_3 < (t250.length : Int)
          ·
           rw [if_pos c70] at H
           have c70b0 : decide (x19_3 < (t250.length : Int)) = true := decide_eq_true c70
           clear c70
           by_cases c71 : 0 ≤ x19_3
           ·
            rw [if_pos c71] at H
            have c71b0 : decide (0 ≤ x19_3) = true := decide_eq_true c71
            clear c71
            by_cases c72 : x19_3 < (x8_1.length : Int)
            ·
             rw [if_pos c72] at H
             have c72b0 : decide (x19_3 < (x8_1.length : Int)) = true := decide_eq_true c72
             clear c72
             by_cases c73 : ((rd_T41 t250 x19_3).f1) = ((rd_T41 x8_1 x19_3).f1)
             ·
              rw [if_pos c73] at H
              have c73b0 : (((rd_T41 t250 x19_3).f1) == ((rd_T41 x8_1 x19_3).f1)) = true := beq_iff_eq.mpr c73
              have c73b1 : (((rd_T41 t250 x19_3).f1) != ((rd_T41 x8_1 x19_3).f1)) = false := bne_eq_false_iff_eq.mpr c73
              clear c73
              by_cases c74 : (strOfNums ((rd_T41 t250 x19_3).f2)).toList = (strOfNums ((rd_T41 x8_1 x19_3).f2)).toList
              ·
               rw [if_pos c74] at H
               have c74b0 : ((strOfNums ((rd_T41 t250 x19_3).f2)).toList == (strOfNums ((rd_T41 x8_1 x19_3).f2)).toList) = true := beq_iff_eq.mpr c74
               have c74b1 : ((strOfNums ((rd_T41 t250 x19_3).f2)).toList != (strOfNums ((rd_T41 x8_1 x19_3).f2)).toList) = false := bne_eq_false_iff_eq.mpr c74
               clear c74
               have H' := Aside0.mk H
               clear H
               obtain ⟨Ao75, co75, eo75⟩ := Kd.N_slice HO_16.out
               subst eo75
               try go_wp2
               have n0_ := Aside0.mk (Kd.N_drew HO_3.out)
               have n1_ := Aside0.mk (Kd.R_drew HO_4.out)
               have n2_ := Aside0.mk (Kd.R_drew HO_5.out)
               have n3_ := Aside0.mk (Kd.N_drew HO_8.out)
               have n4_ := Aside0.mk (Kd.N_drew HO_16.out)
               have n5_ := Aside0.mk (blk_drew BK257.out)
               have n6_ := Aside0.mk (below_drew1 HB.out)
               clear HO_3
               clear HO_4
               clear HO_5
               clear HO_8
               clear HO_16
               clear BK257
               clear HB
               have HO_3 := n0_
               have HO_4 := n1_
               have HO_5 := n2_
               have HO_8 := n3_
               have HO_16 := n4_
               have BK257 := n5_
               have HB := n6_
               clear n0_ n1_ n2_ n3_ n4_ n5_ n6_
               have p259 : 0 ≤ (x19_3 : Int) := of_decide_eq_true (by first | (with_reducible assumption) | assumption)
               have q259 : x19_3 < (t250.length : Int) := of_decide_eq_true (by first | (with_reducible assumption) | assumption)
               obtain ⟨ad259, A259_2, c259_2, e259, hx259_0, hx259_1, hx259_2, hl259_2, hi259_2⟩ := at_T41 (Kd.N_reads' HO_16.out).2.2 x19_3 p259 q259
               cases e259
               obtain ⟨ce259, hce259, hMe259, hcc259⟩ := Kd.N_get HO_16.out z41 x19_3 p259 (by first | exact q259 | exact of_decide_eq_true (by first | (with_reducible assumption) | assumption) | (have e_ := (Kd.N_reads' HO_16.out).1; omega))
               obtain ⟨ua259_2, uc259_2, rfl, ul259_2, ge259_2⟩ := k41_openF hMe259
               have hv259_2 := hcc259 2 _ rfl
               rw [add_field _ _ 2 (by omega)] at hv259_2
               replace hv259_2 := Option.some.inj (hv259_2.symm.trans hx259_2)
               injection hv259_2 with hva_ hvn_ hvc_
               rw [hva_] at ge259_2
               rw [hvc_] at ul259_2
               have HL259_2 := Aside0.mk (show Kd.V (Kd.int .u8) 5 _ w.heap.size _ _ ((rd_T41 t250 x19_3).f2) from Kd.V_mk ul259_2 ge259_2)
               clear hva_ hvn_ hvc_ ge259_2 ul259_2
               clear hcc259 hce259
               have HR259_2 := Aside0.mk hi259_2
               have HC259_2 := Aside0.mk hl259_2
               clear hi259_2 hl259_2
               replace p259 := eq_true p259
               replace q259 := eq_true q259
               obtain ⟨Ao77, co77, eo77⟩ := Kd.N_slice HO_8.out
               (first | subst eo77 | (injection eo77 with f1_ f2_ f3_; have f4_ := f1_.symm; have f5_ := f3_.symm; clear f1_ f2_ f3_; subst f4_; subst f5_))
               have p260 : 0 ≤ (x19_3 : Int) := of_decide_eq_true (by first | (with_reducible assumption) | assumption)
               have q260 : x19_3 < (x8_1.length : Int) := of_decide_eq_true (by first | (with_reducible assumption) | assumption)
               obtain ⟨ad260, A260_2, c260_2, e260, hx260_0, hx260_1, hx260_2, hl260_2, hi260_2⟩ := at_T41 (Kd.N_reads' HO_8.out).2.2 x19_3 p260 q260
               cases e260
               obtain ⟨ce260, hce260, hMe260, hcc260⟩ := Kd.N_get HO_8.out z41 x19_3 p260 (by first | exact q260 | exact of_decide_eq_true (by first | (with_reducible assumption) | assumption) | (have e_ := (Kd.N_reads' HO_8.out).1; omega))
               obtain ⟨ua260_2, uc260_2, rfl, ul260_2, ge260_2⟩ := k41_openF hMe260
               have hv260_2 := hcc260 2 _ rfl
               rw [add_field _ _ 2 (by omega)] at hv260_2
               replace hv260_2 := Option.some.inj (hv260_2.symm.trans hx260_2)
               injection hv260_2 with hva_ hvn_ hvc_
               rw [hva_] at ge260_2
               rw [hvc_] at ul260_2
               have HL260_2 := Aside0.mk (show Kd.V (Kd.int .u8) 5 _ w.heap.size _ _ ((rd_T41 x8_1 x19_3).f2) from Kd.V_mk ul260_2 ge260_2)
               clear hva_ hvn_ hvc_ ge260_2 ul260_2
               clear hcc260 hce260
               have HR260_2 := Aside0.mk hi260_2
               have HC260_2 := Aside0.mk hl260_2
               clear hi260_2 hl260_2
               replace p260 := eq_true p260
               replace q260 := eq_true q260
               have p261 : 0 ≤ (x19_3 : Int) := of_decide_eq_true (by first | (with_reducible assumption) | assumption)
               have q261 : x19_3 < (t250.length : Int) := of_decide_eq_true (by first | (with_reducible assumption) | assumption)
               obtain ⟨ad261, A261_2, c261_2, e261, hx261_0, hx261_1, hx261_2, hl261_2, hi261_2⟩ := at_T41 (Kd.N_reads' HO_16.out).2.2 x19_3 p261 q261
               obtain rfl : ad259 = ad261 := (by injection e261)
               obtain ⟨ce261, hce261, hMe261, hcc261⟩ := Kd.N_get HO_16.out z41 x19_3 p261 (by first | exact q261 | exact of_decide_eq_true (by first | (with_reducible assumption) | assumption) | (have e_ := (Kd.N_reads' HO_16.out).1; omega))
               obtain ⟨ua261_2, uc261_2, rfl, ul261_2, ge261_2⟩ := k41_openF hMe261
               have hv261_2 := hcc261 2 _ rfl
               rw [add_field _ _ 2 (by omega)] at hv261_2
               replace hv261_2 := Option.some.inj (hv261_2.symm.trans hx261_2)
               injection hv261_2 with hva_ hvn_ hvc_
               rw [hva_] at ge261_2
               rw [hvc_] at ul261_2
               have HL261_2 := Aside0.mk (show Kd.V (Kd.int .u8) 5 _ w.heap.size _ _ ((rd_T41 t250 x19_3).f2) from Kd.V_mk ul261_2 ge261_2)
               clear hva_ hvn_ hvc_ ge261_2 ul261_2
               clear hcc261 hce261
               have HR261_2 := Aside0.mk hi261_2
               have HC261_2 := Aside0.mk hl261_2
               clear hi261_2 hl261_2
               replace p261 := eq_true p261
               replace q261 := eq_true q261
               have ea_ := Option.some.inj (hx259_2.symm.trans hx261_2)
               injection ea_ with ea_ en_ ec_
               subst ea_
               subst ec_
               clear en_
               have p262 : 0 ≤ (x19_3 : Int) := of_decide_eq_true (by first | (with_reducible assumption) | assumption)
               have q262 : x19_3 < (x8_1.length : Int) := of_decide_eq_true (by first | (with_reducible assumption) | assumption)
               obtain ⟨ad262, A262_2, c262_2, e262, hx262_0, hx262_1, hx262_2, hl262_2, hi262_2⟩ := at_T41 (Kd.N_reads' HO_8.out).2.2 x19_3 p262 q262
               obtain rfl : ad260 = ad262 := (by injection e262)
               obtain ⟨ce262, hce262, hMe262, hcc262⟩ := Kd.N_get HO_8.out z41 x19_3 p262 (by first | exact q262 | exact of_decide_eq_true (by first | (with_reducible assumption) | assumption) | (have e_ := (Kd.N_reads' HO_8.out).1; omega))
               obtain ⟨ua262_2, uc262_2, rfl, ul262_2, ge262_2⟩ := k41_openF hMe262
               have hv262_2 := hcc262 2 _ rfl
               rw [add_field _ _ 2 (by omega)] at hv262_2
               replace hv262_2 := Option.some.inj (hv262_2.symm.trans hx262_2)
               injection hv262_2 with hva_ hvn_ hvc_
               rw [hva_] at ge262_2
               rw [hvc_] at ul262_2
               have HL262_2 := Aside0.mk (show Kd.V (Kd.int .u8) 5 _ w.heap.size _ _ ((rd_T41 x8_1 x19_3).f2) from Kd.V_mk ul262_2 ge262_2)
               clear hva_ hvn_ hvc_ ge262_2 ul262_2
               clear hcc262 hce262
               have HR262_2 := Aside0.mk hi262_2
               have HC262_2 := Aside0.mk hl262_2
               clear hi262_2 hl262_2
               replace p262 := eq_true p262
               replace q262 := eq_true q262
               have ea_ := Option.some.inj (hx260_2.symm.trans hx262_2)
               injection ea_ with ea_ en_ ec_
               subst ea_
               subst ec_
               clear en_
               skip
               skip
               refine start_ (n := 26) (S := fun w' => w'.cell? (ad259.add ((x19_3).toNat * 3)) = some (.int .i64 ((rd_T41 t250 x19_3).f0)) ∧ w'.cell? ⟨(ad259.add ((x19_3).toNat * 3)).block, (ad259.add ((x19_3).toNat * 3)).off + 1, none⟩ = some (.int .i64 ((rd_T41 t250 x19_3).f1)) ∧ w'.cell? ⟨(ad259.add ((x19_3).toNat * 3)).block, (ad259.add ((x19_3).toNat * 3)).off + 2, none⟩ = some (.slice A259_2 ((rd_T41 t250 x19_3).f2).length c259_2) ∧ w'.cell? (ad260.add ((x19_3).toNat * 3)) = some (.int .i64 ((rd_T41 x8_1 x19_3).f0)) ∧ w'.cell? ⟨(ad260.add ((x19_3).toNat * 3)).block, (ad260.add ((x19_3).toNat * 3)).off + 1, none⟩ = some (.int .i64 ((rd_T41 x8_1 x19_3).f1)) ∧ w'.cell? ⟨(ad260.add ((x19_3).toNat * 3)).block, (ad260.add ((x19_3).toNat * 3)).off + 2, none⟩ = some (.slice A260_2 ((rd_T41 x8_1 x19_3).f2).length c260_2) ∧ w'.cell? (ad259.add ((x19_3).toNat * 3)) = some (.int .i64 ((rd_T41 t250 x19_3).f0)) ∧ w'.cell? ⟨(ad259.add ((x19_3).toNat * 3)).block, (ad259.add ((x19_3).toNat * 3)).off + 1, none⟩ = some (.int .i64 ((rd_T41 t250 x19_3).f1)) ∧ w'.cell? ⟨(ad259.add ((x19_3).toNat * 3)).block, (ad259.add ((x19_3).toNat * 3)).off + 2, none⟩ = some (.slice A259_2 ((rd_T41 t250 x19_3).f2).length c259_2) ∧ w'.cell? (ad260.add ((x19_3).toNat * 3)) = some (.int .i64 ((rd_T41 x8_1 x19_3).f0)) ∧ w'.cell? ⟨(ad260.add ((x19_3).toNat * 3)).block, (ad260.add ((x19_3).toNat * 3)).off + 1, none⟩ = some (.int .i64 ((rd_T41 x8_1 x19_3).f1)) ∧ w'.cell? ⟨(ad260.add ((x19_3).toNat * 3)).block, (ad260.add ((x19_3).toNat * 3)).off + 2, none⟩ = some (.slice A260_2 ((rd_T41 x8_1 x19_3).f2).length c260_2) ∧ (convert 28 9 (.slice A259_2 ((rd_T41 t250 x19_3).f2).length c259_2 : Value)).run Try.prog w' = .ok (.string (strOfNums ((rd_T41 t250 x19_3).f2))) w' ∧ (convert 28 9 (.slice A260_2 ((rd_T41 x8_1 x19_3).f2).length c260_2 : Value)).run Try.prog w' = .ok (.string (strOfNums ((rd_T41 x8_1 x19_3).f2))) w') (ds := []) m0_26 (by kernel_rfl) rfl rfl ⟨hx259_0, hx259_1, hx259_2, hx260_0, hx260_1, hx260_2, hx261_0, hx261_1, hx261_2, hx262_0, hx262_1, hx262_2, (Kd.C_string (P := Try.prog) (A := A259_2) (c := c259_2) Try.underlying28 Try.underlying5 Try.underlying9 (Kd.C_drew HR261_2.out)), (Kd.C_string (P := Try.prog) (A := A260_2) (c := c260_2) Try.underlying28 Try.underlying5 Try.underlying9 (Kd.C_drew HR262_2.out))⟩ (fun hHeld => ?_); refine with_tabW laws_FnTwice.tab31 laws_FnTwice.bits31 (fun HT_ HW_ => ?_)
               generalize wr.drew = w76 at HO_3 HO_4 HO_5 HO_8 HO_16 BK257 HB HL259_2 HL260_2 HL261_2 HL262_2 HR259_2 HR260_2 HR261_2 HR262_2 hx259_0 hx259_1 hx259_2 hx260_0 hx260_1 hx260_2 hx261_0 hx261_1 hx261_2 hx262_0 hx262_1 hx262_2 hHeld ⊢
               refine pq_ HT_.out 0 118 m1_26 ?_
               refine pq_ HT_.out 1 119 m2_26 ?_
               refine pq_ HT_.out 2 120 m3_26 ?_
               refine pq_ HT_.out 3 121 m4_26 ?_
               refine pq_ HT_.out 5 123 n56 ?_
               refine pq_ HT_.out 6 124 n57 ?_
               refine pq_ HT_.out 7 125 n58 ?_
               refine pq_ HT_.out 8 126 n59 ?_
               refine tk_ HT_.out HW_.out 4 122 m9_26 rfl rfl (by kernel_rfl) (by rfl) (by rintro w' ⟨s0, s1, s2, s3, s4, s5, s6, s7, s8, s9, s10, s11, s12, s13⟩; go_simp; with_reducible rfl) hHeld (by simp only [sp_]; rfl) (fun _ _ _ h => h) ?_
               refine tk_ HT_.out HW_.out 9 127 m10_26 rfl rfl (by kernel_rfl) (by rfl) (by rintro w' ⟨s0, s1, s2, s3, s4, s5, s6, s7, s8, s9, s10, s11, s12, s13⟩; go_simp; with_reducible rfl) hHeld (by simp only [sp_]; rfl) (fun _ _ _ h => h) ?_
               refine pq_ HT_.out 10 128 m11_26 ?_
               refine pq_ HT_.out 11 129 m12_26 ?_
               refine pq_ HT_.out 12 130 m13_26 ?_
               refine pq_ HT_.out 13 131 m14_26 ?_
               refine pq_ HT_.out 14 132 m15_26 ?_
               refine pq_ HT_.out 15 133 m16_26 ?_
               refine pq_ HT_.out 18 136 n66 ?_
               refine pq_ HT_.out 19 137 n67 ?_
               refine pq_ HT_.out 20 138 n68 ?_
               refine pq_ HT_.out 21 139 n69 ?_
               refine tk_ HT_.out HW_.out 16 134 n122 rfl rfl (by kernel_rfl) (by rfl) (by rintro w' ⟨s0, s1, s2, s3, s4, s5, s6, s7, s8, s9, s10, s11, s12, s13⟩; go_simp; with_reducible rfl) hHeld (by simp only [sp_]; rfl) (fun _ _ _ h => h) ?_
               refine tk_ HT_.out HW_.out 17 135 m22_26 rfl rfl (by kernel_rfl) (by rfl) (by rintro w' ⟨s0, s1, s2, s3, s4, s5, s6, s7, s8, s9, s10, s11, s12, s13⟩; go_simp; with_reducible rfl) hHeld (by simp only [sp_]; rfl) (fun _ _ _ h => h) ?_
               refine tk_ HT_.out HW_.out 22 140 m23_26 rfl rfl (by kernel_rfl) (by rfl) (by rintro w' ⟨s0, s1, s2, s3, s4, s5, s6, s7, s8, s9, s10, s11, s12, s13⟩; go_simp; with_reducible rfl) hHeld (by simp only [sp_]; rfl) (fun _ _ _ h => h) ?_
               refine tk_ HT_.out HW_.out 23 141 m24_26 rfl rfl (by kernel_rfl) (by rfl) (by rintro w' ⟨s0, s1, s2, s3, s4, s5, s6, s7, s8, s9, s10, s11, s12, s13⟩; go_simp; with_reducible rfl) hHeld (by simp only [sp_]; rfl) (fun _ _ _ h => h) ?_
               refine pq_ HT_.out 24 142 m25_26 ?_
               refine pq_ HT_.out 25 143 m26_26 ?_
               refine done_ (done_of HT_.out (by kernel_rfl)) ?_
               try go_wp2
               go_roundg k3
               case measure => have := HK1.out; have := HJ53.out; have := HK3.out; omega
               case rel => exact ⟨(wrap64 (x19_3 + 1)), (by first | rfl | (simp; done) | (simp [*]; done)), H', ⟨by have := HK1.out; have := HJ53.out; have := HK3.out; omega⟩, ⟨by (with_reducible repeat (first | apply Kd.N_alloc | apply Kd.N_drewN | apply Kd.N_drew)); exact Kd.N_mono HO_3.out (fun _ hk => hk)⟩, ⟨rl HO_4.out⟩, ⟨rl HO_5.out⟩, ⟨by (with_reducible repeat (first | apply Kd.N_alloc | apply Kd.N_drewN | apply Kd.N_drew)); exact Kd.N_mono HO_8.out (fun _ hk => hk)⟩, ⟨by (with_reducible repeat (first | apply Kd.N_alloc | apply Kd.N_drewN | apply Kd.N_drew)); exact HO_16.out⟩, ⟨bk BK257.out⟩, ⟨by repeat with_reducible first | exact bl HB.out | refine below_set ?_ GE257.out | refine bq ?_⟩⟩
              ·
               rw [if_neg c74] at H
               have c74b0 : ((strOfNums ((rd_T41 t250 x19_3).f2)).toList == (strOfNums ((rd_T41 x8_1 x19_3).f2)).toList) = false := beq_eq_false_iff_ne.mpr c74
               have c74b1 : ((strOfNums ((rd_T41 t250 x19_3).f2)).toList != (strOfNums ((rd_T41 x8_1 x19_3).f2)).toList) = true := bne_iff_ne.mpr c74
               cases H.trans (congrArg some hr_)
             ·
              rw [if_neg c73] at H
              have c73b0 : (((rd_T41 t250 x19_3).f1) == ((rd_T41 x8_1 x19_3).f1)) = false := beq_eq_false_iff_ne.mpr c73
              have c73b1 : (((rd_T41 t250 x19_3).f1) != ((rd_T41 x8_1 x19_3).f1)) = true := bne_iff_ne.mpr c73
              cases H.trans (congrArg some hr_)
            ·
             rw [if_neg c72] at H
             exact absurd H (by simp)
           ·
            rw [if_neg c71] at H
            exact absurd H (by simp)
          ·
           rw [if_neg c70] at H
           have c70b0 : decide (x19_3 < (t250.length : Int)) = false := decide_eq_false c70
           clear c70
           have H' := Aside0.mk H
           clear H
           obtain ⟨Ao90, co90, eo90⟩ := Kd.N_slice HO_16.out
           subst eo90
           go_wp2
           go_loopg [20, 21] k3 (fun kq v20 v21 w' => ∃ (x20_4 : Int) (x21_4 : Int), v20 = .int .i64 x20_4 ∧ v21 = .int .i64 x21_4 ∧ Aside0 (laws_FnTwice.l2 kq t208 t209 x8_1 x9_1 t253 x20_4 x21_4 t254 t255 t256 = some r) ∧ Aside0 (kq ≤ k3) ∧ Aside0 (Kd.R Kd.bool 4 w' w.heap.size (fun k_ => some k_ ≠ (v214 : Value).ownBlock) v212 t208) ∧ Aside0 (Kd.R Kd.bool 4 w' w.heap.size (fun k_ => some k_ ≠ (v212 : Value).ownBlock) v214 t209) ∧ Aside0 (Kd.N k41 41 w' w.heap.size (fun k_ => some k_ ≠ (v212 : Value).ownBlock ∧ some k_ ≠ (v214 : Value).ownBlock ∧ k_ ≠ gb257) u8 x8_1) ∧ Aside0 (w'.heap[gb257]? = some (.cells #[.int .i64 t254, .int .i64 t255, .int .i64 t256] 25 (0, 0))) ∧ Aside0 (Below w.heap.size w w'))
           case atStart => exact ⟨(0), (wrap64 ((t207.length : Int) - 1)), (by first | rfl | (simp; done) | (simp [*]; done)), (by first | rfl | (simp; done) | (simp [*]; done)), H', ⟨Nat.le_refl _⟩, ⟨rl HO_4.out⟩, ⟨rl HO_5.out⟩, ⟨by (with_reducible repeat (first | apply Kd.N_alloc | apply Kd.N_drewN | apply Kd.N_drew)); exact Kd.N_mono HO_8.out (fun _ hk => ⟨hk.2.1, ⟨hk.2.2.1, hk.2.2.2.2⟩⟩)⟩, ⟨bk BK257.out⟩, ⟨by repeat with_reducible first | exact bl HB.out | refine below_set ?_ GE257.out | refine bq ?_⟩⟩
           case round =>
            clear H'
            try clear c2
            try clear p2
            try clear q2
            try clear hx2
            try clear p6
            try clear c7
            try clear hcv8
            try clear c25
            try clear p25
            try clear q25
            try clear hx25
            try clear c26
            try clear p26
            try clear q26
            try clear hx26
            try clear p64
            try clear c70
            try clear c70b0
            try clear c71
            try clear c72
            try clear c73
            try clear c73b0
            try clear c73b1
            try clear c74
            try clear c74b0
            try clear c74b1
            try clear hcv84
            try clear hcv85
            try clear hx259_0
            try clear hx259_1
            try clear hx259_2
            try clear hx260_0
            try clear hx260_1
            try clear hx260_2
            try clear hx261_0
            try clear hx261_1
            try clear hx261_2
            try clear hx262_0
            try clear hx262_1
            try clear hx262_2
            try clear p259
            try clear p260
            try clear p261
            try clear p262
            try clear q259
            try clear q260
            try clear q261
            try clear q262
            obtain ⟨x20_4, x21_4, rfl, rfl, HA, HK4, HO_4, HO_5, HO_8, BK257, HB⟩ := hrel
            cases gk with
            | zero => exact absurd HA.out (by simp [laws_FnTwice.l2])
            | succ k4 =>
             have H := HA.out
             clear HA
             simp only [laws_FnTwice.l2] at H
             have HC91 := Aside0.mk H
             clear H
             go_upto_region 35 with (fail)
             go_cut [160] (fun v160 wc => ∃ (kq : Nat) (x160_90 : Bool), v160 = .bool x160_90 ∧ Aside0 (laws_FnTwice.j7 kq t208 t209 x8_1 x9_1 t253 x20_4 x21_4 x160_90 t254 t255 t256 = some r) ∧ Aside0 (kq ≤ k4) ∧ Aside0 (Kd.R Kd.bool 4 wc w.heap.size (fun k_ => some k_ ≠ (v214 : Value).ownBlock) v212 t208) ∧ Aside0 (Kd.R Kd.bool 4 wc w.heap.size (fun k_ => some k_ ≠ (v212 : Value).ownBlock) v214 t209) ∧ Aside0 (Kd.N k41 41 wc w.heap.size (fun k_ => some k_ ≠ (v212 : Value).ownBlock ∧ some k_ ≠ (v214 : Value).ownBlock ∧ k_ ≠ gb257) u8 x8_1) ∧ Aside0 (wc.heap[gb257]? = some (.cells #[.int .i64 t254, .int .i64 t255, .int .i64 t256] 25 (0, 0))) ∧ Aside0 (Below w.heap.size w wc))
             case first =>
              have H := HC91.out
              clear HC91
              by_cases c92 : x21_4 ≥ 0
              ·
               rw [if_pos c92] at H
               have c92b0 : decide (0 ≤ x21_4) = true := decide_eq_true c92
               clear c92
               (first | rw [c92b0] | (simp only [i64_w, i32_w]; rw [c92b0]) | skip)
               by_cases c93 : 0 ≤ x21_4
               ·
                rw [if_pos c93] at H
                have c93b0 : decide (0 ≤ x21_4) = true := decide_eq_true c93
                clear c93
                by_cases c94 : x21_4 < (t208.length : Int)
                ·
                 rw [if_pos c94] at H
                 have c94b0 : decide (x21_4 < (t208.length : Int)) = true := decide_eq_true c94
                 clear c94
                 obtain ⟨bq95, hbq95⟩ : ∃ b_ : Bool, b_ = (rdOf false t208 x21_4) := ⟨_, rfl⟩
                 replace H : (if bq95 = true then (if x21_4 < (t209.length : Int) then (laws_FnTwice.j7 k4 t208 t209 x8_1 x9_1 t253 x20_4 x21_4 (rdOf false t209 x21_4) t254 t255 t256) else (none)) else (laws_FnTwice.j7 k4 t208 t209 x8_1 x9_1 t253 x20_4 x21_4 false t254 t255 t256)) = some r := by rw [← hbq95] at H; exact H
                 have Nbq95 := Aside0.mk hbq95
                 clear hbq95
                 by_cases c96 : bq95 = true
                 ·
                  subst c96
                  have H1 : (if x21_4 < (t209.length : Int) then (laws_FnTwice.j7 k4 t208 t209 x8_1 x9_1 t253 x20_4 x21_4 (rdOf false t209 x21_4) t254 t255 t256) else (none)) = some r := by rw [if_pos rfl] at H; exact H
                  clear H
                  have H := H1
                  clear H1
                  by_cases c97 : x21_4 < (t209.length : Int)
                  ·
                   rw [if_pos c97] at H
                   have c97b0 : decide (x21_4 < (t209.length : Int)) = true := decide_eq_true c97
                   clear c97
                   have H' := Aside0.mk H
                   clear H
                   obtain ⟨Ao98, co98, eo98⟩ := Kd.R_slice HO_4.out
                   subst eo98
                   have p263 : 0 ≤ (x21_4 : Int) := of_decide_eq_true (by first | (with_reducible assumption) | assumption)
                   have q263 : x21_4 < (t208.length : Int) := of_decide_eq_true (by first | (with_reducible assumption) | assumption)
                   obtain ⟨ad263, e263, hx263_0⟩ := Kd.at_bool (Kd.R_reads' HO_4.out).2.2 x21_4 p263 q263
                   (try rw [← Nbq95.out] at hx263_0)
                   cases e263
                   replace p263 := eq_true p263
                   replace q263 := eq_true q263
                   obtain ⟨Ao99, co99, eo99⟩ := Kd.R_slice HO_5.out
                   subst eo99
                   have p264 : 0 ≤ (x21_4 : Int) := of_decide_eq_true (by first | (with_reducible assumption) | assumption)
                   have q264 : x21_4 < (t209.length : Int) := of_decide_eq_true (by first | (with_reducible assumption) | assumption)
                   obtain ⟨ad264, e264, hx264_0⟩ := Kd.at_bool (Kd.R_reads' HO_5.out).2.2 x21_4 p264 q264
                   (try rw [← Nbq95.out] at hx264_0)
                   cases e264
                   replace p264 := eq_true p264
                   replace q264 := eq_true q264
                   go_wp2
                   go_meet
                   case rel => exact ⟨_, (rdOf false t209 x21_4), (by first | rfl | (simp; done) | (simp [*]; done)), H', ⟨by have := HK1.out; have := HJ53.out; have := HK3.out; have := HK4.out; first | omega | exact Nat.le_refl _⟩, ⟨rl HO_4.out⟩, ⟨rl HO_5.out⟩, ⟨by (with_reducible repeat (first | apply Kd.N_alloc | apply Kd.N_drewN | apply Kd.N_drew)); exact HO_8.out⟩, ⟨bk BK257.out⟩, ⟨by repeat with_reducible first | exact bl HB.out | refine below_set ?_ GE257.out | refine bq ?_⟩⟩
                  ·
                   rw [if_neg c97] at H
                   exact absurd H (by simp)
                 ·
                  replace c96 := Bool.eq_false_iff.mpr c96
                  subst c96
                  have H1 : (laws_FnTwice.j7 k4 t208 t209 x8_1 x9_1 t253 x20_4 x21_4 false t254 t255 t256) = some r := by rw [if_neg (show ¬ (false = true) by decide)] at H; exact H
                  clear H
                  have H := H1
                  clear H1
                  have H' := Aside0.mk H
                  clear H
                  obtain ⟨Ao100, co100, eo100⟩ := Kd.R_slice HO_4.out
                  subst eo100
                  have p263 : 0 ≤ (x21_4 : Int) := of_decide_eq_true (by first | (with_reducible assumption) | assumption)
                  have q263 : x21_4 < (t208.length : Int) := of_decide_eq_true (by first | (with_reducible assumption) | assumption)
                  obtain ⟨ad263, e263, hx263_0⟩ := Kd.at_bool (Kd.R_reads' HO_4.out).2.2 x21_4 p263 q263
                  (try rw [← Nbq95.out] at hx263_0)
                  cases e263
                  replace p263 := eq_true p263
                  replace q263 := eq_true q263
                  go_wp2
                  go_meet
                  case rel => exact ⟨_, (false), (by first | rfl | (simp; done) | (simp [*]; done)), H', ⟨by have := HK1.out; have := HJ53.out; have := HK3.out; have := HK4.out; first | omega | exact Nat.le_refl _⟩, ⟨rl HO_4.out⟩, ⟨rl HO_5.out⟩, ⟨by (with_reducible repeat (first | apply Kd.N_alloc | apply Kd.N_drewN | apply Kd.N_drew)); exact HO_8.out⟩, ⟨bk BK257.out⟩, ⟨by repeat with_reducible first | exact bl HB.out | refine below_set ?_ GE257.out | refine bq ?_⟩⟩
                ·
                 rw [if_neg c94] at H
                 exact absurd H (by simp)
               ·
                rw [if_neg c93] at H
                exact absurd H (by simp)
              ·
               rw [if_neg c92] at H
               have c92b0 : decide (0 ≤ x21_4) = false := decide_eq_false c92
               clear c92
               (first | rw [c92b0] | (simp only [i64_w, i32_w]; rw [c92b0]) | skip)
               have H' := Aside0.mk H
               clear H
               go_wp2
               go_meet
               case rel => exact ⟨_, (false), (by first | rfl | (simp; done) | (simp [*]; done)), H', ⟨by have := HK1.out; have := HJ53.out; have := HK3.out; have := HK4.out; first | omega | exact Nat.le_refl _⟩, ⟨rl HO_4.out⟩, ⟨rl HO_5.out⟩, ⟨by (with_reducible repeat (first | apply Kd.N_alloc | apply Kd.N_drewN | apply Kd.N_drew)); exact HO_8.out⟩, ⟨bk BK257.out⟩, ⟨by repeat with_reducible first | exact bl HB.out | refine below_set ?_ GE257.out | refine bq ?_⟩⟩
             case rest =>
              clear HC91
              try clear c2
              try clear p2
              try clear q2
              try clear hx2
              try clear p6
              try clear c7
              try clear hcv8
              try clear c9
              try clear q9
              try clear c25
              try clear p25
              try clear q25
              try clear hx25
              try clear c26
              try clear p26
              try clear q26
              try clear hx26
              try clear p64
              try clear c70
              try clear c70b0
              try clear c71
              try clear c72
              try clear c73
              try clear c73b0
              try clear c73b1
              try clear c74
              try clear c74b0
              try clear c74b1
              try clear hcv84
              try clear hcv85
              try clear c92
              try clear c92b0
              try clear c93
              try clear c93b0
              try clear c94
              try clear c94b0
              try clear q95
              try clear c96
              try clear c97
              try clear c97b0
              try clear hx259_0
              try clear hx259_1
              try clear hx259_2
              try clear hx260_0
              try clear hx260_1
              try clear hx260_2
              try clear hx261_0
              try clear hx261_1
              try clear hx261_2
              try clear hx262_0
              try clear hx262_1
              try clear hx262_2
              try clear hx263_0
              try clear hx264_0
              try clear p2
              try clear p25
              try clear p259
              try clear p26
              try clear p260
              try clear p261
              try clear p262
              try clear p263
              try clear p264
              try clear p6
              try clear p64
              try clear q2
              try clear q25
              try clear q259
              try clear q26
              try clear q260
              try clear q261
              try clear q262
              try clear q263
              try clear q264
              obtain ⟨kq, x160_90, rfl, HA, HJ90, HO_4, HO_5, HO_8, BK257, HB⟩ := hcut
              cases kq with
              | zero => exact absurd HA.out (by simp [laws_FnTwice.j7])
              | succ kj90 =>
               have H := HA.out
               clear HA
               simp only [laws_FnTwice.j7] at H
               by_cases c101 : x160_90 = true
               ·
                subst c101
                have H1 : (laws_FnTwice.l2 kj90 t208 t209 x8_1 x9_1 t253 (wrap64 (x20_4 + 1)) (wrap64 (x21_4 - 1)) t254 t255 t256) = some r := by rw [if_pos rfl] at H; exact H
                clear H
                have H := H1
                clear H1
                have H' := Aside0.mk H
                clear H
                go_wp2
                go_roundg kj90
                case measure => have := HK1.out; have := HJ53.out; have := HK3.out; have := HK4.out; have := HJ90.out; omega
                case rel => exact ⟨(wrap64 (x20_4 + 1)), (wrap64 (x21_4 - 1)), (by first | rfl | (simp; done) | (simp [*]; done)), (by first | rfl | (simp; done) | (simp [*]; done)), H', ⟨by have := HK1.out; have := HJ53.out; have := HK3.out; have := HK4.out; have := HJ90.out; omega⟩, ⟨rl HO_4.out⟩, ⟨rl HO_5.out⟩, ⟨by (with_reducible repeat (first | apply Kd.N_alloc | apply Kd.N_drewN | apply Kd.N_drew)); exact HO_8.out⟩, ⟨bk BK257.out⟩, ⟨by repeat with_reducible first | exact bl HB.out | refine below_set ?_ GE257.out | refine bq ?_⟩⟩
               ·
                replace c101 := Bool.eq_false_iff.mpr c101
                subst c101
                have H1 : (if (x8_1.length : Int) = 0 then (if t253 = 0 then (some (t255 == (-1))) else (some false)) else (if 0 ≤ (wrap64 ((x8_1.length : Int) - 1)) then (if (wrap64 ((x8_1.length : Int) - 1)) < (x8_1.length : Int) then ((impl_Accept.f kj90 t254 t255 t256 ((rd_T41 x8_1 (wrap64 ((x8_1.length : Int) - 1))).f0) ((rd_T41 x8_1 (wrap64 ((x8_1.length : Int) - 1))).f1) ((rd_T41 x8_1 (wrap64 ((x8_1.length : Int) - 1))).f2)).bind fun bt266 => (if t253 = (wrap64 (x9_1 - x20_4)) then (if t255 = (Int.tmod (wrap64 (((rd_T41 x8_1 (wrap64 ((x8_1.length : Int) - 1))).f1) + 1)) 256) then (if bt266.2.2.2.1 = true then (some false) else (some (bt266.1 == t254 && (bt266.2.1 == t255 && (bt266.2.2.1 == t256))))) else (some false)) else (some false))) else (none)) else (none))) = some r := by rw [if_neg (show ¬ (false = true) by decide)] at H; exact H
                clear H
                have H := H1
                clear H1
                by_cases c102 : (x8_1.length : Int) = 0
                ·
                 rw [if_pos c102] at H
                 have c102b0 : ((x8_1.length : Int) == 0) = true := beq_iff_eq.mpr c102
                 have c102b1 : ((x8_1.length : Int) != 0) = false := bne_eq_false_iff_eq.mpr c102
                 clear c102
                 by_cases c103 : t253 = 0
                 ·
                  rw [if_pos c103] at H
                  have c103b0 : (t253 == 0) = true := beq_iff_eq.mpr c103
                  have c103b1 : (t253 != 0) = false := bne_eq_false_iff_eq.mpr c103
                  clear c103
                  obtain rfl := Option.some.inj H
                  obtain ⟨Ao104, co104, eo104⟩ := Kd.N_slice HO_8.out
                  subst eo104
                  obtain ⟨hcz105_0, hcz105_1, hcz105_2⟩ := ck3 BK257.out
                  obtain ⟨hfz105_0, hfz105_1, hfz105_2⟩ := fz3 BK257.out
                  go_wp2
                  go_ret
                  exact ⟨by first | rfl | (simp [errW_none, errW_some] <;> rfl) | (simp [*, errW_none, errW_some] <;> rfl), by repeat with_reducible first | exact bl HB.out | refine below_set ?_ GE257.out | refine bq ?_⟩
                 ·
                  rw [if_neg c103] at H
                  have c103b0 : (t253 == 0) = false := beq_eq_false_iff_ne.mpr c103
                  have c103b1 : (t253 != 0) = true := bne_iff_ne.mpr c103
                  cases H.trans (congrArg some hr_)
                ·
                 rw [if_neg c102] at H
                 have c102b0 : ((x8_1.length : Int) == 0) = false := beq_eq_false_iff_ne.mpr c102
                 have c102b1 : ((x8_1.length : Int) != 0) = true := bne_iff_ne.mpr c102
                 have c102b2 : ¬ (x8_1 = []) := fun h_ => c102 (by rw [h_]; rfl)
                 obtain ⟨ji107, hji107⟩ : ∃ j_ : Int, (wrap64 ((x8_1.length : Int) - 1)) = j_ := ⟨_, rfl⟩
                 replace H : (if 0 ≤ (ji107) then (if (ji107) < (x8_1.length : Int) then ((impl_Accept.f kj90 t254 t255 t256 ((rd_T41 x8_1 (ji107)).f0) ((rd_T41 x8_1 (ji107)).f1) ((rd_T41 x8_1 (ji107)).f2)).bind fun bt266 => (if t253 = (wrap64 (x9_1 - x20_4)) then (if t255 = (Int.tmod (wrap64 (((rd_T41 x8_1 (ji107)).f1) + 1)) 256) then (if bt266.2.2.2.1 = true then (some false) else (some (bt266.1 == t254 && (bt266.2.1 == t255 && (bt266.2.2.1 == t256))))) else (some false)) else (some false))) else (none)) else (none)) = some r := by first | (rw [hji107] at H; exact H) | (simp only [hji107] at H ⊢; exact H)
                 have hji107w : (IntKind.i64.wrap ((x8_1.length : Int) - 1)) = ji107 := (i64_w _).trans hji107
                 by_cases c108 : 0 ≤ (ji107)
                 ·
                  rw [if_pos c108] at H
                  have c108b0 : decide (0 ≤ (ji107)) = true := decide_eq_true c108
                  clear c108
                  by_cases c109 : (ji107) < (x8_1.length : Int)
                  ·
                   rw [if_pos c109] at H
                   have c109b0 : decide ((ji107) < (x8_1.length : Int)) = true := decide_eq_true c109
                   clear c109
                   replace H := Option.bind_eq_some_iff.mp H
                   obtain ⟨⟨t266, t267, t268, t269, t270⟩, A1100, H⟩ := H
                   replace H : (if t253 = (wrap64 (x9_1 - x20_4)) then (if t255 = (Int.tmod (wrap64 (((rd_T41 x8_1 (ji107)).f1) + 1)) 256) then (if t269 = true then (some false) else (some (t266 == t254 && (t267 == t255 && (t268 == t256))))) else (some false)) else (some false)) = some r := H
                   have A110 := Aside0.mk A1100
                   clear A1100
                   by_cases c111 : t253 = (wrap64 (x9_1 - x20_4))
                   ·
                    rw [if_pos c111] at H
                    have c111b0 : (t253 == (wrap64 (x9_1 - x20_4))) = true := beq_iff_eq.mpr c111
                    have c111b1 : (t253 != (wrap64 (x9_1 - x20_4))) = false := bne_eq_false_iff_eq.mpr c111
                    clear c111
                    by_cases c112 : t255 = (Int.tmod (wrap64 (((rd_T41 x8_1 (ji107)).f1) + 1)) 256)
                    ·
                     rw [if_pos c112] at H
                     have c112b0 : (t255 == (Int.tmod (wrap64 (((rd_T41 x8_1 (ji107)).f1) + 1)) 256)) = true := beq_iff_eq.mpr c112
                     have c112b1 : (t255 != (Int.tmod (wrap64 (((rd_T41 x8_1 (ji107)).f1) + 1)) 256)) = false := bne_eq_false_iff_eq.mpr c112
                     clear c112
                     by_cases c113 : t269 = true
                     ·
                      subst c113
                      have H1 : (some false) = some r := by rw [if_pos rfl] at H; exact H
                      clear H
                      have H := H1
                      clear H1
                      cases H.trans (congrArg some hr_)
                     ·
                      replace c113 := Bool.eq_false_iff.mpr c113
                      subst c113
                      have H1 : (some (t266 == t254 && (t267 == t255 && (t268 == t256)))) = some r := by rw [if_neg (show ¬ (false = true) by decide)] at H; exact H
                      clear H
                      have H := H1
                      clear H1
                      obtain rfl := Option.some.inj H
                      obtain ⟨Ao124, co124, eo124⟩ := Kd.N_slice HO_8.out
                      subst eo124
                      try go_wp2
                      have n0_ := Aside0.mk (Kd.R_drew HO_4.out)
                      have n1_ := Aside0.mk (Kd.R_drew HO_5.out)
                      have n2_ := Aside0.mk (Kd.N_drew HO_8.out)
                      have n3_ := Aside0.mk (blk_drew BK257.out)
                      have n4_ := Aside0.mk (below_drew1 HB.out)
                      clear HO_4
                      clear HO_5
                      clear HO_8
                      clear BK257
                      clear HB
                      have HO_4 := n0_
                      have HO_5 := n1_
                      have HO_8 := n2_
                      have BK257 := n3_
                      have HB := n4_
                      clear n0_ n1_ n2_ n3_ n4_
                      have p265 : 0 ≤ ((ji107) : Int) := of_decide_eq_true (by first | (with_reducible assumption) | assumption)
                      have q265 : (ji107) < (x8_1.length : Int) := of_decide_eq_true (by first | (with_reducible assumption) | assumption)
                      obtain ⟨ad265, A265_2, c265_2, e265, hx265_0, hx265_1, hx265_2, hl265_2, hi265_2⟩ := at_T41 (Kd.N_reads' HO_8.out).2.2 (ji107) p265 q265
                      cases e265
                      obtain ⟨ce265, hce265, hMe265, hcc265⟩ := Kd.N_get HO_8.out z41 (ji107) p265 (by first | exact q265 | exact of_decide_eq_true (by first | (with_reducible assumption) | assumption) | (have e_ := (Kd.N_reads' HO_8.out).1; omega))
                      obtain ⟨ua265_2, uc265_2, rfl, ul265_2, ge265_2⟩ := k41_openF hMe265
                      have hv265_2 := hcc265 2 _ rfl
                      rw [add_field _ _ 2 (by omega)] at hv265_2
                      replace hv265_2 := Option.some.inj (hv265_2.symm.trans hx265_2)
                      injection hv265_2 with hva_ hvn_ hvc_
                      rw [hva_] at ge265_2
                      rw [hvc_] at ul265_2
                      have HL265_2 := Aside0.mk (show Kd.V (Kd.int .u8) 5 _ w.heap.size _ _ ((rd_T41 x8_1 (ji107)).f2) from Kd.V_mk ul265_2 ge265_2)
                      clear hva_ hvn_ hvc_ ge265_2 ul265_2
                      clear hcc265 hce265
                      have HR265_2 := Aside0.mk hi265_2
                      have HC265_2 := Aside0.mk hl265_2
                      clear hi265_2 hl265_2
                      replace p265 := eq_true p265
                      replace q265 := eq_true q265
                      refine start_ (n := 16) (S := fun w' => w'.cell? ⟨gb257, 0, none⟩ = some (.int .i64 t254) ∧ w'.cell? ⟨gb257, 1, none⟩ = some (.int .i64 t255) ∧ w'.cell? ⟨gb257, 2, none⟩ = some (.int .i64 t256) ∧ w'.cell? (ad265.add (((ji107)).toNat * 3)) = some (.int .i64 ((rd_T41 x8_1 (ji107)).f0)) ∧ w'.cell? ⟨(ad265.add (((ji107)).toNat * 3)).block, (ad265.add (((ji107)).toNat * 3)).off + 1, none⟩ = some (.int .i64 ((rd_T41 x8_1 (ji107)).f1)) ∧ w'.cell? ⟨(ad265.add (((ji107)).toNat * 3)).block, (ad265.add (((ji107)).toNat * 3)).off + 2, none⟩ = some (.slice A265_2 ((rd_T41 x8_1 (ji107)).f2).length c265_2)) (ds := []) m0_16 (by kernel_rfl) rfl rfl ⟨ck BK257.out 0 rfl, ck BK257.out 1 rfl, ck BK257.out 2 rfl, hx265_0, hx265_1, hx265_2⟩ (fun hHeld => ?_); refine with_tabW laws_FnTwice.tab40 laws_FnTwice.bits40 (fun HT_ HW_ => ?_)
                      generalize wc.drew = w125 at HO_4 HO_5 HO_8 BK257 HB HL265_2 HR265_2 hx265_0 hx265_1 hx265_2 hHeld ⊢
                      refine pq_ HT_.out 1 177 n74 ?_
                      refine pq_ HT_.out 2 178 n75 ?_
                      refine pq_ HT_.out 3 179 n76 ?_
                      refine pq_ HT_.out 4 180 n77 ?_
                      refine pq_ HT_.out 5 181 n78 ?_
                      refine tk_ HT_.out HW_.out 0 176 m6_16 rfl rfl (by kernel_rfl) (by rfl) (by rintro w' ⟨s0, s1, s2, s3, s4, s5⟩; go_simp; with_reducible rfl) hHeld (by simp only [sp_]; rfl) (fun _ _ _ h => h) ?_
                      refine tk_ HT_.out HW_.out 6 182 m7_16 rfl rfl (by kernel_rfl) (by rfl) (by rintro w' ⟨s0, s1, s2, s3, s4, s5⟩; go_simp; with_reducible rfl) hHeld (by simp only [sp_]; rfl) (fun _ _ _ h => h) ?_
                      refine join_ (σ := Nat) 3 m13_16 (fun s_ => [(183, .tuple #[.agg #[.int .i64 t266, .int .i64 t267, .int .i64 t268], .bool false, .int .i64 t270]), (22, .pointer (some ⟨s_, 0, none⟩)), (175, .tuple #[.agg #[.int .i64 t266, .int .i64 t267, .int .i64 t268], .bool false, .int .i64 t270]), (184, .agg #[.int .i64 t266, .int .i64 t267, .int .i64 t268]), (185, .bool false), (186, .int .i64 t270)]) (fun s_ w' => (w'.cell? ⟨gb257, 0, none⟩ = some (.int .i64 t254) ∧ w'.cell? ⟨gb257, 1, none⟩ = some (.int .i64 t255) ∧ w'.cell? ⟨gb257, 2, none⟩ = some (.int .i64 t256) ∧ w'.cell? (ad265.add (((ji107)).toNat * 3)) = some (.int .i64 ((rd_T41 x8_1 (ji107)).f0)) ∧ w'.cell? ⟨(ad265.add (((ji107)).toNat * 3)).block, (ad265.add (((ji107)).toNat * 3)).off + 1, none⟩ = some (.int .i64 ((rd_T41 x8_1 (ji107)).f1)) ∧ w'.cell? ⟨(ad265.add (((ji107)).toNat * 3)).block, (ad265.add (((ji107)).toNat * 3)).off + 2, none⟩ = some (.slice A265_2 ((rd_T41 x8_1 (ji107)).f2).length c265_2)) ∧ (Kd.V (Kd.int .u8) 5 w' w.heap.size (fun k_ => some k_ ≠ (v212 : Value).ownBlock ∧ some k_ ≠ (v214 : Value).ownBlock ∧ some k_ ≠ (.slice (some ad265) x8_1.length co124 : Value).ownBlock ∧ k_ ≠ gb257 ∧ k_ ≠ s_) (.slice A265_2 ((rd_T41 x8_1 (ji107)).f2).length c265_2) ((rd_T41 x8_1 (ji107)).f2)) ∧ (Kd.R Kd.bool 4 w' w.heap.size (fun k_ => some k_ ≠ (v214 : Value).ownBlock) v212 t208) ∧ (Kd.R Kd.bool 4 w' w.heap.size (fun k_ => some k_ ≠ (v212 : Value).ownBlock) v214 t209) ∧ (Kd.N k41 41 w' w.heap.size (fun k_ => some k_ ≠ (v212 : Value).ownBlock ∧ some k_ ≠ (v214 : Value).ownBlock ∧ k_ ≠ gb257 ∧ k_ ≠ s_) (.slice (some ad265) x8_1.length co124) x8_1) ∧ (w'.heap[gb257]? = some (.cells #[.int .i64 t254, .int .i64 t255, .int .i64 t256] 25 (0, 0))) ∧ (w'.heap[s_]? = some (.cells #[.int .i64 0, .int .i64 0, .int .i64 0] 25 (0, 0))) ∧ (w.heap.size ≤ s_) ∧ (w.heap.size ≤ s_) ∧ (gb257 ≠ s_) ∧ (s_ ≠ gb257) ∧ (Below w.heap.size w w')) ?_ ?_
                      rotate_left
                      ·
                       intro hCont
                       refine two_ (i := 7) (j := 12) (Ni := some 183) (Nj := some 22) m8_16 n132 rfl rfl rfl rfl (two_of HT_.out (by kernel_rfl)) (by decide) (by decide) (fun K hK => ?_) (fun K hK => ?_)
                       ·
                        skip
                        refine goes_ Try.func32 (by kernel_rfl) rfl #[.agg #[.int .i64 t254, .int .i64 t255, .int .i64 t256], .agg #[.int .i64 ((rd_T41 x8_1 (ji107)).f0), .int .i64 ((rd_T41 x8_1 (ji107)).f1), .slice A265_2 ((rd_T41 x8_1 (ji107)).f2).length c265_2]] (by rfl) rfl rfl (by (try simp only [List.map_toArray, List.map_cons, List.map_nil]); first | done | (simp only [hji107]; rfl) | rfl | (simp only [List.length_drop, List.length_take]; rfl)) ?_
                        with_reducible refine (impl_Accept.calls kj90 t254 t255 t256 ((rd_T41 x8_1 (ji107)).f0) ((rd_T41 x8_1 (ji107)).f1) _ _ ((rd_T41 x8_1 (ji107)).f2) t266 t267 t268 false t270 _ ?side1 ?side2 A110.out).mono ?_
                        (case side1 => repeat (first | exact (by repeat (first | (with_reducible exact HR265_2.out) | (with_reducible refine Kd.C_alloc ?_ _) | (with_reducible refine Kd.C_drewN ?_ _) | (with_reducible refine Kd.C_drew ?_) | exact HR265_2.out)) | (with_reducible refine Kd.C_alloc ?_ _) | (with_reducible refine Kd.C_drewN ?_ _) | (with_reducible refine Kd.C_drew ?_)))
                        (case side2 => exact HC265_2.out)
                        rintro e w126 ⟨rfl, hb⟩
                        have HS3_ := (hb.cell (World.block_lt_of_cell? _ _ (hHeld.2.2.2.1))).trans (hHeld.2.2.2.1)
                        have HS4_ := (hb.cell (World.block_lt_of_cell? _ _ (hHeld.2.2.2.2.1))).trans (hHeld.2.2.2.2.1)
                        have HS5_ := (hb.cell (World.block_lt_of_cell? _ _ (hHeld.2.2.2.2.2))).trans (hHeld.2.2.2.2.2)
                        refine ⟨_, rfl, ?_⟩
                        have n0_ := Aside0.mk (Kd.R_below (rl HO_4.out) hb)
                        have n1_ := Aside0.mk (Kd.R_below (rl HO_5.out) hb)
                        have n2_ := Aside0.mk (Kd.N_below (by (with_reducible repeat (first | apply Kd.N_alloc | apply Kd.N_drewN | apply Kd.N_drew)); exact HO_8.out) hb)
                        have n3_ := Aside0.mk (Kd.V_below (by (with_reducible repeat (first | apply Kd.V_alloc | apply Kd.V_drewN | apply Kd.V_drew)); exact HL265_2.out) hb)
                        have n4_ := Aside0.mk (blk_below (bk BK257.out) hb)
                        have n5_ := Aside0.mk (Kd.C_below (by repeat (first | (with_reducible exact HR265_2.out) | (with_reducible refine Kd.C_alloc ?_ _) | (with_reducible refine Kd.C_drewN ?_ _) | (with_reducible refine Kd.C_drew ?_) | exact HR265_2.out)) hb)
                        have n6_ := Aside0.mk (below_step (by repeat with_reducible first | exact bl HB.out | refine below_set ?_ GE257.out | refine bq ?_) hb)
                        clear HO_4
                        clear HO_5
                        clear HO_8
                        clear HL265_2
                        clear BK257
                        clear HR265_2
                        clear HB
                        have HO_4 := n0_
                        have HO_5 := n1_
                        have HO_8 := n2_
                        have HL265_2 := n3_
                        have BK257 := n4_
                        have HR265_2 := n5_
                        have HB := n6_
                        clear n0_ n1_ n2_ n3_ n4_ n5_ n6_
                        (try clear hb)
                        (try clear hb2)
                        (try clear hk)
                        (try clear hi)
                        refine hK.out _ _ ⟨ck BK257.out 0 rfl, ck BK257.out 1 rfl, ck BK257.out 2 rfl, HS3_, HS4_, HS5_⟩ (fun hHeld => ?_)
                        clear hK K
                        refine norm_ (a' := ?_) ?_ ?_
                        rotate_left
                        ·
                         show Act.put _ (some 183) _ = _
                         simp only [sp_]
                         rfl
                        refine pq_ HT_.out 8 175 m9_16 ?_
                        refine pq_ HT_.out 9 184 m10_16 ?_
                        refine pq_ HT_.out 10 185 m11_16 ?_
                        refine pq_ HT_.out 11 186 m12_16 ?_
                        refine one_ (i := 12) (N := some 22) m13_16 rfl rfl (one_of HT_.out (by kernel_rfl)) (by decide) (fun K hK => ?_)
                        refine box_step ?hg (N := 22) ?hd (cs := #[.int .i64 0, .int .i64 0, .int .i64 0]) (t := 25) ?hr ?_; (case hd => rfl); (case hg => rfl); (case hr => first | (go_simp; done) | (go_simp; rfl))
                        intro gb271 hg w127 hbox hb
                        have HS3_ := (hb.cell (World.block_lt_of_cell? _ _ (hHeld.2.2.2.1))).trans (hHeld.2.2.2.1)
                        have HS4_ := (hb.cell (World.block_lt_of_cell? _ _ (hHeld.2.2.2.2.1))).trans (hHeld.2.2.2.2.1)
                        have HS5_ := (hb.cell (World.block_lt_of_cell? _ _ (hHeld.2.2.2.2.2))).trans (hHeld.2.2.2.2.2)
                        have n0_ := Aside0.mk (Kd.R_below (rl HO_4.out) hb)
                        have n1_ := Aside0.mk (Kd.R_below (rl HO_5.out) hb)
                        have n2_ := Aside0.mk (Kd.N_below (Kd.N_elderB (by (with_reducible repeat (first | apply Kd.N_alloc | apply Kd.N_drewN | apply Kd.N_drew)); exact HO_8.out) gb271 (Nat.le_of_eq hg.symm)) hb)
                        have n3_ := Aside0.mk (Kd.V_below (Kd.V_elderB (by (with_reducible repeat (first | apply Kd.V_alloc | apply Kd.V_drewN | apply Kd.V_drew)); exact HL265_2.out) gb271 (Nat.le_of_eq hg.symm)) hb)
                        have n4_ := Aside0.mk (blk_below (bk BK257.out) hb)
                        have n5_ := Aside0.mk (Kd.C_below (by repeat (first | (with_reducible exact HR265_2.out) | (with_reducible refine Kd.C_alloc ?_ _) | (with_reducible refine Kd.C_drewN ?_ _) | (with_reducible refine Kd.C_drew ?_) | exact HR265_2.out)) hb)
                        have n6_ := Aside0.mk (below_step (by repeat with_reducible first | exact bl HB.out | refine below_set ?_ GE257.out | refine bq ?_) hb)
                        have n7_ := Aside0.mk (hbox)
                        have n8_ := Aside0.mk ((by rw [hg]; exact (below_size (by repeat with_reducible first | exact bl HB.out | refine below_set ?_ GE257.out | refine bq ?_)) : w.heap.size ≤ gb271))
                        have n9_ := Aside0.mk ((by rw [hg]; exact (below_size (by repeat with_reducible first | exact bl HB.out | refine below_set ?_ GE257.out | refine bq ?_)) : w.heap.size ≤ gb271))
                        have n10_ := Aside0.mk ((by rw [hg]; exact Nat.ne_of_lt (blk_lt (g := gb257) (o := .cells #[.int .i64 t254, .int .i64 t255, .int .i64 t256] 25 (0, 0)) (bk BK257.out)) : gb257 ≠ gb271))
                        have n11_ := Aside0.mk ((by rw [hg]; exact Nat.ne_of_gt (blk_lt (g := gb257) (o := .cells #[.int .i64 t254, .int .i64 t255, .int .i64 t256] 25 (0, 0)) (bk BK257.out)) : gb271 ≠ gb257))
                        clear HO_4
                        clear HO_5
                        clear HO_8
                        clear HL265_2
                        clear BK257
                        clear HR265_2
                        clear HB
                        have HO_4 := n0_
                        have HO_5 := n1_
                        have HO_8 := n2_
                        have HL265_2 := n3_
                        have BK257 := n4_
                        have HR265_2 := n5_
                        have HB := n6_
                        have BK271 := n7_
                        have GW271 := n8_
                        have GE271 := n9_
                        have NB257_271 := n10_
                        have NB271_257 := n11_
                        clear n0_ n1_ n2_ n3_ n4_ n5_ n6_ n7_ n8_ n9_ n10_ n11_
                        clear hb hbox hg
                        refine hK.out _ _ ⟨ck BK257.out 0 rfl, ck BK257.out 1 rfl, ck BK257.out 2 rfl, HS3_, HS4_, HS5_⟩ (fun hHeld => ?_)
                        clear hK K
                        refine norm_ (a' := ?_) ?_ ?_
                        rotate_left
                        ·
                         show Act.put _ (some 22) _ = _
                         simp only [sp_]
                         rfl
                        exact norm_ (by simp only [putAll, Act.put, List.setIfInBounds_toArray, List.set_cons_zero, List.set_cons_succ]) (hCont (gb271) _ ⟨hHeld, (by (with_reducible repeat (first | apply Kd.V_alloc | apply Kd.V_drewN | apply Kd.V_drew)); exact Kd.V_mono HL265_2.out (fun _ hk => ⟨hk.1.1.1, ⟨hk.1.1.2.1, ⟨hk.1.2, ⟨hk.1.1.2.2, hk.2⟩⟩⟩⟩)), (rl HO_4.out), (rl HO_5.out), (by (with_reducible repeat (first | apply Kd.N_alloc | apply Kd.N_drewN | apply Kd.N_drew)); exact Kd.N_mono HO_8.out (fun _ hk => ⟨hk.1.1, ⟨hk.1.2.1, ⟨hk.1.2.2, hk.2⟩⟩⟩)), (bk BK257.out), (bk BK271.out), GW271.out, GE271.out, NB257_271.out, NB271_257.out, (by repeat with_reducible first | exact bl HB.out | refine below_set ?_ GE257.out | refine below_set ?_ GE271.out | refine bq ?_)⟩)
                       ·
                        skip
                        refine box_step ?hg (N := 22) ?hd (cs := #[.int .i64 0, .int .i64 0, .int .i64 0]) (t := 25) ?hr ?_; (case hd => rfl); (case hg => rfl); (case hr => first | (go_simp; done) | (go_simp; rfl))
                        intro gb271 hg w126 hbox hb
                        have HS3_ := (hb.cell (World.block_lt_of_cell? _ _ (hHeld.2.2.2.1))).trans (hHeld.2.2.2.1)
                        have HS4_ := (hb.cell (World.block_lt_of_cell? _ _ (hHeld.2.2.2.2.1))).trans (hHeld.2.2.2.2.1)
                        have HS5_ := (hb.cell (World.block_lt_of_cell? _ _ (hHeld.2.2.2.2.2))).trans (hHeld.2.2.2.2.2)
                        have n0_ := Aside0.mk (Kd.R_below (rl HO_4.out) hb)
                        have n1_ := Aside0.mk (Kd.R_below (rl HO_5.out) hb)
                        have n2_ := Aside0.mk (Kd.N_below (Kd.N_elderB (by (with_reducible repeat (first | apply Kd.N_alloc | apply Kd.N_drewN | apply Kd.N_drew)); exact HO_8.out) gb271 (Nat.le_of_eq hg.symm)) hb)
                        have n3_ := Aside0.mk (Kd.V_below (Kd.V_elderB (by (with_reducible repeat (first | apply Kd.V_alloc | apply Kd.V_drewN | apply Kd.V_drew)); exact HL265_2.out) gb271 (Nat.le_of_eq hg.symm)) hb)
                        have n4_ := Aside0.mk (blk_below (bk BK257.out) hb)
                        have n5_ := Aside0.mk (Kd.C_below (by repeat (first | (with_reducible exact HR265_2.out) | (with_reducible refine Kd.C_alloc ?_ _) | (with_reducible refine Kd.C_drewN ?_ _) | (with_reducible refine Kd.C_drew ?_) | exact HR265_2.out)) hb)
                        have n6_ := Aside0.mk (below_step (by repeat with_reducible first | exact bl HB.out | refine below_set ?_ GE257.out | refine bq ?_) hb)
                        have n7_ := Aside0.mk (hbox)
                        have n8_ := Aside0.mk ((by rw [hg]; exact (below_size (by repeat with_reducible first | exact bl HB.out | refine below_set ?_ GE257.out | refine bq ?_)) : w.heap.size ≤ gb271))
                        have n9_ := Aside0.mk ((by rw [hg]; exact (below_size (by repeat with_reducible first | exact bl HB.out | refine below_set ?_ GE257.out | refine bq ?_)) : w.heap.size ≤ gb271))
                        have n10_ := Aside0.mk ((by rw [hg]; exact Nat.ne_of_lt (blk_lt (g := gb257) (o := .cells #[.int .i64 t254, .int .i64 t255, .int .i64 t256] 25 (0, 0)) (bk BK257.out)) : gb257 ≠ gb271))
                        have n11_ := Aside0.mk ((by rw [hg]; exact Nat.ne_of_gt (blk_lt (g := gb257) (o := .cells #[.int .i64 t254, .int .i64 t255, .int .i64 t256] 25 (0, 0)) (bk BK257.out)) : gb271 ≠ gb257))
                        clear HO_4
                        clear HO_5
                        clear HO_8
                        clear HL265_2
                        clear BK257
                        clear HR265_2
                        clear HB
                        have HO_4 := n0_
                        have HO_5 := n1_
                        have HO_8 := n2_
                        have HL265_2 := n3_
                        have BK257 := n4_
                        have HR265_2 := n5_
                        have HB := n6_
                        have BK271 := n7_
                        have GW271 := n8_
                        have GE271 := n9_
                        have NB257_271 := n10_
                        have NB271_257 := n11_
                        clear n0_ n1_ n2_ n3_ n4_ n5_ n6_ n7_ n8_ n9_ n10_ n11_
                        clear hb hbox hg
                        refine hK.out _ _ ⟨ck BK257.out 0 rfl, ck BK257.out 1 rfl, ck BK257.out 2 rfl, HS3_, HS4_, HS5_⟩ (fun hHeld => ?_)
                        clear hK K
                        refine norm_ (a' := ?_) ?_ ?_
                        rotate_left
                        ·
                         show Act.put _ (some 22) _ = _
                         simp only [sp_]
                         rfl
                        refine one_ (i := 7) (N := some 183) n133 rfl rfl (one_of HT_.out (by kernel_rfl)) (by decide) (fun K hK => ?_)
                        refine goes_ Try.func32 (by kernel_rfl) rfl #[.agg #[.int .i64 t254, .int .i64 t255, .int .i64 t256], .agg #[.int .i64 ((rd_T41 x8_1 (ji107)).f0), .int .i64 ((rd_T41 x8_1 (ji107)).f1), .slice A265_2 ((rd_T41 x8_1 (ji107)).f2).length c265_2]] (by rfl) rfl rfl (by (try simp only [List.map_toArray, List.map_cons, List.map_nil]); first | done | (simp only [hji107]; rfl) | rfl | (simp only [List.length_drop, List.length_take]; rfl)) ?_
                        with_reducible refine (impl_Accept.calls kj90 t254 t255 t256 ((rd_T41 x8_1 (ji107)).f0) ((rd_T41 x8_1 (ji107)).f1) _ _ ((rd_T41 x8_1 (ji107)).f2) t266 t267 t268 false t270 _ ?side1 ?side2 A110.out).mono ?_
                        (case side1 => repeat (first | exact (by repeat (first | (with_reducible exact HR265_2.out) | (with_reducible refine Kd.C_alloc ?_ _) | (with_reducible refine Kd.C_drewN ?_ _) | (with_reducible refine Kd.C_drew ?_) | exact HR265_2.out)) | (with_reducible refine Kd.C_alloc ?_ _) | (with_reducible refine Kd.C_drewN ?_ _) | (with_reducible refine Kd.C_drew ?_)))
                        (case side2 => exact HC265_2.out)
                        rintro e w127 ⟨rfl, hb⟩
                        have HS3_ := (hb.cell (World.block_lt_of_cell? _ _ (hHeld.2.2.2.1))).trans (hHeld.2.2.2.1)
                        have HS4_ := (hb.cell (World.block_lt_of_cell? _ _ (hHeld.2.2.2.2.1))).trans (hHeld.2.2.2.2.1)
                        have HS5_ := (hb.cell (World.block_lt_of_cell? _ _ (hHeld.2.2.2.2.2))).trans (hHeld.2.2.2.2.2)
                        refine ⟨_, rfl, ?_⟩
                        have n0_ := Aside0.mk (Kd.R_below (rl HO_4.out) hb)
                        have n1_ := Aside0.mk (Kd.R_below (rl HO_5.out) hb)
                        have n2_ := Aside0.mk (Kd.N_below (by (with_reducible repeat (first | apply Kd.N_alloc | apply Kd.N_drewN | apply Kd.N_drew)); exact HO_8.out) hb)
                        have n3_ := Aside0.mk (Kd.V_below (by (with_reducible repeat (first | apply Kd.V_alloc | apply Kd.V_drewN | apply Kd.V_drew)); exact HL265_2.out) hb)
                        have n4_ := Aside0.mk (blk_below (bk BK257.out) hb)
                        have n5_ := Aside0.mk (Kd.C_below (by repeat (first | (with_reducible exact HR265_2.out) | (with_reducible refine Kd.C_alloc ?_ _) | (with_reducible refine Kd.C_drewN ?_ _) | (with_reducible refine Kd.C_drew ?_) | exact HR265_2.out)) hb)
                        have n6_ := Aside0.mk (blk_below (bk BK271.out) hb)
                        have n7_ := Aside0.mk (below_step (by repeat with_reducible first | exact bl HB.out | refine below_set ?_ GE257.out | refine below_set ?_ GE271.out | refine bq ?_) hb)
                        clear HO_4
                        clear HO_5
                        clear HO_8
                        clear HL265_2
                        clear BK257
                        clear HR265_2
                        clear BK271
                        clear HB
                        have HO_4 := n0_
                        have HO_5 := n1_
                        have HO_8 := n2_
                        have HL265_2 := n3_
                        have BK257 := n4_
                        have HR265_2 := n5_
                        have BK271 := n6_
                        have HB := n7_
                        clear n0_ n1_ n2_ n3_ n4_ n5_ n6_ n7_
                        (try clear hb)
                        (try clear hb2)
                        (try clear hk)
                        (try clear hi)
                        refine hK.out _ _ ⟨ck BK257.out 0 rfl, ck BK257.out 1 rfl, ck BK257.out 2 rfl, HS3_, HS4_, HS5_⟩ (fun hHeld => ?_)
                        clear hK K
                        refine norm_ (a' := ?_) ?_ ?_
                        rotate_left
                        ·
                         show Act.put _ (some 183) _ = _
                         simp only [sp_]
                         rfl
                        refine pq_ HT_.out 8 175 n83 ?_
                        refine pq_ HT_.out 9 184 n84 ?_
                        refine pq_ HT_.out 10 185 n85 ?_
                        refine pq_ HT_.out 11 186 m13_16 ?_
                        exact norm_ (by simp only [putAll, Act.put, List.setIfInBounds_toArray, List.set_cons_zero, List.set_cons_succ]) (hCont (gb271) _ ⟨hHeld, (by (with_reducible repeat (first | apply Kd.V_alloc | apply Kd.V_drewN | apply Kd.V_drew)); exact Kd.V_mono HL265_2.out (fun _ hk => ⟨hk.1.1.1, ⟨hk.1.1.2.1, ⟨hk.1.2, ⟨hk.1.1.2.2, hk.2⟩⟩⟩⟩)), (rl HO_4.out), (rl HO_5.out), (by (with_reducible repeat (first | apply Kd.N_alloc | apply Kd.N_drewN | apply Kd.N_drew)); exact Kd.N_mono HO_8.out (fun _ hk => ⟨hk.1.1, ⟨hk.1.2.1, ⟨hk.1.2.2, hk.2⟩⟩⟩)), (bk BK257.out), (bk BK271.out), GW271.out, GE271.out, NB257_271.out, NB271_257.out, (by repeat with_reducible first | exact bl HB.out | refine below_set ?_ GE257.out | refine below_set ?_ GE271.out | refine bq ?_)⟩)
                      rintro gb271 w128 ⟨hS_, h0_, h1_, h2_, h3_, h4_, h5_, h6_, h7_, h8_, h9_, h10_⟩
                      have n0_ : Aside0 (Kd.V (Kd.int .u8) 5 w128 w.heap.size (fun k_ => some k_ ≠ (v212 : Value).ownBlock ∧ some k_ ≠ (v214 : Value).ownBlock ∧ some k_ ≠ (.slice (some ad265) x8_1.length co124 : Value).ownBlock ∧ k_ ≠ gb257 ∧ k_ ≠ gb271) (.slice A265_2 ((rd_T41 x8_1 (ji107)).f2).length c265_2) ((rd_T41 x8_1 (ji107)).f2)) := ⟨h0_⟩
                      have n1_ : Aside0 (Kd.R Kd.bool 4 w128 w.heap.size (fun k_ => some k_ ≠ (v214 : Value).ownBlock) v212 t208) := ⟨h1_⟩
                      have n2_ : Aside0 (Kd.R Kd.bool 4 w128 w.heap.size (fun k_ => some k_ ≠ (v212 : Value).ownBlock) v214 t209) := ⟨h2_⟩
                      have n3_ : Aside0 (Kd.N k41 41 w128 w.heap.size (fun k_ => some k_ ≠ (v212 : Value).ownBlock ∧ some k_ ≠ (v214 : Value).ownBlock ∧ k_ ≠ gb257 ∧ k_ ≠ gb271) (.slice (some ad265) x8_1.length co124) x8_1) := ⟨h3_⟩
                      have n4_ : Aside0 (w128.heap[gb257]? = some (.cells #[.int .i64 t254, .int .i64 t255, .int .i64 t256] 25 (0, 0))) := ⟨h4_⟩
                      have n5_ : Aside0 (w128.heap[gb271]? = some (.cells #[.int .i64 0, .int .i64 0, .int .i64 0] 25 (0, 0))) := ⟨h5_⟩
                      have n6_ : Aside0 (w.heap.size ≤ gb271) := ⟨h6_⟩
                      have n7_ : Aside0 (w.heap.size ≤ gb271) := ⟨h7_⟩
                      have n8_ : Aside0 (gb257 ≠ gb271) := ⟨h8_⟩
                      have n9_ : Aside0 (gb271 ≠ gb257) := ⟨h9_⟩
                      have n10_ : Aside0 (Below w.heap.size w w128) := ⟨h10_⟩
                      clear HO_4
                      clear HO_5
                      clear HO_8
                      clear BK257
                      clear HB
                      clear h0_ h1_ h2_ h3_ h4_ h5_ h6_ h7_ h8_ h9_ h10_
                      have HL265_2 := n0_
                      have HO_4 := n1_
                      have HO_5 := n2_
                      have HO_8 := n3_
                      have BK257 := n4_
                      have BK271 := n5_
                      have GW271 := n6_
                      have GE271 := n7_
                      have NB257_271 := n8_
                      have NB271_257 := n9_
                      have HB := n10_
                      clear n0_ n1_ n2_ n3_ n4_ n5_ n6_ n7_ n8_ n9_ n10_
                      have hHeld : w128.cell? ⟨gb257, 0, none⟩ = some (.int .i64 t254) ∧ w128.cell? ⟨gb257, 1, none⟩ = some (.int .i64 t255) ∧ w128.cell? ⟨gb257, 2, none⟩ = some (.int .i64 t256) ∧ w128.cell? (ad265.add (((ji107)).toNat * 3)) = some (.int .i64 ((rd_T41 x8_1 (ji107)).f0)) ∧ w128.cell? ⟨(ad265.add (((ji107)).toNat * 3)).block, (ad265.add (((ji107)).toNat * 3)).off + 1, none⟩ = some (.int .i64 ((rd_T41 x8_1 (ji107)).f1)) ∧ w128.cell? ⟨(ad265.add (((ji107)).toNat * 3)).block, (ad265.add (((ji107)).toNat * 3)).off + 2, none⟩ = some (.slice A265_2 ((rd_T41 x8_1 (ji107)).f2).length c265_2) := hS_
                      refine norm_ (a' := ?_) ?_ ?_
                      rotate_left
                      ·
                       simp only [putAll, Act.put, List.setIfInBounds_toArray, List.set_cons_zero, List.set_cons_succ]
                       rfl
                      refine one_ (i := 13) (N := none) m14_16 rfl rfl (one_of HT_.out (by kernel_rfl)) (by decide) (fun K hK => ?_)
                      have hs129 : w128.cell? ⟨gb271, 0, none⟩ = some (.int .i64 0) := ck BK271.out 0 rfl
                      have hfs129 := blk_frozen BK271.out 0
                      have hns129_0 := NB257_271.out
                      have hms129_0 := NB271_257.out
                      have hs130 : w128.cell? ⟨gb271, 1, none⟩ = some (.int .i64 0) := ck BK271.out 1 rfl
                      have hfs130 := blk_frozen BK271.out 1
                      have hns130_0 := NB257_271.out
                      have hms130_0 := NB271_257.out
                      have hs131 : w128.cell? ⟨gb271, 2, none⟩ = some (.int .i64 0) := ck BK271.out 2 rfl
                      have hfs131 := blk_frozen BK271.out 2
                      have hns131_0 := NB257_271.out
                      have hms131_0 := NB271_257.out
                      refine skip_ (w1 := ?_) (by rfl) rfl ?_ ?_
                      rotate_left
                      ·
                       go_simp
                       rfl
                      refine hK.out _ _ ⟨((cell_far (p := ⟨gb271, _, none⟩) NB257_271.out _).trans (((cell_far (p := ⟨gb271, _, none⟩) NB257_271.out _).trans (((cell_far (p := ⟨gb271, _, none⟩) NB257_271.out _).trans (hHeld.1)))))), ((cell_far (p := ⟨gb271, _, none⟩) NB257_271.out _).trans (((cell_far (p := ⟨gb271, _, none⟩) NB257_271.out _).trans (((cell_far (p := ⟨gb271, _, none⟩) NB257_271.out _).trans (hHeld.2.1)))))), ((cell_far (p := ⟨gb271, _, none⟩) NB257_271.out _).trans (((cell_far (p := ⟨gb271, _, none⟩) NB257_271.out _).trans (((cell_far (p := ⟨gb271, _, none⟩) NB257_271.out _).trans (hHeld.2.2.1)))))), ((cell_far (p := ⟨gb271, _, none⟩) (by first | exact Kd.own_blk (Kd.N_away HO_8.out (fun _ hk => hk.2.2.2)) | (rw [add_block]; exact Kd.own_blk (Kd.N_away HO_8.out (fun _ hk => hk.2.2.2))) | (show (Addr.add _ _).block ≠ _; rw [add_block]; exact Kd.own_blk (Kd.N_away HO_8.out (fun _ hk => hk.2.2.2))) | (dsimp only; exact Kd.own_blk (Kd.N_away HO_8.out (fun _ hk => hk.2.2.2)))) _).trans (((cell_far (p := ⟨gb271, _, none⟩) (by first | exact Kd.own_blk (Kd.N_away HO_8.out (fun _ hk => hk.2.2.2)) | (rw [add_block]; exact Kd.own_blk (Kd.N_away HO_8.out (fun _ hk => hk.2.2.2))) | (show (Addr.add _ _).block ≠ _; rw [add_block]; exact Kd.own_blk (Kd.N_away HO_8.out (fun _ hk => hk.2.2.2))) | (dsimp only; exact Kd.own_blk (Kd.N_away HO_8.out (fun _ hk => hk.2.2.2)))) _).trans (((cell_far (p := ⟨gb271, _, none⟩) (by first | exact Kd.own_blk (Kd.N_away HO_8.out (fun _ hk => hk.2.2.2)) | (rw [add_block]; exact Kd.own_blk (Kd.N_away HO_8.out (fun _ hk => hk.2.2.2))) | (show (Addr.add _ _).block ≠ _; rw [add_block]; exact Kd.own_blk (Kd.N_away HO_8.out (fun _ hk => hk.2.2.2))) | (dsimp only; exact Kd.own_blk (Kd.N_away HO_8.out (fun _ hk => hk.2.2.2)))) _).trans (hHeld.2.2.2.1)))))), ((cell_far (p := ⟨gb271, _, none⟩) (by first | exact Kd.own_blk (Kd.N_away HO_8.out (fun _ hk => hk.2.2.2)) | (rw [add_block]; exact Kd.own_blk (Kd.N_away HO_8.out (fun _ hk => hk.2.2.2))) | (show (Addr.add _ _).block ≠ _; rw [add_block]; exact Kd.own_blk (Kd.N_away HO_8.out (fun _ hk => hk.2.2.2))) | (dsimp only; exact Kd.own_blk (Kd.N_away HO_8.out (fun _ hk => hk.2.2.2)))) _).trans (((cell_far (p := ⟨gb271, _, none⟩) (by first | exact Kd.own_blk (Kd.N_away HO_8.out (fun _ hk => hk.2.2.2)) | (rw [add_block]; exact Kd.own_blk (Kd.N_away HO_8.out (fun _ hk => hk.2.2.2))) | (show (Addr.add _ _).block ≠ _; rw [add_block]; exact Kd.own_blk (Kd.N_away HO_8.out (fun _ hk => hk.2.2.2))) | (dsimp only; exact Kd.own_blk (Kd.N_away HO_8.out (fun _ hk => hk.2.2.2)))) _).trans (((cell_far (p := ⟨gb271, _, none⟩) (by first | exact Kd.own_blk (Kd.N_away HO_8.out (fun _ hk => hk.2.2.2)) | (rw [add_block]; exact Kd.own_blk (Kd.N_away HO_8.out (fun _ hk => hk.2.2.2))) | (show (Addr.add _ _).block ≠ _; rw [add_block]; exact Kd.own_blk (Kd.N_away HO_8.out (fun _ hk => hk.2.2.2))) | (dsimp only; exact Kd.own_blk (Kd.N_away HO_8.out (fun _ hk => hk.2.2.2)))) _).trans (hHeld.2.2.2.2.1)))))), ((cell_far (p := ⟨gb271, _, none⟩) (by first | exact Kd.own_blk (Kd.N_away HO_8.out (fun _ hk => hk.2.2.2)) | (rw [add_block]; exact Kd.own_blk (Kd.N_away HO_8.out (fun _ hk => hk.2.2.2))) | (show (Addr.add _ _).block ≠ _; rw [add_block]; exact Kd.own_blk (Kd.N_away HO_8.out (fun _ hk => hk.2.2.2))) | (dsimp only; exact Kd.own_blk (Kd.N_away HO_8.out (fun _ hk => hk.2.2.2)))) _).trans (((cell_far (p := ⟨gb271, _, none⟩) (by first | exact Kd.own_blk (Kd.N_away HO_8.out (fun _ hk => hk.2.2.2)) | (rw [add_block]; exact Kd.own_blk (Kd.N_away HO_8.out (fun _ hk => hk.2.2.2))) | (show (Addr.add _ _).block ≠ _; rw [add_block]; exact Kd.own_blk (Kd.N_away HO_8.out (fun _ hk => hk.2.2.2))) | (dsimp only; exact Kd.own_blk (Kd.N_away HO_8.out (fun _ hk => hk.2.2.2)))) _).trans (((cell_far (p := ⟨gb271, _, none⟩) (by first | exact Kd.own_blk (Kd.N_away HO_8.out (fun _ hk => hk.2.2.2)) | (rw [add_block]; exact Kd.own_blk (Kd.N_away HO_8.out (fun _ hk => hk.2.2.2))) | (show (Addr.add _ _).block ≠ _; rw [add_block]; exact Kd.own_blk (Kd.N_away HO_8.out (fun _ hk => hk.2.2.2))) | (dsimp only; exact Kd.own_blk (Kd.N_away HO_8.out (fun _ hk => hk.2.2.2)))) _).trans (hHeld.2.2.2.2.2))))))⟩ (fun hHeld => ?_)
                      clear hK K
                      refine pq_ HT_.out 14 23 m15_16 ?_
                      refine pq_ HT_.out 15 24 m16_16 ?_
                      refine done_ (done_of HT_.out (by kernel_rfl)) ?_
                      try go_wp2
                      have n0_ : Aside0 (Kd.R Kd.bool 4 (((w128.setCell ⟨gb271, 0, none⟩ (.int .i64 t266)).setCell ⟨gb271, 1, none⟩ (.int .i64 t267)).setCell ⟨gb271, 2, none⟩ (.int .i64 t268)) w.heap.size (fun k_ => some k_ ≠ (v214 : Value).ownBlock) v212 t208) := ⟨by (repeat apply rl1); exact Kd.R_mono (Kd.R_far (p := ⟨gb271, 2, none⟩) (Kd.R_far (p := ⟨gb271, 1, none⟩) (Kd.R_far (p := ⟨gb271, 0, none⟩) (Kd.R_types HO_4.out BK271.out (by decide)) (fun _ hk => hk.2) (.int .i64 t266)) (fun _ hk => hk.2) (.int .i64 t267)) (fun _ hk => hk.2) (.int .i64 t268)) (fun _ hk => hk.1)⟩
                      have n1_ : Aside0 (Kd.R Kd.bool 4 (((w128.setCell ⟨gb271, 0, none⟩ (.int .i64 t266)).setCell ⟨gb271, 1, none⟩ (.int .i64 t267)).setCell ⟨gb271, 2, none⟩ (.int .i64 t268)) w.heap.size (fun k_ => some k_ ≠ (v212 : Value).ownBlock) v214 t209) := ⟨by (repeat apply rl1); exact Kd.R_mono (Kd.R_far (p := ⟨gb271, 2, none⟩) (Kd.R_far (p := ⟨gb271, 1, none⟩) (Kd.R_far (p := ⟨gb271, 0, none⟩) (Kd.R_types HO_5.out BK271.out (by decide)) (fun _ hk => hk.2) (.int .i64 t266)) (fun _ hk => hk.2) (.int .i64 t267)) (fun _ hk => hk.2) (.int .i64 t268)) (fun _ hk => hk.1)⟩
                      have n2_ : Aside0 (Kd.N k41 41 (((w128.setCell ⟨gb271, 0, none⟩ (.int .i64 t266)).setCell ⟨gb271, 1, none⟩ (.int .i64 t267)).setCell ⟨gb271, 2, none⟩ (.int .i64 t268)) w.heap.size (fun k_ => some k_ ≠ (v212 : Value).ownBlock ∧ some k_ ≠ (v214 : Value).ownBlock ∧ k_ ≠ gb257 ∧ k_ ≠ gb271) (.slice (some ad265) x8_1.length co124) x8_1) := ⟨by (with_reducible repeat (first | apply Kd.N_alloc | apply Kd.N_drewN | apply Kd.N_drew)); exact Kd.N_mono (Kd.N_far (p := ⟨gb271, 2, none⟩) (Kd.N_far (p := ⟨gb271, 1, none⟩) (Kd.N_far (p := ⟨gb271, 0, none⟩) (Kd.N_mono HO_8.out (fun k_ hk => (⟨hk, hk.2.2.2⟩ : _ ∧ k_ ≠ gb271))) (fun _ hk => hk.2) (.int .i64 t266)) (fun _ hk => hk.2) (.int .i64 t267)) (fun _ hk => hk.2) (.int .i64 t268)) (fun _ hk => ⟨hk.1.1, ⟨hk.1.2.1, ⟨hk.1.2.2.1, hk.1.2.2.2⟩⟩⟩)⟩
                      have n3_ : Aside0 (Kd.V (Kd.int .u8) 5 (((w128.setCell ⟨gb271, 0, none⟩ (.int .i64 t266)).setCell ⟨gb271, 1, none⟩ (.int .i64 t267)).setCell ⟨gb271, 2, none⟩ (.int .i64 t268)) w.heap.size (fun k_ => some k_ ≠ (v212 : Value).ownBlock ∧ some k_ ≠ (v214 : Value).ownBlock ∧ some k_ ≠ (.slice (some ad265) x8_1.length co124 : Value).ownBlock ∧ k_ ≠ gb257 ∧ k_ ≠ gb271) (.slice A265_2 ((rd_T41 x8_1 (ji107)).f2).length c265_2) ((rd_T41 x8_1 (ji107)).f2)) := ⟨by (with_reducible repeat (first | apply Kd.V_alloc | apply Kd.V_drewN | apply Kd.V_drew)); exact Kd.V_mono (Kd.V_far (p := ⟨gb271, 2, none⟩) (Kd.V_far (p := ⟨gb271, 1, none⟩) (Kd.V_far (p := ⟨gb271, 0, none⟩) (Kd.V_mono HL265_2.out (fun k_ hk => (⟨hk, hk.2.2.2.2⟩ : _ ∧ k_ ≠ gb271))) (fun _ hk => hk.2) (.int .i64 t266)) (fun _ hk => hk.2) (.int .i64 t267)) (fun _ hk => hk.2) (.int .i64 t268)) (fun _ hk => ⟨hk.1.1, ⟨hk.1.2.1, ⟨hk.1.2.2.1, ⟨hk.1.2.2.2.1, hk.1.2.2.2.2⟩⟩⟩⟩)⟩
                      have n4_ : Aside0 ((((w128.setCell ⟨gb271, 0, none⟩ (.int .i64 t266)).setCell ⟨gb271, 1, none⟩ (.int .i64 t267)).setCell ⟨gb271, 2, none⟩ (.int .i64 t268)).heap[gb257]? = some (.cells #[.int .i64 t254, .int .i64 t255, .int .i64 t256] 25 (0, 0))) := ⟨by (repeat refine bk1 ?_); refine blk_far ?_ NB257_271.out _; (repeat refine bk1 ?_); refine blk_far ?_ NB257_271.out _; (repeat refine bk1 ?_); refine blk_far ?_ NB257_271.out _; (repeat refine bk1 ?_); exact BK257.out⟩
                      have n5_ : Aside0 ((((w128.setCell ⟨gb271, 0, none⟩ (.int .i64 t266)).setCell ⟨gb271, 1, none⟩ (.int .i64 t267)).setCell ⟨gb271, 2, none⟩ (.int .i64 t268)).heap[gb271]? = some (.cells #[.int .i64 t266, .int .i64 t267, .int .i64 t268] 25 (0, 0))) := ⟨by (repeat refine bk1 ?_); refine blk_put (cs := #[.int .i64 t266, .int .i64 t267, .int .i64 0]) ?_ 2 _ rfl; (repeat refine bk1 ?_); refine blk_put (cs := #[.int .i64 t266, .int .i64 0, .int .i64 0]) ?_ 1 _ rfl; (repeat refine bk1 ?_); refine blk_put (cs := #[.int .i64 0, .int .i64 0, .int .i64 0]) ?_ 0 _ rfl; (repeat refine bk1 ?_); exact BK271.out⟩
                      have n6_ : Aside0 (Below w.heap.size w (((w128.setCell ⟨gb271, 0, none⟩ (.int .i64 t266)).setCell ⟨gb271, 1, none⟩ (.int .i64 t267)).setCell ⟨gb271, 2, none⟩ (.int .i64 t268))) := ⟨by repeat with_reducible first | exact bl HB.out | refine below_set ?_ GE257.out | refine below_set ?_ GE271.out | refine bq ?_⟩
                      (try clear HO_4)
                      (try clear HO_5)
                      (try clear HO_8)
                      (try clear HL265_2)
                      (try clear BK257)
                      (try clear BK271)
                      (try clear HB)
                      generalize (((w128.setCell ⟨gb271, 0, none⟩ (.int .i64 t266)).setCell ⟨gb271, 1, none⟩ (.int .i64 t267)).setCell ⟨gb271, 2, none⟩ (.int .i64 t268)) = w132 at n0_ n1_ n2_ n3_ n4_ n5_ n6_ ⊢
                      have HO_4 := n0_
                      have HO_5 := n1_
                      have HO_8 := n2_
                      have HL265_2 := n3_
                      have BK257 := n4_
                      have BK271 := n5_
                      have HB := n6_
                      clear n0_ n1_ n2_ n3_ n4_ n5_ n6_
                      have n0_ := Aside0.mk (Kd.R_drew HO_4.out)
                      have n1_ := Aside0.mk (Kd.R_drew HO_5.out)
                      have n2_ := Aside0.mk (Kd.N_drew HO_8.out)
                      have n3_ := Aside0.mk (Kd.V_drew HL265_2.out)
                      have n4_ := Aside0.mk (blk_drew BK257.out)
                      have n5_ := Aside0.mk (blk_drew BK271.out)
                      have n6_ := Aside0.mk (below_drew1 HB.out)
                      clear HO_4
                      clear HO_5
                      clear HO_8
                      clear HL265_2
                      clear BK257
                      clear BK271
                      clear HB
                      have HO_4 := n0_
                      have HO_5 := n1_
                      have HO_8 := n2_
                      have HL265_2 := n3_
                      have BK257 := n4_
                      have BK271 := n5_
                      have HB := n6_
                      clear n0_ n1_ n2_ n3_ n4_ n5_ n6_
                      have p272 : 0 ≤ ((ji107) : Int) := of_decide_eq_true (by first | (with_reducible assumption) | assumption)
                      have q272 : (ji107) < (x8_1.length : Int) := of_decide_eq_true (by first | (with_reducible assumption) | assumption)
                      obtain ⟨ad272, A272_2, c272_2, e272, hx272_0, hx272_1, hx272_2, hl272_2, hi272_2⟩ := at_T41 (Kd.N_reads' HO_8.out).2.2 (ji107) p272 q272
                      obtain rfl : ad265 = ad272 := (by injection e272)
                      obtain ⟨ce272, hce272, hMe272, hcc272⟩ := Kd.N_get HO_8.out z41 (ji107) p272 (by first | exact q272 | exact of_decide_eq_true (by first | (with_reducible assumption) | assumption) | (have e_ := (Kd.N_reads' HO_8.out).1; omega))
                      obtain ⟨ua272_2, uc272_2, rfl, ul272_2, ge272_2⟩ := k41_openF hMe272
                      have hv272_2 := hcc272 2 _ rfl
                      rw [add_field _ _ 2 (by omega)] at hv272_2
                      replace hv272_2 := Option.some.inj (hv272_2.symm.trans hx272_2)
                      injection hv272_2 with hva_ hvn_ hvc_
                      rw [hva_] at ge272_2
                      rw [hvc_] at ul272_2
                      have HL272_2 := Aside0.mk (show Kd.V (Kd.int .u8) 5 _ w.heap.size _ _ ((rd_T41 x8_1 (ji107)).f2) from Kd.V_mk ul272_2 ge272_2)
                      clear hva_ hvn_ hvc_ ge272_2 ul272_2
                      clear hcc272 hce272
                      have HR272_2 := Aside0.mk hi272_2
                      have HC272_2 := Aside0.mk hl272_2
                      clear hi272_2 hl272_2
                      replace p272 := eq_true p272
                      replace q272 := eq_true q272
                      refine start_ (n := 29) (S := fun w' => w'.cell? ⟨gb257, 0, none⟩ = some (.int .i64 t254) ∧ w'.cell? ⟨gb257, 1, none⟩ = some (.int .i64 t255) ∧ w'.cell? ⟨gb257, 2, none⟩ = some (.int .i64 t256) ∧ w'.cell? ⟨gb271, 0, none⟩ = some (.int .i64 t266) ∧ w'.cell? ⟨gb271, 1, none⟩ = some (.int .i64 t267) ∧ w'.cell? ⟨gb271, 2, none⟩ = some (.int .i64 t268) ∧ w'.cell? (ad265.add (((ji107)).toNat * 3)) = some (.int .i64 ((rd_T41 x8_1 (ji107)).f0)) ∧ w'.cell? ⟨(ad265.add (((ji107)).toNat * 3)).block, (ad265.add (((ji107)).toNat * 3)).off + 1, none⟩ = some (.int .i64 ((rd_T41 x8_1 (ji107)).f1)) ∧ w'.cell? ⟨(ad265.add (((ji107)).toNat * 3)).block, (ad265.add (((ji107)).toNat * 3)).off + 2, none⟩ = some (.slice A272_2 ((rd_T41 x8_1 (ji107)).f2).length c272_2)) (ds := []) m0_29 (by kernel_rfl) rfl rfl ⟨ck BK257.out 0 rfl, ck BK257.out 1 rfl, ck BK257.out 2 rfl, ck BK271.out 0 rfl, ck BK271.out 1 rfl, ck BK271.out 2 rfl, hx272_0, hx272_1, hx272_2⟩ (fun hHeld => ?_); refine with_tabW laws_FnTwice.tab41 laws_FnTwice.bits41 (fun HT_ HW_ => ?_)
                      generalize w132.drew = w133 at HO_4 HO_5 HO_8 HL265_2 BK257 BK271 HB HL272_2 HR272_2 hx272_0 hx272_1 hx272_2 hHeld ⊢
                      refine pq_ HT_.out 0 187 m1_29 ?_
                      refine pq_ HT_.out 1 188 m2_29 ?_
                      refine pq_ HT_.out 2 189 m3_29 ?_
                      refine pq_ HT_.out 3 190 m4_29 ?_
                      refine pq_ HT_.out 4 191 m5_29 ?_
                      refine pq_ HT_.out 5 192 m6_29 ?_
                      refine pq_ HT_.out 6 193 m7_29 ?_
                      refine pq_ HT_.out 8 195 n96 ?_
                      refine pq_ HT_.out 9 196 n97 ?_
                      refine pq_ HT_.out 10 197 n98 ?_
                      refine pq_ HT_.out 11 198 n99 ?_
                      refine pq_ HT_.out 12 199 n100 ?_
                      refine pq_ HT_.out 13 200 n101 ?_
                      refine tk_ HT_.out HW_.out 7 194 m14_29 rfl rfl (by kernel_rfl) (by rfl) (by rintro w' ⟨s0, s1, s2, s3, s4, s5, s6, s7, s8⟩; go_simp; with_reducible rfl) hHeld (by simp only [sp_]; rfl) (fun _ _ _ h => h) ?_
                      refine tk_ HT_.out HW_.out 14 201 m15_29 rfl rfl (by kernel_rfl) (by rfl) (by rintro w' ⟨s0, s1, s2, s3, s4, s5, s6, s7, s8⟩; go_simp; with_reducible rfl) hHeld (by simp only [sp_]; rfl) (fun _ _ _ h => h) ?_
                      refine pq_ HT_.out 15 202 m16_29 ?_
                      refine pq_ HT_.out 16 203 m17_29 ?_
                      refine pq_ HT_.out 17 204 m18_29 ?_
                      refine pq_ HT_.out 18 205 m19_29 ?_
                      refine pq_ HT_.out 19 206 m20_29 ?_
                      refine pq_ HT_.out 20 207 m21_29 ?_
                      refine pq_ HT_.out 21 208 m22_29 ?_
                      refine pq_ HT_.out 22 209 m23_29 ?_
                      refine pq_ HT_.out 23 210 m24_29 ?_
                      refine tk_ HT_.out HW_.out 24 211 m25_29 rfl rfl (by kernel_rfl) (by rfl) (by rintro w' ⟨s0, s1, s2, s3, s4, s5, s6, s7, s8⟩; go_simp; with_reducible rfl) hHeld (by simp only [sp_]; rfl) (fun _ _ _ h => h) ?_
                      refine tk_ HT_.out HW_.out 25 212 m26_29 rfl rfl (by kernel_rfl) (by rfl) (by rintro w' ⟨s0, s1, s2, s3, s4, s5, s6, s7, s8⟩; go_simp; with_reducible rfl) hHeld (by simp only [sp_]; rfl) (fun _ _ _ h => h) ?_
                      refine pq_ HT_.out 26 213 m27_29 ?_
                      refine pq_ HT_.out 27 214 m28_29 ?_
                      refine pq_ HT_.out 28 2 m29_29 ?_
                      refine done_ (done_of HT_.out (by kernel_rfl)) ?_
                      try go_wp2
                      go_ret
                      exact ⟨by first | rfl | (simp [errW_none, errW_some] <;> rfl) | (simp only [← hji107]; first | rfl | (simp [errW_none, errW_some] <;> rfl)) | (simp [*, errW_none, errW_some] <;> rfl), by repeat with_reducible first | exact bl HB.out | refine below_set ?_ GE257.out | refine below_set ?_ GE271.out | refine bq ?_⟩
                    ·
                     rw [if_neg c112] at H
                     have c112b0 : (t255 == (Int.tmod (wrap64 (((rd_T41 x8_1 (ji107)).f1) + 1)) 256)) = false := beq_eq_false_iff_ne.mpr c112
                     have c112b1 : (t255 != (Int.tmod (wrap64 (((rd_T41 x8_1 (ji107)).f1) + 1)) 256)) = true := bne_iff_ne.mpr c112
                     cases H.trans (congrArg some hr_)
                   ·
                    rw [if_neg c111] at H
                    have c111b0 : (t253 == (wrap64 (x9_1 - x20_4))) = false := beq_eq_false_iff_ne.mpr c111
                    have c111b1 : (t253 != (wrap64 (x9_1 - x20_4))) = true := bne_iff_ne.mpr c111
                    cases H.trans (congrArg some hr_)
                  ·
                   rw [if_neg c109] at H
                   exact absurd H (by simp)
                 ·
                  rw [if_neg c108] at H
                  exact absurd H (by simp)

/-- THE ONE PURE STATEMENT of laws_FnTwice: yours. -/
def laws_FnTwice.Pure : Prop := ∀ (l0 : List Int), l0.length ≤ maxLen → l0.length * 1 ≤ 140737488351232 → (∀ x ∈ l0, (Lit.int .u8 x).wf = true) → ∃ k, laws_FnTwice.f k l0 = some true
theorem laws_FnTwice.walk (P : laws_FnTwice.Pure) (a0 : Option Addr) (len0 cap0 : Nat) (z0 : List Int) (w : World) (w0 : (a0 = none ∧ len0 = 0 ∧ cap0 = 0 ∧ z0 = []) ∨ ∃ x, a0 = some x ∧ len0 ≤ cap0 ∧ cap0 ≤ maxLen ∧ z0.length = cap0 ∧ (∀ i, i < z0.length → w.cell? (x.add i) = some (.int .u8 (z0.getD i 0))) ∧ ∀ n ∈ z0, (Lit.int .u8 n).wf = true) (y0 : len0 * 1 ≤ 140737488351232) :
  Calls Try.prog 7 #[.slice a0 len0 cap0] w fun e w' => e = .returned (.bool true) ∧ Below w.heap.size w w' := by
 obtain ⟨l0, rfl, hr0, hm0, hw0, hc0⟩ := ReadsInt.ofRowC w0
 obtain ⟨k, h⟩ := P l0 hm0 y0 hw0
 refine (laws_FnTwice.calls k _ _ l0 true rfl w (Kd.C_of_reads (d := (0 : Int)) (h1 := fun _ => rfl) hr0) hc0 h).mono ?_
 rintro e w' ⟨rfl, hd⟩
 exact ⟨rfl, hd⟩

end Go.Proofs.Ytcdniegjefejcaa.PFnTwice
