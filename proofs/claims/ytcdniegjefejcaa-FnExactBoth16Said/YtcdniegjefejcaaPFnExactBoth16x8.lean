-- Written by a program of this session (wip/xprint.py) out of the translation; Lean checks it.
import Derived.Test.YtcdniegjefejcaaPFnExactBoth16x0
import Derived.Test.YtcdniegjefejcaaPFnExactBoth16x1
import Derived.Test.YtcdniegjefejcaaPFnExactBoth16x2
import Derived.Test.YtcdniegjefejcaaPFnExactBoth16x3
import Derived.Test.YtcdniegjefejcaaPFnExactBoth16x5
import Derived.Test.YtcdniegjefejcaaPFnExactBoth16x6
import Derived.Test.YtcdniegjefejcaaPFnExactBoth16x7
namespace Go.Proofs.Ytcdniegjefejcaa.PFnExactBoth16
open Go.RowKit Go.Proofs.YtcdniegjefejcaaW.PrintWords Go.Proofs.YtcdniegjefejcaaW.PrintLast Go.Proofs.YtcdniegjefejcaaW.PrintMore Go.Proofs.Ytcdniegjefejcaa.Sq
attribute [local go_sem] max2_int min2_int max_two min_two max_three min_three max_four min_four   -- for this text's walks alone
set_option linter.unusedVariables false
set_option linter.unusedSimpArgs false

/-! ### laws_FnExactBoth16: function 13 -/
mutual
def laws_FnExactBoth16.j0 : Nat → List (List Int) → List (List Int) → List (S41) → Int → List (List Int) → List (List Int) → List (S41) → Int → Bool → Int → Int → Int → Int → Int → Int → Int → Int → Int → Option (Bool)
 | 0, _, _, _, _, _, _, _, _, _, _, _, _, _, _, _, _, _, _ => none
 | k + 1, x1, x2, x8, x9, x11, x12, x13, x14, x70, x222000, x222001, x222002, x241000, x241001, x241002, x258000, x258001, x258002 => if x70 = true then (some false) else ((laws_toByteSS.f k x1).bind fun t260 => ((laws_eqByteSS.f k x11 t260).bind fun t263 => (if t263 = true then ((laws_toByteSS.f k x2).bind fun t264 => ((laws_eqByteSS.f k x12 t264).bind fun t267 => (if t267 = true then ((laws_markByteSS.f k x11 1).bind fun bt268 => ((laws_markByteSS.f k x12 bt268.1).bind fun bt270 => (if bt270.1 < 0 then (laws_FnExactBoth16.j1 k x1 x2 x8 x9 x13 true x222000 x222001 x222002 x241000 x241001 x241002) else ((laws_eqWord16S.f k x13 x8).bind fun t272 => (if t272 = true then (if x14 = x9 then ((laws_eqReceiver.f x258000 x258001 x258002 x241000 x241001 x241002).bind fun t273 => (laws_FnExactBoth16.j1 k x1 x2 x8 x9 x13 (!t273) x222000 x222001 x222002 x241000 x241001 x241002)) else (laws_FnExactBoth16.j1 k x1 x2 x8 x9 x13 true x222000 x222001 x222002 x241000 x241001 x241002)) else (laws_FnExactBoth16.j1 k x1 x2 x8 x9 x13 true x222000 x222001 x222002 x241000 x241001 x241002)))))) else (some false)))) else (some false))))
def laws_FnExactBoth16.j1 : Nat → List (List Int) → List (List Int) → List (S41) → Int → List (S41) → Bool → Int → Int → Int → Int → Int → Int → Option (Bool)
 | 0, _, _, _, _, _, _, _, _, _, _, _, _ => none
 | k + 1, x1, x2, x8, x9, x13, x105, x222000, x222001, x222002, x241000, x241001, x241002 => if x105 = true then (some false) else ((laws_markWord16S.f k x13 1).bind fun bt274 => ((laws_heldWord16S.f k bt274.2 1).bind fun t276 => (if t276 < 0 then (some false) else (if t276 = bt274.1 then ((laws_toReceiver.f x222000 x222001 x222002).bind fun bt277 => ((laws_toByteSS.f k x1).bind fun t280 => ((laws_toByteSS.f k x2).bind fun t283 => ((impl_Both16.f k bt277.1 bt277.2.1 bt277.2.2 t280 t283).bind fun bt286 => ((laws_eqWord16S.f k bt286.1 x8).bind fun t294 => (if t294 = true then (if bt286.2.1 = x9 then ((laws_eqReceiver.f bt286.2.2.1 bt286.2.2.2.1 bt286.2.2.2.2 x241000 x241001 x241002).bind fun t295 => (laws_FnExactBoth16.j2 k bt274.2 bt274.1 (!t295))) else (laws_FnExactBoth16.j2 k bt274.2 bt274.1 true)) else (laws_FnExactBoth16.j2 k bt274.2 bt274.1 true))))))) else (some false)))))
def laws_FnExactBoth16.j2 : Nat → List (S41) → Int → Bool → Option (Bool)
 | 0, _, _, _ => none
 | k + 1, x13, x17, x142 => if x142 = true then (some false) else ((laws_heldWord16S.f k x13 1).bind fun t296 => (if t296 < 0 then (some false) else (if t296 = x17 then (some true) else (some false))))
end
def laws_FnExactBoth16.f (k : Nat) (a0_0 : Int) (a0_1 : Int) (a0_2 : Int) (l1 : List (List Int)) (l2 : List (List Int)) : Option (Bool) := (laws_szByteSS.f k l1 1048576).bind fun t222 => (if t222 < 0 then (some true) else ((laws_szByteSS.f k l2 t222).bind fun t223 => (if t223 < 0 then (some true) else ((laws_toReceiver.f a0_0 a0_1 a0_2).bind fun bt224 => ((laws_toByteSS.f k l1).bind fun t227 => ((laws_toByteSS.f k l2).bind fun t230 => ((spec_Both16.f k bt224.1 bt224.2.1 bt224.2.2 t227 t230).bind fun bt233 => ((laws_toByteSS.f k l1).bind fun t241 => ((laws_toByteSS.f k l2).bind fun t244 => ((laws_toReceiver.f a0_0 a0_1 a0_2).bind fun bt247 => ((impl_Both16.f k bt247.1 bt247.2.1 bt247.2.2 t241 t244).bind fun bt250 => ((laws_eqWord16S.f k bt250.1 bt233.1).bind fun t258 => (if t258 = true then (if bt250.2.1 = bt233.2.1 then ((laws_eqReceiver.f bt250.2.2.1 bt250.2.2.2.1 bt250.2.2.2.2 bt233.2.2.1 bt233.2.2.2.1 bt233.2.2.2.2).bind fun t259 => (laws_FnExactBoth16.j0 k l1 l2 bt233.1 bt233.2.1 t241 t244 bt250.1 bt250.2.1 (!t259) a0_0 a0_1 a0_2 bt233.2.2.1 bt233.2.2.2.1 bt233.2.2.2.2 bt250.2.2.1 bt250.2.2.2.1 bt250.2.2.2.2)) else (laws_FnExactBoth16.j0 k l1 l2 bt233.1 bt233.2.1 t241 t244 bt250.1 bt250.2.1 true a0_0 a0_1 a0_2 bt233.2.2.1 bt233.2.2.2.1 bt233.2.2.2.2 bt250.2.2.1 bt250.2.2.2.1 bt250.2.2.2.2)) else (laws_FnExactBoth16.j0 k l1 l2 bt233.1 bt233.2.1 t241 t244 bt250.1 bt250.2.1 true a0_0 a0_1 a0_2 bt233.2.2.1 bt233.2.2.2.1 bt233.2.2.2.2 bt250.2.2.1 bt250.2.2.2.1 bt250.2.2.2.2))))))))))))))
theorem laws_FnExactBoth16.mono_l : ∀ k, (∀ y0 y1 y2 y3 y4 y5 y6 y7 y8 y9 y10 y11 y12 y13 y14 y15 y16 y17, LeO (laws_FnExactBoth16.j0 k y0 y1 y2 y3 y4 y5 y6 y7 y8 y9 y10 y11 y12 y13 y14 y15 y16 y17) (laws_FnExactBoth16.j0 (k + 1) y0 y1 y2 y3 y4 y5 y6 y7 y8 y9 y10 y11 y12 y13 y14 y15 y16 y17)) ∧ (∀ y0 y1 y2 y3 y4 y5 y6 y7 y8 y9 y10 y11, LeO (laws_FnExactBoth16.j1 k y0 y1 y2 y3 y4 y5 y6 y7 y8 y9 y10 y11) (laws_FnExactBoth16.j1 (k + 1) y0 y1 y2 y3 y4 y5 y6 y7 y8 y9 y10 y11)) ∧ (∀ y0 y1 y2, LeO (laws_FnExactBoth16.j2 k y0 y1 y2) (laws_FnExactBoth16.j2 (k + 1) y0 y1 y2))
 | 0 => ⟨fun _ _ _ _ _ _ _ _ _ _ _ _ _ _ _ _ _ _ r h => by simp [laws_FnExactBoth16.j0] at h, fun _ _ _ _ _ _ _ _ _ _ _ _ r h => by simp [laws_FnExactBoth16.j1] at h, fun _ _ _ r h => by simp [laws_FnExactBoth16.j2] at h⟩
 | k + 1 => by
  obtain ⟨ih0, ih1, ih2⟩ := laws_FnExactBoth16.mono_l k
  refine ⟨?_, ?_, ?_⟩
  ·
   intro y0 y1 y2 y3 y4 y5 y6 y7 y8 y9 y10 y11 y12 y13 y14 y15 y16 y17
   unfold laws_FnExactBoth16.j0
   repeat' first
   | (with_reducible exact ih0 _ _ _ _ _ _ _ _ _ _ _ _ _ _ _ _ _ _)
   | (with_reducible exact ih1 _ _ _ _ _ _ _ _ _ _ _ _)
   | (with_reducible exact ih2 _ _ _)
   | (with_reducible exact impl_Both16.mono _ _ _ _ _ _)
   | (with_reducible exact laws_eqByteSS.mono _ _ _)
   | (with_reducible exact laws_eqWord16S.mono _ _ _)
   | (with_reducible exact laws_heldWord16S.mono _ _ _)
   | (with_reducible exact laws_markByteSS.mono _ _ _)
   | (with_reducible exact laws_markWord16S.mono _ _ _)
   | (with_reducible exact laws_szByteSS.mono _ _ _)
   | (with_reducible exact laws_toByteSS.mono _ _)
   | (with_reducible exact spec_Both16.mono _ _ _ _ _ _)
   | (with_reducible exact LeO.refl _)
   | (with_reducible exact LeO.none _)
   | (with_reducible refine LeO.ite ?_ ?_)
   | (with_reducible refine LeO.bind ?_ (fun _ => ?_))
   | exact ih0 _ _ _ _ _ _ _ _ _ _ _ _ _ _ _ _ _ _
   | exact ih1 _ _ _ _ _ _ _ _ _ _ _ _
   | exact ih2 _ _ _
   | exact impl_Both16.mono _ _ _ _ _ _
   | exact laws_eqByteSS.mono _ _ _
   | exact laws_eqWord16S.mono _ _ _
   | exact laws_heldWord16S.mono _ _ _
   | exact laws_markByteSS.mono _ _ _
   | exact laws_markWord16S.mono _ _ _
   | exact laws_szByteSS.mono _ _ _
   | exact laws_toByteSS.mono _ _
   | exact spec_Both16.mono _ _ _ _ _ _
   | exact LeO.none _
   | refine LeO.ite ?_ ?_
   | refine LeO.bind ?_ (fun _ => ?_)
  ·
   intro y0 y1 y2 y3 y4 y5 y6 y7 y8 y9 y10 y11
   unfold laws_FnExactBoth16.j1
   repeat' first
   | (with_reducible exact ih0 _ _ _ _ _ _ _ _ _ _ _ _ _ _ _ _ _ _)
   | (with_reducible exact ih1 _ _ _ _ _ _ _ _ _ _ _ _)
   | (with_reducible exact ih2 _ _ _)
   | (with_reducible exact impl_Both16.mono _ _ _ _ _ _)
   | (with_reducible exact laws_eqByteSS.mono _ _ _)
   | (with_reducible exact laws_eqWord16S.mono _ _ _)
   | (with_reducible exact laws_heldWord16S.mono _ _ _)
   | (with_reducible exact laws_markByteSS.mono _ _ _)
   | (with_reducible exact laws_markWord16S.mono _ _ _)
   | (with_reducible exact laws_szByteSS.mono _ _ _)
   | (with_reducible exact laws_toByteSS.mono _ _)
   | (with_reducible exact spec_Both16.mono _ _ _ _ _ _)
   | (with_reducible exact LeO.refl _)
   | (with_reducible exact LeO.none _)
   | (with_reducible refine LeO.ite ?_ ?_)
   | (with_reducible refine LeO.bind ?_ (fun _ => ?_))
   | exact ih0 _ _ _ _ _ _ _ _ _ _ _ _ _ _ _ _ _ _
   | exact ih1 _ _ _ _ _ _ _ _ _ _ _ _
   | exact ih2 _ _ _
   | exact impl_Both16.mono _ _ _ _ _ _
   | exact laws_eqByteSS.mono _ _ _
   | exact laws_eqWord16S.mono _ _ _
   | exact laws_heldWord16S.mono _ _ _
   | exact laws_markByteSS.mono _ _ _
   | exact laws_markWord16S.mono _ _ _
   | exact laws_szByteSS.mono _ _ _
   | exact laws_toByteSS.mono _ _
   | exact spec_Both16.mono _ _ _ _ _ _
   | exact LeO.none _
   | refine LeO.ite ?_ ?_
   | refine LeO.bind ?_ (fun _ => ?_)
  ·
   intro y0 y1 y2
   unfold laws_FnExactBoth16.j2
   repeat' first
   | (with_reducible exact ih0 _ _ _ _ _ _ _ _ _ _ _ _ _ _ _ _ _ _)
   | (with_reducible exact ih1 _ _ _ _ _ _ _ _ _ _ _ _)
   | (with_reducible exact ih2 _ _ _)
   | (with_reducible exact impl_Both16.mono _ _ _ _ _ _)
   | (with_reducible exact laws_eqByteSS.mono _ _ _)
   | (with_reducible exact laws_eqWord16S.mono _ _ _)
   | (with_reducible exact laws_heldWord16S.mono _ _ _)
   | (with_reducible exact laws_markByteSS.mono _ _ _)
   | (with_reducible exact laws_markWord16S.mono _ _ _)
   | (with_reducible exact laws_szByteSS.mono _ _ _)
   | (with_reducible exact laws_toByteSS.mono _ _)
   | (with_reducible exact spec_Both16.mono _ _ _ _ _ _)
   | (with_reducible exact LeO.refl _)
   | (with_reducible exact LeO.none _)
   | (with_reducible refine LeO.ite ?_ ?_)
   | (with_reducible refine LeO.bind ?_ (fun _ => ?_))
   | exact ih0 _ _ _ _ _ _ _ _ _ _ _ _ _ _ _ _ _ _
   | exact ih1 _ _ _ _ _ _ _ _ _ _ _ _
   | exact ih2 _ _ _
   | exact impl_Both16.mono _ _ _ _ _ _
   | exact laws_eqByteSS.mono _ _ _
   | exact laws_eqWord16S.mono _ _ _
   | exact laws_heldWord16S.mono _ _ _
   | exact laws_markByteSS.mono _ _ _
   | exact laws_markWord16S.mono _ _ _
   | exact laws_szByteSS.mono _ _ _
   | exact laws_toByteSS.mono _ _
   | exact spec_Both16.mono _ _ _ _ _ _
   | exact LeO.none _
   | refine LeO.ite ?_ ?_
   | refine LeO.bind ?_ (fun _ => ?_)
theorem laws_FnExactBoth16.mono : ∀ a0 a1 a2 a3 a4 k, LeO (laws_FnExactBoth16.f k a0 a1 a2 a3 a4) (laws_FnExactBoth16.f (k + 1) a0 a1 a2 a3 a4) := by
 intro a0 a1 a2 a3 a4 k
 obtain ⟨ih0, ih1, ih2⟩ := laws_FnExactBoth16.mono_l k
 unfold laws_FnExactBoth16.f
 repeat' first
   | (with_reducible exact ih0 _ _ _ _ _ _ _ _ _ _ _ _ _ _ _ _ _ _)
   | (with_reducible exact ih1 _ _ _ _ _ _ _ _ _ _ _ _)
   | (with_reducible exact ih2 _ _ _)
   | (with_reducible exact impl_Both16.mono _ _ _ _ _ _)
   | (with_reducible exact laws_eqByteSS.mono _ _ _)
   | (with_reducible exact laws_eqWord16S.mono _ _ _)
   | (with_reducible exact laws_heldWord16S.mono _ _ _)
   | (with_reducible exact laws_markByteSS.mono _ _ _)
   | (with_reducible exact laws_markWord16S.mono _ _ _)
   | (with_reducible exact laws_szByteSS.mono _ _ _)
   | (with_reducible exact laws_toByteSS.mono _ _)
   | (with_reducible exact spec_Both16.mono _ _ _ _ _ _)
   | (with_reducible exact LeO.refl _)
   | (with_reducible exact LeO.none _)
   | (with_reducible refine LeO.ite ?_ ?_)
   | (with_reducible refine LeO.bind ?_ (fun _ => ?_))
   | exact ih0 _ _ _ _ _ _ _ _ _ _ _ _ _ _ _ _ _ _
   | exact ih1 _ _ _ _ _ _ _ _ _ _ _ _
   | exact ih2 _ _ _
   | exact impl_Both16.mono _ _ _ _ _ _
   | exact laws_eqByteSS.mono _ _ _
   | exact laws_eqWord16S.mono _ _ _
   | exact laws_heldWord16S.mono _ _ _
   | exact laws_markByteSS.mono _ _ _
   | exact laws_markWord16S.mono _ _ _
   | exact laws_szByteSS.mono _ _ _
   | exact laws_toByteSS.mono _ _
   | exact spec_Both16.mono _ _ _ _ _ _
   | exact LeO.none _
   | refine LeO.ite ?_ ?_
   | refine LeO.bind ?_ (fun _ => ?_)
theorem S_ran {α : Type} {d : Kd α} {e : Nat} {w : World} {base : Nat} {ok : Nat → Prop} {v : Value} {xs : List α} (h : Kd.S d e w base ok v xs) : Kd.S d e w base (fun k => base ≤ k ∧ k < w.heap.size) v xs := Kd.S_mono (Kd.S_bound h) (fun _ hk => ⟨hk.2.1, hk.2.2.1⟩)
/-- Four rows of rows in four ranges of blocks, one behind the other. -/
def RG4 (b : Nat) (v8 : Value) (l8 : List S41) (v11 : Value) (l11 : List (List Int)) (v12 : Value) (l12 : List (List Int)) (v13 : Value) (l13 : List S41) (W : World) : Prop :=
 ∃ b8 a11 b11 a12 b12 a13 b13, Aside0 ((b8 ≤ a11 ∧ a11 ≤ b11) ∧ (b11 ≤ a12 ∧ a12 ≤ b12) ∧ b12 ≤ a13 ∧ a13 ≤ b13) ∧ Aside0 (Kd.S k41 41 W b (fun k => 0 ≤ k ∧ k < b8) v8 l8) ∧ Aside0 (Kd.S (Kd.slice 5 (Kd.int .u8)) 28 W b (fun k => a11 ≤ k ∧ k < b11) v11 l11) ∧ Aside0 (Kd.S (Kd.slice 5 (Kd.int .u8)) 28 W b (fun k => a12 ≤ k ∧ k < b12) v12 l12) ∧ Aside0 (Kd.S k41 41 W b (fun k => a13 ≤ k ∧ k < b13) v13 l13)
set_option maxHeartbeats 8000000 in
set_option maxRecDepth 100000 in
theorem laws_FnExactBoth16.calls (k : Nat) (a0_0 : Int) (a0_1 : Int) (a0_2 : Int) (A1 : Option Addr) (c1 : Nat) (l1 : List (List Int)) (A2 : Option Addr) (c2 : Nat) (l2 : List (List Int)) (r : Bool) (hr_ : r = true) (w : World) (hr1 : Kd.C (Kd.slice 5 (Kd.int .u8)) w A1 l1.length l1) (hc1 : l1.length ≤ c1) (hr2 : Kd.C (Kd.slice 5 (Kd.int .u8)) w A2 l2.length l2) (hc2 : l2.length ≤ c2) (h : laws_FnExactBoth16.f k a0_0 a0_1 a0_2 l1 l2 = some r) :
  Calls Try.prog 13 #[.agg #[.int .i64 a0_0, .int .i64 a0_1, .int .i64 a0_2], .slice A1 l1.length c1, .slice A2 l2.length c2] w fun e w' => e = .returned (.bool r) ∧ Below w.heap.size w w' := by
 have hu23 := Try.underlying23
 have hu25 := Try.underlying25
 have HR1 := Aside0.mk hr1
 have HC1 := Aside0.mk hc1
 clear hr1 hc1
 have HR2 := Aside0.mk hr2
 have HC2 := Aside0.mk hc2
 clear hr2 hc2
 have HB := Aside0.mk (Below.refl w.heap.size w)
 have H : ((laws_szByteSS.f k l1 1048576).bind fun t222 => (if t222 < 0 then (some true) else ((laws_szByteSS.f k l2 t222).bind fun t223 => (if t223 < 0 then (some true) else ((laws_toReceiver.f a0_0 a0_1 a0_2).bind fun bt224 => ((laws_toByteSS.f k l1).bind fun t227 => ((laws_toByteSS.f k l2).bind fun t230 => ((spec_Both16.f k bt224.1 bt224.2.1 bt224.2.2 t227 t230).bind fun bt233 => ((laws_toByteSS.f k l1).bind fun t241 => ((laws_toByteSS.f k l2).bind fun t244 => ((laws_toReceiver.f a0_0 a0_1 a0_2).bind fun bt247 => ((impl_Both16.f k bt247.1 bt247.2.1 bt247.2.2 t241 t244).bind fun bt250 => ((laws_eqWord16S.f k bt250.1 bt233.1).bind fun t258 => (if t258 = true then (if bt250.2.1 = bt233.2.1 then ((laws_eqReceiver.f bt250.2.2.1 bt250.2.2.2.1 bt250.2.2.2.2 bt233.2.2.1 bt233.2.2.2.1 bt233.2.2.2.2).bind fun t259 => (laws_FnExactBoth16.j0 k l1 l2 bt233.1 bt233.2.1 t241 t244 bt250.1 bt250.2.1 (!t259) a0_0 a0_1 a0_2 bt233.2.2.1 bt233.2.2.2.1 bt233.2.2.2.2 bt250.2.2.1 bt250.2.2.2.1 bt250.2.2.2.2)) else (laws_FnExactBoth16.j0 k l1 l2 bt233.1 bt233.2.1 t241 t244 bt250.1 bt250.2.1 true a0_0 a0_1 a0_2 bt233.2.2.1 bt233.2.2.2.1 bt233.2.2.2.2 bt250.2.2.1 bt250.2.2.2.1 bt250.2.2.2.2)) else (laws_FnExactBoth16.j0 k l1 l2 bt233.1 bt233.2.1 t241 t244 bt250.1 bt250.2.1 true a0_0 a0_1 a0_2 bt233.2.2.1 bt233.2.2.2.1 bt233.2.2.2.2 bt250.2.2.1 bt250.2.2.2.1 bt250.2.2.2.2))))))))))))))) = some r := h
 clear h
 replace H := Option.bind_eq_some_iff.mp H
 obtain ⟨t222, A40, H⟩ := H
 replace H : (if t222 < 0 then (some true) else ((laws_szByteSS.f k l2 t222).bind fun t223 => (if t223 < 0 then (some true) else ((laws_toReceiver.f a0_0 a0_1 a0_2).bind fun bt224 => ((laws_toByteSS.f k l1).bind fun t227 => ((laws_toByteSS.f k l2).bind fun t230 => ((spec_Both16.f k bt224.1 bt224.2.1 bt224.2.2 t227 t230).bind fun bt233 => ((laws_toByteSS.f k l1).bind fun t241 => ((laws_toByteSS.f k l2).bind fun t244 => ((laws_toReceiver.f a0_0 a0_1 a0_2).bind fun bt247 => ((impl_Both16.f k bt247.1 bt247.2.1 bt247.2.2 t241 t244).bind fun bt250 => ((laws_eqWord16S.f k bt250.1 bt233.1).bind fun t258 => (if t258 = true then (if bt250.2.1 = bt233.2.1 then ((laws_eqReceiver.f bt250.2.2.1 bt250.2.2.2.1 bt250.2.2.2.2 bt233.2.2.1 bt233.2.2.2.1 bt233.2.2.2.2).bind fun t259 => (laws_FnExactBoth16.j0 k l1 l2 bt233.1 bt233.2.1 t241 t244 bt250.1 bt250.2.1 (!t259) a0_0 a0_1 a0_2 bt233.2.2.1 bt233.2.2.2.1 bt233.2.2.2.2 bt250.2.2.1 bt250.2.2.2.1 bt250.2.2.2.2)) else (laws_FnExactBoth16.j0 k l1 l2 bt233.1 bt233.2.1 t241 t244 bt250.1 bt250.2.1 true a0_0 a0_1 a0_2 bt233.2.2.1 bt233.2.2.2.1 bt233.2.2.2.2 bt250.2.2.1 bt250.2.2.2.1 bt250.2.2.2.2)) else (laws_FnExactBoth16.j0 k l1 l2 bt233.1 bt233.2.1 t241 t244 bt250.1 bt250.2.1 true a0_0 a0_1 a0_2 bt233.2.2.1 bt233.2.2.2.1 bt233.2.2.2.2 bt250.2.2.1 bt250.2.2.2.1 bt250.2.2.2.2)))))))))))))) = some r := H
 have A4 := Aside0.mk A40
 clear A40
 by_cases c5 : t222 < 0
 ·
  rw [if_pos c5] at H
  have c5b0 : decide (t222 < 0) = true := decide_eq_true c5
  clear c5
  obtain rfl := Option.some.inj H
  go_enter Try.func13, Try.ntmps13
  go_wp2_with (first | ((with_reducible refine gate_dst (N := 3) rfl ?_); refine box_event ?hg (N := 3) ?hd (cs := #[.int .i64 a0_0, .int .i64 a0_1, .int .i64 a0_2]) (t := 23) ?hr ?_; (case hd => rfl); (case hg => rfl); (case hr => first | (go_simp; done) | (go_simp; rfl)); intro gb221 hg w6 hbox hb; have BK221 := Aside0.mk (hbox); have GW221 := Aside0.mk ((by rw [hg]; exact (below_size (bl HB.out)) : w.heap.size ≤ gb221)); have GE221 := GW221; replace HB := Aside0.mk (below_step (bl HB.out) hb); clear hb hbox hg) | ((with_reducible refine gate_callee (f := 46) rfl ?_); refine goesL_ (some 24) rfl rfl Try.func46 (by kernel_rfl) rfl #[.slice A1 l1.length c1, .int .i64 1048576] rfl (by (try simp only [am_]); first | done | rfl) ?_; (with_reducible refine (laws_szByteSS.calls k _ _ l1 1048576 t222 _ ?side1 ?side2 A4.out).mono ?_); (case side1 => exact rc (Kd.C_below HR1.out HB.out)); (case side2 => exact HC1.out); rintro e w' ⟨rfl, ⟨nd, rfl⟩⟩; refine ⟨_, rfl, ?_⟩))
  go_ret
  exact ⟨by first | rfl | (simp [errW_none, errW_some] <;> rfl) | (simp [*, errW_none, errW_some] <;> rfl), by repeat with_reducible first | exact bl HB.out | refine below_set ?_ GE221.out | refine bq ?_⟩
 ·
  rw [if_neg c5] at H
  have c5b0 : decide (t222 < 0) = false := decide_eq_false c5
  clear c5
  replace H := Option.bind_eq_some_iff.mp H
  obtain ⟨t223, A70, H⟩ := H
  replace H : (if t223 < 0 then (some true) else ((laws_toReceiver.f a0_0 a0_1 a0_2).bind fun bt224 => ((laws_toByteSS.f k l1).bind fun t227 => ((laws_toByteSS.f k l2).bind fun t230 => ((spec_Both16.f k bt224.1 bt224.2.1 bt224.2.2 t227 t230).bind fun bt233 => ((laws_toByteSS.f k l1).bind fun t241 => ((laws_toByteSS.f k l2).bind fun t244 => ((laws_toReceiver.f a0_0 a0_1 a0_2).bind fun bt247 => ((impl_Both16.f k bt247.1 bt247.2.1 bt247.2.2 t241 t244).bind fun bt250 => ((laws_eqWord16S.f k bt250.1 bt233.1).bind fun t258 => (if t258 = true then (if bt250.2.1 = bt233.2.1 then ((laws_eqReceiver.f bt250.2.2.1 bt250.2.2.2.1 bt250.2.2.2.2 bt233.2.2.1 bt233.2.2.2.1 bt233.2.2.2.2).bind fun t259 => (laws_FnExactBoth16.j0 k l1 l2 bt233.1 bt233.2.1 t241 t244 bt250.1 bt250.2.1 (!t259) a0_0 a0_1 a0_2 bt233.2.2.1 bt233.2.2.2.1 bt233.2.2.2.2 bt250.2.2.1 bt250.2.2.2.1 bt250.2.2.2.2)) else (laws_FnExactBoth16.j0 k l1 l2 bt233.1 bt233.2.1 t241 t244 bt250.1 bt250.2.1 true a0_0 a0_1 a0_2 bt233.2.2.1 bt233.2.2.2.1 bt233.2.2.2.2 bt250.2.2.1 bt250.2.2.2.1 bt250.2.2.2.2)) else (laws_FnExactBoth16.j0 k l1 l2 bt233.1 bt233.2.1 t241 t244 bt250.1 bt250.2.1 true a0_0 a0_1 a0_2 bt233.2.2.1 bt233.2.2.2.1 bt233.2.2.2.2 bt250.2.2.1 bt250.2.2.2.1 bt250.2.2.2.2)))))))))))) = some r := H
  have A7 := Aside0.mk A70
  clear A70
  by_cases c8 : t223 < 0
  ·
   rw [if_pos c8] at H
   have c8b0 : decide (t223 < 0) = true := decide_eq_true c8
   clear c8
   obtain rfl := Option.some.inj H
   go_enter Try.func13, Try.ntmps13
   go_wp2_with (first | ((with_reducible refine gate_dst (N := 3) rfl ?_); refine box_event ?hg (N := 3) ?hd (cs := #[.int .i64 a0_0, .int .i64 a0_1, .int .i64 a0_2]) (t := 23) ?hr ?_; (case hd => rfl); (case hg => rfl); (case hr => first | (go_simp; done) | (go_simp; rfl)); intro gb221 hg w9 hbox hb; have BK221 := Aside0.mk (hbox); have GW221 := Aside0.mk ((by rw [hg]; exact (below_size (bl HB.out)) : w.heap.size ≤ gb221)); have GE221 := GW221; replace HB := Aside0.mk (below_step (bl HB.out) hb); clear hb hbox hg) | ((with_reducible refine gate_callee (f := 46) rfl ?_); refine goesL_ (some 24) rfl rfl Try.func46 (by kernel_rfl) rfl #[.slice A1 l1.length c1, .int .i64 1048576] rfl (by (try simp only [am_]); first | done | rfl) ?_; (with_reducible refine (laws_szByteSS.calls k _ _ l1 1048576 t222 _ ?side1 ?side2 A4.out).mono ?_); (case side1 => exact rc (Kd.C_below HR1.out HB.out)); (case side2 => exact HC1.out); rintro e w' ⟨rfl, ⟨nd, rfl⟩⟩; refine ⟨_, rfl, ?_⟩) | ((with_reducible refine gate_callee (f := 46) rfl ?_); refine goesL_ (some 29) rfl rfl Try.func46 (by kernel_rfl) rfl #[.slice A2 l2.length c2, .int .i64 t222] rfl (by (try simp only [am_]); first | done | rfl) ?_; (with_reducible refine (laws_szByteSS.calls k _ _ l2 t222 t223 _ ?side1 ?side2 A7.out).mono ?_); (case side1 => repeat (first | exact (Kd.C_below HR2.out (by repeat with_reducible first | exact bl HB.out | refine below_set ?_ GE221.out | refine bq ?_)) | (with_reducible refine Kd.C_alloc ?_ _) | (with_reducible refine Kd.C_drewN ?_ _) | (with_reducible refine Kd.C_drew ?_))); (case side2 => exact HC2.out); rintro e w' ⟨rfl, ⟨nd, rfl⟩⟩; refine ⟨_, rfl, ?_⟩))
   go_ret
   exact ⟨by first | rfl | (simp [errW_none, errW_some] <;> rfl) | (simp [*, errW_none, errW_some] <;> rfl), by repeat with_reducible first | exact bl HB.out | refine below_set ?_ GE221.out | refine bq ?_⟩
  ·
   rw [if_neg c8] at H
   have c8b0 : decide (t223 < 0) = false := decide_eq_false c8
   clear c8
   replace H := Option.bind_eq_some_iff.mp H
   obtain ⟨⟨t224, t225, t226⟩, A100, H⟩ := H
   replace H : ((laws_toByteSS.f k l1).bind fun t227 => ((laws_toByteSS.f k l2).bind fun t230 => ((spec_Both16.f k t224 t225 t226 t227 t230).bind fun bt233 => ((laws_toByteSS.f k l1).bind fun t241 => ((laws_toByteSS.f k l2).bind fun t244 => ((laws_toReceiver.f a0_0 a0_1 a0_2).bind fun bt247 => ((impl_Both16.f k bt247.1 bt247.2.1 bt247.2.2 t241 t244).bind fun bt250 => ((laws_eqWord16S.f k bt250.1 bt233.1).bind fun t258 => (if t258 = true then (if bt250.2.1 = bt233.2.1 then ((laws_eqReceiver.f bt250.2.2.1 bt250.2.2.2.1 bt250.2.2.2.2 bt233.2.2.1 bt233.2.2.2.1 bt233.2.2.2.2).bind fun t259 => (laws_FnExactBoth16.j0 k l1 l2 bt233.1 bt233.2.1 t241 t244 bt250.1 bt250.2.1 (!t259) a0_0 a0_1 a0_2 bt233.2.2.1 bt233.2.2.2.1 bt233.2.2.2.2 bt250.2.2.1 bt250.2.2.2.1 bt250.2.2.2.2)) else (laws_FnExactBoth16.j0 k l1 l2 bt233.1 bt233.2.1 t241 t244 bt250.1 bt250.2.1 true a0_0 a0_1 a0_2 bt233.2.2.1 bt233.2.2.2.1 bt233.2.2.2.2 bt250.2.2.1 bt250.2.2.2.1 bt250.2.2.2.2)) else (laws_FnExactBoth16.j0 k l1 l2 bt233.1 bt233.2.1 t241 t244 bt250.1 bt250.2.1 true a0_0 a0_1 a0_2 bt233.2.2.1 bt233.2.2.2.1 bt233.2.2.2.2 bt250.2.2.1 bt250.2.2.2.1 bt250.2.2.2.2)))))))))) = some r := H
   have A10 := Aside0.mk A100
   clear A100
   replace H := Option.bind_eq_some_iff.mp H
   obtain ⟨t227, A110, H⟩ := H
   replace H : ((laws_toByteSS.f k l2).bind fun t230 => ((spec_Both16.f k t224 t225 t226 t227 t230).bind fun bt233 => ((laws_toByteSS.f k l1).bind fun t241 => ((laws_toByteSS.f k l2).bind fun t244 => ((laws_toReceiver.f a0_0 a0_1 a0_2).bind fun bt247 => ((impl_Both16.f k bt247.1 bt247.2.1 bt247.2.2 t241 t244).bind fun bt250 => ((laws_eqWord16S.f k bt250.1 bt233.1).bind fun t258 => (if t258 = true then (if bt250.2.1 = bt233.2.1 then ((laws_eqReceiver.f bt250.2.2.1 bt250.2.2.2.1 bt250.2.2.2.2 bt233.2.2.1 bt233.2.2.2.1 bt233.2.2.2.2).bind fun t259 => (laws_FnExactBoth16.j0 k l1 l2 bt233.1 bt233.2.1 t241 t244 bt250.1 bt250.2.1 (!t259) a0_0 a0_1 a0_2 bt233.2.2.1 bt233.2.2.2.1 bt233.2.2.2.2 bt250.2.2.1 bt250.2.2.2.1 bt250.2.2.2.2)) else (laws_FnExactBoth16.j0 k l1 l2 bt233.1 bt233.2.1 t241 t244 bt250.1 bt250.2.1 true a0_0 a0_1 a0_2 bt233.2.2.1 bt233.2.2.2.1 bt233.2.2.2.2 bt250.2.2.1 bt250.2.2.2.1 bt250.2.2.2.2)) else (laws_FnExactBoth16.j0 k l1 l2 bt233.1 bt233.2.1 t241 t244 bt250.1 bt250.2.1 true a0_0 a0_1 a0_2 bt233.2.2.1 bt233.2.2.2.1 bt233.2.2.2.2 bt250.2.2.1 bt250.2.2.2.1 bt250.2.2.2.2))))))))) = some r := H
   have A11 := Aside0.mk A110
   clear A110
   replace H := Option.bind_eq_some_iff.mp H
   obtain ⟨t230, A120, H⟩ := H
   replace H : ((spec_Both16.f k t224 t225 t226 t227 t230).bind fun bt233 => ((laws_toByteSS.f k l1).bind fun t241 => ((laws_toByteSS.f k l2).bind fun t244 => ((laws_toReceiver.f a0_0 a0_1 a0_2).bind fun bt247 => ((impl_Both16.f k bt247.1 bt247.2.1 bt247.2.2 t241 t244).bind fun bt250 => ((laws_eqWord16S.f k bt250.1 bt233.1).bind fun t258 => (if t258 = true then (if bt250.2.1 = bt233.2.1 then ((laws_eqReceiver.f bt250.2.2.1 bt250.2.2.2.1 bt250.2.2.2.2 bt233.2.2.1 bt233.2.2.2.1 bt233.2.2.2.2).bind fun t259 => (laws_FnExactBoth16.j0 k l1 l2 bt233.1 bt233.2.1 t241 t244 bt250.1 bt250.2.1 (!t259) a0_0 a0_1 a0_2 bt233.2.2.1 bt233.2.2.2.1 bt233.2.2.2.2 bt250.2.2.1 bt250.2.2.2.1 bt250.2.2.2.2)) else (laws_FnExactBoth16.j0 k l1 l2 bt233.1 bt233.2.1 t241 t244 bt250.1 bt250.2.1 true a0_0 a0_1 a0_2 bt233.2.2.1 bt233.2.2.2.1 bt233.2.2.2.2 bt250.2.2.1 bt250.2.2.2.1 bt250.2.2.2.2)) else (laws_FnExactBoth16.j0 k l1 l2 bt233.1 bt233.2.1 t241 t244 bt250.1 bt250.2.1 true a0_0 a0_1 a0_2 bt233.2.2.1 bt233.2.2.2.1 bt233.2.2.2.2 bt250.2.2.1 bt250.2.2.2.1 bt250.2.2.2.2)))))))) = some r := H
   have A12 := Aside0.mk A120
   clear A120
   replace H := Option.bind_eq_some_iff.mp H
   obtain ⟨⟨t233, t236, t237, t238, t239⟩, A130, H⟩ := H
   replace H : ((laws_toByteSS.f k l1).bind fun t241 => ((laws_toByteSS.f k l2).bind fun t244 => ((laws_toReceiver.f a0_0 a0_1 a0_2).bind fun bt247 => ((impl_Both16.f k bt247.1 bt247.2.1 bt247.2.2 t241 t244).bind fun bt250 => ((laws_eqWord16S.f k bt250.1 t233).bind fun t258 => (if t258 = true then (if bt250.2.1 = t236 then ((laws_eqReceiver.f bt250.2.2.1 bt250.2.2.2.1 bt250.2.2.2.2 t237 t238 t239).bind fun t259 => (laws_FnExactBoth16.j0 k l1 l2 t233 t236 t241 t244 bt250.1 bt250.2.1 (!t259) a0_0 a0_1 a0_2 t237 t238 t239 bt250.2.2.1 bt250.2.2.2.1 bt250.2.2.2.2)) else (laws_FnExactBoth16.j0 k l1 l2 t233 t236 t241 t244 bt250.1 bt250.2.1 true a0_0 a0_1 a0_2 t237 t238 t239 bt250.2.2.1 bt250.2.2.2.1 bt250.2.2.2.2)) else (laws_FnExactBoth16.j0 k l1 l2 t233 t236 t241 t244 bt250.1 bt250.2.1 true a0_0 a0_1 a0_2 t237 t238 t239 bt250.2.2.1 bt250.2.2.2.1 bt250.2.2.2.2))))))) = some r := H
   have A13 := Aside0.mk A130
   clear A130
   replace H := Option.bind_eq_some_iff.mp H
   obtain ⟨t241, A140, H⟩ := H
   replace H : ((laws_toByteSS.f k l2).bind fun t244 => ((laws_toReceiver.f a0_0 a0_1 a0_2).bind fun bt247 => ((impl_Both16.f k bt247.1 bt247.2.1 bt247.2.2 t241 t244).bind fun bt250 => ((laws_eqWord16S.f k bt250.1 t233).bind fun t258 => (if t258 = true then (if bt250.2.1 = t236 then ((laws_eqReceiver.f bt250.2.2.1 bt250.2.2.2.1 bt250.2.2.2.2 t237 t238 t239).bind fun t259 => (laws_FnExactBoth16.j0 k l1 l2 t233 t236 t241 t244 bt250.1 bt250.2.1 (!t259) a0_0 a0_1 a0_2 t237 t238 t239 bt250.2.2.1 bt250.2.2.2.1 bt250.2.2.2.2)) else (laws_FnExactBoth16.j0 k l1 l2 t233 t236 t241 t244 bt250.1 bt250.2.1 true a0_0 a0_1 a0_2 t237 t238 t239 bt250.2.2.1 bt250.2.2.2.1 bt250.2.2.2.2)) else (laws_FnExactBoth16.j0 k l1 l2 t233 t236 t241 t244 bt250.1 bt250.2.1 true a0_0 a0_1 a0_2 t237 t238 t239 bt250.2.2.1 bt250.2.2.2.1 bt250.2.2.2.2)))))) = some r := H
   have A14 := Aside0.mk A140
   clear A140
   replace H := Option.bind_eq_some_iff.mp H
   obtain ⟨t244, A150, H⟩ := H
   replace H : ((laws_toReceiver.f a0_0 a0_1 a0_2).bind fun bt247 => ((impl_Both16.f k bt247.1 bt247.2.1 bt247.2.2 t241 t244).bind fun bt250 => ((laws_eqWord16S.f k bt250.1 t233).bind fun t258 => (if t258 = true then (if bt250.2.1 = t236 then ((laws_eqReceiver.f bt250.2.2.1 bt250.2.2.2.1 bt250.2.2.2.2 t237 t238 t239).bind fun t259 => (laws_FnExactBoth16.j0 k l1 l2 t233 t236 t241 t244 bt250.1 bt250.2.1 (!t259) a0_0 a0_1 a0_2 t237 t238 t239 bt250.2.2.1 bt250.2.2.2.1 bt250.2.2.2.2)) else (laws_FnExactBoth16.j0 k l1 l2 t233 t236 t241 t244 bt250.1 bt250.2.1 true a0_0 a0_1 a0_2 t237 t238 t239 bt250.2.2.1 bt250.2.2.2.1 bt250.2.2.2.2)) else (laws_FnExactBoth16.j0 k l1 l2 t233 t236 t241 t244 bt250.1 bt250.2.1 true a0_0 a0_1 a0_2 t237 t238 t239 bt250.2.2.1 bt250.2.2.2.1 bt250.2.2.2.2))))) = some r := H
   have A15 := Aside0.mk A150
   clear A150
   replace H := Option.bind_eq_some_iff.mp H
   obtain ⟨⟨t247, t248, t249⟩, A160, H⟩ := H
   replace H : ((impl_Both16.f k t247 t248 t249 t241 t244).bind fun bt250 => ((laws_eqWord16S.f k bt250.1 t233).bind fun t258 => (if t258 = true then (if bt250.2.1 = t236 then ((laws_eqReceiver.f bt250.2.2.1 bt250.2.2.2.1 bt250.2.2.2.2 t237 t238 t239).bind fun t259 => (laws_FnExactBoth16.j0 k l1 l2 t233 t236 t241 t244 bt250.1 bt250.2.1 (!t259) a0_0 a0_1 a0_2 t237 t238 t239 bt250.2.2.1 bt250.2.2.2.1 bt250.2.2.2.2)) else (laws_FnExactBoth16.j0 k l1 l2 t233 t236 t241 t244 bt250.1 bt250.2.1 true a0_0 a0_1 a0_2 t237 t238 t239 bt250.2.2.1 bt250.2.2.2.1 bt250.2.2.2.2)) else (laws_FnExactBoth16.j0 k l1 l2 t233 t236 t241 t244 bt250.1 bt250.2.1 true a0_0 a0_1 a0_2 t237 t238 t239 bt250.2.2.1 bt250.2.2.2.1 bt250.2.2.2.2)))) = some r := H
   have A16 := Aside0.mk A160
   clear A160
   replace H := Option.bind_eq_some_iff.mp H
   obtain ⟨⟨t250, t253, t254, t255, t256⟩, A170, H⟩ := H
   replace H : ((laws_eqWord16S.f k t250 t233).bind fun t258 => (if t258 = true then (if t253 = t236 then ((laws_eqReceiver.f t254 t255 t256 t237 t238 t239).bind fun t259 => (laws_FnExactBoth16.j0 k l1 l2 t233 t236 t241 t244 t250 t253 (!t259) a0_0 a0_1 a0_2 t237 t238 t239 t254 t255 t256)) else (laws_FnExactBoth16.j0 k l1 l2 t233 t236 t241 t244 t250 t253 true a0_0 a0_1 a0_2 t237 t238 t239 t254 t255 t256)) else (laws_FnExactBoth16.j0 k l1 l2 t233 t236 t241 t244 t250 t253 true a0_0 a0_1 a0_2 t237 t238 t239 t254 t255 t256))) = some r := H
   have A17 := Aside0.mk A170
   clear A170
   have HC18 := Aside0.mk H
   clear H
   go_enter Try.func13, Try.ntmps13
   go_upto_region 12 with (first | ((with_reducible refine gate_dst (N := 3) rfl ?_); refine box_event ?hg (N := 3) ?hd (cs := #[.int .i64 a0_0, .int .i64 a0_1, .int .i64 a0_2]) (t := 23) ?hr ?_; (case hd => rfl); (case hg => rfl); (case hr => first | (go_simp; done) | (go_simp; rfl)); intro gb221 hg w19 hbox hb; have BK221 := Aside0.mk (hbox); have GW221 := Aside0.mk ((by rw [hg]; exact (below_size (bl HB.out)) : w.heap.size ≤ gb221)); have GE221 := GW221; replace HB := Aside0.mk (below_step (bl HB.out) hb); clear hb hbox hg) | ((with_reducible refine gate_callee (f := 46) rfl ?_); refine goesL_ (some 24) rfl rfl Try.func46 (by kernel_rfl) rfl #[.slice A1 l1.length c1, .int .i64 1048576] rfl (by (try simp only [am_]); first | done | rfl) ?_; (with_reducible refine (laws_szByteSS.calls k _ _ l1 1048576 t222 _ ?side1 ?side2 A4.out).mono ?_); (case side1 => exact rc (Kd.C_below HR1.out HB.out)); (case side2 => exact HC1.out); rintro e w' ⟨rfl, ⟨nd, rfl⟩⟩; refine ⟨_, rfl, ?_⟩; (try (rw [drewN_self w19]; generalize hq_ : World.drewN w19 _ = w19; have n0_ : Aside0 (w19.heap[gb221]? = some (.cells #[.int .i64 a0_0, .int .i64 a0_1, .int .i64 a0_2] 23 (0, 0))) := ⟨by rw [← hq_]; exact (bk BK221.out)⟩; have n1_ : Aside0 (Below w.heap.size w w19) := ⟨by rw [← hq_]; exact (by repeat with_reducible first | exact bl HB.out | refine below_set ?_ GE221.out | refine bq ?_)⟩; clear BK221 HB hq_; have BK221 := n0_; have HB := n1_; clear n0_ n1_))) | ((with_reducible refine gate_callee (f := 46) rfl ?_); refine goesL_ (some 29) rfl rfl Try.func46 (by kernel_rfl) rfl #[.slice A2 l2.length c2, .int .i64 t222] rfl (by (try simp only [am_]); first | done | rfl) ?_; (with_reducible refine (laws_szByteSS.calls k _ _ l2 t222 t223 _ ?side1 ?side2 A7.out).mono ?_); (case side1 => exact rc (Kd.C_below HR2.out HB.out)); (case side2 => exact HC2.out); rintro e w' ⟨rfl, ⟨nd, rfl⟩⟩; refine ⟨_, rfl, ?_⟩; (try (rw [drewN_self w19]; generalize hq_ : World.drewN w19 _ = w19; have n0_ : Aside0 (w19.heap[gb221]? = some (.cells #[.int .i64 a0_0, .int .i64 a0_1, .int .i64 a0_2] 23 (0, 0))) := ⟨by rw [← hq_]; exact (bk BK221.out)⟩; have n1_ : Aside0 (Below w.heap.size w w19) := ⟨by rw [← hq_]; exact (by repeat with_reducible first | exact bl HB.out | refine below_set ?_ GE221.out | refine bq ?_)⟩; clear BK221 HB hq_; have BK221 := n0_; have HB := n1_; clear n0_ n1_)); obtain ⟨hcz20_0, hcz20_1, hcz20_2⟩ := ck3 BK221.out; obtain ⟨hfz20_0, hfz20_1, hfz20_2⟩ := fz3 BK221.out) | ((with_reducible refine gate_callee (f := 15) rfl ?_); refine goesL_ (some 34) rfl rfl Try.func15 (by kernel_rfl) rfl #[.agg #[.int .i64 a0_0, .int .i64 a0_1, .int .i64 a0_2]] rfl (by (try simp only [am_]); first | done | rfl) ?_; (with_reducible refine (laws_toReceiver.calls a0_0 a0_1 a0_2 t224 t225 t226 _ A10.out).mono ?_); rintro e w21 ⟨rfl, hb⟩; refine ⟨_, rfl, ?_⟩; replace BK221 := Aside0.mk (blk_below (bk BK221.out) hb); replace HB := Aside0.mk (below_step (by repeat with_reducible first | exact bl HB.out | refine below_set ?_ GE221.out | refine bq ?_) hb); (try clear hb); (try clear hb2); (try clear hk); (try clear hi)) | ((with_reducible refine gate_callee (f := 48) rfl ?_); refine goesL_ (some 36) rfl rfl Try.func48 (by kernel_rfl) rfl #[.slice A1 l1.length c1] rfl (by (try simp only [am_]); first | done | rfl) ?_; (with_reducible refine (laws_toByteSS.calls k _ _ l1 t227 _ ?side1 ?side2 A11.out).mono ?_); (case side1 => exact rc (Kd.C_below HR1.out HB.out)); (case side2 => exact HC1.out); rintro e w22 ⟨v228, rfl, ho0, hb⟩; refine ⟨_, rfl, ?_⟩; have HO229 := Aside0.mk (Kd.S_lower ho0 (below_size (by repeat with_reducible first | exact bl HB.out | refine below_set ?_ GE221.out | refine bq ?_))); replace BK221 := Aside0.mk (blk_below (bk BK221.out) hb); replace HB := Aside0.mk (below_step (by repeat with_reducible first | exact bl HB.out | refine below_set ?_ GE221.out | refine bq ?_) hb); (try clear hb); (try clear hb2); (try clear hk); (try clear hi); (try clear ho0)) | ((with_reducible refine gate_callee (f := 48) rfl ?_); refine goesL_ (some 38) rfl rfl Try.func48 (by kernel_rfl) rfl #[.slice A2 l2.length c2] rfl (by (try simp only [am_]); first | done | rfl) ?_; (with_reducible refine (laws_toByteSS.calls k _ _ l2 t230 _ ?side1 ?side2 A12.out).mono ?_); (case side1 => exact rc (Kd.C_below HR2.out HB.out)); (case side2 => exact HC2.out); rintro e w23 ⟨v231, rfl, ho0, hb⟩; refine ⟨_, rfl, ?_⟩; have HO232 := Aside0.mk (Kd.S_lower (Kd.S_new' ho0 (Kd.S_lt (by (repeat apply sl1); exact HO229.out))) (below_size (by repeat with_reducible first | exact bl HB.out | refine below_set ?_ GE221.out | refine bq ?_))); replace HO229 := Aside0.mk (Kd.S_elder' (sl HO229.out) (Kd.S_base ho0) hb); replace BK221 := Aside0.mk (blk_below (bk BK221.out) hb); replace HB := Aside0.mk (below_step (by repeat with_reducible first | exact bl HB.out | refine below_set ?_ GE221.out | refine bq ?_) hb); (try clear hb); (try clear hb2); (try clear hk); (try clear hi); (try clear ho0); obtain ⟨Ao24, co24, eo24⟩ := Kd.S_slice HO229.out; subst eo24; obtain ⟨Ao25, co25, eo25⟩ := Kd.S_slice HO232.out; subst eo25) | ((with_reducible refine gate_callee (f := 47) rfl ?_); refine goesL_ (some 39) rfl rfl Try.func47 (by kernel_rfl) rfl #[.agg #[.int .i64 t224, .int .i64 t225, .int .i64 t226], .slice Ao24 t227.length co24, .slice Ao25 t230.length co25] rfl (by (try simp only [am_]); first | done | rfl) ?_; (with_reducible refine (spec_Both16.calls k t224 t225 t226 (fun k_ => ((True ∧ some k_ ≠ (.slice Ao25 t230.length co25 : Value).ownBlock) ∧ k_ ≠ gb221)) _ _ t227 (fun k_ => ((True ∧ some k_ ≠ (.slice Ao24 t227.length co24 : Value).ownBlock) ∧ k_ ≠ gb221)) _ _ t230 t233 t236 t237 t238 t239 _ ?side1 ?side2 A13.out).mono ?_); (case side1 => exact Kd.S_V (Kd.S_types (HO229.out) BK221.out (by decide))); (case side2 => exact Kd.S_V (Kd.S_types (HO232.out) BK221.out (by decide))); rintro e w26 ⟨v234, rfl, ho0, hb⟩; refine ⟨_, rfl, ?_⟩; obtain ⟨HI_a, RG_HO235, OD⟩ : ∃ hi, Aside0 (Kd.S k41 41 w26 w.heap.size (fun k_ => 0 ≤ k_ ∧ k_ < hi) v234 t233) ∧ Aside0 (hi ≤ w26.heap.size) := ⟨w26.heap.size, ⟨Kd.S_lower (Kd.S_mono (Kd.S_bound ho0) (fun _ hk => ⟨Nat.zero_le _, hk.2.2.1⟩)) (below_size (by repeat with_reducible first | exact bl HB.out | refine below_set ?_ GE221.out | refine bq ?_))⟩, ⟨Nat.le_refl _⟩⟩; replace HO229 := Aside0.mk (Kd.S_below (sl HO229.out) hb); replace HO232 := Aside0.mk (Kd.S_below (sl HO232.out) hb); have HO235 := Aside0.mk (Kd.S_lower (Kd.S_mono (ok' := fun k_ => True) ho0 (fun _ hk_ => trivial)) (below_size (by repeat with_reducible first | exact bl HB.out | refine below_set ?_ GE221.out | refine bq ?_))); replace BK221 := Aside0.mk (blk_below (bk BK221.out) hb); replace HB := Aside0.mk (below_step (by repeat with_reducible first | exact bl HB.out | refine below_set ?_ GE221.out | refine bq ?_) hb); (try clear hb); (try clear hb2); (try clear hk); (try clear hi); (try clear ho0)) | ((with_reducible refine gate_dst (N := 10) rfl ?_); refine box_event ?hg (N := 10) ?hd (cs := #[.int .i64 0, .int .i64 0, .int .i64 0]) (t := 25) ?hr ?_; (case hd => rfl); (case hg => rfl); (case hr => first | (go_simp; done) | (go_simp; rfl)); intro gb240 hg w27 hbox hb; have n0_ := Aside0.mk (Kd.S_below (sl HO229.out) hb); have n1_ := Aside0.mk (Kd.S_below (sl HO232.out) hb); have n2_ := Aside0.mk (Kd.S_below (sl HO235.out) hb); have n3_ := Aside0.mk (blk_below (bk BK221.out) hb); have n4_ := Aside0.mk (below_step (by repeat with_reducible first | exact bl HB.out | refine below_set ?_ GE221.out | refine bq ?_) hb); have n5_ := Aside0.mk (hbox); have n6_ := Aside0.mk ((by rw [hg]; exact (below_size (by repeat with_reducible first | exact bl HB.out | refine below_set ?_ GE221.out | refine bq ?_)) : w.heap.size ≤ gb240)); have n7_ := Aside0.mk ((by rw [hg]; exact (below_size (by repeat with_reducible first | exact bl HB.out | refine below_set ?_ GE221.out | refine bq ?_)) : w.heap.size ≤ gb240)); have n8_ := Aside0.mk ((by rw [hg]; exact Nat.ne_of_lt (blk_lt (g := gb221) (o := .cells #[.int .i64 a0_0, .int .i64 a0_1, .int .i64 a0_2] 23 (0, 0)) (bk BK221.out)) : gb221 ≠ gb240)); have n9_ := Aside0.mk ((by rw [hg]; exact Nat.ne_of_gt (blk_lt (g := gb221) (o := .cells #[.int .i64 a0_0, .int .i64 a0_1, .int .i64 a0_2] 23 (0, 0)) (bk BK221.out)) : gb240 ≠ gb221)); have q_HO235 := Aside0.mk (Kd.S_below (sl RG_HO235.out) hb); have q_od := Aside0.mk (Nat.le_trans (show HI_a ≤ _ from (by have h_ := OD.out; first | exact h_ | simpa using h_)) hb.size); clear RG_HO235; have RG_HO235 := q_HO235; clear q_HO235; clear OD; have OD := q_od; clear q_od; clear HO229; clear HO232; clear HO235; clear BK221; clear HB; have HO229 := n0_; have HO232 := n1_; have HO235 := n2_; have BK221 := n3_; have HB := n4_; have BK240 := n5_; have GW240 := n6_; have GE240 := n7_; have NB221_240 := n8_; have NB240_221 := n9_; clear n0_ n1_ n2_ n3_ n4_ n5_ n6_ n7_ n8_ n9_; clear hb hbox hg; have hnb28 := NB240_221.out; have hnc28 := NB221_240.out; obtain ⟨hcz29_0, hcz29_1, hcz29_2⟩ := ck3 BK240.out; obtain ⟨hfz29_0, hfz29_1, hfz29_2⟩ := fz3 BK240.out) | ((with_reducible refine gate_callee (f := 48) rfl ?_); refine goesL_ (some 44) rfl rfl Try.func48 (by kernel_rfl) rfl #[.slice A1 l1.length c1] rfl (by (try simp only [am_]); first | done | rfl) ?_; (with_reducible refine (laws_toByteSS.calls k _ _ l1 t241 _ ?side1 ?side2 A14.out).mono ?_); (case side1 => exact Kd.C_below HR1.out (by repeat with_reducible first | exact bl HB.out | refine below_set ?_ GE221.out | refine below_set ?_ GE240.out | refine bq ?_)); (case side2 => exact HC1.out); rintro e w30 ⟨v242, rfl, ho0, hb⟩; refine ⟨_, rfl, ?_⟩; obtain ⟨LO_b, HI_b, RG_HO243, ORD1, OD2⟩ : ∃ lo hi, Aside0 (Kd.S (Kd.slice 5 (Kd.int .u8)) 28 w30 w.heap.size (fun k_ => lo ≤ k_ ∧ k_ < hi) v242 t241) ∧ Aside0 (HI_a ≤ lo ∧ lo ≤ hi) ∧ Aside0 (hi ≤ w30.heap.size) := ⟨_, w30.heap.size, ⟨Kd.S_lower (S_ran ho0) (below_size (by repeat with_reducible first | exact bl HB.out | refine below_set ?_ GE221.out | refine below_set ?_ GE240.out | refine bq ?_))⟩, ⟨(by have h_ := OD.out; first | exact h_ | simpa using h_), hb.size⟩, ⟨Nat.le_refl _⟩⟩; have n0_ := Aside0.mk (Kd.S_elder' (by (repeat apply sl1); exact (Kd.S_mono (Kd.S_far (p := ⟨gb240, 2, none⟩) (Kd.S_far (p := ⟨gb240, 1, none⟩) (Kd.S_far (p := ⟨gb240, 0, none⟩) (Kd.S_types HO229.out BK240.out (by decide)) (fun _ hk => hk.2) (.int .i64 t237)) (fun _ hk => hk.2) (.int .i64 t238)) (fun _ hk => hk.2) (.int .i64 t239)) (fun _ h_ => h_.1))) (Kd.S_base ho0) hb); have n1_ := Aside0.mk (Kd.S_elder' (by (repeat apply sl1); exact (Kd.S_mono (Kd.S_far (p := ⟨gb240, 2, none⟩) (Kd.S_far (p := ⟨gb240, 1, none⟩) (Kd.S_far (p := ⟨gb240, 0, none⟩) (Kd.S_types HO232.out BK240.out (by decide)) (fun _ hk => hk.2) (.int .i64 t237)) (fun _ hk => hk.2) (.int .i64 t238)) (fun _ hk => hk.2) (.int .i64 t239)) (fun _ h_ => h_.1))) (Kd.S_base ho0) hb); have n2_ := Aside0.mk (Kd.S_below (by (repeat apply sl1); exact (Kd.S_mono (Kd.S_far (p := ⟨gb240, 2, none⟩) (Kd.S_far (p := ⟨gb240, 1, none⟩) (Kd.S_far (p := ⟨gb240, 0, none⟩) (Kd.S_types HO235.out BK240.out (by decide)) (fun _ hk => hk.2) (.int .i64 t237)) (fun _ hk => hk.2) (.int .i64 t238)) (fun _ hk => hk.2) (.int .i64 t239)) (fun _ h_ => h_.1))) hb); have n3_ := Aside0.mk (Kd.S_lower (Kd.S_new' (Kd.S_new' ho0 (Kd.S_lt (by (repeat apply sl1); exact (Kd.S_mono (Kd.S_far (p := ⟨gb240, 2, none⟩) (Kd.S_far (p := ⟨gb240, 1, none⟩) (Kd.S_far (p := ⟨gb240, 0, none⟩) (Kd.S_types HO229.out BK240.out (by decide)) (fun _ hk => hk.2) (.int .i64 t237)) (fun _ hk => hk.2) (.int .i64 t238)) (fun _ hk => hk.2) (.int .i64 t239)) (fun _ h_ => h_.1))))) (Kd.S_lt (by (repeat apply sl1); exact (Kd.S_mono (Kd.S_far (p := ⟨gb240, 2, none⟩) (Kd.S_far (p := ⟨gb240, 1, none⟩) (Kd.S_far (p := ⟨gb240, 0, none⟩) (Kd.S_types HO232.out BK240.out (by decide)) (fun _ hk => hk.2) (.int .i64 t237)) (fun _ hk => hk.2) (.int .i64 t238)) (fun _ hk => hk.2) (.int .i64 t239)) (fun _ h_ => h_.1))))) (below_size (by repeat with_reducible first | exact bl HB.out | refine below_set ?_ GE221.out | refine below_set ?_ GE240.out | refine bq ?_))); have n4_ := Aside0.mk (blk_below (g := gb221) (o := .cells #[.int .i64 a0_0, .int .i64 a0_1, .int .i64 a0_2] 23 (0, 0)) (by (repeat refine bk1 ?_); refine blk_far ?_ NB221_240.out _; (repeat refine bk1 ?_); refine blk_far ?_ NB221_240.out _; (repeat refine bk1 ?_); refine blk_far ?_ NB221_240.out _; (repeat refine bk1 ?_); exact BK221.out) hb); have n5_ := Aside0.mk (blk_below (g := gb240) (o := .cells #[.int .i64 t237, .int .i64 t238, .int .i64 t239] 25 (0, 0)) (by (repeat refine bk1 ?_); refine blk_put (cs := #[.int .i64 t237, .int .i64 t238, .int .i64 0]) ?_ 2 _ rfl; (repeat refine bk1 ?_); refine blk_put (cs := #[.int .i64 t237, .int .i64 0, .int .i64 0]) ?_ 1 _ rfl; (repeat refine bk1 ?_); refine blk_put (cs := #[.int .i64 0, .int .i64 0, .int .i64 0]) ?_ 0 _ rfl; (repeat refine bk1 ?_); exact BK240.out) hb); have n6_ := Aside0.mk (below_step (by repeat with_reducible first | exact bl HB.out | refine below_set ?_ GE221.out | refine below_set ?_ GE240.out | refine bq ?_) hb); have q_HO235 := Aside0.mk (Kd.S_below (by (repeat apply sl1); exact (Kd.S_mono (Kd.S_far (p := ⟨gb240, 2, none⟩) (Kd.S_far (p := ⟨gb240, 1, none⟩) (Kd.S_far (p := ⟨gb240, 0, none⟩) (Kd.S_types RG_HO235.out BK240.out (by decide)) (fun _ hk => hk.2) (.int .i64 t237)) (fun _ hk => hk.2) (.int .i64 t238)) (fun _ hk => hk.2) (.int .i64 t239)) (fun _ h_ => h_.1))) hb); clear RG_HO235; have RG_HO235 := q_HO235; clear q_HO235; clear OD; have OD := OD2; clear OD2; clear HO229; clear HO232; clear HO235; clear BK221; clear BK240; clear HB; have HO229 := n0_; have HO232 := n1_; have HO235 := n2_; have HO243 := n3_; have BK221 := n4_; have BK240 := n5_; have HB := n6_; clear n0_ n1_ n2_ n3_ n4_ n5_ n6_; (try clear hb); (try clear hb2); (try clear hk); (try clear hi); (try clear ho0)) | ((with_reducible refine gate_callee (f := 48) rfl ?_); refine goesL_ (some 46) rfl rfl Try.func48 (by kernel_rfl) rfl #[.slice A2 l2.length c2] rfl (by (try simp only [am_]); first | done | rfl) ?_; (with_reducible refine (laws_toByteSS.calls k _ _ l2 t244 _ ?side1 ?side2 A15.out).mono ?_); (case side1 => exact rc (Kd.C_below HR2.out HB.out)); (case side2 => exact HC2.out); rintro e w31 ⟨v245, rfl, ho0, hb⟩; refine ⟨_, rfl, ?_⟩; obtain ⟨LO_c, HI_c, RG_HO246, ORD2, OD2⟩ : ∃ lo hi, Aside0 (Kd.S (Kd.slice 5 (Kd.int .u8)) 28 w31 w.heap.size (fun k_ => lo ≤ k_ ∧ k_ < hi) v245 t244) ∧ Aside0 (HI_b ≤ lo ∧ lo ≤ hi) ∧ Aside0 (hi ≤ w31.heap.size) := ⟨_, w31.heap.size, ⟨Kd.S_lower (S_ran ho0) (below_size (by repeat with_reducible first | exact bl HB.out | refine below_set ?_ GE221.out | refine below_set ?_ GE240.out | refine bq ?_))⟩, ⟨(by have h_ := OD.out; first | exact h_ | simpa using h_), hb.size⟩, ⟨Nat.le_refl _⟩⟩; have n0_ := Aside0.mk (Kd.S_elder' (sl HO229.out) (Kd.S_base ho0) hb); have n1_ := Aside0.mk (Kd.S_elder' (sl HO232.out) (Kd.S_base ho0) hb); have n2_ := Aside0.mk (Kd.S_below (sl HO235.out) hb); have n3_ := Aside0.mk (Kd.S_elder' (sl HO243.out) (Kd.S_base ho0) hb); have n4_ := Aside0.mk (Kd.S_lower (Kd.S_new' (Kd.S_new' (Kd.S_new' ho0 (Kd.S_lt (by (repeat apply sl1); exact HO229.out))) (Kd.S_lt (by (repeat apply sl1); exact HO232.out))) (Kd.S_lt (by (repeat apply sl1); exact HO243.out))) (below_size (by repeat with_reducible first | exact bl HB.out | refine below_set ?_ GE221.out | refine below_set ?_ GE240.out | refine bq ?_))); have n5_ := Aside0.mk (blk_below (bk BK221.out) hb); have n6_ := Aside0.mk (blk_below (bk BK240.out) hb); have n7_ := Aside0.mk (below_step (by repeat with_reducible first | exact bl HB.out | refine below_set ?_ GE221.out | refine below_set ?_ GE240.out | refine bq ?_) hb); have q_HO235 := Aside0.mk (Kd.S_below (sl RG_HO235.out) hb); have q_HO243 := Aside0.mk (Kd.S_below (sl RG_HO243.out) hb); clear RG_HO235; have RG_HO235 := q_HO235; clear q_HO235; clear RG_HO243; have RG_HO243 := q_HO243; clear q_HO243; clear OD; have OD := OD2; clear OD2; clear HO229; clear HO232; clear HO235; clear HO243; clear BK221; clear BK240; clear HB; have HO229 := n0_; have HO232 := n1_; have HO235 := n2_; have HO243 := n3_; have HO246 := n4_; have BK221 := n5_; have BK240 := n6_; have HB := n7_; clear n0_ n1_ n2_ n3_ n4_ n5_ n6_ n7_; (try clear hb); (try clear hb2); (try clear hk); (try clear hi); (try clear ho0); obtain ⟨hcz32_0, hcz32_1, hcz32_2⟩ := ck3 BK221.out; obtain ⟨hfz32_0, hfz32_1, hfz32_2⟩ := fz3 BK221.out) | ((with_reducible refine gate_callee (f := 15) rfl ?_); refine goesL_ (some 49) rfl rfl Try.func15 (by kernel_rfl) rfl #[.agg #[.int .i64 a0_0, .int .i64 a0_1, .int .i64 a0_2]] rfl (by (try simp only [am_]); first | done | rfl) ?_; (with_reducible refine (laws_toReceiver.calls a0_0 a0_1 a0_2 t247 t248 t249 _ A16.out).mono ?_); rintro e w33 ⟨rfl, hb⟩; refine ⟨_, rfl, ?_⟩; have n0_ := Aside0.mk (Kd.S_below (sl HO229.out) hb); have n1_ := Aside0.mk (Kd.S_below (sl HO232.out) hb); have n2_ := Aside0.mk (Kd.S_below (sl HO235.out) hb); have n3_ := Aside0.mk (Kd.S_below (sl HO243.out) hb); have n4_ := Aside0.mk (Kd.S_below (sl HO246.out) hb); have n5_ := Aside0.mk (blk_below (bk BK221.out) hb); have n6_ := Aside0.mk (blk_below (bk BK240.out) hb); have n7_ := Aside0.mk (below_step (by repeat with_reducible first | exact bl HB.out | refine below_set ?_ GE221.out | refine below_set ?_ GE240.out | refine bq ?_) hb); have q_HO235 := Aside0.mk (Kd.S_below (sl RG_HO235.out) hb); have q_HO243 := Aside0.mk (Kd.S_below (sl RG_HO243.out) hb); have q_HO246 := Aside0.mk (Kd.S_below (sl RG_HO246.out) hb); have q_od := Aside0.mk (Nat.le_trans (show HI_c ≤ _ from (by have h_ := OD.out; first | exact h_ | simpa using h_)) hb.size); clear RG_HO235; have RG_HO235 := q_HO235; clear q_HO235; clear RG_HO243; have RG_HO243 := q_HO243; clear q_HO243; clear RG_HO246; have RG_HO246 := q_HO246; clear q_HO246; clear OD; have OD := q_od; clear q_od; clear HO229; clear HO232; clear HO235; clear HO243; clear HO246; clear BK221; clear BK240; clear HB; have HO229 := n0_; have HO232 := n1_; have HO235 := n2_; have HO243 := n3_; have HO246 := n4_; have BK221 := n5_; have BK240 := n6_; have HB := n7_; clear n0_ n1_ n2_ n3_ n4_ n5_ n6_ n7_; (try clear hb); (try clear hb2); (try clear hk); (try clear hi); obtain ⟨Ao34, co34, eo34⟩ := Kd.S_slice HO243.out; subst eo34; obtain ⟨Ao35, co35, eo35⟩ := Kd.S_slice HO246.out; subst eo35) | ((with_reducible refine gate_callee (f := 31) rfl ?_); refine goesL_ (some 52) rfl rfl Try.func31 (by kernel_rfl) rfl #[.agg #[.int .i64 t247, .int .i64 t248, .int .i64 t249], .slice Ao34 t241.length co34, .slice Ao35 t244.length co35] rfl (by (try simp only [am_]); first | done | rfl) ?_; (with_reducible refine (impl_Both16.calls k t247 t248 t249 _ _ t241 _ _ t244 t250 t253 t254 t255 t256 _ ?side1 ?side2 ?side3 ?side4 A17.out).mono ?_); (case side1 => exact rc (Kd.S_reads' HO243.out).2.2); (case side2 => exact (Kd.S_reads' HO243.out).2.1); (case side3 => exact rc (Kd.S_reads' HO246.out).2.2); (case side4 => exact (Kd.S_reads' HO246.out).2.1); rintro e w36 ⟨v251, rfl, ho0, hb⟩; refine ⟨_, rfl, ?_⟩; obtain ⟨LO_d, HI_d, RG_HO252, ORD3, OD2⟩ : ∃ lo hi, Aside0 (Kd.S k41 41 w36 w.heap.size (fun k_ => lo ≤ k_ ∧ k_ < hi) v251 t250) ∧ Aside0 (HI_c ≤ lo ∧ lo ≤ hi) ∧ Aside0 (hi ≤ w36.heap.size) := ⟨_, w36.heap.size, ⟨Kd.S_lower (S_ran ho0) (below_size (by repeat with_reducible first | exact bl HB.out | refine below_set ?_ GE221.out | refine below_set ?_ GE240.out | refine bq ?_))⟩, ⟨(by have h_ := OD.out; first | exact h_ | simpa using h_), hb.size⟩, ⟨Nat.le_refl _⟩⟩; have n0_ := Aside0.mk (Kd.S_below (sl HO229.out) hb); have n1_ := Aside0.mk (Kd.S_below (sl HO232.out) hb); have n2_ := Aside0.mk (Kd.S_elder' (sl HO235.out) (Kd.S_base ho0) hb); have n3_ := Aside0.mk (Kd.S_below (sl HO243.out) hb); have n4_ := Aside0.mk (Kd.S_below (sl HO246.out) hb); have n5_ := Aside0.mk (Kd.S_lower (Kd.S_new' ho0 (Kd.S_lt (by (repeat apply sl1); exact HO235.out))) (below_size (by repeat with_reducible first | exact bl HB.out | refine below_set ?_ GE221.out | refine below_set ?_ GE240.out | refine bq ?_))); have n6_ := Aside0.mk (blk_below (bk BK221.out) hb); have n7_ := Aside0.mk (blk_below (bk BK240.out) hb); have n8_ := Aside0.mk (below_step (by repeat with_reducible first | exact bl HB.out | refine below_set ?_ GE221.out | refine below_set ?_ GE240.out | refine bq ?_) hb); have q_HO235 := Aside0.mk (Kd.S_below (sl RG_HO235.out) hb); have q_HO243 := Aside0.mk (Kd.S_below (sl RG_HO243.out) hb); have q_HO246 := Aside0.mk (Kd.S_below (sl RG_HO246.out) hb); clear RG_HO235; have RG_HO235 := q_HO235; clear q_HO235; clear RG_HO243; have RG_HO243 := q_HO243; clear q_HO243; clear RG_HO246; have RG_HO246 := q_HO246; clear q_HO246; clear OD; have OD := OD2; clear OD2; clear HO229; clear HO232; clear HO235; clear HO243; clear HO246; clear BK221; clear BK240; clear HB; have HO229 := n0_; have HO232 := n1_; have HO235 := n2_; have HO243 := n3_; have HO246 := n4_; have HO252 := n5_; have BK221 := n6_; have BK240 := n7_; have HB := n8_; clear n0_ n1_ n2_ n3_ n4_ n5_ n6_ n7_ n8_; (try clear hb); (try clear hb2); (try clear hk); (try clear hi); (try clear ho0)) | ((with_reducible refine gate_dst (N := 15) rfl ?_); refine box_event ?hg (N := 15) ?hd (cs := #[.int .i64 0, .int .i64 0, .int .i64 0]) (t := 25) ?hr ?_; (case hd => rfl); (case hg => rfl); (case hr => first | (go_simp; done) | (go_simp; rfl)); intro gb257 hg w37 hbox hb; have n0_ := Aside0.mk (Kd.S_below (sl HO229.out) hb); have n1_ := Aside0.mk (Kd.S_below (sl HO232.out) hb); have n2_ := Aside0.mk (Kd.S_below (sl HO235.out) hb); have n3_ := Aside0.mk (Kd.S_below (sl HO243.out) hb); have n4_ := Aside0.mk (Kd.S_below (sl HO246.out) hb); have n5_ := Aside0.mk (Kd.S_below (sl HO252.out) hb); have n6_ := Aside0.mk (blk_below (bk BK221.out) hb); have n7_ := Aside0.mk (blk_below (bk BK240.out) hb); have n8_ := Aside0.mk (below_step (by repeat with_reducible first | exact bl HB.out | refine below_set ?_ GE221.out | refine below_set ?_ GE240.out | refine bq ?_) hb); have n9_ := Aside0.mk (hbox); have n10_ := Aside0.mk ((by rw [hg]; exact (below_size (by repeat with_reducible first | exact bl HB.out | refine below_set ?_ GE221.out | refine below_set ?_ GE240.out | refine bq ?_)) : w.heap.size ≤ gb257)); have n11_ := Aside0.mk ((by rw [hg]; exact (below_size (by repeat with_reducible first | exact bl HB.out | refine below_set ?_ GE221.out | refine below_set ?_ GE240.out | refine bq ?_)) : w.heap.size ≤ gb257)); have n12_ := Aside0.mk ((by rw [hg]; exact Nat.ne_of_lt (blk_lt (g := gb221) (o := .cells #[.int .i64 a0_0, .int .i64 a0_1, .int .i64 a0_2] 23 (0, 0)) (bk BK221.out)) : gb221 ≠ gb257)); have n13_ := Aside0.mk ((by rw [hg]; exact Nat.ne_of_gt (blk_lt (g := gb221) (o := .cells #[.int .i64 a0_0, .int .i64 a0_1, .int .i64 a0_2] 23 (0, 0)) (bk BK221.out)) : gb257 ≠ gb221)); have n14_ := Aside0.mk ((by rw [hg]; exact Nat.ne_of_lt (blk_lt (g := gb240) (o := .cells #[.int .i64 t237, .int .i64 t238, .int .i64 t239] 25 (0, 0)) (bk BK240.out)) : gb240 ≠ gb257)); have n15_ := Aside0.mk ((by rw [hg]; exact Nat.ne_of_gt (blk_lt (g := gb240) (o := .cells #[.int .i64 t237, .int .i64 t238, .int .i64 t239] 25 (0, 0)) (bk BK240.out)) : gb257 ≠ gb240)); have q_HO235 := Aside0.mk (Kd.S_below (sl RG_HO235.out) hb); have q_HO243 := Aside0.mk (Kd.S_below (sl RG_HO243.out) hb); have q_HO246 := Aside0.mk (Kd.S_below (sl RG_HO246.out) hb); have q_HO252 := Aside0.mk (Kd.S_below (sl RG_HO252.out) hb); have q_od := Aside0.mk (Nat.le_trans (show HI_d ≤ _ from (by have h_ := OD.out; first | exact h_ | simpa using h_)) hb.size); clear RG_HO235; have RG_HO235 := q_HO235; clear q_HO235; clear RG_HO243; have RG_HO243 := q_HO243; clear q_HO243; clear RG_HO246; have RG_HO246 := q_HO246; clear q_HO246; clear RG_HO252; have RG_HO252 := q_HO252; clear q_HO252; clear OD; have OD := q_od; clear q_od; clear HO229; clear HO232; clear HO235; clear HO243; clear HO246; clear HO252; clear BK221; clear BK240; clear HB; have HO229 := n0_; have HO232 := n1_; have HO235 := n2_; have HO243 := n3_; have HO246 := n4_; have HO252 := n5_; have BK221 := n6_; have BK240 := n7_; have HB := n8_; have BK257 := n9_; have GW257 := n10_; have GE257 := n11_; have NB221_257 := n12_; have NB257_221 := n13_; have NB240_257 := n14_; have NB257_240 := n15_; clear n0_ n1_ n2_ n3_ n4_ n5_ n6_ n7_ n8_ n9_ n10_ n11_ n12_ n13_ n14_ n15_; clear hb hbox hg; have hnb38 := NB257_221.out; have hnc38 := NB221_257.out; have hnb39 := NB257_240.out; have hnc39 := NB240_257.out; obtain ⟨hcz40_0, hcz40_1, hcz40_2⟩ := ck3 BK257.out; obtain ⟨hfz40_0, hfz40_1, hfz40_2⟩ := fz3 BK257.out))
   (try simp only [Act.put, List.setIfInBounds_toArray, List.set_cons_zero, List.set_cons_succ])
   go_cut [70] (fun v70 wc => ∃ (kq : Nat) (x70_17 : Bool), v70 = .bool x70_17 ∧ Aside0 (laws_FnExactBoth16.j0 kq l1 l2 t233 t236 t241 t244 t250 t253 x70_17 a0_0 a0_1 a0_2 t237 t238 t239 t254 t255 t256 = some r) ∧ Aside0 (kq ≤ k) ∧ Aside0 (Kd.S k41 41 wc w.heap.size (fun _ => True) v234 t233) ∧ Aside0 (Kd.S (Kd.slice 5 (Kd.int .u8)) 28 wc w.heap.size (fun k_ => some k_ ≠ ((.slice Ao35 t244.length co35) : Value).ownBlock) (.slice Ao34 t241.length co34) t241) ∧ Aside0 (Kd.S (Kd.slice 5 (Kd.int .u8)) 28 wc w.heap.size (fun k_ => some k_ ≠ ((.slice Ao34 t241.length co34) : Value).ownBlock) (.slice Ao35 t244.length co35) t244) ∧ Aside0 (Kd.S k41 41 wc w.heap.size (fun _ => True) v251 t250) ∧ Aside0 (wc.heap[gb221]? = some (.cells #[.int .i64 a0_0, .int .i64 a0_1, .int .i64 a0_2] 23 (0, 0))) ∧ Aside0 (wc.heap[gb240]? = some (.cells #[.int .i64 t237, .int .i64 t238, .int .i64 t239] 25 (0, 0))) ∧ Aside0 (wc.heap[gb257]? = some (.cells #[.int .i64 t254, .int .i64 t255, .int .i64 t256] 25 (0, 0))) ∧ Aside0 (RG4 w.heap.size v234 t233 (.slice Ao34 t241.length co34) t241 (.slice Ao35 t244.length co35) t244 v251 t250 wc) ∧ Aside0 (Below w.heap.size w wc))
   case first =>
    have H := HC18.out
    clear HC18
    replace H := Option.bind_eq_some_iff.mp H
    obtain ⟨t258, A410, H⟩ := H
    replace H : (if t258 = true then (if t253 = t236 then ((laws_eqReceiver.f t254 t255 t256 t237 t238 t239).bind fun t259 => (laws_FnExactBoth16.j0 k l1 l2 t233 t236 t241 t244 t250 t253 (!t259) a0_0 a0_1 a0_2 t237 t238 t239 t254 t255 t256)) else (laws_FnExactBoth16.j0 k l1 l2 t233 t236 t241 t244 t250 t253 true a0_0 a0_1 a0_2 t237 t238 t239 t254 t255 t256)) else (laws_FnExactBoth16.j0 k l1 l2 t233 t236 t241 t244 t250 t253 true a0_0 a0_1 a0_2 t237 t238 t239 t254 t255 t256)) = some r := H
    have A41 := Aside0.mk A410
    clear A410
    by_cases c42 : t258 = true
    ·
     subst c42
     have H1 : (if t253 = t236 then ((laws_eqReceiver.f t254 t255 t256 t237 t238 t239).bind fun t259 => (laws_FnExactBoth16.j0 k l1 l2 t233 t236 t241 t244 t250 t253 (!t259) a0_0 a0_1 a0_2 t237 t238 t239 t254 t255 t256)) else (laws_FnExactBoth16.j0 k l1 l2 t233 t236 t241 t244 t250 t253 true a0_0 a0_1 a0_2 t237 t238 t239 t254 t255 t256)) = some r := by rw [if_pos rfl] at H; exact H
     clear H
     have H := H1
     clear H1
     by_cases c43 : t253 = t236
     ·
      rw [if_pos c43] at H
      have c43b0 : (t253 == t236) = true := beq_iff_eq.mpr c43
      have c43b1 : (t253 != t236) = false := bne_eq_false_iff_eq.mpr c43
      clear c43
      (first | rw [c43b0] | (simp only [i64_w, i32_w]; rw [c43b0]) | skip)
      replace H := Option.bind_eq_some_iff.mp H
      obtain ⟨t259, A440, H⟩ := H
      replace H : (laws_FnExactBoth16.j0 k l1 l2 t233 t236 t241 t244 t250 t253 (!t259) a0_0 a0_1 a0_2 t237 t238 t239 t254 t255 t256) = some r := H
      have A44 := Aside0.mk A440
      clear A440
      have H' := Aside0.mk H
      clear H
      obtain ⟨Ao45, co45, eo45⟩ := Kd.S_slice HO252.out
      subst eo45
      obtain ⟨Ao46, co46, eo46⟩ := Kd.S_slice HO235.out
      subst eo46
      go_wp2_with (first | ((with_reducible refine gate_callee (f := 49) rfl ?_); refine goesL_ (some 58) rfl rfl Try.func49 (by kernel_rfl) rfl #[.slice Ao45 t250.length co45, .slice Ao46 t233.length co46] rfl (by (try simp only [am_]); first | done | rfl) ?_; (with_reducible refine (laws_eqWord16S.calls k _ _ t250 _ _ t233 true _ ?side1 ?side2 ?side3 ?side4 A41.out).mono ?_); (case side1 => refine (Kd.S_reads' (e := 41) (base := w.heap.size) (ok := fun k_ => (True ∧ some k_ ≠ (.slice Ao46 t233.length co46 : Value).ownBlock)) (n := t250.length) (c := co45) ?_).2.2; exact (by (repeat apply sl1); exact (Kd.S_mono (Kd.S_far (p := ⟨gb257, 2, none⟩) (Kd.S_far (p := ⟨gb257, 1, none⟩) (Kd.S_far (p := ⟨gb257, 0, none⟩) (Kd.S_types HO252.out BK257.out (by decide)) (fun _ hk => hk.2) (.int .i64 t254)) (fun _ hk => hk.2) (.int .i64 t255)) (fun _ hk => hk.2) (.int .i64 t256)) (fun _ h_ => h_.1)))); (case side2 => exact (Kd.S_reads' HO252.out).2.1); (case side3 => refine (Kd.S_reads' (e := 41) (base := w.heap.size) (ok := fun k_ => (True ∧ some k_ ≠ (.slice Ao45 t250.length co45 : Value).ownBlock)) (n := t233.length) (c := co46) ?_).2.2; exact (by (repeat apply sl1); exact (Kd.S_mono (Kd.S_far (p := ⟨gb257, 2, none⟩) (Kd.S_far (p := ⟨gb257, 1, none⟩) (Kd.S_far (p := ⟨gb257, 0, none⟩) (Kd.S_types HO235.out BK257.out (by decide)) (fun _ hk => hk.2) (.int .i64 t254)) (fun _ hk => hk.2) (.int .i64 t255)) (fun _ hk => hk.2) (.int .i64 t256)) (fun _ h_ => h_.1)))); (case side4 => exact (Kd.S_reads' HO235.out).2.1); rintro e w47 ⟨rfl, hb⟩; refine ⟨_, rfl, ?_⟩; have n0_ := Aside0.mk (Kd.S_below (by (repeat apply sl1); exact (Kd.S_mono (Kd.S_far (p := ⟨gb257, 2, none⟩) (Kd.S_far (p := ⟨gb257, 1, none⟩) (Kd.S_far (p := ⟨gb257, 0, none⟩) (Kd.S_types HO229.out BK257.out (by decide)) (fun _ hk => hk.2) (.int .i64 t254)) (fun _ hk => hk.2) (.int .i64 t255)) (fun _ hk => hk.2) (.int .i64 t256)) (fun _ h_ => h_.1))) hb); have n1_ := Aside0.mk (Kd.S_below (by (repeat apply sl1); exact (Kd.S_mono (Kd.S_far (p := ⟨gb257, 2, none⟩) (Kd.S_far (p := ⟨gb257, 1, none⟩) (Kd.S_far (p := ⟨gb257, 0, none⟩) (Kd.S_types HO232.out BK257.out (by decide)) (fun _ hk => hk.2) (.int .i64 t254)) (fun _ hk => hk.2) (.int .i64 t255)) (fun _ hk => hk.2) (.int .i64 t256)) (fun _ h_ => h_.1))) hb); have n2_ := Aside0.mk (Kd.S_below (by (repeat apply sl1); exact (Kd.S_mono (Kd.S_far (p := ⟨gb257, 2, none⟩) (Kd.S_far (p := ⟨gb257, 1, none⟩) (Kd.S_far (p := ⟨gb257, 0, none⟩) (Kd.S_types HO235.out BK257.out (by decide)) (fun _ hk => hk.2) (.int .i64 t254)) (fun _ hk => hk.2) (.int .i64 t255)) (fun _ hk => hk.2) (.int .i64 t256)) (fun _ h_ => h_.1))) hb); have n3_ := Aside0.mk (Kd.S_below (by (repeat apply sl1); exact (Kd.S_mono (Kd.S_far (p := ⟨gb257, 2, none⟩) (Kd.S_far (p := ⟨gb257, 1, none⟩) (Kd.S_far (p := ⟨gb257, 0, none⟩) (Kd.S_types HO243.out BK257.out (by decide)) (fun _ hk => hk.2) (.int .i64 t254)) (fun _ hk => hk.2) (.int .i64 t255)) (fun _ hk => hk.2) (.int .i64 t256)) (fun _ h_ => h_.1))) hb); have n4_ := Aside0.mk (Kd.S_below (by (repeat apply sl1); exact (Kd.S_mono (Kd.S_far (p := ⟨gb257, 2, none⟩) (Kd.S_far (p := ⟨gb257, 1, none⟩) (Kd.S_far (p := ⟨gb257, 0, none⟩) (Kd.S_types HO246.out BK257.out (by decide)) (fun _ hk => hk.2) (.int .i64 t254)) (fun _ hk => hk.2) (.int .i64 t255)) (fun _ hk => hk.2) (.int .i64 t256)) (fun _ h_ => h_.1))) hb); have n5_ := Aside0.mk (Kd.S_below (by (repeat apply sl1); exact (Kd.S_mono (Kd.S_far (p := ⟨gb257, 2, none⟩) (Kd.S_far (p := ⟨gb257, 1, none⟩) (Kd.S_far (p := ⟨gb257, 0, none⟩) (Kd.S_types HO252.out BK257.out (by decide)) (fun _ hk => hk.2) (.int .i64 t254)) (fun _ hk => hk.2) (.int .i64 t255)) (fun _ hk => hk.2) (.int .i64 t256)) (fun _ h_ => h_.1))) hb); have n6_ := Aside0.mk (blk_below (g := gb221) (o := .cells #[.int .i64 a0_0, .int .i64 a0_1, .int .i64 a0_2] 23 (0, 0)) (by (repeat refine bk1 ?_); refine blk_far ?_ NB221_257.out _; (repeat refine bk1 ?_); refine blk_far ?_ NB221_257.out _; (repeat refine bk1 ?_); refine blk_far ?_ NB221_257.out _; (repeat refine bk1 ?_); exact BK221.out) hb); have n7_ := Aside0.mk (blk_below (g := gb240) (o := .cells #[.int .i64 t237, .int .i64 t238, .int .i64 t239] 25 (0, 0)) (by (repeat refine bk1 ?_); refine blk_far ?_ NB240_257.out _; (repeat refine bk1 ?_); refine blk_far ?_ NB240_257.out _; (repeat refine bk1 ?_); refine blk_far ?_ NB240_257.out _; (repeat refine bk1 ?_); exact BK240.out) hb); have n8_ := Aside0.mk (blk_below (g := gb257) (o := .cells #[.int .i64 t254, .int .i64 t255, .int .i64 t256] 25 (0, 0)) (by (repeat refine bk1 ?_); refine blk_put (cs := #[.int .i64 t254, .int .i64 t255, .int .i64 0]) ?_ 2 _ rfl; (repeat refine bk1 ?_); refine blk_put (cs := #[.int .i64 t254, .int .i64 0, .int .i64 0]) ?_ 1 _ rfl; (repeat refine bk1 ?_); refine blk_put (cs := #[.int .i64 0, .int .i64 0, .int .i64 0]) ?_ 0 _ rfl; (repeat refine bk1 ?_); exact BK257.out) hb); have n9_ := Aside0.mk (below_step (by repeat with_reducible first | exact bl HB.out | refine below_set ?_ GE221.out | refine below_set ?_ GE240.out | refine below_set ?_ GE257.out | refine bq ?_) hb); have q_HO235 := Aside0.mk (Kd.S_below (by (repeat apply sl1); exact (Kd.S_mono (Kd.S_far (p := ⟨gb257, 2, none⟩) (Kd.S_far (p := ⟨gb257, 1, none⟩) (Kd.S_far (p := ⟨gb257, 0, none⟩) (Kd.S_types RG_HO235.out BK257.out (by decide)) (fun _ hk => hk.2) (.int .i64 t254)) (fun _ hk => hk.2) (.int .i64 t255)) (fun _ hk => hk.2) (.int .i64 t256)) (fun _ h_ => h_.1))) hb); have q_HO243 := Aside0.mk (Kd.S_below (by (repeat apply sl1); exact (Kd.S_mono (Kd.S_far (p := ⟨gb257, 2, none⟩) (Kd.S_far (p := ⟨gb257, 1, none⟩) (Kd.S_far (p := ⟨gb257, 0, none⟩) (Kd.S_types RG_HO243.out BK257.out (by decide)) (fun _ hk => hk.2) (.int .i64 t254)) (fun _ hk => hk.2) (.int .i64 t255)) (fun _ hk => hk.2) (.int .i64 t256)) (fun _ h_ => h_.1))) hb); have q_HO246 := Aside0.mk (Kd.S_below (by (repeat apply sl1); exact (Kd.S_mono (Kd.S_far (p := ⟨gb257, 2, none⟩) (Kd.S_far (p := ⟨gb257, 1, none⟩) (Kd.S_far (p := ⟨gb257, 0, none⟩) (Kd.S_types RG_HO246.out BK257.out (by decide)) (fun _ hk => hk.2) (.int .i64 t254)) (fun _ hk => hk.2) (.int .i64 t255)) (fun _ hk => hk.2) (.int .i64 t256)) (fun _ h_ => h_.1))) hb); have q_HO252 := Aside0.mk (Kd.S_below (by (repeat apply sl1); exact (Kd.S_mono (Kd.S_far (p := ⟨gb257, 2, none⟩) (Kd.S_far (p := ⟨gb257, 1, none⟩) (Kd.S_far (p := ⟨gb257, 0, none⟩) (Kd.S_types RG_HO252.out BK257.out (by decide)) (fun _ hk => hk.2) (.int .i64 t254)) (fun _ hk => hk.2) (.int .i64 t255)) (fun _ hk => hk.2) (.int .i64 t256)) (fun _ h_ => h_.1))) hb); have q_od := Aside0.mk (Nat.le_trans (show HI_d ≤ _ from (by have h_ := OD.out; first | exact h_ | simpa using h_)) hb.size); clear RG_HO235; have RG_HO235 := q_HO235; clear q_HO235; clear RG_HO243; have RG_HO243 := q_HO243; clear q_HO243; clear RG_HO246; have RG_HO246 := q_HO246; clear q_HO246; clear RG_HO252; have RG_HO252 := q_HO252; clear q_HO252; clear OD; have OD := q_od; clear q_od; clear HO229; clear HO232; clear HO235; clear HO243; clear HO246; clear HO252; clear BK221; clear BK240; clear BK257; clear HB; have HO229 := n0_; have HO232 := n1_; have HO235 := n2_; have HO243 := n3_; have HO246 := n4_; have HO252 := n5_; have BK221 := n6_; have BK240 := n7_; have BK257 := n8_; have HB := n9_; clear n0_ n1_ n2_ n3_ n4_ n5_ n6_ n7_ n8_ n9_; (try clear hb); (try clear hb2); (try clear hk); (try clear hi); have hnb48 := NB257_221.out; have hnc48 := NB221_257.out; have hnb49 := NB257_240.out; have hnc49 := NB240_257.out; obtain ⟨hcz50_0, hcz50_1, hcz50_2⟩ := ck3 BK257.out; obtain ⟨hfz50_0, hfz50_1, hfz50_2⟩ := fz3 BK257.out; have hnb51 := NB240_221.out; have hnc51 := NB221_240.out; obtain ⟨hcz52_0, hcz52_1, hcz52_2⟩ := ck3 BK240.out; obtain ⟨hfz52_0, hfz52_1, hfz52_2⟩ := fz3 BK240.out) | (go_at_call 42; (with_reducible refine (laws_eqReceiver.calls t254 t255 t256 t237 t238 t239 t259 _ A44.out).mono ?_); rintro e w53 ⟨rfl, hb⟩; have n0_ := Aside0.mk (Kd.S_below (sl HO229.out) hb); have n1_ := Aside0.mk (Kd.S_below (sl HO232.out) hb); have n2_ := Aside0.mk (Kd.S_below (sl HO235.out) hb); have n3_ := Aside0.mk (Kd.S_below (sl HO243.out) hb); have n4_ := Aside0.mk (Kd.S_below (sl HO246.out) hb); have n5_ := Aside0.mk (Kd.S_below (sl HO252.out) hb); have n6_ := Aside0.mk (blk_below (bk BK221.out) hb); have n7_ := Aside0.mk (blk_below (bk BK240.out) hb); have n8_ := Aside0.mk (blk_below (bk BK257.out) hb); have n9_ := Aside0.mk (below_step (by repeat with_reducible first | exact bl HB.out | refine below_set ?_ GE221.out | refine below_set ?_ GE240.out | refine below_set ?_ GE257.out | refine bq ?_) hb); have q_HO235 := Aside0.mk (Kd.S_below (sl RG_HO235.out) hb); have q_HO243 := Aside0.mk (Kd.S_below (sl RG_HO243.out) hb); have q_HO246 := Aside0.mk (Kd.S_below (sl RG_HO246.out) hb); have q_HO252 := Aside0.mk (Kd.S_below (sl RG_HO252.out) hb); have q_od := Aside0.mk (Nat.le_trans (show HI_d ≤ _ from (by have h_ := OD.out; first | exact h_ | simpa using h_)) hb.size); clear RG_HO235; have RG_HO235 := q_HO235; clear q_HO235; clear RG_HO243; have RG_HO243 := q_HO243; clear q_HO243; clear RG_HO246; have RG_HO246 := q_HO246; clear q_HO246; clear RG_HO252; have RG_HO252 := q_HO252; clear q_HO252; clear OD; have OD := q_od; clear q_od; clear HO229; clear HO232; clear HO235; clear HO243; clear HO246; clear HO252; clear BK221; clear BK240; clear BK257; clear HB; have HO229 := n0_; have HO232 := n1_; have HO235 := n2_; have HO243 := n3_; have HO246 := n4_; have HO252 := n5_; have BK221 := n6_; have BK240 := n7_; have BK257 := n8_; have HB := n9_; clear n0_ n1_ n2_ n3_ n4_ n5_ n6_ n7_ n8_ n9_; (try clear hb); (try clear hb2); (try clear hk); (try clear hi)))
      go_meet
      case rel => exact ⟨_, (!t259), (by first | rfl | (simp; done) | (simp [*]; done)), H', ⟨by first | omega | exact Nat.le_refl _⟩, ⟨by (repeat apply sl1); exact Kd.S_mono HO235.out (fun _ hk => trivial)⟩, ⟨by (repeat apply sl1); exact Kd.S_mono HO243.out (fun _ hk => hk.2)⟩, ⟨by (repeat apply sl1); exact Kd.S_mono HO246.out (fun _ hk => hk.2)⟩, ⟨by (repeat apply sl1); exact Kd.S_mono HO252.out (fun _ hk => trivial)⟩, ⟨bk BK221.out⟩, ⟨bk BK240.out⟩, ⟨bk BK257.out⟩, ⟨⟨_, _, _, _, _, _, _, ⟨⟨ORD1.out, ORD2.out, ORD3.out⟩⟩, ⟨(sl RG_HO235.out)⟩, ⟨(sl RG_HO243.out)⟩, ⟨(sl RG_HO246.out)⟩, ⟨(sl RG_HO252.out)⟩⟩⟩, ⟨by repeat with_reducible first | exact bl HB.out | refine below_set ?_ GE221.out | refine below_set ?_ GE240.out | refine below_set ?_ GE257.out | refine bq ?_⟩⟩
     ·
      rw [if_neg c43] at H
      have c43b0 : (t253 == t236) = false := beq_eq_false_iff_ne.mpr c43
      have c43b1 : (t253 != t236) = true := bne_iff_ne.mpr c43
      (first | rw [c43b0] | (simp only [i64_w, i32_w]; rw [c43b0]) | skip)
      have H' := Aside0.mk H
      clear H
      obtain ⟨Ao54, co54, eo54⟩ := Kd.S_slice HO252.out
      subst eo54
      obtain ⟨Ao55, co55, eo55⟩ := Kd.S_slice HO235.out
      subst eo55
      go_wp2_with (first | ((with_reducible refine gate_callee (f := 49) rfl ?_); refine goesL_ (some 58) rfl rfl Try.func49 (by kernel_rfl) rfl #[.slice Ao54 t250.length co54, .slice Ao55 t233.length co55] rfl (by (try simp only [am_]); first | done | rfl) ?_; (with_reducible refine (laws_eqWord16S.calls k _ _ t250 _ _ t233 true _ ?side1 ?side2 ?side3 ?side4 A41.out).mono ?_); (case side1 => refine (Kd.S_reads' (e := 41) (base := w.heap.size) (ok := fun k_ => (True ∧ some k_ ≠ (.slice Ao55 t233.length co55 : Value).ownBlock)) (n := t250.length) (c := co54) ?_).2.2; exact (by (repeat apply sl1); exact (Kd.S_mono (Kd.S_far (p := ⟨gb257, 2, none⟩) (Kd.S_far (p := ⟨gb257, 1, none⟩) (Kd.S_far (p := ⟨gb257, 0, none⟩) (Kd.S_types HO252.out BK257.out (by decide)) (fun _ hk => hk.2) (.int .i64 t254)) (fun _ hk => hk.2) (.int .i64 t255)) (fun _ hk => hk.2) (.int .i64 t256)) (fun _ h_ => h_.1)))); (case side2 => exact (Kd.S_reads' HO252.out).2.1); (case side3 => refine (Kd.S_reads' (e := 41) (base := w.heap.size) (ok := fun k_ => (True ∧ some k_ ≠ (.slice Ao54 t250.length co54 : Value).ownBlock)) (n := t233.length) (c := co55) ?_).2.2; exact (by (repeat apply sl1); exact (Kd.S_mono (Kd.S_far (p := ⟨gb257, 2, none⟩) (Kd.S_far (p := ⟨gb257, 1, none⟩) (Kd.S_far (p := ⟨gb257, 0, none⟩) (Kd.S_types HO235.out BK257.out (by decide)) (fun _ hk => hk.2) (.int .i64 t254)) (fun _ hk => hk.2) (.int .i64 t255)) (fun _ hk => hk.2) (.int .i64 t256)) (fun _ h_ => h_.1)))); (case side4 => exact (Kd.S_reads' HO235.out).2.1); rintro e w56 ⟨rfl, hb⟩; refine ⟨_, rfl, ?_⟩; have n0_ := Aside0.mk (Kd.S_below (by (repeat apply sl1); exact (Kd.S_mono (Kd.S_far (p := ⟨gb257, 2, none⟩) (Kd.S_far (p := ⟨gb257, 1, none⟩) (Kd.S_far (p := ⟨gb257, 0, none⟩) (Kd.S_types HO229.out BK257.out (by decide)) (fun _ hk => hk.2) (.int .i64 t254)) (fun _ hk => hk.2) (.int .i64 t255)) (fun _ hk => hk.2) (.int .i64 t256)) (fun _ h_ => h_.1))) hb); have n1_ := Aside0.mk (Kd.S_below (by (repeat apply sl1); exact (Kd.S_mono (Kd.S_far (p := ⟨gb257, 2, none⟩) (Kd.S_far (p := ⟨gb257, 1, none⟩) (Kd.S_far (p := ⟨gb257, 0, none⟩) (Kd.S_types HO232.out BK257.out (by decide)) (fun _ hk => hk.2) (.int .i64 t254)) (fun _ hk => hk.2) (.int .i64 t255)) (fun _ hk => hk.2) (.int .i64 t256)) (fun _ h_ => h_.1))) hb); have n2_ := Aside0.mk (Kd.S_below (by (repeat apply sl1); exact (Kd.S_mono (Kd.S_far (p := ⟨gb257, 2, none⟩) (Kd.S_far (p := ⟨gb257, 1, none⟩) (Kd.S_far (p := ⟨gb257, 0, none⟩) (Kd.S_types HO235.out BK257.out (by decide)) (fun _ hk => hk.2) (.int .i64 t254)) (fun _ hk => hk.2) (.int .i64 t255)) (fun _ hk => hk.2) (.int .i64 t256)) (fun _ h_ => h_.1))) hb); have n3_ := Aside0.mk (Kd.S_below (by (repeat apply sl1); exact (Kd.S_mono (Kd.S_far (p := ⟨gb257, 2, none⟩) (Kd.S_far (p := ⟨gb257, 1, none⟩) (Kd.S_far (p := ⟨gb257, 0, none⟩) (Kd.S_types HO243.out BK257.out (by decide)) (fun _ hk => hk.2) (.int .i64 t254)) (fun _ hk => hk.2) (.int .i64 t255)) (fun _ hk => hk.2) (.int .i64 t256)) (fun _ h_ => h_.1))) hb); have n4_ := Aside0.mk (Kd.S_below (by (repeat apply sl1); exact (Kd.S_mono (Kd.S_far (p := ⟨gb257, 2, none⟩) (Kd.S_far (p := ⟨gb257, 1, none⟩) (Kd.S_far (p := ⟨gb257, 0, none⟩) (Kd.S_types HO246.out BK257.out (by decide)) (fun _ hk => hk.2) (.int .i64 t254)) (fun _ hk => hk.2) (.int .i64 t255)) (fun _ hk => hk.2) (.int .i64 t256)) (fun _ h_ => h_.1))) hb); have n5_ := Aside0.mk (Kd.S_below (by (repeat apply sl1); exact (Kd.S_mono (Kd.S_far (p := ⟨gb257, 2, none⟩) (Kd.S_far (p := ⟨gb257, 1, none⟩) (Kd.S_far (p := ⟨gb257, 0, none⟩) (Kd.S_types HO252.out BK257.out (by decide)) (fun _ hk => hk.2) (.int .i64 t254)) (fun _ hk => hk.2) (.int .i64 t255)) (fun _ hk => hk.2) (.int .i64 t256)) (fun _ h_ => h_.1))) hb); have n6_ := Aside0.mk (blk_below (g := gb221) (o := .cells #[.int .i64 a0_0, .int .i64 a0_1, .int .i64 a0_2] 23 (0, 0)) (by (repeat refine bk1 ?_); refine blk_far ?_ NB221_257.out _; (repeat refine bk1 ?_); refine blk_far ?_ NB221_257.out _; (repeat refine bk1 ?_); refine blk_far ?_ NB221_257.out _; (repeat refine bk1 ?_); exact BK221.out) hb); have n7_ := Aside0.mk (blk_below (g := gb240) (o := .cells #[.int .i64 t237, .int .i64 t238, .int .i64 t239] 25 (0, 0)) (by (repeat refine bk1 ?_); refine blk_far ?_ NB240_257.out _; (repeat refine bk1 ?_); refine blk_far ?_ NB240_257.out _; (repeat refine bk1 ?_); refine blk_far ?_ NB240_257.out _; (repeat refine bk1 ?_); exact BK240.out) hb); have n8_ := Aside0.mk (blk_below (g := gb257) (o := .cells #[.int .i64 t254, .int .i64 t255, .int .i64 t256] 25 (0, 0)) (by (repeat refine bk1 ?_); refine blk_put (cs := #[.int .i64 t254, .int .i64 t255, .int .i64 0]) ?_ 2 _ rfl; (repeat refine bk1 ?_); refine blk_put (cs := #[.int .i64 t254, .int .i64 0, .int .i64 0]) ?_ 1 _ rfl; (repeat refine bk1 ?_); refine blk_put (cs := #[.int .i64 0, .int .i64 0, .int .i64 0]) ?_ 0 _ rfl; (repeat refine bk1 ?_); exact BK257.out) hb); have n9_ := Aside0.mk (below_step (by repeat with_reducible first | exact bl HB.out | refine below_set ?_ GE221.out | refine below_set ?_ GE240.out | refine below_set ?_ GE257.out | refine bq ?_) hb); have q_HO235 := Aside0.mk (Kd.S_below (by (repeat apply sl1); exact (Kd.S_mono (Kd.S_far (p := ⟨gb257, 2, none⟩) (Kd.S_far (p := ⟨gb257, 1, none⟩) (Kd.S_far (p := ⟨gb257, 0, none⟩) (Kd.S_types RG_HO235.out BK257.out (by decide)) (fun _ hk => hk.2) (.int .i64 t254)) (fun _ hk => hk.2) (.int .i64 t255)) (fun _ hk => hk.2) (.int .i64 t256)) (fun _ h_ => h_.1))) hb); have q_HO243 := Aside0.mk (Kd.S_below (by (repeat apply sl1); exact (Kd.S_mono (Kd.S_far (p := ⟨gb257, 2, none⟩) (Kd.S_far (p := ⟨gb257, 1, none⟩) (Kd.S_far (p := ⟨gb257, 0, none⟩) (Kd.S_types RG_HO243.out BK257.out (by decide)) (fun _ hk => hk.2) (.int .i64 t254)) (fun _ hk => hk.2) (.int .i64 t255)) (fun _ hk => hk.2) (.int .i64 t256)) (fun _ h_ => h_.1))) hb); have q_HO246 := Aside0.mk (Kd.S_below (by (repeat apply sl1); exact (Kd.S_mono (Kd.S_far (p := ⟨gb257, 2, none⟩) (Kd.S_far (p := ⟨gb257, 1, none⟩) (Kd.S_far (p := ⟨gb257, 0, none⟩) (Kd.S_types RG_HO246.out BK257.out (by decide)) (fun _ hk => hk.2) (.int .i64 t254)) (fun _ hk => hk.2) (.int .i64 t255)) (fun _ hk => hk.2) (.int .i64 t256)) (fun _ h_ => h_.1))) hb); have q_HO252 := Aside0.mk (Kd.S_below (by (repeat apply sl1); exact (Kd.S_mono (Kd.S_far (p := ⟨gb257, 2, none⟩) (Kd.S_far (p := ⟨gb257, 1, none⟩) (Kd.S_far (p := ⟨gb257, 0, none⟩) (Kd.S_types RG_HO252.out BK257.out (by decide)) (fun _ hk => hk.2) (.int .i64 t254)) (fun _ hk => hk.2) (.int .i64 t255)) (fun _ hk => hk.2) (.int .i64 t256)) (fun _ h_ => h_.1))) hb); have q_od := Aside0.mk (Nat.le_trans (show HI_d ≤ _ from (by have h_ := OD.out; first | exact h_ | simpa using h_)) hb.size); clear RG_HO235; have RG_HO235 := q_HO235; clear q_HO235; clear RG_HO243; have RG_HO243 := q_HO243; clear q_HO243; clear RG_HO246; have RG_HO246 := q_HO246; clear q_HO246; clear RG_HO252; have RG_HO252 := q_HO252; clear q_HO252; clear OD; have OD := q_od; clear q_od; clear HO229; clear HO232; clear HO235; clear HO243; clear HO246; clear HO252; clear BK221; clear BK240; clear BK257; clear HB; have HO229 := n0_; have HO232 := n1_; have HO235 := n2_; have HO243 := n3_; have HO246 := n4_; have HO252 := n5_; have BK221 := n6_; have BK240 := n7_; have BK257 := n8_; have HB := n9_; clear n0_ n1_ n2_ n3_ n4_ n5_ n6_ n7_ n8_ n9_; (try clear hb); (try clear hb2); (try clear hk); (try clear hi)))
      go_meet
      case rel => exact ⟨_, (true), (by first | rfl | (simp; done) | (simp [*]; done)), H', ⟨by first | omega | exact Nat.le_refl _⟩, ⟨by (repeat apply sl1); exact Kd.S_mono HO235.out (fun _ hk => trivial)⟩, ⟨by (repeat apply sl1); exact Kd.S_mono HO243.out (fun _ hk => hk.2)⟩, ⟨by (repeat apply sl1); exact Kd.S_mono HO246.out (fun _ hk => hk.2)⟩, ⟨by (repeat apply sl1); exact Kd.S_mono HO252.out (fun _ hk => trivial)⟩, ⟨bk BK221.out⟩, ⟨bk BK240.out⟩, ⟨bk BK257.out⟩, ⟨⟨_, _, _, _, _, _, _, ⟨⟨ORD1.out, ORD2.out, ORD3.out⟩⟩, ⟨(sl RG_HO235.out)⟩, ⟨(sl RG_HO243.out)⟩, ⟨(sl RG_HO246.out)⟩, ⟨(sl RG_HO252.out)⟩⟩⟩, ⟨by repeat with_reducible first | exact bl HB.out | refine below_set ?_ GE221.out | refine below_set ?_ GE240.out | refine below_set ?_ GE257.out | refine bq ?_⟩⟩
    ·
     replace c42 := Bool.eq_false_iff.mpr c42
     subst c42
     have H1 : (laws_FnExactBoth16.j0 k l1 l2 t233 t236 t241 t244 t250 t253 true a0_0 a0_1 a0_2 t237 t238 t239 t254 t255 t256) = some r := by rw [if_neg (show ¬ (false = true) by decide)] at H; exact H
     clear H
     have H := H1
     clear H1
     have H' := Aside0.mk H
     clear H
     obtain ⟨Ao57, co57, eo57⟩ := Kd.S_slice HO252.out
     subst eo57
     obtain ⟨Ao58, co58, eo58⟩ := Kd.S_slice HO235.out
     subst eo58
     go_wp2_with (first | ((with_reducible refine gate_callee (f := 49) rfl ?_); refine goesL_ (some 58) rfl rfl Try.func49 (by kernel_rfl) rfl #[.slice Ao57 t250.length co57, .slice Ao58 t233.length co58] rfl (by (try simp only [am_]); first | done | rfl) ?_; (with_reducible refine (laws_eqWord16S.calls k _ _ t250 _ _ t233 false _ ?side1 ?side2 ?side3 ?side4 A41.out).mono ?_); (case side1 => refine (Kd.S_reads' (e := 41) (base := w.heap.size) (ok := fun k_ => (True ∧ some k_ ≠ (.slice Ao58 t233.length co58 : Value).ownBlock)) (n := t250.length) (c := co57) ?_).2.2; exact (by (repeat apply sl1); exact (Kd.S_mono (Kd.S_far (p := ⟨gb257, 2, none⟩) (Kd.S_far (p := ⟨gb257, 1, none⟩) (Kd.S_far (p := ⟨gb257, 0, none⟩) (Kd.S_types HO252.out BK257.out (by decide)) (fun _ hk => hk.2) (.int .i64 t254)) (fun _ hk => hk.2) (.int .i64 t255)) (fun _ hk => hk.2) (.int .i64 t256)) (fun _ h_ => h_.1)))); (case side2 => exact (Kd.S_reads' HO252.out).2.1); (case side3 => refine (Kd.S_reads' (e := 41) (base := w.heap.size) (ok := fun k_ => (True ∧ some k_ ≠ (.slice Ao57 t250.length co57 : Value).ownBlock)) (n := t233.length) (c := co58) ?_).2.2; exact (by (repeat apply sl1); exact (Kd.S_mono (Kd.S_far (p := ⟨gb257, 2, none⟩) (Kd.S_far (p := ⟨gb257, 1, none⟩) (Kd.S_far (p := ⟨gb257, 0, none⟩) (Kd.S_types HO235.out BK257.out (by decide)) (fun _ hk => hk.2) (.int .i64 t254)) (fun _ hk => hk.2) (.int .i64 t255)) (fun _ hk => hk.2) (.int .i64 t256)) (fun _ h_ => h_.1)))); (case side4 => exact (Kd.S_reads' HO235.out).2.1); rintro e w59 ⟨rfl, hb⟩; refine ⟨_, rfl, ?_⟩; have n0_ := Aside0.mk (Kd.S_below (by (repeat apply sl1); exact (Kd.S_mono (Kd.S_far (p := ⟨gb257, 2, none⟩) (Kd.S_far (p := ⟨gb257, 1, none⟩) (Kd.S_far (p := ⟨gb257, 0, none⟩) (Kd.S_types HO229.out BK257.out (by decide)) (fun _ hk => hk.2) (.int .i64 t254)) (fun _ hk => hk.2) (.int .i64 t255)) (fun _ hk => hk.2) (.int .i64 t256)) (fun _ h_ => h_.1))) hb); have n1_ := Aside0.mk (Kd.S_below (by (repeat apply sl1); exact (Kd.S_mono (Kd.S_far (p := ⟨gb257, 2, none⟩) (Kd.S_far (p := ⟨gb257, 1, none⟩) (Kd.S_far (p := ⟨gb257, 0, none⟩) (Kd.S_types HO232.out BK257.out (by decide)) (fun _ hk => hk.2) (.int .i64 t254)) (fun _ hk => hk.2) (.int .i64 t255)) (fun _ hk => hk.2) (.int .i64 t256)) (fun _ h_ => h_.1))) hb); have n2_ := Aside0.mk (Kd.S_below (by (repeat apply sl1); exact (Kd.S_mono (Kd.S_far (p := ⟨gb257, 2, none⟩) (Kd.S_far (p := ⟨gb257, 1, none⟩) (Kd.S_far (p := ⟨gb257, 0, none⟩) (Kd.S_types HO235.out BK257.out (by decide)) (fun _ hk => hk.2) (.int .i64 t254)) (fun _ hk => hk.2) (.int .i64 t255)) (fun _ hk => hk.2) (.int .i64 t256)) (fun _ h_ => h_.1))) hb); have n3_ := Aside0.mk (Kd.S_below (by (repeat apply sl1); exact (Kd.S_mono (Kd.S_far (p := ⟨gb257, 2, none⟩) (Kd.S_far (p := ⟨gb257, 1, none⟩) (Kd.S_far (p := ⟨gb257, 0, none⟩) (Kd.S_types HO243.out BK257.out (by decide)) (fun _ hk => hk.2) (.int .i64 t254)) (fun _ hk => hk.2) (.int .i64 t255)) (fun _ hk => hk.2) (.int .i64 t256)) (fun _ h_ => h_.1))) hb); have n4_ := Aside0.mk (Kd.S_below (by (repeat apply sl1); exact (Kd.S_mono (Kd.S_far (p := ⟨gb257, 2, none⟩) (Kd.S_far (p := ⟨gb257, 1, none⟩) (Kd.S_far (p := ⟨gb257, 0, none⟩) (Kd.S_types HO246.out BK257.out (by decide)) (fun _ hk => hk.2) (.int .i64 t254)) (fun _ hk => hk.2) (.int .i64 t255)) (fun _ hk => hk.2) (.int .i64 t256)) (fun _ h_ => h_.1))) hb); have n5_ := Aside0.mk (Kd.S_below (by (repeat apply sl1); exact (Kd.S_mono (Kd.S_far (p := ⟨gb257, 2, none⟩) (Kd.S_far (p := ⟨gb257, 1, none⟩) (Kd.S_far (p := ⟨gb257, 0, none⟩) (Kd.S_types HO252.out BK257.out (by decide)) (fun _ hk => hk.2) (.int .i64 t254)) (fun _ hk => hk.2) (.int .i64 t255)) (fun _ hk => hk.2) (.int .i64 t256)) (fun _ h_ => h_.1))) hb); have n6_ := Aside0.mk (blk_below (g := gb221) (o := .cells #[.int .i64 a0_0, .int .i64 a0_1, .int .i64 a0_2] 23 (0, 0)) (by (repeat refine bk1 ?_); refine blk_far ?_ NB221_257.out _; (repeat refine bk1 ?_); refine blk_far ?_ NB221_257.out _; (repeat refine bk1 ?_); refine blk_far ?_ NB221_257.out _; (repeat refine bk1 ?_); exact BK221.out) hb); have n7_ := Aside0.mk (blk_below (g := gb240) (o := .cells #[.int .i64 t237, .int .i64 t238, .int .i64 t239] 25 (0, 0)) (by (repeat refine bk1 ?_); refine blk_far ?_ NB240_257.out _; (repeat refine bk1 ?_); refine blk_far ?_ NB240_257.out _; (repeat refine bk1 ?_); refine blk_far ?_ NB240_257.out _; (repeat refine bk1 ?_); exact BK240.out) hb); have n8_ := Aside0.mk (blk_below (g := gb257) (o := .cells #[.int .i64 t254, .int .i64 t255, .int .i64 t256] 25 (0, 0)) (by (repeat refine bk1 ?_); refine blk_put (cs := #[.int .i64 t254, .int .i64 t255, .int .i64 0]) ?_ 2 _ rfl; (repeat refine bk1 ?_); refine blk_put (cs := #[.int .i64 t254, .int .i64 0, .int .i64 0]) ?_ 1 _ rfl; (repeat refine bk1 ?_); refine blk_put (cs := #[.int .i64 0, .int .i64 0, .int .i64 0]) ?_ 0 _ rfl; (repeat refine bk1 ?_); exact BK257.out) hb); have n9_ := Aside0.mk (below_step (by repeat with_reducible first | exact bl HB.out | refine below_set ?_ GE221.out | refine below_set ?_ GE240.out | refine below_set ?_ GE257.out | refine bq ?_) hb); have q_HO235 := Aside0.mk (Kd.S_below (by (repeat apply sl1); exact (Kd.S_mono (Kd.S_far (p := ⟨gb257, 2, none⟩) (Kd.S_far (p := ⟨gb257, 1, none⟩) (Kd.S_far (p := ⟨gb257, 0, none⟩) (Kd.S_types RG_HO235.out BK257.out (by decide)) (fun _ hk => hk.2) (.int .i64 t254)) (fun _ hk => hk.2) (.int .i64 t255)) (fun _ hk => hk.2) (.int .i64 t256)) (fun _ h_ => h_.1))) hb); have q_HO243 := Aside0.mk (Kd.S_below (by (repeat apply sl1); exact (Kd.S_mono (Kd.S_far (p := ⟨gb257, 2, none⟩) (Kd.S_far (p := ⟨gb257, 1, none⟩) (Kd.S_far (p := ⟨gb257, 0, none⟩) (Kd.S_types RG_HO243.out BK257.out (by decide)) (fun _ hk => hk.2) (.int .i64 t254)) (fun _ hk => hk.2) (.int .i64 t255)) (fun _ hk => hk.2) (.int .i64 t256)) (fun _ h_ => h_.1))) hb); have q_HO246 := Aside0.mk (Kd.S_below (by (repeat apply sl1); exact (Kd.S_mono (Kd.S_far (p := ⟨gb257, 2, none⟩) (Kd.S_far (p := ⟨gb257, 1, none⟩) (Kd.S_far (p := ⟨gb257, 0, none⟩) (Kd.S_types RG_HO246.out BK257.out (by decide)) (fun _ hk => hk.2) (.int .i64 t254)) (fun _ hk => hk.2) (.int .i64 t255)) (fun _ hk => hk.2) (.int .i64 t256)) (fun _ h_ => h_.1))) hb); have q_HO252 := Aside0.mk (Kd.S_below (by (repeat apply sl1); exact (Kd.S_mono (Kd.S_far (p := ⟨gb257, 2, none⟩) (Kd.S_far (p := ⟨gb257, 1, none⟩) (Kd.S_far (p := ⟨gb257, 0, none⟩) (Kd.S_types RG_HO252.out BK257.out (by decide)) (fun _ hk => hk.2) (.int .i64 t254)) (fun _ hk => hk.2) (.int .i64 t255)) (fun _ hk => hk.2) (.int .i64 t256)) (fun _ h_ => h_.1))) hb); have q_od := Aside0.mk (Nat.le_trans (show HI_d ≤ _ from (by have h_ := OD.out; first | exact h_ | simpa using h_)) hb.size); clear RG_HO235; have RG_HO235 := q_HO235; clear q_HO235; clear RG_HO243; have RG_HO243 := q_HO243; clear q_HO243; clear RG_HO246; have RG_HO246 := q_HO246; clear q_HO246; clear RG_HO252; have RG_HO252 := q_HO252; clear q_HO252; clear OD; have OD := q_od; clear q_od; clear HO229; clear HO232; clear HO235; clear HO243; clear HO246; clear HO252; clear BK221; clear BK240; clear BK257; clear HB; have HO229 := n0_; have HO232 := n1_; have HO235 := n2_; have HO243 := n3_; have HO246 := n4_; have HO252 := n5_; have BK221 := n6_; have BK240 := n7_; have BK257 := n8_; have HB := n9_; clear n0_ n1_ n2_ n3_ n4_ n5_ n6_ n7_ n8_ n9_; (try clear hb); (try clear hb2); (try clear hk); (try clear hi)))
     go_meet
     case rel => exact ⟨_, (true), (by first | rfl | (simp; done) | (simp [*]; done)), H', ⟨by first | omega | exact Nat.le_refl _⟩, ⟨by (repeat apply sl1); exact Kd.S_mono HO235.out (fun _ hk => trivial)⟩, ⟨by (repeat apply sl1); exact Kd.S_mono HO243.out (fun _ hk => hk.2)⟩, ⟨by (repeat apply sl1); exact Kd.S_mono HO246.out (fun _ hk => hk.2)⟩, ⟨by (repeat apply sl1); exact Kd.S_mono HO252.out (fun _ hk => trivial)⟩, ⟨bk BK221.out⟩, ⟨bk BK240.out⟩, ⟨bk BK257.out⟩, ⟨⟨_, _, _, _, _, _, _, ⟨⟨ORD1.out, ORD2.out, ORD3.out⟩⟩, ⟨(sl RG_HO235.out)⟩, ⟨(sl RG_HO243.out)⟩, ⟨(sl RG_HO246.out)⟩, ⟨(sl RG_HO252.out)⟩⟩⟩, ⟨by repeat with_reducible first | exact bl HB.out | refine below_set ?_ GE221.out | refine below_set ?_ GE240.out | refine below_set ?_ GE257.out | refine bq ?_⟩⟩
   case rest =>
    clear HC18
    try clear c1
    try clear c2
    try clear p2
    try clear c3
    try clear c4
    try clear c5
    try clear c5b0
    try clear c8
    try clear c8b0
    try clear c13
    try clear c15
    try clear c28
    try clear c31
    try clear c38
    try clear c39
    try clear c42
    try clear c43
    try clear c43b0
    try clear c43b1
    try clear c46
    try clear c47
    try clear c48
    try clear c49
    try clear c51
    try clear hcz20_0 hcz20_1 hcz20_2 hfz20_0 hfz20_1 hfz20_2
    try clear hcz29_0 hcz29_1 hcz29_2 hfz29_0 hfz29_1 hfz29_2
    try clear hcz32_0 hcz32_1 hcz32_2 hfz32_0 hfz32_1 hfz32_2
    try clear hcz40_0 hcz40_1 hcz40_2 hfz40_0 hfz40_1 hfz40_2
    try clear hcz50_0 hcz50_1 hcz50_2 hfz50_0 hfz50_1 hfz50_2
    try clear hcz52_0 hcz52_1 hcz52_2 hfz52_0 hfz52_1 hfz52_2
    obtain ⟨kq, x70_17, rfl, HA, HJ17, HO_8, HO_11, HO_12, HO_13, BK221, BK240, BK257, RGA, HB⟩ := hcut
    obtain ⟨HI_HO_8, LO_HO_11, HI_HO_11, LO_HO_12, HI_HO_12, LO_HO_13, HI_HO_13, ORD, RG_HO_8, RG_HO_11, RG_HO_12, RG_HO_13⟩ := RGA.out
    clear RGA
    cases kq with
    | zero => exact absurd HA.out (by simp [laws_FnExactBoth16.j0])
    | succ kj17 =>
     have H := HA.out
     clear HA
     simp only [laws_FnExactBoth16.j0] at H
     by_cases c60 : x70_17 = true
     ·
      subst c60
      have H1 : (some false) = some r := by rw [if_pos rfl] at H; exact H
      clear H
      have H := H1
      clear H1
      cases H.trans (congrArg some hr_)
     ·
      replace c60 := Bool.eq_false_iff.mpr c60
      subst c60
      have H1 : ((laws_toByteSS.f kj17 l1).bind fun t260 => ((laws_eqByteSS.f kj17 t241 t260).bind fun t263 => (if t263 = true then ((laws_toByteSS.f kj17 l2).bind fun t264 => ((laws_eqByteSS.f kj17 t244 t264).bind fun t267 => (if t267 = true then ((laws_markByteSS.f kj17 t241 1).bind fun bt268 => ((laws_markByteSS.f kj17 t244 bt268.1).bind fun bt270 => (if bt270.1 < 0 then (laws_FnExactBoth16.j1 kj17 l1 l2 t233 t236 t250 true a0_0 a0_1 a0_2 t237 t238 t239) else ((laws_eqWord16S.f kj17 t250 t233).bind fun t272 => (if t272 = true then (if t253 = t236 then ((laws_eqReceiver.f t254 t255 t256 t237 t238 t239).bind fun t273 => (laws_FnExactBoth16.j1 kj17 l1 l2 t233 t236 t250 (!t273) a0_0 a0_1 a0_2 t237 t238 t239)) else (laws_FnExactBoth16.j1 kj17 l1 l2 t233 t236 t250 true a0_0 a0_1 a0_2 t237 t238 t239)) else (laws_FnExactBoth16.j1 kj17 l1 l2 t233 t236 t250 true a0_0 a0_1 a0_2 t237 t238 t239)))))) else (some false)))) else (some false)))) = some r := by rw [if_neg (show ¬ (false = true) by decide)] at H; exact H
      clear H
      have H := H1
      clear H1
      replace H := Option.bind_eq_some_iff.mp H
      obtain ⟨t260, A610, H⟩ := H
      replace H : ((laws_eqByteSS.f kj17 t241 t260).bind fun t263 => (if t263 = true then ((laws_toByteSS.f kj17 l2).bind fun t264 => ((laws_eqByteSS.f kj17 t244 t264).bind fun t267 => (if t267 = true then ((laws_markByteSS.f kj17 t241 1).bind fun bt268 => ((laws_markByteSS.f kj17 t244 bt268.1).bind fun bt270 => (if bt270.1 < 0 then (laws_FnExactBoth16.j1 kj17 l1 l2 t233 t236 t250 true a0_0 a0_1 a0_2 t237 t238 t239) else ((laws_eqWord16S.f kj17 t250 t233).bind fun t272 => (if t272 = true then (if t253 = t236 then ((laws_eqReceiver.f t254 t255 t256 t237 t238 t239).bind fun t273 => (laws_FnExactBoth16.j1 kj17 l1 l2 t233 t236 t250 (!t273) a0_0 a0_1 a0_2 t237 t238 t239)) else (laws_FnExactBoth16.j1 kj17 l1 l2 t233 t236 t250 true a0_0 a0_1 a0_2 t237 t238 t239)) else (laws_FnExactBoth16.j1 kj17 l1 l2 t233 t236 t250 true a0_0 a0_1 a0_2 t237 t238 t239)))))) else (some false)))) else (some false))) = some r := H
      have A61 := Aside0.mk A610
      clear A610
      replace H := Option.bind_eq_some_iff.mp H
      obtain ⟨t263, A620, H⟩ := H
      replace H : (if t263 = true then ((laws_toByteSS.f kj17 l2).bind fun t264 => ((laws_eqByteSS.f kj17 t244 t264).bind fun t267 => (if t267 = true then ((laws_markByteSS.f kj17 t241 1).bind fun bt268 => ((laws_markByteSS.f kj17 t244 bt268.1).bind fun bt270 => (if bt270.1 < 0 then (laws_FnExactBoth16.j1 kj17 l1 l2 t233 t236 t250 true a0_0 a0_1 a0_2 t237 t238 t239) else ((laws_eqWord16S.f kj17 t250 t233).bind fun t272 => (if t272 = true then (if t253 = t236 then ((laws_eqReceiver.f t254 t255 t256 t237 t238 t239).bind fun t273 => (laws_FnExactBoth16.j1 kj17 l1 l2 t233 t236 t250 (!t273) a0_0 a0_1 a0_2 t237 t238 t239)) else (laws_FnExactBoth16.j1 kj17 l1 l2 t233 t236 t250 true a0_0 a0_1 a0_2 t237 t238 t239)) else (laws_FnExactBoth16.j1 kj17 l1 l2 t233 t236 t250 true a0_0 a0_1 a0_2 t237 t238 t239)))))) else (some false)))) else (some false)) = some r := H
      have A62 := Aside0.mk A620
      clear A620
      by_cases c63 : t263 = true
      ·
       subst c63
       have H1 : ((laws_toByteSS.f kj17 l2).bind fun t264 => ((laws_eqByteSS.f kj17 t244 t264).bind fun t267 => (if t267 = true then ((laws_markByteSS.f kj17 t241 1).bind fun bt268 => ((laws_markByteSS.f kj17 t244 bt268.1).bind fun bt270 => (if bt270.1 < 0 then (laws_FnExactBoth16.j1 kj17 l1 l2 t233 t236 t250 true a0_0 a0_1 a0_2 t237 t238 t239) else ((laws_eqWord16S.f kj17 t250 t233).bind fun t272 => (if t272 = true then (if t253 = t236 then ((laws_eqReceiver.f t254 t255 t256 t237 t238 t239).bind fun t273 => (laws_FnExactBoth16.j1 kj17 l1 l2 t233 t236 t250 (!t273) a0_0 a0_1 a0_2 t237 t238 t239)) else (laws_FnExactBoth16.j1 kj17 l1 l2 t233 t236 t250 true a0_0 a0_1 a0_2 t237 t238 t239)) else (laws_FnExactBoth16.j1 kj17 l1 l2 t233 t236 t250 true a0_0 a0_1 a0_2 t237 t238 t239)))))) else (some false)))) = some r := by rw [if_pos rfl] at H; exact H
       clear H
       have H := H1
       clear H1
       replace H := Option.bind_eq_some_iff.mp H
       obtain ⟨t264, A640, H⟩ := H
       replace H : ((laws_eqByteSS.f kj17 t244 t264).bind fun t267 => (if t267 = true then ((laws_markByteSS.f kj17 t241 1).bind fun bt268 => ((laws_markByteSS.f kj17 t244 bt268.1).bind fun bt270 => (if bt270.1 < 0 then (laws_FnExactBoth16.j1 kj17 l1 l2 t233 t236 t250 true a0_0 a0_1 a0_2 t237 t238 t239) else ((laws_eqWord16S.f kj17 t250 t233).bind fun t272 => (if t272 = true then (if t253 = t236 then ((laws_eqReceiver.f t254 t255 t256 t237 t238 t239).bind fun t273 => (laws_FnExactBoth16.j1 kj17 l1 l2 t233 t236 t250 (!t273) a0_0 a0_1 a0_2 t237 t238 t239)) else (laws_FnExactBoth16.j1 kj17 l1 l2 t233 t236 t250 true a0_0 a0_1 a0_2 t237 t238 t239)) else (laws_FnExactBoth16.j1 kj17 l1 l2 t233 t236 t250 true a0_0 a0_1 a0_2 t237 t238 t239)))))) else (some false))) = some r := H
       have A64 := Aside0.mk A640
       clear A640
       replace H := Option.bind_eq_some_iff.mp H
       obtain ⟨t267, A650, H⟩ := H
       replace H : (if t267 = true then ((laws_markByteSS.f kj17 t241 1).bind fun bt268 => ((laws_markByteSS.f kj17 t244 bt268.1).bind fun bt270 => (if bt270.1 < 0 then (laws_FnExactBoth16.j1 kj17 l1 l2 t233 t236 t250 true a0_0 a0_1 a0_2 t237 t238 t239) else ((laws_eqWord16S.f kj17 t250 t233).bind fun t272 => (if t272 = true then (if t253 = t236 then ((laws_eqReceiver.f t254 t255 t256 t237 t238 t239).bind fun t273 => (laws_FnExactBoth16.j1 kj17 l1 l2 t233 t236 t250 (!t273) a0_0 a0_1 a0_2 t237 t238 t239)) else (laws_FnExactBoth16.j1 kj17 l1 l2 t233 t236 t250 true a0_0 a0_1 a0_2 t237 t238 t239)) else (laws_FnExactBoth16.j1 kj17 l1 l2 t233 t236 t250 true a0_0 a0_1 a0_2 t237 t238 t239)))))) else (some false)) = some r := H
       have A65 := Aside0.mk A650
       clear A650
       by_cases c66 : t267 = true
       ·
        subst c66
        have H1 : ((laws_markByteSS.f kj17 t241 1).bind fun bt268 => ((laws_markByteSS.f kj17 t244 bt268.1).bind fun bt270 => (if bt270.1 < 0 then (laws_FnExactBoth16.j1 kj17 l1 l2 t233 t236 t250 true a0_0 a0_1 a0_2 t237 t238 t239) else ((laws_eqWord16S.f kj17 t250 t233).bind fun t272 => (if t272 = true then (if t253 = t236 then ((laws_eqReceiver.f t254 t255 t256 t237 t238 t239).bind fun t273 => (laws_FnExactBoth16.j1 kj17 l1 l2 t233 t236 t250 (!t273) a0_0 a0_1 a0_2 t237 t238 t239)) else (laws_FnExactBoth16.j1 kj17 l1 l2 t233 t236 t250 true a0_0 a0_1 a0_2 t237 t238 t239)) else (laws_FnExactBoth16.j1 kj17 l1 l2 t233 t236 t250 true a0_0 a0_1 a0_2 t237 t238 t239)))))) = some r := by rw [if_pos rfl] at H; exact H
        clear H
        have H := H1
        clear H1
        replace H := Option.bind_eq_some_iff.mp H
        obtain ⟨⟨t268, t269⟩, A670, H⟩ := H
        replace H : ((laws_markByteSS.f kj17 t244 t268).bind fun bt270 => (if bt270.1 < 0 then (laws_FnExactBoth16.j1 kj17 l1 l2 t233 t236 t250 true a0_0 a0_1 a0_2 t237 t238 t239) else ((laws_eqWord16S.f kj17 t250 t233).bind fun t272 => (if t272 = true then (if t253 = t236 then ((laws_eqReceiver.f t254 t255 t256 t237 t238 t239).bind fun t273 => (laws_FnExactBoth16.j1 kj17 l1 l2 t233 t236 t250 (!t273) a0_0 a0_1 a0_2 t237 t238 t239)) else (laws_FnExactBoth16.j1 kj17 l1 l2 t233 t236 t250 true a0_0 a0_1 a0_2 t237 t238 t239)) else (laws_FnExactBoth16.j1 kj17 l1 l2 t233 t236 t250 true a0_0 a0_1 a0_2 t237 t238 t239))))) = some r := H
        have A67 := Aside0.mk A670
        clear A670
        replace H := Option.bind_eq_some_iff.mp H
        obtain ⟨⟨t270, t271⟩, A680, H⟩ := H
        replace H : (if t270 < 0 then (laws_FnExactBoth16.j1 kj17 l1 l2 t233 t236 t250 true a0_0 a0_1 a0_2 t237 t238 t239) else ((laws_eqWord16S.f kj17 t250 t233).bind fun t272 => (if t272 = true then (if t253 = t236 then ((laws_eqReceiver.f t254 t255 t256 t237 t238 t239).bind fun t273 => (laws_FnExactBoth16.j1 kj17 l1 l2 t233 t236 t250 (!t273) a0_0 a0_1 a0_2 t237 t238 t239)) else (laws_FnExactBoth16.j1 kj17 l1 l2 t233 t236 t250 true a0_0 a0_1 a0_2 t237 t238 t239)) else (laws_FnExactBoth16.j1 kj17 l1 l2 t233 t236 t250 true a0_0 a0_1 a0_2 t237 t238 t239)))) = some r := H
        have A68 := Aside0.mk A680
        clear A680
        have HC69 := Aside0.mk H
        clear H
        go_upto_region 21 with (first | ((with_reducible refine gate_callee (f := 48) rfl ?_); refine goesL_ (some 73) rfl rfl Try.func48 (by kernel_rfl) rfl #[.slice A1 l1.length c1] rfl (by (try simp only [am_]); first | done | rfl) ?_; (with_reducible refine (laws_toByteSS.calls kj17 _ _ l1 t260 _ ?side1 ?side2 A61.out).mono ?_); (case side1 => exact rc (Kd.C_below HR1.out HB.out)); (case side2 => exact HC1.out); rintro e w70 ⟨v261, rfl, ho0, hb⟩; refine ⟨_, rfl, ?_⟩; have n0_ := Aside0.mk (Kd.S_below (sl HO_8.out) hb); have n1_ := Aside0.mk (Kd.S_elder' (sl HO_11.out) (Kd.S_base ho0) hb); have n2_ := Aside0.mk (Kd.S_elder' (sl HO_12.out) (Kd.S_base ho0) hb); have n3_ := Aside0.mk (Kd.S_below (sl HO_13.out) hb); have n4_ := Aside0.mk (Kd.S_lower (Kd.S_new' (Kd.S_new' ho0 (Kd.S_lt (by (repeat apply sl1); exact HO_11.out))) (Kd.S_lt (by (repeat apply sl1); exact HO_12.out))) (below_size (by repeat with_reducible first | exact bl HB.out | refine below_set ?_ GE221.out | refine below_set ?_ GE240.out | refine below_set ?_ GE257.out | refine bq ?_))); have n5_ := Aside0.mk (blk_below (bk BK221.out) hb); have n6_ := Aside0.mk (blk_below (bk BK240.out) hb); have n7_ := Aside0.mk (blk_below (bk BK257.out) hb); have n8_ := Aside0.mk (below_step (by repeat with_reducible first | exact bl HB.out | refine below_set ?_ GE221.out | refine below_set ?_ GE240.out | refine below_set ?_ GE257.out | refine bq ?_) hb); have q_HO_8 := Aside0.mk (Kd.S_below (sl RG_HO_8.out) hb); have q_HO_11 := Aside0.mk (Kd.S_below (sl RG_HO_11.out) hb); have q_HO_12 := Aside0.mk (Kd.S_below (sl RG_HO_12.out) hb); have q_HO_13 := Aside0.mk (Kd.S_below (sl RG_HO_13.out) hb); clear RG_HO_8; have RG_HO_8 := q_HO_8; clear q_HO_8; clear RG_HO_11; have RG_HO_11 := q_HO_11; clear q_HO_11; clear RG_HO_12; have RG_HO_12 := q_HO_12; clear q_HO_12; clear RG_HO_13; have RG_HO_13 := q_HO_13; clear q_HO_13; clear HO_8; clear HO_11; clear HO_12; clear HO_13; clear BK221; clear BK240; clear BK257; clear HB; have HO_8 := n0_; have HO_11 := n1_; have HO_12 := n2_; have HO_13 := n3_; have HO262 := n4_; have BK221 := n5_; have BK240 := n6_; have BK257 := n7_; have HB := n8_; clear n0_ n1_ n2_ n3_ n4_ n5_ n6_ n7_ n8_; (try clear hb); (try clear hb2); (try clear hk); (try clear hi); (try clear ho0); obtain ⟨Ao71, co71, eo71⟩ := Kd.S_slice HO262.out; subst eo71) | ((with_reducible refine gate_callee (f := 50) rfl ?_); refine goesL_ (some 74) rfl rfl Try.func50 (by kernel_rfl) rfl #[.slice Ao34 t241.length co34, .slice Ao71 t260.length co71] rfl (by (try simp only [am_]); first | done | rfl) ?_; (with_reducible refine (laws_eqByteSS.calls kj17 _ _ t241 _ _ t260 true _ ?side1 ?side2 ?side3 ?side4 A62.out).mono ?_); (case side1 => exact rc (Kd.S_reads' HO_11.out).2.2); (case side2 => exact (Kd.S_reads' HO_11.out).2.1); (case side3 => exact rc (Kd.S_reads' HO262.out).2.2); (case side4 => exact (Kd.S_reads' HO262.out).2.1); rintro e w' ⟨rfl, ⟨nd, rfl⟩⟩; refine ⟨_, rfl, ?_⟩) | ((with_reducible refine gate_callee (f := 48) rfl ?_); refine goesL_ (some 78) rfl rfl Try.func48 (by kernel_rfl) rfl #[.slice A2 l2.length c2] rfl (by (try simp only [am_]); first | done | rfl) ?_; (with_reducible refine (laws_toByteSS.calls kj17 _ _ l2 t264 _ ?side1 ?side2 A64.out).mono ?_); (case side1 => repeat (first | exact (Kd.C_below HR2.out (by repeat with_reducible first | exact bl HB.out | refine below_set ?_ GE221.out | refine below_set ?_ GE240.out | refine below_set ?_ GE257.out | refine bq ?_)) | (with_reducible refine Kd.C_alloc ?_ _) | (with_reducible refine Kd.C_drewN ?_ _) | (with_reducible refine Kd.C_drew ?_))); (case side2 => exact HC2.out); rintro e w72 ⟨v265, rfl, ho0, hb⟩; refine ⟨_, rfl, ?_⟩; have n0_ := Aside0.mk (Kd.S_below (sl HO_8.out) hb); have n1_ := Aside0.mk (Kd.S_elder' (sl HO_11.out) (Kd.S_base ho0) hb); have n2_ := Aside0.mk (Kd.S_elder' (sl HO_12.out) (Kd.S_base ho0) hb); have n3_ := Aside0.mk (Kd.S_below (sl HO_13.out) hb); have n4_ := Aside0.mk (Kd.S_elder' (sl HO262.out) (Kd.S_base ho0) hb); have n5_ := Aside0.mk (Kd.S_lower (Kd.S_new' (Kd.S_new' (Kd.S_new' ho0 (Kd.S_lt (by (repeat apply sl1); exact HO_11.out))) (Kd.S_lt (by (repeat apply sl1); exact HO_12.out))) (Kd.S_lt (by (repeat apply sl1); exact HO262.out))) (below_size (by repeat with_reducible first | exact bl HB.out | refine below_set ?_ GE221.out | refine below_set ?_ GE240.out | refine below_set ?_ GE257.out | refine bq ?_))); have n6_ := Aside0.mk (blk_below (bk BK221.out) hb); have n7_ := Aside0.mk (blk_below (bk BK240.out) hb); have n8_ := Aside0.mk (blk_below (bk BK257.out) hb); have n9_ := Aside0.mk (below_step (by repeat with_reducible first | exact bl HB.out | refine below_set ?_ GE221.out | refine below_set ?_ GE240.out | refine below_set ?_ GE257.out | refine bq ?_) hb); have q_HO_8 := Aside0.mk (Kd.S_below (sl RG_HO_8.out) hb); have q_HO_11 := Aside0.mk (Kd.S_below (sl RG_HO_11.out) hb); have q_HO_12 := Aside0.mk (Kd.S_below (sl RG_HO_12.out) hb); have q_HO_13 := Aside0.mk (Kd.S_below (sl RG_HO_13.out) hb); clear RG_HO_8; have RG_HO_8 := q_HO_8; clear q_HO_8; clear RG_HO_11; have RG_HO_11 := q_HO_11; clear q_HO_11; clear RG_HO_12; have RG_HO_12 := q_HO_12; clear q_HO_12; clear RG_HO_13; have RG_HO_13 := q_HO_13; clear q_HO_13; clear HO_8; clear HO_11; clear HO_12; clear HO_13; clear HO262; clear BK221; clear BK240; clear BK257; clear HB; have HO_8 := n0_; have HO_11 := n1_; have HO_12 := n2_; have HO_13 := n3_; have HO262 := n4_; have HO266 := n5_; have BK221 := n6_; have BK240 := n7_; have BK257 := n8_; have HB := n9_; clear n0_ n1_ n2_ n3_ n4_ n5_ n6_ n7_ n8_ n9_; (try clear hb); (try clear hb2); (try clear hk); (try clear hi); (try clear ho0); obtain ⟨Ao73, co73, eo73⟩ := Kd.S_slice HO266.out; subst eo73) | ((with_reducible refine gate_callee (f := 50) rfl ?_); refine goesL_ (some 79) rfl rfl Try.func50 (by kernel_rfl) rfl #[.slice Ao35 t244.length co35, .slice Ao73 t264.length co73] rfl (by (try simp only [am_]); first | done | rfl) ?_; (with_reducible refine (laws_eqByteSS.calls kj17 _ _ t244 _ _ t264 true _ ?side1 ?side2 ?side3 ?side4 A65.out).mono ?_); (case side1 => exact rc (Kd.S_reads' HO_12.out).2.2); (case side2 => exact (Kd.S_reads' HO_12.out).2.1); (case side3 => exact rc (Kd.S_reads' HO266.out).2.2); (case side4 => exact (Kd.S_reads' HO266.out).2.1); rintro e w' ⟨rfl, ⟨nd, rfl⟩⟩; refine ⟨_, rfl, ?_⟩) | ((with_reducible refine gate_callee (f := 51) rfl ?_); refine goesL_ (some 83) rfl rfl Try.func51 (by kernel_rfl) rfl #[.slice Ao34 t241.length co34, .int .i64 1] rfl (by (try simp only [am_]); first | done | rfl) ?_; (with_reducible refine (laws_markByteSS.calls kj17 (fun k_ => ((((LO_HO_11 ≤ k_ ∧ k_ < HI_HO_11) ∧ k_ ≠ gb221) ∧ k_ ≠ gb240) ∧ k_ ≠ gb257)) (.slice Ao34 t241.length co34) t241 1 t268 t269 w _ ?side1 ?side2 A67.out).mono ?_); (case side1 => repeat (first | (with_reducible first | exact HB.out | apply below_alloc | apply pw_below_drewN | apply below_drew1 | refine below_set ?_ GE221.out | refine below_set ?_ GE240.out | refine below_set ?_ GE257.out) | exact HB.out)); (case side2 => exact Kd.S_types (Kd.S_types (Kd.S_types (RG_HO_11.out) BK221.out (by decide)) BK240.out (by decide)) BK257.out (by decide)); rintro e w74 ⟨rfl, hy0, hb, hkp⟩; refine ⟨_, rfl, ?_⟩; replace HO_8 := Aside0.mk (Kd.S_mono (ok' := fun _ => True) (Kd.S_kept (sl RG_HO_8.out) hkp (fun k_ h1_ h2_ => by have o_ := ORD.out; have a1 := h1_.1; have a2 := h1_.2; have b1 := h2_.1.1.1.1; have b2 := h2_.1.1.1.2; omega)) (fun _ _ => trivial)); replace HO_11 := Aside0.mk (Kd.S_mono (ok' := (fun k_ => k_ ≠ gb221 ∧ k_ ≠ gb240 ∧ k_ ≠ gb257)) hy0 (fun k_ hk => ⟨hk.1.1.2, ⟨hk.1.2, hk.2⟩⟩)); replace HO_12 := Aside0.mk (Kd.S_mono (ok' := fun _ => True) (Kd.S_kept (sl RG_HO_12.out) hkp (fun k_ h1_ h2_ => by have o_ := ORD.out; have a1 := h1_.1; have a2 := h1_.2; have b1 := h2_.1.1.1.1; have b2 := h2_.1.1.1.2; omega)) (fun _ _ => trivial)); replace HO_13 := Aside0.mk (Kd.S_mono (ok' := fun _ => True) (Kd.S_kept (sl RG_HO_13.out) hkp (fun k_ h1_ h2_ => by have o_ := ORD.out; have a1 := h1_.1; have a2 := h1_.2; have b1 := h2_.1.1.1.1; have b2 := h2_.1.1.1.2; omega)) (fun _ _ => trivial)); replace BK221 := Aside0.mk (blk_kept (bk BK221.out) hkp (fun hs_ => (fun e_ => (e_.1.1.2) rfl) hs_)); replace BK240 := Aside0.mk (blk_kept (bk BK240.out) hkp (fun hs_ => (fun e_ => (e_.1.2) rfl) hs_)); replace BK257 := Aside0.mk (blk_kept (bk BK257.out) hkp (fun hs_ => (fun e_ => (e_.2) rfl) hs_)); replace HO262 := Aside0.mk trivial; replace HO266 := Aside0.mk trivial; replace HB := Aside0.mk (hb); have q_HO_8 := Aside0.mk (Kd.S_kept (sl RG_HO_8.out) hkp (fun k_ h1_ h2_ => by have o_ := ORD.out; have a1 := h1_.1; have a2 := h1_.2; have b1 := h2_.1.1.1.1; have b2 := h2_.1.1.1.2; omega)); have q_HO_11 := Aside0.mk (Kd.S_mono hy0 (fun _ hk => hk.1.1.1)); have q_HO_12 := Aside0.mk (Kd.S_kept (sl RG_HO_12.out) hkp (fun k_ h1_ h2_ => by have o_ := ORD.out; have a1 := h1_.1; have a2 := h1_.2; have b1 := h2_.1.1.1.1; have b2 := h2_.1.1.1.2; omega)); have q_HO_13 := Aside0.mk (Kd.S_kept (sl RG_HO_13.out) hkp (fun k_ h1_ h2_ => by have o_ := ORD.out; have a1 := h1_.1; have a2 := h1_.2; have b1 := h2_.1.1.1.1; have b2 := h2_.1.1.1.2; omega)); clear RG_HO_8; have RG_HO_8 := q_HO_8; clear q_HO_8; clear RG_HO_11; have RG_HO_11 := q_HO_11; clear q_HO_11; clear RG_HO_12; have RG_HO_12 := q_HO_12; clear q_HO_12; clear RG_HO_13; have RG_HO_13 := q_HO_13; clear q_HO_13; (try clear hb); (try clear hkp); (try clear hy0)) | ((with_reducible refine gate_callee (f := 51) rfl ?_); refine goesL_ (some 86) rfl rfl Try.func51 (by kernel_rfl) rfl #[.slice Ao35 t244.length co35, .int .i64 t268] rfl (by (try simp only [am_]); first | done | rfl) ?_; (with_reducible refine (laws_markByteSS.calls kj17 (fun k_ => ((((LO_HO_12 ≤ k_ ∧ k_ < HI_HO_12) ∧ k_ ≠ gb221) ∧ k_ ≠ gb240) ∧ k_ ≠ gb257)) (.slice Ao35 t244.length co35) t244 t268 t270 t271 w _ ?side1 ?side2 A68.out).mono ?_); (case side1 => repeat (first | (with_reducible first | exact HB.out | apply below_alloc | apply pw_below_drewN | apply below_drew1 | refine below_set ?_ GE221.out | refine below_set ?_ GE240.out | refine below_set ?_ GE257.out) | exact HB.out)); (case side2 => exact Kd.S_types (Kd.S_types (Kd.S_types (RG_HO_12.out) BK221.out (by decide)) BK240.out (by decide)) BK257.out (by decide)); rintro e w75 ⟨rfl, hy0, hb, hkp⟩; refine ⟨_, rfl, ?_⟩; replace HO_8 := Aside0.mk (Kd.S_mono (ok' := fun _ => True) (Kd.S_kept (sl RG_HO_8.out) hkp (fun k_ h1_ h2_ => by have o_ := ORD.out; have a1 := h1_.1; have a2 := h1_.2; have b1 := h2_.1.1.1.1; have b2 := h2_.1.1.1.2; omega)) (fun _ _ => trivial)); replace HO_11 := Aside0.mk (Kd.S_mono (ok' := fun _ => True) (Kd.S_kept (sl RG_HO_11.out) hkp (fun k_ h1_ h2_ => by have o_ := ORD.out; have a1 := h1_.1; have a2 := h1_.2; have b1 := h2_.1.1.1.1; have b2 := h2_.1.1.1.2; omega)) (fun _ _ => trivial)); replace HO_12 := Aside0.mk (Kd.S_mono (ok' := (fun k_ => k_ ≠ gb221 ∧ k_ ≠ gb240 ∧ k_ ≠ gb257)) hy0 (fun k_ hk => ⟨hk.1.1.2, ⟨hk.1.2, hk.2⟩⟩)); replace HO_13 := Aside0.mk (Kd.S_mono (ok' := fun _ => True) (Kd.S_kept (sl RG_HO_13.out) hkp (fun k_ h1_ h2_ => by have o_ := ORD.out; have a1 := h1_.1; have a2 := h1_.2; have b1 := h2_.1.1.1.1; have b2 := h2_.1.1.1.2; omega)) (fun _ _ => trivial)); replace BK221 := Aside0.mk (blk_kept (bk BK221.out) hkp (fun hs_ => (fun e_ => (e_.1.1.2) rfl) hs_)); replace BK240 := Aside0.mk (blk_kept (bk BK240.out) hkp (fun hs_ => (fun e_ => (e_.1.2) rfl) hs_)); replace BK257 := Aside0.mk (blk_kept (bk BK257.out) hkp (fun hs_ => (fun e_ => (e_.2) rfl) hs_)); replace HO262 := Aside0.mk trivial; replace HO266 := Aside0.mk trivial; replace HB := Aside0.mk (hb); have q_HO_8 := Aside0.mk (Kd.S_kept (sl RG_HO_8.out) hkp (fun k_ h1_ h2_ => by have o_ := ORD.out; have a1 := h1_.1; have a2 := h1_.2; have b1 := h2_.1.1.1.1; have b2 := h2_.1.1.1.2; omega)); have q_HO_11 := Aside0.mk (Kd.S_kept (sl RG_HO_11.out) hkp (fun k_ h1_ h2_ => by have o_ := ORD.out; have a1 := h1_.1; have a2 := h1_.2; have b1 := h2_.1.1.1.1; have b2 := h2_.1.1.1.2; omega)); have q_HO_12 := Aside0.mk (Kd.S_mono hy0 (fun _ hk => hk.1.1.1)); have q_HO_13 := Aside0.mk (Kd.S_kept (sl RG_HO_13.out) hkp (fun k_ h1_ h2_ => by have o_ := ORD.out; have a1 := h1_.1; have a2 := h1_.2; have b1 := h2_.1.1.1.1; have b2 := h2_.1.1.1.2; omega)); clear RG_HO_8; have RG_HO_8 := q_HO_8; clear q_HO_8; clear RG_HO_11; have RG_HO_11 := q_HO_11; clear q_HO_11; clear RG_HO_12; have RG_HO_12 := q_HO_12; clear q_HO_12; clear RG_HO_13; have RG_HO_13 := q_HO_13; clear q_HO_13; (try clear hb); (try clear hkp); (try clear hy0)))
        (try simp only [Act.put, List.setIfInBounds_toArray, List.set_cons_zero, List.set_cons_succ])
        go_cut [105] (fun v105 wc => ∃ (kq : Nat) (x105_68 : Bool), v105 = .bool x105_68 ∧ Aside0 (laws_FnExactBoth16.j1 kq l1 l2 t233 t236 t250 x105_68 a0_0 a0_1 a0_2 t237 t238 t239 = some r) ∧ Aside0 (kq ≤ kj17) ∧ Aside0 (Kd.S k41 41 wc w.heap.size (fun _ => True) v234 t233) ∧ Aside0 (Kd.S k41 41 wc w.heap.size (fun _ => True) v251 t250) ∧ Aside0 (wc.heap[gb221]? = some (.cells #[.int .i64 a0_0, .int .i64 a0_1, .int .i64 a0_2] 23 (0, 0))) ∧ Aside0 (wc.heap[gb240]? = some (.cells #[.int .i64 t237, .int .i64 t238, .int .i64 t239] 25 (0, 0))) ∧ Aside0 (wc.heap[gb257]? = some (.cells #[.int .i64 t254, .int .i64 t255, .int .i64 t256] 25 (0, 0))) ∧ Aside0 (Kd.S k41 41 wc w.heap.size (fun k_ => 0 ≤ k_ ∧ k_ < HI_HO_8) v234 t233) ∧ Aside0 (Kd.S k41 41 wc w.heap.size (fun k_ => LO_HO_13 ≤ k_ ∧ k_ < HI_HO_13) v251 t250) ∧ Aside0 (Below w.heap.size w wc))
        case first =>
         have H := HC69.out
         clear HC69
         by_cases c76 : t270 < 0
         ·
          rw [if_pos c76] at H
          have c76b0 : decide (t270 < 0) = true := decide_eq_true c76
          clear c76
          (first | rw [c76b0] | (simp only [i64_w, i32_w]; rw [c76b0]) | skip)
          have H' := Aside0.mk H
          clear H
          go_wp2
          go_meet
          case rel => exact ⟨_, (true), (by first | rfl | (simp; done) | (simp [*]; done)), H', ⟨by have := HJ17.out; first | omega | exact Nat.le_refl _⟩, ⟨sl HO_8.out⟩, ⟨sl HO_13.out⟩, ⟨bk BK221.out⟩, ⟨bk BK240.out⟩, ⟨bk BK257.out⟩, ⟨(sl RG_HO_8.out)⟩, ⟨(sl RG_HO_13.out)⟩, ⟨by repeat with_reducible first | exact bl HB.out | refine below_set ?_ GE221.out | refine below_set ?_ GE240.out | refine below_set ?_ GE257.out | refine bq ?_⟩⟩
         ·
          rw [if_neg c76] at H
          have c76b0 : decide (t270 < 0) = false := decide_eq_false c76
          clear c76
          (first | rw [c76b0] | (simp only [i64_w, i32_w]; rw [c76b0]) | skip)
          replace H := Option.bind_eq_some_iff.mp H
          obtain ⟨t272, A770, H⟩ := H
          replace H : (if t272 = true then (if t253 = t236 then ((laws_eqReceiver.f t254 t255 t256 t237 t238 t239).bind fun t273 => (laws_FnExactBoth16.j1 kj17 l1 l2 t233 t236 t250 (!t273) a0_0 a0_1 a0_2 t237 t238 t239)) else (laws_FnExactBoth16.j1 kj17 l1 l2 t233 t236 t250 true a0_0 a0_1 a0_2 t237 t238 t239)) else (laws_FnExactBoth16.j1 kj17 l1 l2 t233 t236 t250 true a0_0 a0_1 a0_2 t237 t238 t239)) = some r := H
          have A77 := Aside0.mk A770
          clear A770
          by_cases c78 : t272 = true
          ·
           subst c78
           have H1 : (if t253 = t236 then ((laws_eqReceiver.f t254 t255 t256 t237 t238 t239).bind fun t273 => (laws_FnExactBoth16.j1 kj17 l1 l2 t233 t236 t250 (!t273) a0_0 a0_1 a0_2 t237 t238 t239)) else (laws_FnExactBoth16.j1 kj17 l1 l2 t233 t236 t250 true a0_0 a0_1 a0_2 t237 t238 t239)) = some r := by rw [if_pos rfl] at H; exact H
           clear H
           have H := H1
           clear H1
           by_cases c79 : t253 = t236
           ·
            rw [if_pos c79] at H
            have c79b0 : (t253 == t236) = true := beq_iff_eq.mpr c79
            have c79b1 : (t253 != t236) = false := bne_eq_false_iff_eq.mpr c79
            clear c79
            replace H := Option.bind_eq_some_iff.mp H
            obtain ⟨t273, A800, H⟩ := H
            replace H : (laws_FnExactBoth16.j1 kj17 l1 l2 t233 t236 t250 (!t273) a0_0 a0_1 a0_2 t237 t238 t239) = some r := H
            have A80 := Aside0.mk A800
            clear A800
            have H' := Aside0.mk H
            clear H
            obtain ⟨Ao81, co81, eo81⟩ := Kd.S_slice HO_13.out
            subst eo81
            obtain ⟨Ao82, co82, eo82⟩ := Kd.S_slice HO_8.out
            subst eo82
            go_wp2_with (first | (go_at_call 49; (with_reducible refine (laws_eqWord16S.calls kj17 _ _ t250 _ _ t233 true _ ?side1 ?side2 ?side3 ?side4 A77.out).mono ?_); (case side1 => exact rc (Kd.S_reads' HO_13.out).2.2); (case side2 => exact (Kd.S_reads' HO_13.out).2.1); (case side3 => exact rc (Kd.S_reads' HO_8.out).2.2); (case side4 => exact (Kd.S_reads' HO_8.out).2.1); rintro e w83 ⟨rfl, hb⟩; have n0_ := Aside0.mk (Kd.S_below (sl HO_8.out) hb); have n1_ := Aside0.mk (Kd.S_below (sl HO_11.out) hb); have n2_ := Aside0.mk (Kd.S_below (sl HO_12.out) hb); have n3_ := Aside0.mk (Kd.S_below (sl HO_13.out) hb); have n4_ := Aside0.mk trivial; have n5_ := Aside0.mk trivial; have n6_ := Aside0.mk (blk_below (bk BK221.out) hb); have n7_ := Aside0.mk (blk_below (bk BK240.out) hb); have n8_ := Aside0.mk (blk_below (bk BK257.out) hb); have n9_ := Aside0.mk (below_step (by repeat with_reducible first | exact bl HB.out | refine below_set ?_ GE221.out | refine below_set ?_ GE240.out | refine below_set ?_ GE257.out | refine bq ?_) hb); have q_HO_8 := Aside0.mk (Kd.S_below (sl RG_HO_8.out) hb); have q_HO_13 := Aside0.mk (Kd.S_below (sl RG_HO_13.out) hb); clear RG_HO_8; have RG_HO_8 := q_HO_8; clear q_HO_8; clear RG_HO_13; have RG_HO_13 := q_HO_13; clear q_HO_13; clear HO_8; clear HO_11; clear HO_12; clear HO_13; clear HO262; clear HO266; clear BK221; clear BK240; clear BK257; clear HB; have HO_8 := n0_; have HO_11 := n1_; have HO_12 := n2_; have HO_13 := n3_; have HO262 := n4_; have HO266 := n5_; have BK221 := n6_; have BK240 := n7_; have BK257 := n8_; have HB := n9_; clear n0_ n1_ n2_ n3_ n4_ n5_ n6_ n7_ n8_ n9_; (try clear hb); (try clear hb2); (try clear hk); (try clear hi); have hnb84 := NB257_221.out; have hnc84 := NB221_257.out; have hnb85 := NB257_240.out; have hnc85 := NB240_257.out; obtain ⟨hcz86_0, hcz86_1, hcz86_2⟩ := ck3 BK257.out; obtain ⟨hfz86_0, hfz86_1, hfz86_2⟩ := fz3 BK257.out; have hnb87 := NB240_221.out; have hnc87 := NB221_240.out; obtain ⟨hcz88_0, hcz88_1, hcz88_2⟩ := ck3 BK240.out; obtain ⟨hfz88_0, hfz88_1, hfz88_2⟩ := fz3 BK240.out) | (go_at_call 42; (with_reducible refine (laws_eqReceiver.calls t254 t255 t256 t237 t238 t239 t273 _ A80.out).mono ?_); rintro e w89 ⟨rfl, hb⟩; have n0_ := Aside0.mk (Kd.S_below (sl HO_8.out) hb); have n1_ := Aside0.mk (Kd.S_below (sl HO_11.out) hb); have n2_ := Aside0.mk (Kd.S_below (sl HO_12.out) hb); have n3_ := Aside0.mk (Kd.S_below (sl HO_13.out) hb); have n4_ := Aside0.mk trivial; have n5_ := Aside0.mk trivial; have n6_ := Aside0.mk (blk_below (bk BK221.out) hb); have n7_ := Aside0.mk (blk_below (bk BK240.out) hb); have n8_ := Aside0.mk (blk_below (bk BK257.out) hb); have n9_ := Aside0.mk (below_step (by repeat with_reducible first | exact bl HB.out | refine below_set ?_ GE221.out | refine below_set ?_ GE240.out | refine below_set ?_ GE257.out | refine bq ?_) hb); have q_HO_8 := Aside0.mk (Kd.S_below (sl RG_HO_8.out) hb); have q_HO_13 := Aside0.mk (Kd.S_below (sl RG_HO_13.out) hb); clear RG_HO_8; have RG_HO_8 := q_HO_8; clear q_HO_8; clear RG_HO_13; have RG_HO_13 := q_HO_13; clear q_HO_13; clear HO_8; clear HO_11; clear HO_12; clear HO_13; clear HO262; clear HO266; clear BK221; clear BK240; clear BK257; clear HB; have HO_8 := n0_; have HO_11 := n1_; have HO_12 := n2_; have HO_13 := n3_; have HO262 := n4_; have HO266 := n5_; have BK221 := n6_; have BK240 := n7_; have BK257 := n8_; have HB := n9_; clear n0_ n1_ n2_ n3_ n4_ n5_ n6_ n7_ n8_ n9_; (try clear hb); (try clear hb2); (try clear hk); (try clear hi)))
            go_meet
            case rel => exact ⟨_, (!t273), (by first | rfl | (simp; done) | (simp [*]; done)), H', ⟨by have := HJ17.out; first | omega | exact Nat.le_refl _⟩, ⟨sl HO_8.out⟩, ⟨sl HO_13.out⟩, ⟨bk BK221.out⟩, ⟨bk BK240.out⟩, ⟨bk BK257.out⟩, ⟨(sl RG_HO_8.out)⟩, ⟨(sl RG_HO_13.out)⟩, ⟨by repeat with_reducible first | exact bl HB.out | refine below_set ?_ GE221.out | refine below_set ?_ GE240.out | refine below_set ?_ GE257.out | refine bq ?_⟩⟩
           ·
            rw [if_neg c79] at H
            have c79b0 : (t253 == t236) = false := beq_eq_false_iff_ne.mpr c79
            have c79b1 : (t253 != t236) = true := bne_iff_ne.mpr c79
            have H' := Aside0.mk H
            clear H
            obtain ⟨Ao90, co90, eo90⟩ := Kd.S_slice HO_13.out
            subst eo90
            obtain ⟨Ao91, co91, eo91⟩ := Kd.S_slice HO_8.out
            subst eo91
            go_wp2_with (first | (go_at_call 49; (with_reducible refine (laws_eqWord16S.calls kj17 _ _ t250 _ _ t233 true _ ?side1 ?side2 ?side3 ?side4 A77.out).mono ?_); (case side1 => exact rc (Kd.S_reads' HO_13.out).2.2); (case side2 => exact (Kd.S_reads' HO_13.out).2.1); (case side3 => exact rc (Kd.S_reads' HO_8.out).2.2); (case side4 => exact (Kd.S_reads' HO_8.out).2.1); rintro e w92 ⟨rfl, hb⟩; have n0_ := Aside0.mk (Kd.S_below (sl HO_8.out) hb); have n1_ := Aside0.mk (Kd.S_below (sl HO_11.out) hb); have n2_ := Aside0.mk (Kd.S_below (sl HO_12.out) hb); have n3_ := Aside0.mk (Kd.S_below (sl HO_13.out) hb); have n4_ := Aside0.mk trivial; have n5_ := Aside0.mk trivial; have n6_ := Aside0.mk (blk_below (bk BK221.out) hb); have n7_ := Aside0.mk (blk_below (bk BK240.out) hb); have n8_ := Aside0.mk (blk_below (bk BK257.out) hb); have n9_ := Aside0.mk (below_step (by repeat with_reducible first | exact bl HB.out | refine below_set ?_ GE221.out | refine below_set ?_ GE240.out | refine below_set ?_ GE257.out | refine bq ?_) hb); have q_HO_8 := Aside0.mk (Kd.S_below (sl RG_HO_8.out) hb); have q_HO_13 := Aside0.mk (Kd.S_below (sl RG_HO_13.out) hb); clear RG_HO_8; have RG_HO_8 := q_HO_8; clear q_HO_8; clear RG_HO_13; have RG_HO_13 := q_HO_13; clear q_HO_13; clear HO_8; clear HO_11; clear HO_12; clear HO_13; clear HO262; clear HO266; clear BK221; clear BK240; clear BK257; clear HB; have HO_8 := n0_; have HO_11 := n1_; have HO_12 := n2_; have HO_13 := n3_; have HO262 := n4_; have HO266 := n5_; have BK221 := n6_; have BK240 := n7_; have BK257 := n8_; have HB := n9_; clear n0_ n1_ n2_ n3_ n4_ n5_ n6_ n7_ n8_ n9_; (try clear hb); (try clear hb2); (try clear hk); (try clear hi)))
            go_meet
            case rel => exact ⟨_, (true), (by first | rfl | (simp; done) | (simp [*]; done)), H', ⟨by have := HJ17.out; first | omega | exact Nat.le_refl _⟩, ⟨sl HO_8.out⟩, ⟨sl HO_13.out⟩, ⟨bk BK221.out⟩, ⟨bk BK240.out⟩, ⟨bk BK257.out⟩, ⟨(sl RG_HO_8.out)⟩, ⟨(sl RG_HO_13.out)⟩, ⟨by repeat with_reducible first | exact bl HB.out | refine below_set ?_ GE221.out | refine below_set ?_ GE240.out | refine below_set ?_ GE257.out | refine bq ?_⟩⟩
          ·
           replace c78 := Bool.eq_false_iff.mpr c78
           subst c78
           have H1 : (laws_FnExactBoth16.j1 kj17 l1 l2 t233 t236 t250 true a0_0 a0_1 a0_2 t237 t238 t239) = some r := by rw [if_neg (show ¬ (false = true) by decide)] at H; exact H
           clear H
           have H := H1
           clear H1
           have H' := Aside0.mk H
           clear H
           obtain ⟨Ao93, co93, eo93⟩ := Kd.S_slice HO_13.out
           subst eo93
           obtain ⟨Ao94, co94, eo94⟩ := Kd.S_slice HO_8.out
           subst eo94
           go_wp2_with (first | (go_at_call 49; (with_reducible refine (laws_eqWord16S.calls kj17 _ _ t250 _ _ t233 false _ ?side1 ?side2 ?side3 ?side4 A77.out).mono ?_); (case side1 => exact rc (Kd.S_reads' HO_13.out).2.2); (case side2 => exact (Kd.S_reads' HO_13.out).2.1); (case side3 => exact rc (Kd.S_reads' HO_8.out).2.2); (case side4 => exact (Kd.S_reads' HO_8.out).2.1); rintro e w95 ⟨rfl, hb⟩; have n0_ := Aside0.mk (Kd.S_below (sl HO_8.out) hb); have n1_ := Aside0.mk (Kd.S_below (sl HO_11.out) hb); have n2_ := Aside0.mk (Kd.S_below (sl HO_12.out) hb); have n3_ := Aside0.mk (Kd.S_below (sl HO_13.out) hb); have n4_ := Aside0.mk trivial; have n5_ := Aside0.mk trivial; have n6_ := Aside0.mk (blk_below (bk BK221.out) hb); have n7_ := Aside0.mk (blk_below (bk BK240.out) hb); have n8_ := Aside0.mk (blk_below (bk BK257.out) hb); have n9_ := Aside0.mk (below_step (by repeat with_reducible first | exact bl HB.out | refine below_set ?_ GE221.out | refine below_set ?_ GE240.out | refine below_set ?_ GE257.out | refine bq ?_) hb); have q_HO_8 := Aside0.mk (Kd.S_below (sl RG_HO_8.out) hb); have q_HO_13 := Aside0.mk (Kd.S_below (sl RG_HO_13.out) hb); clear RG_HO_8; have RG_HO_8 := q_HO_8; clear q_HO_8; clear RG_HO_13; have RG_HO_13 := q_HO_13; clear q_HO_13; clear HO_8; clear HO_11; clear HO_12; clear HO_13; clear HO262; clear HO266; clear BK221; clear BK240; clear BK257; clear HB; have HO_8 := n0_; have HO_11 := n1_; have HO_12 := n2_; have HO_13 := n3_; have HO262 := n4_; have HO266 := n5_; have BK221 := n6_; have BK240 := n7_; have BK257 := n8_; have HB := n9_; clear n0_ n1_ n2_ n3_ n4_ n5_ n6_ n7_ n8_ n9_; (try clear hb); (try clear hb2); (try clear hk); (try clear hi)))
           go_meet
           case rel => exact ⟨_, (true), (by first | rfl | (simp; done) | (simp [*]; done)), H', ⟨by have := HJ17.out; first | omega | exact Nat.le_refl _⟩, ⟨sl HO_8.out⟩, ⟨sl HO_13.out⟩, ⟨bk BK221.out⟩, ⟨bk BK240.out⟩, ⟨bk BK257.out⟩, ⟨(sl RG_HO_8.out)⟩, ⟨(sl RG_HO_13.out)⟩, ⟨by repeat with_reducible first | exact bl HB.out | refine below_set ?_ GE221.out | refine below_set ?_ GE240.out | refine below_set ?_ GE257.out | refine bq ?_⟩⟩
        case rest =>
         clear HC69
         try clear c1
         try clear c2
         try clear p2
         try clear c3
         try clear c4
         try clear c5
         try clear c5b0
         try clear c6
         try clear c7
         try clear c8
         try clear c8b0
         try clear c13
         try clear c15
         try clear c28
         try clear c31
         try clear c38
         try clear c39
         try clear c42
         try clear c43
         try clear c43b0
         try clear c43b1
         try clear c46
         try clear c47
         try clear c48
         try clear c49
         try clear c50
         try clear c51
         try clear c60
         try clear c63
         try clear c66
         try clear c76
         try clear c76b0
         try clear c78
         try clear c79
         try clear c79b0
         try clear c79b1
         try clear c84
         try clear c85
         try clear c87
         try clear hcz20_0 hcz20_1 hcz20_2 hfz20_0 hfz20_1 hfz20_2
         try clear hcz29_0 hcz29_1 hcz29_2 hfz29_0 hfz29_1 hfz29_2
         try clear hcz32_0 hcz32_1 hcz32_2 hfz32_0 hfz32_1 hfz32_2
         try clear hcz40_0 hcz40_1 hcz40_2 hfz40_0 hfz40_1 hfz40_2
         try clear hcz50_0 hcz50_1 hcz50_2 hfz50_0 hfz50_1 hfz50_2
         try clear hcz52_0 hcz52_1 hcz52_2 hfz52_0 hfz52_1 hfz52_2
         try clear hcz86_0 hcz86_1 hcz86_2 hfz86_0 hfz86_1 hfz86_2
         try clear hcz88_0 hcz88_1 hcz88_2 hfz88_0 hfz88_1 hfz88_2
         try clear p2
         obtain ⟨kq, x105_68, rfl, HA, HJ68, HO_8, HO_13, BK221, BK240, BK257, RG_HO_8, RG_HO_13, HB⟩ := hcut
         cases kq with
         | zero => exact absurd HA.out (by simp [laws_FnExactBoth16.j1])
         | succ kj68 =>
          have H := HA.out
          clear HA
          simp only [laws_FnExactBoth16.j1] at H
          by_cases c96 : x105_68 = true
          ·
           subst c96
           have H1 : (some false) = some r := by rw [if_pos rfl] at H; exact H
           clear H
           have H := H1
           clear H1
           cases H.trans (congrArg some hr_)
          ·
           replace c96 := Bool.eq_false_iff.mpr c96
           subst c96
           have H1 : ((laws_markWord16S.f kj68 t250 1).bind fun bt274 => ((laws_heldWord16S.f kj68 bt274.2 1).bind fun t276 => (if t276 < 0 then (some false) else (if t276 = bt274.1 then ((laws_toReceiver.f a0_0 a0_1 a0_2).bind fun bt277 => ((laws_toByteSS.f kj68 l1).bind fun t280 => ((laws_toByteSS.f kj68 l2).bind fun t283 => ((impl_Both16.f kj68 bt277.1 bt277.2.1 bt277.2.2 t280 t283).bind fun bt286 => ((laws_eqWord16S.f kj68 bt286.1 t233).bind fun t294 => (if t294 = true then (if bt286.2.1 = t236 then ((laws_eqReceiver.f bt286.2.2.1 bt286.2.2.2.1 bt286.2.2.2.2 t237 t238 t239).bind fun t295 => (laws_FnExactBoth16.j2 kj68 bt274.2 bt274.1 (!t295))) else (laws_FnExactBoth16.j2 kj68 bt274.2 bt274.1 true)) else (laws_FnExactBoth16.j2 kj68 bt274.2 bt274.1 true))))))) else (some false))))) = some r := by rw [if_neg (show ¬ (false = true) by decide)] at H; exact H
           clear H
           have H := H1
           clear H1
           replace H := Option.bind_eq_some_iff.mp H
           obtain ⟨⟨t274, t275⟩, A970, H⟩ := H
           replace H : ((laws_heldWord16S.f kj68 t275 1).bind fun t276 => (if t276 < 0 then (some false) else (if t276 = t274 then ((laws_toReceiver.f a0_0 a0_1 a0_2).bind fun bt277 => ((laws_toByteSS.f kj68 l1).bind fun t280 => ((laws_toByteSS.f kj68 l2).bind fun t283 => ((impl_Both16.f kj68 bt277.1 bt277.2.1 bt277.2.2 t280 t283).bind fun bt286 => ((laws_eqWord16S.f kj68 bt286.1 t233).bind fun t294 => (if t294 = true then (if bt286.2.1 = t236 then ((laws_eqReceiver.f bt286.2.2.1 bt286.2.2.2.1 bt286.2.2.2.2 t237 t238 t239).bind fun t295 => (laws_FnExactBoth16.j2 kj68 t275 t274 (!t295))) else (laws_FnExactBoth16.j2 kj68 t275 t274 true)) else (laws_FnExactBoth16.j2 kj68 t275 t274 true))))))) else (some false)))) = some r := H
           have A97 := Aside0.mk A970
           clear A970
           replace H := Option.bind_eq_some_iff.mp H
           obtain ⟨t276, A980, H⟩ := H
           replace H : (if t276 < 0 then (some false) else (if t276 = t274 then ((laws_toReceiver.f a0_0 a0_1 a0_2).bind fun bt277 => ((laws_toByteSS.f kj68 l1).bind fun t280 => ((laws_toByteSS.f kj68 l2).bind fun t283 => ((impl_Both16.f kj68 bt277.1 bt277.2.1 bt277.2.2 t280 t283).bind fun bt286 => ((laws_eqWord16S.f kj68 bt286.1 t233).bind fun t294 => (if t294 = true then (if bt286.2.1 = t236 then ((laws_eqReceiver.f bt286.2.2.1 bt286.2.2.2.1 bt286.2.2.2.2 t237 t238 t239).bind fun t295 => (laws_FnExactBoth16.j2 kj68 t275 t274 (!t295))) else (laws_FnExactBoth16.j2 kj68 t275 t274 true)) else (laws_FnExactBoth16.j2 kj68 t275 t274 true))))))) else (some false))) = some r := H
           have A98 := Aside0.mk A980
           clear A980
           by_cases c99 : t276 < 0
           ·
            rw [if_pos c99] at H
            have c99b0 : decide (t276 < 0) = true := decide_eq_true c99
            clear c99
            cases H.trans (congrArg some hr_)
           ·
            rw [if_neg c99] at H
            have c99b0 : decide (t276 < 0) = false := decide_eq_false c99
            clear c99
            by_cases c102 : t276 = t274
            ·
             rw [if_pos c102] at H
             have c102b0 : (t276 == t274) = true := beq_iff_eq.mpr c102
             have c102b1 : (t276 != t274) = false := bne_eq_false_iff_eq.mpr c102
             clear c102
             replace H := Option.bind_eq_some_iff.mp H
             obtain ⟨⟨t277, t278, t279⟩, A1030, H⟩ := H
             replace H : ((laws_toByteSS.f kj68 l1).bind fun t280 => ((laws_toByteSS.f kj68 l2).bind fun t283 => ((impl_Both16.f kj68 t277 t278 t279 t280 t283).bind fun bt286 => ((laws_eqWord16S.f kj68 bt286.1 t233).bind fun t294 => (if t294 = true then (if bt286.2.1 = t236 then ((laws_eqReceiver.f bt286.2.2.1 bt286.2.2.2.1 bt286.2.2.2.2 t237 t238 t239).bind fun t295 => (laws_FnExactBoth16.j2 kj68 t275 t274 (!t295))) else (laws_FnExactBoth16.j2 kj68 t275 t274 true)) else (laws_FnExactBoth16.j2 kj68 t275 t274 true)))))) = some r := H
             have A103 := Aside0.mk A1030
             clear A1030
             replace H := Option.bind_eq_some_iff.mp H
             obtain ⟨t280, A1040, H⟩ := H
             replace H : ((laws_toByteSS.f kj68 l2).bind fun t283 => ((impl_Both16.f kj68 t277 t278 t279 t280 t283).bind fun bt286 => ((laws_eqWord16S.f kj68 bt286.1 t233).bind fun t294 => (if t294 = true then (if bt286.2.1 = t236 then ((laws_eqReceiver.f bt286.2.2.1 bt286.2.2.2.1 bt286.2.2.2.2 t237 t238 t239).bind fun t295 => (laws_FnExactBoth16.j2 kj68 t275 t274 (!t295))) else (laws_FnExactBoth16.j2 kj68 t275 t274 true)) else (laws_FnExactBoth16.j2 kj68 t275 t274 true))))) = some r := H
             have A104 := Aside0.mk A1040
             clear A1040
             replace H := Option.bind_eq_some_iff.mp H
             obtain ⟨t283, A1050, H⟩ := H
             replace H : ((impl_Both16.f kj68 t277 t278 t279 t280 t283).bind fun bt286 => ((laws_eqWord16S.f kj68 bt286.1 t233).bind fun t294 => (if t294 = true then (if bt286.2.1 = t236 then ((laws_eqReceiver.f bt286.2.2.1 bt286.2.2.2.1 bt286.2.2.2.2 t237 t238 t239).bind fun t295 => (laws_FnExactBoth16.j2 kj68 t275 t274 (!t295))) else (laws_FnExactBoth16.j2 kj68 t275 t274 true)) else (laws_FnExactBoth16.j2 kj68 t275 t274 true)))) = some r := H
             have A105 := Aside0.mk A1050
             clear A1050
             replace H := Option.bind_eq_some_iff.mp H
             obtain ⟨⟨t286, t289, t290, t291, t292⟩, A1060, H⟩ := H
             replace H : ((laws_eqWord16S.f kj68 t286 t233).bind fun t294 => (if t294 = true then (if t289 = t236 then ((laws_eqReceiver.f t290 t291 t292 t237 t238 t239).bind fun t295 => (laws_FnExactBoth16.j2 kj68 t275 t274 (!t295))) else (laws_FnExactBoth16.j2 kj68 t275 t274 true)) else (laws_FnExactBoth16.j2 kj68 t275 t274 true))) = some r := H
             have A106 := Aside0.mk A1060
             clear A1060
             have HC107 := Aside0.mk H
             clear H
             obtain ⟨Ao108, co108, eo108⟩ := Kd.S_slice HO_13.out
             subst eo108
             go_upto_region 32 with (first | ((with_reducible refine gate_callee (f := 52) rfl ?_); refine goesL_ (some 108) rfl rfl Try.func52 (by kernel_rfl) rfl #[.slice Ao108 t250.length co108, .int .i64 1] rfl (by (try simp only [am_]); first | done | rfl) ?_; (with_reducible refine (laws_markWord16S.calls kj68 (fun k_ => ((((LO_HO_13 ≤ k_ ∧ k_ < HI_HO_13) ∧ k_ ≠ gb221) ∧ k_ ≠ gb240) ∧ k_ ≠ gb257)) (.slice Ao108 t250.length co108) t250 1 t274 t275 w _ ?side1 ?side2 A97.out).mono ?_); (case side1 => repeat (first | (with_reducible first | exact HB.out | apply below_alloc | apply pw_below_drewN | apply below_drew1 | refine below_set ?_ GE221.out | refine below_set ?_ GE240.out | refine below_set ?_ GE257.out) | exact HB.out)); (case side2 => exact Kd.S_types (Kd.S_types (Kd.S_types (RG_HO_13.out) BK221.out (by decide)) BK240.out (by decide)) BK257.out (by decide)); rintro e w109 ⟨rfl, hy0, hb, hkp⟩; refine ⟨_, rfl, ?_⟩; replace HO_8 := Aside0.mk (Kd.S_mono (ok' := fun _ => True) (Kd.S_kept (sl RG_HO_8.out) hkp (fun k_ h1_ h2_ => by have o_ := ORD.out; have a1 := h1_.1; have a2 := h1_.2; have b1 := h2_.1.1.1.1; have b2 := h2_.1.1.1.2; omega)) (fun _ _ => trivial)); replace HO_13 := Aside0.mk (Kd.S_mono (ok' := (fun k_ => k_ ≠ gb221 ∧ k_ ≠ gb240 ∧ k_ ≠ gb257)) hy0 (fun k_ hk => ⟨hk.1.1.2, ⟨hk.1.2, hk.2⟩⟩)); replace BK221 := Aside0.mk (blk_kept (bk BK221.out) hkp (fun hs_ => (fun e_ => (e_.1.1.2) rfl) hs_)); replace BK240 := Aside0.mk (blk_kept (bk BK240.out) hkp (fun hs_ => (fun e_ => (e_.1.2) rfl) hs_)); replace BK257 := Aside0.mk (blk_kept (bk BK257.out) hkp (fun hs_ => (fun e_ => (e_.2) rfl) hs_)); replace HB := Aside0.mk (hb); (try clear hb); (try clear hkp); (try clear hy0)) | ((with_reducible refine gate_callee (f := 53) rfl ?_); refine goesL_ (some 111) rfl rfl Try.func53 (by kernel_rfl) rfl #[.slice Ao108 t275.length co108, .int .i64 1] rfl (by (try simp only [List.map_toArray, List.map_cons, List.map_nil]); first | done | (rw [show t275.length = t250.length from (Kd.S_reads' HO_13.out).1.symm] <;> rfl) | rfl | (simp only [List.length_drop, List.length_take]; rfl)) ?_; (with_reducible refine (laws_heldWord16S.calls kj68 _ _ t275 1 t276 _ ?side1 ?side2 A98.out).mono ?_); (case side1 => exact rc (Kd.S_reads' HO_13.out).2.2); (case side2 => rw [show t275.length = t250.length from (Kd.S_reads' HO_13.out).1.symm]; exact (Kd.S_reads' HO_13.out).2.1); rintro e w' ⟨rfl, ⟨nd, rfl⟩⟩; refine ⟨_, rfl, ?_⟩; (try (rw [drewN_self w109]; generalize hq_ : World.drewN w109 _ = w109; have n0_ : Aside0 (Kd.S k41 41 w109 w.heap.size (fun k_ => k_ ≠ gb221 ∧ k_ ≠ gb240 ∧ k_ ≠ gb257) (.slice Ao108 t250.length co108) t275) := ⟨by rw [← hq_]; exact (sl HO_13.out)⟩; have n1_ : Aside0 (Kd.S k41 41 w109 w.heap.size (fun _ => True) v234 t233) := ⟨by rw [← hq_]; exact (sl HO_8.out)⟩; have n2_ : Aside0 (w109.heap[gb221]? = some (.cells #[.int .i64 a0_0, .int .i64 a0_1, .int .i64 a0_2] 23 (0, 0))) := ⟨by rw [← hq_]; exact (bk BK221.out)⟩; have n3_ : Aside0 (w109.heap[gb240]? = some (.cells #[.int .i64 t237, .int .i64 t238, .int .i64 t239] 25 (0, 0))) := ⟨by rw [← hq_]; exact (bk BK240.out)⟩; have n4_ : Aside0 (w109.heap[gb257]? = some (.cells #[.int .i64 t254, .int .i64 t255, .int .i64 t256] 25 (0, 0))) := ⟨by rw [← hq_]; exact (bk BK257.out)⟩; have n5_ : Aside0 (Below w.heap.size w w109) := ⟨by rw [← hq_]; exact (by repeat with_reducible first | exact bl HB.out | refine below_set ?_ GE221.out | refine below_set ?_ GE240.out | refine below_set ?_ GE257.out | refine bq ?_)⟩; clear HO_13 HO_8 BK221 BK240 BK257 HB hq_; have HO_13 := n0_; have HO_8 := n1_; have BK221 := n2_; have BK240 := n3_; have BK257 := n4_; have HB := n5_; clear n0_ n1_ n2_ n3_ n4_ n5_)); have hnb110 := NB221_240.out; have hnc110 := NB240_221.out; have hnb111 := NB221_257.out; have hnc111 := NB257_221.out; obtain ⟨hcz112_0, hcz112_1, hcz112_2⟩ := ck3 BK221.out; obtain ⟨hfz112_0, hfz112_1, hfz112_2⟩ := fz3 BK221.out) | ((with_reducible refine gate_callee (f := 15) rfl ?_); refine goesL_ (some 119) rfl rfl Try.func15 (by kernel_rfl) rfl #[.agg #[.int .i64 a0_0, .int .i64 a0_1, .int .i64 a0_2]] rfl (by (try simp only [am_]); first | done | rfl) ?_; (with_reducible refine (laws_toReceiver.calls a0_0 a0_1 a0_2 t277 t278 t279 _ A103.out).mono ?_); rintro e w113 ⟨rfl, hb⟩; refine ⟨_, rfl, ?_⟩; replace HO_8 := Aside0.mk (Kd.S_below (sl HO_8.out) hb); replace HO_13 := Aside0.mk (Kd.S_below (sl HO_13.out) hb); replace BK221 := Aside0.mk (blk_below (bk BK221.out) hb); replace BK240 := Aside0.mk (blk_below (bk BK240.out) hb); replace BK257 := Aside0.mk (blk_below (bk BK257.out) hb); replace HB := Aside0.mk (below_step (by repeat with_reducible first | exact bl HB.out | refine below_set ?_ GE221.out | refine below_set ?_ GE240.out | refine below_set ?_ GE257.out | refine bq ?_) hb); (try clear hb); (try clear hb2); (try clear hk); (try clear hi)) | ((with_reducible refine gate_callee (f := 48) rfl ?_); refine goesL_ (some 121) rfl rfl Try.func48 (by kernel_rfl) rfl #[.slice A1 l1.length c1] rfl (by (try simp only [am_]); first | done | rfl) ?_; (with_reducible refine (laws_toByteSS.calls kj68 _ _ l1 t280 _ ?side1 ?side2 A104.out).mono ?_); (case side1 => exact rc (Kd.C_below HR1.out HB.out)); (case side2 => exact HC1.out); rintro e w114 ⟨v281, rfl, ho0, hb⟩; refine ⟨_, rfl, ?_⟩; replace HO_8 := Aside0.mk (Kd.S_below (sl HO_8.out) hb); replace HO_13 := Aside0.mk (Kd.S_below (sl HO_13.out) hb); have HO282 := Aside0.mk (Kd.S_lower ho0 (below_size (by repeat with_reducible first | exact bl HB.out | refine below_set ?_ GE221.out | refine below_set ?_ GE240.out | refine below_set ?_ GE257.out | refine bq ?_))); replace BK221 := Aside0.mk (blk_below (bk BK221.out) hb); replace BK240 := Aside0.mk (blk_below (bk BK240.out) hb); replace BK257 := Aside0.mk (blk_below (bk BK257.out) hb); replace HB := Aside0.mk (below_step (by repeat with_reducible first | exact bl HB.out | refine below_set ?_ GE221.out | refine below_set ?_ GE240.out | refine below_set ?_ GE257.out | refine bq ?_) hb); (try clear hb); (try clear hb2); (try clear hk); (try clear hi); (try clear ho0)) | ((with_reducible refine gate_callee (f := 48) rfl ?_); refine goesL_ (some 123) rfl rfl Try.func48 (by kernel_rfl) rfl #[.slice A2 l2.length c2] rfl (by (try simp only [am_]); first | done | rfl) ?_; (with_reducible refine (laws_toByteSS.calls kj68 _ _ l2 t283 _ ?side1 ?side2 A105.out).mono ?_); (case side1 => exact rc (Kd.C_below HR2.out HB.out)); (case side2 => exact HC2.out); rintro e w115 ⟨v284, rfl, ho0, hb⟩; refine ⟨_, rfl, ?_⟩; replace HO_8 := Aside0.mk (Kd.S_below (sl HO_8.out) hb); replace HO_13 := Aside0.mk (Kd.S_below (sl HO_13.out) hb); have HO285 := Aside0.mk (Kd.S_lower (Kd.S_new' ho0 (Kd.S_lt (by (repeat apply sl1); exact HO282.out))) (below_size (by repeat with_reducible first | exact bl HB.out | refine below_set ?_ GE221.out | refine below_set ?_ GE240.out | refine below_set ?_ GE257.out | refine bq ?_))); replace HO282 := Aside0.mk (Kd.S_elder' (sl HO282.out) (Kd.S_base ho0) hb); replace BK221 := Aside0.mk (blk_below (bk BK221.out) hb); replace BK240 := Aside0.mk (blk_below (bk BK240.out) hb); replace BK257 := Aside0.mk (blk_below (bk BK257.out) hb); replace HB := Aside0.mk (below_step (by repeat with_reducible first | exact bl HB.out | refine below_set ?_ GE221.out | refine below_set ?_ GE240.out | refine below_set ?_ GE257.out | refine bq ?_) hb); (try clear hb); (try clear hb2); (try clear hk); (try clear hi); (try clear ho0); obtain ⟨Ao116, co116, eo116⟩ := Kd.S_slice HO282.out; subst eo116; obtain ⟨Ao117, co117, eo117⟩ := Kd.S_slice HO285.out; subst eo117) | ((with_reducible refine gate_callee (f := 31) rfl ?_); refine goesL_ (some 124) rfl rfl Try.func31 (by kernel_rfl) rfl #[.agg #[.int .i64 t277, .int .i64 t278, .int .i64 t279], .slice Ao116 t280.length co116, .slice Ao117 t283.length co117] rfl (by (try simp only [am_]); first | done | rfl) ?_; (with_reducible refine (impl_Both16.calls kj68 t277 t278 t279 _ _ t280 _ _ t283 t286 t289 t290 t291 t292 _ ?side1 ?side2 ?side3 ?side4 A106.out).mono ?_); (case side1 => exact rc (Kd.S_reads' HO282.out).2.2); (case side2 => exact (Kd.S_reads' HO282.out).2.1); (case side3 => exact rc (Kd.S_reads' HO285.out).2.2); (case side4 => exact (Kd.S_reads' HO285.out).2.1); rintro e w118 ⟨v287, rfl, ho0, hb⟩; refine ⟨_, rfl, ?_⟩; replace HO282 := Aside0.mk (Kd.S_below (sl HO282.out) hb); replace HO285 := Aside0.mk (Kd.S_below (sl HO285.out) hb); have HO288 := Aside0.mk (Kd.S_lower (Kd.S_new' (Kd.S_new' ho0 (Kd.S_lt (by (repeat apply sl1); exact HO_8.out))) (Kd.S_lt (by (repeat apply sl1); exact HO_13.out))) (below_size (by repeat with_reducible first | exact bl HB.out | refine below_set ?_ GE221.out | refine below_set ?_ GE240.out | refine below_set ?_ GE257.out | refine bq ?_))); replace HO_8 := Aside0.mk (Kd.S_elder' (sl HO_8.out) (Kd.S_base ho0) hb); replace HO_13 := Aside0.mk (Kd.S_elder' (sl HO_13.out) (Kd.S_base ho0) hb); replace BK221 := Aside0.mk (blk_below (bk BK221.out) hb); replace BK240 := Aside0.mk (blk_below (bk BK240.out) hb); replace BK257 := Aside0.mk (blk_below (bk BK257.out) hb); replace HB := Aside0.mk (below_step (by repeat with_reducible first | exact bl HB.out | refine below_set ?_ GE221.out | refine below_set ?_ GE240.out | refine below_set ?_ GE257.out | refine bq ?_) hb); (try clear hb); (try clear hb2); (try clear hk); (try clear hi); (try clear ho0)) | ((with_reducible refine gate_dst (N := 21) rfl ?_); refine box_event ?hg (N := 21) ?hd (cs := #[.int .i64 0, .int .i64 0, .int .i64 0]) (t := 25) ?hr ?_; (case hd => rfl); (case hg => rfl); (case hr => first | (go_simp; done) | (go_simp; rfl)); intro gb293 hg w119 hbox hb; replace HO_8 := Aside0.mk (Kd.S_below (sl HO_8.out) hb); replace HO_13 := Aside0.mk (Kd.S_below (sl HO_13.out) hb); replace HO282 := Aside0.mk (Kd.S_below (sl HO282.out) hb); replace HO285 := Aside0.mk (Kd.S_below (sl HO285.out) hb); replace HO288 := Aside0.mk (Kd.S_below (sl HO288.out) hb); have BK293 := Aside0.mk (hbox); have GW293 := Aside0.mk ((by rw [hg]; exact (below_size (by repeat with_reducible first | exact bl HB.out | refine below_set ?_ GE221.out | refine below_set ?_ GE240.out | refine below_set ?_ GE257.out | refine bq ?_)) : w.heap.size ≤ gb293)); have GE293 := GW293; replace HB := Aside0.mk (below_step (by repeat with_reducible first | exact bl HB.out | refine below_set ?_ GE221.out | refine below_set ?_ GE240.out | refine below_set ?_ GE257.out | refine bq ?_) hb); have NB221_293 := nb_ hg BK221.out; have NB293_221 := Aside0.mk NB221_293.out.symm; replace BK221 := Aside0.mk (blk_below (bk BK221.out) hb); have NB240_293 := nb_ hg BK240.out; have NB293_240 := Aside0.mk NB240_293.out.symm; replace BK240 := Aside0.mk (blk_below (bk BK240.out) hb); have NB257_293 := nb_ hg BK257.out; have NB293_257 := Aside0.mk NB257_293.out.symm; replace BK257 := Aside0.mk (blk_below (bk BK257.out) hb); clear hb hbox hg; have hnb120 := NB293_221.out; have hnc120 := NB221_293.out; have hnb121 := NB293_240.out; have hnc121 := NB240_293.out; have hnb122 := NB293_257.out; have hnc122 := NB257_293.out; obtain ⟨hcz123_0, hcz123_1, hcz123_2⟩ := ck3 BK293.out; obtain ⟨hfz123_0, hfz123_1, hfz123_2⟩ := fz3 BK293.out))
             (try simp only [Act.put, List.setIfInBounds_toArray, List.set_cons_zero, List.set_cons_succ])
             go_cut [142] (fun v142 wc => ∃ (kq : Nat) (x142_106 : Bool), v142 = .bool x142_106 ∧ Aside0 (laws_FnExactBoth16.j2 kq t275 t274 x142_106 = some r) ∧ Aside0 (kq ≤ kj68) ∧ Aside0 (Kd.S k41 41 wc w.heap.size (fun _ => True) (.slice Ao108 t250.length co108) t275) ∧ Aside0 (wc.heap[gb221]? = some (.cells #[.int .i64 a0_0, .int .i64 a0_1, .int .i64 a0_2] 23 (0, 0))) ∧ Aside0 (wc.heap[gb240]? = some (.cells #[.int .i64 t237, .int .i64 t238, .int .i64 t239] 25 (0, 0))) ∧ Aside0 (wc.heap[gb257]? = some (.cells #[.int .i64 t254, .int .i64 t255, .int .i64 t256] 25 (0, 0))) ∧ Aside0 (wc.heap[gb293]? = some (.cells #[.int .i64 t290, .int .i64 t291, .int .i64 t292] 25 (0, 0))) ∧ Aside0 (Below w.heap.size w wc))
             case first =>
              have H := HC107.out
              clear HC107
              replace H := Option.bind_eq_some_iff.mp H
              obtain ⟨t294, A1240, H⟩ := H
              replace H : (if t294 = true then (if t289 = t236 then ((laws_eqReceiver.f t290 t291 t292 t237 t238 t239).bind fun t295 => (laws_FnExactBoth16.j2 kj68 t275 t274 (!t295))) else (laws_FnExactBoth16.j2 kj68 t275 t274 true)) else (laws_FnExactBoth16.j2 kj68 t275 t274 true)) = some r := H
              have A124 := Aside0.mk A1240
              clear A1240
              by_cases c125 : t294 = true
              ·
               subst c125
               have H1 : (if t289 = t236 then ((laws_eqReceiver.f t290 t291 t292 t237 t238 t239).bind fun t295 => (laws_FnExactBoth16.j2 kj68 t275 t274 (!t295))) else (laws_FnExactBoth16.j2 kj68 t275 t274 true)) = some r := by rw [if_pos rfl] at H; exact H
               clear H
               have H := H1
               clear H1
               by_cases c126 : t289 = t236
               ·
                rw [if_pos c126] at H
                have c126b0 : (t289 == t236) = true := beq_iff_eq.mpr c126
                have c126b1 : (t289 != t236) = false := bne_eq_false_iff_eq.mpr c126
                clear c126
                (first | rw [c126b0] | (simp only [i64_w, i32_w]; rw [c126b0]) | skip)
                replace H := Option.bind_eq_some_iff.mp H
                obtain ⟨t295, A1270, H⟩ := H
                replace H : (laws_FnExactBoth16.j2 kj68 t275 t274 (!t295)) = some r := H
                have A127 := Aside0.mk A1270
                clear A1270
                have H' := Aside0.mk H
                clear H
                obtain ⟨Ao128, co128, eo128⟩ := Kd.S_slice HO288.out
                subst eo128
                obtain ⟨Ao129, co129, eo129⟩ := Kd.S_slice HO_8.out
                subst eo129
                go_wp2_with (first | ((with_reducible refine gate_callee (f := 49) rfl ?_); refine goesL_ (some 130) rfl rfl Try.func49 (by kernel_rfl) rfl #[.slice Ao128 t286.length co128, .slice Ao129 t233.length co129] rfl (by (try simp only [am_]); first | done | rfl) ?_; (with_reducible refine (laws_eqWord16S.calls kj68 _ _ t286 _ _ t233 true _ ?side1 ?side2 ?side3 ?side4 A124.out).mono ?_); (case side1 => refine (Kd.S_reads' (e := 41) (base := w.heap.size) (ok := fun k_ => ((True ∧ some k_ ≠ (.slice Ao129 t233.length co129 : Value).ownBlock) ∧ some k_ ≠ (.slice Ao108 t250.length co108 : Value).ownBlock)) (n := t286.length) (c := co128) ?_).2.2; exact (by (repeat apply sl1); exact (Kd.S_mono (Kd.S_far (p := ⟨gb293, 2, none⟩) (Kd.S_far (p := ⟨gb293, 1, none⟩) (Kd.S_far (p := ⟨gb293, 0, none⟩) (Kd.S_types HO288.out BK293.out (by decide)) (fun _ hk => hk.2) (.int .i64 t290)) (fun _ hk => hk.2) (.int .i64 t291)) (fun _ hk => hk.2) (.int .i64 t292)) (fun _ h_ => h_.1)))); (case side2 => exact (Kd.S_reads' HO288.out).2.1); (case side3 => refine (Kd.S_reads' (e := 41) (base := w.heap.size) (ok := fun k_ => (True ∧ some k_ ≠ (.slice Ao128 t286.length co128 : Value).ownBlock)) (n := t233.length) (c := co129) ?_).2.2; exact (by (repeat apply sl1); exact (Kd.S_mono (Kd.S_far (p := ⟨gb293, 2, none⟩) (Kd.S_far (p := ⟨gb293, 1, none⟩) (Kd.S_far (p := ⟨gb293, 0, none⟩) (Kd.S_types HO_8.out BK293.out (by decide)) (fun _ hk => hk.2) (.int .i64 t290)) (fun _ hk => hk.2) (.int .i64 t291)) (fun _ hk => hk.2) (.int .i64 t292)) (fun _ h_ => h_.1)))); (case side4 => exact (Kd.S_reads' HO_8.out).2.1); rintro e w130 ⟨rfl, hb⟩; refine ⟨_, rfl, ?_⟩; replace HO_8 := Aside0.mk (Kd.S_below (by (repeat apply sl1); exact (Kd.S_mono (Kd.S_far (p := ⟨gb293, 2, none⟩) (Kd.S_far (p := ⟨gb293, 1, none⟩) (Kd.S_far (p := ⟨gb293, 0, none⟩) (Kd.S_types HO_8.out BK293.out (by decide)) (fun _ hk => hk.2) (.int .i64 t290)) (fun _ hk => hk.2) (.int .i64 t291)) (fun _ hk => hk.2) (.int .i64 t292)) (fun _ h_ => h_.1))) hb); replace HO_13 := Aside0.mk (Kd.S_below (by (repeat apply sl1); exact (Kd.S_mono (Kd.S_far (p := ⟨gb293, 2, none⟩) (Kd.S_far (p := ⟨gb293, 1, none⟩) (Kd.S_far (p := ⟨gb293, 0, none⟩) (Kd.S_types HO_13.out BK293.out (by decide)) (fun _ hk => hk.2) (.int .i64 t290)) (fun _ hk => hk.2) (.int .i64 t291)) (fun _ hk => hk.2) (.int .i64 t292)) (fun _ h_ => h_.1))) hb); replace HO282 := Aside0.mk (Kd.S_below (by (repeat apply sl1); exact (Kd.S_mono (Kd.S_far (p := ⟨gb293, 2, none⟩) (Kd.S_far (p := ⟨gb293, 1, none⟩) (Kd.S_far (p := ⟨gb293, 0, none⟩) (Kd.S_types HO282.out BK293.out (by decide)) (fun _ hk => hk.2) (.int .i64 t290)) (fun _ hk => hk.2) (.int .i64 t291)) (fun _ hk => hk.2) (.int .i64 t292)) (fun _ h_ => h_.1))) hb); replace HO285 := Aside0.mk (Kd.S_below (by (repeat apply sl1); exact (Kd.S_mono (Kd.S_far (p := ⟨gb293, 2, none⟩) (Kd.S_far (p := ⟨gb293, 1, none⟩) (Kd.S_far (p := ⟨gb293, 0, none⟩) (Kd.S_types HO285.out BK293.out (by decide)) (fun _ hk => hk.2) (.int .i64 t290)) (fun _ hk => hk.2) (.int .i64 t291)) (fun _ hk => hk.2) (.int .i64 t292)) (fun _ h_ => h_.1))) hb); replace HO288 := Aside0.mk (Kd.S_below (by (repeat apply sl1); exact (Kd.S_mono (Kd.S_far (p := ⟨gb293, 2, none⟩) (Kd.S_far (p := ⟨gb293, 1, none⟩) (Kd.S_far (p := ⟨gb293, 0, none⟩) (Kd.S_types HO288.out BK293.out (by decide)) (fun _ hk => hk.2) (.int .i64 t290)) (fun _ hk => hk.2) (.int .i64 t291)) (fun _ hk => hk.2) (.int .i64 t292)) (fun _ h_ => h_.1))) hb); replace BK221 := Aside0.mk (blk_below (g := gb221) (o := .cells #[.int .i64 a0_0, .int .i64 a0_1, .int .i64 a0_2] 23 (0, 0)) (by (repeat refine bk1 ?_); refine blk_far ?_ NB221_293.out _; (repeat refine bk1 ?_); refine blk_far ?_ NB221_293.out _; (repeat refine bk1 ?_); refine blk_far ?_ NB221_293.out _; (repeat refine bk1 ?_); exact BK221.out) hb); replace BK240 := Aside0.mk (blk_below (g := gb240) (o := .cells #[.int .i64 t237, .int .i64 t238, .int .i64 t239] 25 (0, 0)) (by (repeat refine bk1 ?_); refine blk_far ?_ NB240_293.out _; (repeat refine bk1 ?_); refine blk_far ?_ NB240_293.out _; (repeat refine bk1 ?_); refine blk_far ?_ NB240_293.out _; (repeat refine bk1 ?_); exact BK240.out) hb); replace BK257 := Aside0.mk (blk_below (g := gb257) (o := .cells #[.int .i64 t254, .int .i64 t255, .int .i64 t256] 25 (0, 0)) (by (repeat refine bk1 ?_); refine blk_far ?_ NB257_293.out _; (repeat refine bk1 ?_); refine blk_far ?_ NB257_293.out _; (repeat refine bk1 ?_); refine blk_far ?_ NB257_293.out _; (repeat refine bk1 ?_); exact BK257.out) hb); replace BK293 := Aside0.mk (blk_below (g := gb293) (o := .cells #[.int .i64 t290, .int .i64 t291, .int .i64 t292] 25 (0, 0)) (by (repeat refine bk1 ?_); refine blk_put (cs := #[.int .i64 t290, .int .i64 t291, .int .i64 0]) ?_ 2 _ rfl; (repeat refine bk1 ?_); refine blk_put (cs := #[.int .i64 t290, .int .i64 0, .int .i64 0]) ?_ 1 _ rfl; (repeat refine bk1 ?_); refine blk_put (cs := #[.int .i64 0, .int .i64 0, .int .i64 0]) ?_ 0 _ rfl; (repeat refine bk1 ?_); exact BK293.out) hb); replace HB := Aside0.mk (below_step (by repeat with_reducible first | exact bl HB.out | refine below_set ?_ GE221.out | refine below_set ?_ GE240.out | refine below_set ?_ GE257.out | refine below_set ?_ GE293.out | refine bq ?_) hb); (try clear hb); (try clear hb2); (try clear hk); (try clear hi); have hnb131 := NB293_221.out; have hnc131 := NB221_293.out; have hnb132 := NB293_240.out; have hnc132 := NB240_293.out; have hnb133 := NB293_257.out; have hnc133 := NB257_293.out; obtain ⟨hcz134_0, hcz134_1, hcz134_2⟩ := ck3 BK293.out; obtain ⟨hfz134_0, hfz134_1, hfz134_2⟩ := fz3 BK293.out; have hnb135 := NB240_221.out; have hnc135 := NB221_240.out; have hnb136 := NB240_257.out; have hnc136 := NB257_240.out; obtain ⟨hcz137_0, hcz137_1, hcz137_2⟩ := ck3 BK240.out; obtain ⟨hfz137_0, hfz137_1, hfz137_2⟩ := fz3 BK240.out) | (go_at_call 42; (with_reducible refine (laws_eqReceiver.calls t290 t291 t292 t237 t238 t239 t295 _ A127.out).mono ?_); rintro e w138 ⟨rfl, hb⟩; replace HO_8 := Aside0.mk (Kd.S_below (sl HO_8.out) hb); replace HO_13 := Aside0.mk (Kd.S_below (sl HO_13.out) hb); replace HO282 := Aside0.mk (Kd.S_below (sl HO282.out) hb); replace HO285 := Aside0.mk (Kd.S_below (sl HO285.out) hb); replace HO288 := Aside0.mk (Kd.S_below (sl HO288.out) hb); replace BK221 := Aside0.mk (blk_below (bk BK221.out) hb); replace BK240 := Aside0.mk (blk_below (bk BK240.out) hb); replace BK257 := Aside0.mk (blk_below (bk BK257.out) hb); replace BK293 := Aside0.mk (blk_below (bk BK293.out) hb); replace HB := Aside0.mk (below_step (by repeat with_reducible first | exact bl HB.out | refine below_set ?_ GE221.out | refine below_set ?_ GE240.out | refine below_set ?_ GE257.out | refine below_set ?_ GE293.out | refine bq ?_) hb); (try clear hb); (try clear hb2); (try clear hk); (try clear hi)))
                go_meet
                case rel => exact ⟨_, (!t295), (by first | rfl | (simp; done) | (simp [*]; done)), H', ⟨by have := HJ17.out; have := HJ68.out; first | omega | exact Nat.le_refl _⟩, ⟨by (repeat apply sl1); exact Kd.S_mono HO_13.out (fun _ hk => trivial)⟩, ⟨bk BK221.out⟩, ⟨bk BK240.out⟩, ⟨bk BK257.out⟩, ⟨bk BK293.out⟩, ⟨by repeat with_reducible first | exact bl HB.out | refine below_set ?_ GE221.out | refine below_set ?_ GE240.out | refine below_set ?_ GE257.out | refine below_set ?_ GE293.out | refine bq ?_⟩⟩
               ·
                rw [if_neg c126] at H
                have c126b0 : (t289 == t236) = false := beq_eq_false_iff_ne.mpr c126
                have c126b1 : (t289 != t236) = true := bne_iff_ne.mpr c126
                (first | rw [c126b0] | (simp only [i64_w, i32_w]; rw [c126b0]) | skip)
                have H' := Aside0.mk H
                clear H
                obtain ⟨Ao139, co139, eo139⟩ := Kd.S_slice HO288.out
                subst eo139
                obtain ⟨Ao140, co140, eo140⟩ := Kd.S_slice HO_8.out
                subst eo140
                go_wp2_with (first | ((with_reducible refine gate_callee (f := 49) rfl ?_); refine goesL_ (some 130) rfl rfl Try.func49 (by kernel_rfl) rfl #[.slice Ao139 t286.length co139, .slice Ao140 t233.length co140] rfl (by (try simp only [am_]); first | done | rfl) ?_; (with_reducible refine (laws_eqWord16S.calls kj68 _ _ t286 _ _ t233 true _ ?side1 ?side2 ?side3 ?side4 A124.out).mono ?_); (case side1 => refine (Kd.S_reads' (e := 41) (base := w.heap.size) (ok := fun k_ => ((True ∧ some k_ ≠ (.slice Ao140 t233.length co140 : Value).ownBlock) ∧ some k_ ≠ (.slice Ao108 t250.length co108 : Value).ownBlock)) (n := t286.length) (c := co139) ?_).2.2; exact (by (repeat apply sl1); exact (Kd.S_mono (Kd.S_far (p := ⟨gb293, 2, none⟩) (Kd.S_far (p := ⟨gb293, 1, none⟩) (Kd.S_far (p := ⟨gb293, 0, none⟩) (Kd.S_types HO288.out BK293.out (by decide)) (fun _ hk => hk.2) (.int .i64 t290)) (fun _ hk => hk.2) (.int .i64 t291)) (fun _ hk => hk.2) (.int .i64 t292)) (fun _ h_ => h_.1)))); (case side2 => exact (Kd.S_reads' HO288.out).2.1); (case side3 => refine (Kd.S_reads' (e := 41) (base := w.heap.size) (ok := fun k_ => (True ∧ some k_ ≠ (.slice Ao139 t286.length co139 : Value).ownBlock)) (n := t233.length) (c := co140) ?_).2.2; exact (by (repeat apply sl1); exact (Kd.S_mono (Kd.S_far (p := ⟨gb293, 2, none⟩) (Kd.S_far (p := ⟨gb293, 1, none⟩) (Kd.S_far (p := ⟨gb293, 0, none⟩) (Kd.S_types HO_8.out BK293.out (by decide)) (fun _ hk => hk.2) (.int .i64 t290)) (fun _ hk => hk.2) (.int .i64 t291)) (fun _ hk => hk.2) (.int .i64 t292)) (fun _ h_ => h_.1)))); (case side4 => exact (Kd.S_reads' HO_8.out).2.1); rintro e w141 ⟨rfl, hb⟩; refine ⟨_, rfl, ?_⟩; replace HO_8 := Aside0.mk (Kd.S_below (by (repeat apply sl1); exact (Kd.S_mono (Kd.S_far (p := ⟨gb293, 2, none⟩) (Kd.S_far (p := ⟨gb293, 1, none⟩) (Kd.S_far (p := ⟨gb293, 0, none⟩) (Kd.S_types HO_8.out BK293.out (by decide)) (fun _ hk => hk.2) (.int .i64 t290)) (fun _ hk => hk.2) (.int .i64 t291)) (fun _ hk => hk.2) (.int .i64 t292)) (fun _ h_ => h_.1))) hb); replace HO_13 := Aside0.mk (Kd.S_below (by (repeat apply sl1); exact (Kd.S_mono (Kd.S_far (p := ⟨gb293, 2, none⟩) (Kd.S_far (p := ⟨gb293, 1, none⟩) (Kd.S_far (p := ⟨gb293, 0, none⟩) (Kd.S_types HO_13.out BK293.out (by decide)) (fun _ hk => hk.2) (.int .i64 t290)) (fun _ hk => hk.2) (.int .i64 t291)) (fun _ hk => hk.2) (.int .i64 t292)) (fun _ h_ => h_.1))) hb); replace HO282 := Aside0.mk (Kd.S_below (by (repeat apply sl1); exact (Kd.S_mono (Kd.S_far (p := ⟨gb293, 2, none⟩) (Kd.S_far (p := ⟨gb293, 1, none⟩) (Kd.S_far (p := ⟨gb293, 0, none⟩) (Kd.S_types HO282.out BK293.out (by decide)) (fun _ hk => hk.2) (.int .i64 t290)) (fun _ hk => hk.2) (.int .i64 t291)) (fun _ hk => hk.2) (.int .i64 t292)) (fun _ h_ => h_.1))) hb); replace HO285 := Aside0.mk (Kd.S_below (by (repeat apply sl1); exact (Kd.S_mono (Kd.S_far (p := ⟨gb293, 2, none⟩) (Kd.S_far (p := ⟨gb293, 1, none⟩) (Kd.S_far (p := ⟨gb293, 0, none⟩) (Kd.S_types HO285.out BK293.out (by decide)) (fun _ hk => hk.2) (.int .i64 t290)) (fun _ hk => hk.2) (.int .i64 t291)) (fun _ hk => hk.2) (.int .i64 t292)) (fun _ h_ => h_.1))) hb); replace HO288 := Aside0.mk (Kd.S_below (by (repeat apply sl1); exact (Kd.S_mono (Kd.S_far (p := ⟨gb293, 2, none⟩) (Kd.S_far (p := ⟨gb293, 1, none⟩) (Kd.S_far (p := ⟨gb293, 0, none⟩) (Kd.S_types HO288.out BK293.out (by decide)) (fun _ hk => hk.2) (.int .i64 t290)) (fun _ hk => hk.2) (.int .i64 t291)) (fun _ hk => hk.2) (.int .i64 t292)) (fun _ h_ => h_.1))) hb); replace BK221 := Aside0.mk (blk_below (g := gb221) (o := .cells #[.int .i64 a0_0, .int .i64 a0_1, .int .i64 a0_2] 23 (0, 0)) (by (repeat refine bk1 ?_); refine blk_far ?_ NB221_293.out _; (repeat refine bk1 ?_); refine blk_far ?_ NB221_293.out _; (repeat refine bk1 ?_); refine blk_far ?_ NB221_293.out _; (repeat refine bk1 ?_); exact BK221.out) hb); replace BK240 := Aside0.mk (blk_below (g := gb240) (o := .cells #[.int .i64 t237, .int .i64 t238, .int .i64 t239] 25 (0, 0)) (by (repeat refine bk1 ?_); refine blk_far ?_ NB240_293.out _; (repeat refine bk1 ?_); refine blk_far ?_ NB240_293.out _; (repeat refine bk1 ?_); refine blk_far ?_ NB240_293.out _; (repeat refine bk1 ?_); exact BK240.out) hb); replace BK257 := Aside0.mk (blk_below (g := gb257) (o := .cells #[.int .i64 t254, .int .i64 t255, .int .i64 t256] 25 (0, 0)) (by (repeat refine bk1 ?_); refine blk_far ?_ NB257_293.out _; (repeat refine bk1 ?_); refine blk_far ?_ NB257_293.out _; (repeat refine bk1 ?_); refine blk_far ?_ NB257_293.out _; (repeat refine bk1 ?_); exact BK257.out) hb); replace BK293 := Aside0.mk (blk_below (g := gb293) (o := .cells #[.int .i64 t290, .int .i64 t291, .int .i64 t292] 25 (0, 0)) (by (repeat refine bk1 ?_); refine blk_put (cs := #[.int .i64 t290, .int .i64 t291, .int .i64 0]) ?_ 2 _ rfl; (repeat refine bk1 ?_); refine blk_put (cs := #[.int .i64 t290, .int .i64 0, .int .i64 0]) ?_ 1 _ rfl; (repeat refine bk1 ?_); refine blk_put (cs := #[.int .i64 0, .int .i64 0, .int .i64 0]) ?_ 0 _ rfl; (repeat refine bk1 ?_); exact BK293.out) hb); replace HB := Aside0.mk (below_step (by repeat with_reducible first | exact bl HB.out | refine below_set ?_ GE221.out | refine below_set ?_ GE240.out | refine below_set ?_ GE257.out | refine below_set ?_ GE293.out | refine bq ?_) hb); (try clear hb); (try clear hb2); (try clear hk); (try clear hi)))
                go_meet
                case rel => exact ⟨_, (true), (by first | rfl | (simp; done) | (simp [*]; done)), H', ⟨by have := HJ17.out; have := HJ68.out; first | omega | exact Nat.le_refl _⟩, ⟨by (repeat apply sl1); exact Kd.S_mono HO_13.out (fun _ hk => trivial)⟩, ⟨bk BK221.out⟩, ⟨bk BK240.out⟩, ⟨bk BK257.out⟩, ⟨bk BK293.out⟩, ⟨by repeat with_reducible first | exact bl HB.out | refine below_set ?_ GE221.out | refine below_set ?_ GE240.out | refine below_set ?_ GE257.out | refine below_set ?_ GE293.out | refine bq ?_⟩⟩
              ·
               replace c125 := Bool.eq_false_iff.mpr c125
               subst c125
               have H1 : (laws_FnExactBoth16.j2 kj68 t275 t274 true) = some r := by rw [if_neg (show ¬ (false = true) by decide)] at H; exact H
               clear H
               have H := H1
               clear H1
               have H' := Aside0.mk H
               clear H
               obtain ⟨Ao142, co142, eo142⟩ := Kd.S_slice HO288.out
               subst eo142
               obtain ⟨Ao143, co143, eo143⟩ := Kd.S_slice HO_8.out
               subst eo143
               go_wp2_with (first | ((with_reducible refine gate_callee (f := 49) rfl ?_); refine goesL_ (some 130) rfl rfl Try.func49 (by kernel_rfl) rfl #[.slice Ao142 t286.length co142, .slice Ao143 t233.length co143] rfl (by (try simp only [am_]); first | done | rfl) ?_; (with_reducible refine (laws_eqWord16S.calls kj68 _ _ t286 _ _ t233 false _ ?side1 ?side2 ?side3 ?side4 A124.out).mono ?_); (case side1 => refine (Kd.S_reads' (e := 41) (base := w.heap.size) (ok := fun k_ => ((True ∧ some k_ ≠ (.slice Ao143 t233.length co143 : Value).ownBlock) ∧ some k_ ≠ (.slice Ao108 t250.length co108 : Value).ownBlock)) (n := t286.length) (c := co142) ?_).2.2; exact (by (repeat apply sl1); exact (Kd.S_mono (Kd.S_far (p := ⟨gb293, 2, none⟩) (Kd.S_far (p := ⟨gb293, 1, none⟩) (Kd.S_far (p := ⟨gb293, 0, none⟩) (Kd.S_types HO288.out BK293.out (by decide)) (fun _ hk => hk.2) (.int .i64 t290)) (fun _ hk => hk.2) (.int .i64 t291)) (fun _ hk => hk.2) (.int .i64 t292)) (fun _ h_ => h_.1)))); (case side2 => exact (Kd.S_reads' HO288.out).2.1); (case side3 => refine (Kd.S_reads' (e := 41) (base := w.heap.size) (ok := fun k_ => (True ∧ some k_ ≠ (.slice Ao142 t286.length co142 : Value).ownBlock)) (n := t233.length) (c := co143) ?_).2.2; exact (by (repeat apply sl1); exact (Kd.S_mono (Kd.S_far (p := ⟨gb293, 2, none⟩) (Kd.S_far (p := ⟨gb293, 1, none⟩) (Kd.S_far (p := ⟨gb293, 0, none⟩) (Kd.S_types HO_8.out BK293.out (by decide)) (fun _ hk => hk.2) (.int .i64 t290)) (fun _ hk => hk.2) (.int .i64 t291)) (fun _ hk => hk.2) (.int .i64 t292)) (fun _ h_ => h_.1)))); (case side4 => exact (Kd.S_reads' HO_8.out).2.1); rintro e w144 ⟨rfl, hb⟩; refine ⟨_, rfl, ?_⟩; replace HO_8 := Aside0.mk (Kd.S_below (by (repeat apply sl1); exact (Kd.S_mono (Kd.S_far (p := ⟨gb293, 2, none⟩) (Kd.S_far (p := ⟨gb293, 1, none⟩) (Kd.S_far (p := ⟨gb293, 0, none⟩) (Kd.S_types HO_8.out BK293.out (by decide)) (fun _ hk => hk.2) (.int .i64 t290)) (fun _ hk => hk.2) (.int .i64 t291)) (fun _ hk => hk.2) (.int .i64 t292)) (fun _ h_ => h_.1))) hb); replace HO_13 := Aside0.mk (Kd.S_below (by (repeat apply sl1); exact (Kd.S_mono (Kd.S_far (p := ⟨gb293, 2, none⟩) (Kd.S_far (p := ⟨gb293, 1, none⟩) (Kd.S_far (p := ⟨gb293, 0, none⟩) (Kd.S_types HO_13.out BK293.out (by decide)) (fun _ hk => hk.2) (.int .i64 t290)) (fun _ hk => hk.2) (.int .i64 t291)) (fun _ hk => hk.2) (.int .i64 t292)) (fun _ h_ => h_.1))) hb); replace HO282 := Aside0.mk (Kd.S_below (by (repeat apply sl1); exact (Kd.S_mono (Kd.S_far (p := ⟨gb293, 2, none⟩) (Kd.S_far (p := ⟨gb293, 1, none⟩) (Kd.S_far (p := ⟨gb293, 0, none⟩) (Kd.S_types HO282.out BK293.out (by decide)) (fun _ hk => hk.2) (.int .i64 t290)) (fun _ hk => hk.2) (.int .i64 t291)) (fun _ hk => hk.2) (.int .i64 t292)) (fun _ h_ => h_.1))) hb); replace HO285 := Aside0.mk (Kd.S_below (by (repeat apply sl1); exact (Kd.S_mono (Kd.S_far (p := ⟨gb293, 2, none⟩) (Kd.S_far (p := ⟨gb293, 1, none⟩) (Kd.S_far (p := ⟨gb293, 0, none⟩) (Kd.S_types HO285.out BK293.out (by decide)) (fun _ hk => hk.2) (.int .i64 t290)) (fun _ hk => hk.2) (.int .i64 t291)) (fun _ hk => hk.2) (.int .i64 t292)) (fun _ h_ => h_.1))) hb); replace HO288 := Aside0.mk (Kd.S_below (by (repeat apply sl1); exact (Kd.S_mono (Kd.S_far (p := ⟨gb293, 2, none⟩) (Kd.S_far (p := ⟨gb293, 1, none⟩) (Kd.S_far (p := ⟨gb293, 0, none⟩) (Kd.S_types HO288.out BK293.out (by decide)) (fun _ hk => hk.2) (.int .i64 t290)) (fun _ hk => hk.2) (.int .i64 t291)) (fun _ hk => hk.2) (.int .i64 t292)) (fun _ h_ => h_.1))) hb); replace BK221 := Aside0.mk (blk_below (g := gb221) (o := .cells #[.int .i64 a0_0, .int .i64 a0_1, .int .i64 a0_2] 23 (0, 0)) (by (repeat refine bk1 ?_); refine blk_far ?_ NB221_293.out _; (repeat refine bk1 ?_); refine blk_far ?_ NB221_293.out _; (repeat refine bk1 ?_); refine blk_far ?_ NB221_293.out _; (repeat refine bk1 ?_); exact BK221.out) hb); replace BK240 := Aside0.mk (blk_below (g := gb240) (o := .cells #[.int .i64 t237, .int .i64 t238, .int .i64 t239] 25 (0, 0)) (by (repeat refine bk1 ?_); refine blk_far ?_ NB240_293.out _; (repeat refine bk1 ?_); refine blk_far ?_ NB240_293.out _; (repeat refine bk1 ?_); refine blk_far ?_ NB240_293.out _; (repeat refine bk1 ?_); exact BK240.out) hb); replace BK257 := Aside0.mk (blk_below (g := gb257) (o := .cells #[.int .i64 t254, .int .i64 t255, .int .i64 t256] 25 (0, 0)) (by (repeat refine bk1 ?_); refine blk_far ?_ NB257_293.out _; (repeat refine bk1 ?_); refine blk_far ?_ NB257_293.out _; (repeat refine bk1 ?_); refine blk_far ?_ NB257_293.out _; (repeat refine bk1 ?_); exact BK257.out) hb); replace BK293 := Aside0.mk (blk_below (g := gb293) (o := .cells #[.int .i64 t290, .int .i64 t291, .int .i64 t292] 25 (0, 0)) (by (repeat refine bk1 ?_); refine blk_put (cs := #[.int .i64 t290, .int .i64 t291, .int .i64 0]) ?_ 2 _ rfl; (repeat refine bk1 ?_); refine blk_put (cs := #[.int .i64 t290, .int .i64 0, .int .i64 0]) ?_ 1 _ rfl; (repeat refine bk1 ?_); refine blk_put (cs := #[.int .i64 0, .int .i64 0, .int .i64 0]) ?_ 0 _ rfl; (repeat refine bk1 ?_); exact BK293.out) hb); replace HB := Aside0.mk (below_step (by repeat with_reducible first | exact bl HB.out | refine below_set ?_ GE221.out | refine below_set ?_ GE240.out | refine below_set ?_ GE257.out | refine below_set ?_ GE293.out | refine bq ?_) hb); (try clear hb); (try clear hb2); (try clear hk); (try clear hi)))
               go_meet
               case rel => exact ⟨_, (true), (by first | rfl | (simp; done) | (simp [*]; done)), H', ⟨by have := HJ17.out; have := HJ68.out; first | omega | exact Nat.le_refl _⟩, ⟨by (repeat apply sl1); exact Kd.S_mono HO_13.out (fun _ hk => trivial)⟩, ⟨bk BK221.out⟩, ⟨bk BK240.out⟩, ⟨bk BK257.out⟩, ⟨bk BK293.out⟩, ⟨by repeat with_reducible first | exact bl HB.out | refine below_set ?_ GE221.out | refine below_set ?_ GE240.out | refine below_set ?_ GE257.out | refine below_set ?_ GE293.out | refine bq ?_⟩⟩
             case rest =>
              clear HC107
              try clear c1
              try clear c2
              try clear p2
              try clear c3
              try clear c4
              try clear c5
              try clear c5b0
              try clear c6
              try clear c7
              try clear c8
              try clear c8b0
              try clear c9
              try clear c10
              try clear c11
              try clear c12
              try clear c13
              try clear c15
              try clear c28
              try clear c31
              try clear c38
              try clear c39
              try clear c42
              try clear c43
              try clear c43b0
              try clear c43b1
              try clear c46
              try clear c47
              try clear c48
              try clear c49
              try clear c50
              try clear c51
              try clear c52
              try clear c53
              try clear c60
              try clear c63
              try clear c66
              try clear c76
              try clear c76b0
              try clear c78
              try clear c79
              try clear c79b0
              try clear c79b1
              try clear c84
              try clear c85
              try clear c87
              try clear c96
              try clear c99
              try clear c99b0
              try clear c102
              try clear c102b0
              try clear c102b1
              try clear c110
              try clear c111
              try clear c120
              try clear c121
              try clear c122
              try clear c125
              try clear c126
              try clear c126b0
              try clear c126b1
              try clear c131
              try clear c132
              try clear c133
              try clear c135
              try clear c136
              try clear hcz112_0 hcz112_1 hcz112_2 hfz112_0 hfz112_1 hfz112_2
              try clear hcz123_0 hcz123_1 hcz123_2 hfz123_0 hfz123_1 hfz123_2
              try clear hcz134_0 hcz134_1 hcz134_2 hfz134_0 hfz134_1 hfz134_2
              try clear hcz137_0 hcz137_1 hcz137_2 hfz137_0 hfz137_1 hfz137_2
              try clear hcz20_0 hcz20_1 hcz20_2 hfz20_0 hfz20_1 hfz20_2
              try clear hcz29_0 hcz29_1 hcz29_2 hfz29_0 hfz29_1 hfz29_2
              try clear hcz32_0 hcz32_1 hcz32_2 hfz32_0 hfz32_1 hfz32_2
              try clear hcz40_0 hcz40_1 hcz40_2 hfz40_0 hfz40_1 hfz40_2
              try clear hcz50_0 hcz50_1 hcz50_2 hfz50_0 hfz50_1 hfz50_2
              try clear hcz52_0 hcz52_1 hcz52_2 hfz52_0 hfz52_1 hfz52_2
              try clear hcz86_0 hcz86_1 hcz86_2 hfz86_0 hfz86_1 hfz86_2
              try clear hcz88_0 hcz88_1 hcz88_2 hfz88_0 hfz88_1 hfz88_2
              try clear p2
              obtain ⟨kq, x142_106, rfl, HA, HJ106, HO_13, BK221, BK240, BK257, BK293, HB⟩ := hcut
              have hl13_106 := (Kd.S_reads' HO_13.out).1
              rw [hl13_106] at HO_13
              (try simp only [hl13_106])
              (try simp only [hl13_106] at BK221)
              (try simp only [hl13_106] at BK240)
              (try simp only [hl13_106] at BK257)
              (try simp only [hl13_106] at BK293)
              cases kq with
              | zero => exact absurd HA.out (by simp [laws_FnExactBoth16.j2])
              | succ kj106 =>
               have H := HA.out
               clear HA
               simp only [laws_FnExactBoth16.j2] at H
               by_cases c145 : x142_106 = true
               ·
                subst c145
                have H1 : (some false) = some r := by rw [if_pos rfl] at H; exact H
                clear H
                have H := H1
                clear H1
                cases H.trans (congrArg some hr_)
               ·
                replace c145 := Bool.eq_false_iff.mpr c145
                subst c145
                have H1 : ((laws_heldWord16S.f kj106 t275 1).bind fun t296 => (if t296 < 0 then (some false) else (if t296 = t274 then (some true) else (some false)))) = some r := by rw [if_neg (show ¬ (false = true) by decide)] at H; exact H
                clear H
                have H := H1
                clear H1
                replace H := Option.bind_eq_some_iff.mp H
                obtain ⟨t296, A1460, H⟩ := H
                replace H : (if t296 < 0 then (some false) else (if t296 = t274 then (some true) else (some false))) = some r := H
                have A146 := Aside0.mk A1460
                clear A1460
                by_cases c147 : t296 < 0
                ·
                 rw [if_pos c147] at H
                 have c147b0 : decide (t296 < 0) = true := decide_eq_true c147
                 clear c147
                 cases H.trans (congrArg some hr_)
                ·
                 rw [if_neg c147] at H
                 have c147b0 : decide (t296 < 0) = false := decide_eq_false c147
                 clear c147
                 by_cases c148 : t296 = t274
                 ·
                  rw [if_pos c148] at H
                  have c148b0 : (t296 == t274) = true := beq_iff_eq.mpr c148
                  have c148b1 : (t296 != t274) = false := bne_eq_false_iff_eq.mpr c148
                  clear c148
                  obtain rfl := Option.some.inj H
                  go_wp2_with (first | ((with_reducible refine gate_callee (f := 53) rfl ?_); refine goesL_ (some 145) rfl rfl Try.func53 (by kernel_rfl) rfl #[.slice Ao108 t275.length co108, .int .i64 1] rfl (by (try simp only [am_]); first | done | rfl) ?_; (with_reducible refine (laws_heldWord16S.calls kj106 _ _ t275 1 t296 _ ?side1 ?side2 A146.out).mono ?_); (case side1 => exact rc (Kd.S_reads' HO_13.out).2.2); (case side2 => exact (Kd.S_reads' HO_13.out).2.1); rintro e w' ⟨rfl, ⟨nd, rfl⟩⟩; refine ⟨_, rfl, ?_⟩))
                  go_ret
                  exact ⟨by first | rfl | (simp [errW_none, errW_some] <;> rfl) | (simp [*, errW_none, errW_some] <;> rfl), by repeat with_reducible first | exact bl HB.out | refine below_set ?_ GE221.out | refine below_set ?_ GE240.out | refine below_set ?_ GE257.out | refine below_set ?_ GE293.out | refine bq ?_⟩
                 ·
                  rw [if_neg c148] at H
                  have c148b0 : (t296 == t274) = false := beq_eq_false_iff_ne.mpr c148
                  have c148b1 : (t296 != t274) = true := bne_iff_ne.mpr c148
                  cases H.trans (congrArg some hr_)
            ·
             rw [if_neg c102] at H
             have c102b0 : (t276 == t274) = false := beq_eq_false_iff_ne.mpr c102
             have c102b1 : (t276 != t274) = true := bne_iff_ne.mpr c102
             cases H.trans (congrArg some hr_)
       ·
        replace c66 := Bool.eq_false_iff.mpr c66
        subst c66
        have H1 : (some false) = some r := by rw [if_neg (show ¬ (false = true) by decide)] at H; exact H
        clear H
        have H := H1
        clear H1
        cases H.trans (congrArg some hr_)
      ·
       replace c63 := Bool.eq_false_iff.mpr c63
       subst c63
       have H1 : (some false) = some r := by rw [if_neg (show ¬ (false = true) by decide)] at H; exact H
       clear H
       have H := H1
       clear H1
       cases H.trans (congrArg some hr_)
end Go.Proofs.Ytcdniegjefejcaa.PFnExactBoth16
