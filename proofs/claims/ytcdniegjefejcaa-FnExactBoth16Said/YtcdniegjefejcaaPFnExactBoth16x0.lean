-- Written by a program of this session (wip/xprint.py) out of the translation; Lean checks it.
import Derived.Test.YtcdniegjefejcaaProg
import Derived.Test.YtcdniegjefejcaaSq
import Derived.Below
import Derived.Deep.Draws
import Derived.Deep.AppendLies
import Derived.Maps.AppendAt
import Derived.OwnWalk
import Derived.Laws.BytesArg
import Derived.Laws.MakeOwn
import Derived.Laws.OwnMore
import Derived.Deep.OwnRows
import Derived.Tactics
import Derived.Lib.ConvBytes
import Derived.Laws.Slices
import Derived.WalkKit
import Derived.KernelRfl
import Derived.RowKit3
import Derived.Deep.LoopGhost
import Derived.Deep.QuietTactic
import Derived.BigQuiet
import Derived.WideLaws
import Derived.Deep.DeepCutAuto
import Derived.Deep.CutBlock
import Derived.Deep.RegionHeld3
import Derived.Laws.Rows
import Derived.Lib.AppendStr
import Derived.ArgAppend
import Derived.Laws.IdiomCopy
import Derived.OrdersHeld
import Derived.Laws.BitsLemmas
import Derived.RowKit
import Derived.Lib.SliceRun
import Derived.Laws.Cover1
import Derived.Lib.AppendZerosOnto
import Derived.Lib.AppendZeros
import Derived.Lib.Overlaps
import Derived.Laws.Externs
import Derived.Deep.RegionLaw
import Derived.Test.YtcdniegjefejcaaWWords
import Derived.Test.YtcdniegjefejcaaWLast
import Derived.Test.YtcdniegjefejcaaWTab
import Derived.Test.YtcdniegjefejcaaWFour
import Derived.Test.YtcdniegjefejcaaWQPut
import Derived.Test.YtcdniegjefejcaaWApart
import Derived.Test.YtcdniegjefejcaaWArr
import Derived.Test.YtcdniegjefejcaaWZeros
import Derived.Test.YtcdniegjefejcaaWFoot
import Derived.Test.YtcdniegjefejcaaWKept
import Derived.Test.YtcdniegjefejcaaWShare
import Derived.Test.YtcdniegjefejcaaWN
import Derived.Test.YtcdniegjefejcaaWFootNe
import Derived.Test.YtcdniegjefejcaaWAt
import Derived.Test.YtcdniegjefejcaaWEqStruct
import Derived.Test.YtcdniegjefejcaaWRepsOne
import Derived.Test.YtcdniegjefejcaaWInv
import Derived.Test.YtcdniegjefejcaaWInvWords
import Derived.Test.YtcdniegjefejcaaWGuard
import Derived.Test.YtcdniegjefejcaaWNEv
import Derived.Test.YtcdniegjefejcaaWMore
namespace Go.Proofs.Ytcdniegjefejcaa.PFnExactBoth16
def m1_10 : Array Bool := Sq.M 1 10
def m2_10 : Array Bool := Sq.M 2 10
def m3_10 : Array Bool := Sq.M 3 10
def n3 : Array Bool := #[true, true, true, false, true, false, false, false, false, false]
def n4 : Array Bool := #[true, true, true, false, true, true, false, false, false, false]
def n5 : Array Bool := #[true, true, true, false, true, true, true, false, false, false]
def m9_10 : Array Bool := Sq.M 9 10
def m10_10 : Array Bool := Sq.M 10 10
def m1_15 : Array Bool := Sq.M 1 15
def m2_15 : Array Bool := Sq.M 2 15
def n10 : Array Bool := #[true, true, false, false, true, false, false, false, false, false, false, false, false, false, false]
def n11 : Array Bool := #[true, true, false, false, true, true, false, false, false, false, false, false, false, false, false]
def n12 : Array Bool := #[true, true, false, false, true, true, false, false, true, false, false, false, false, false, false]
def n13 : Array Bool := #[true, true, false, false, true, true, false, false, true, true, false, false, false, false, false]
def n14 : Array Bool := #[true, true, false, false, true, true, false, false, true, true, true, false, false, false, false]
def n15 : Array Bool := #[true, true, true, true, true, true, false, false, true, true, true, false, false, false, false]
def m11_15 : Array Bool := Sq.M 11 15
def m13_15 : Array Bool := Sq.M 13 15
def m15_15 : Array Bool := Sq.M 15 15
def m7_10 : Array Bool := Sq.M 7 10
def n20 : Array Bool := #[true, true, true, false, true, true, false, false, true, true, true, false, false, false, false]
def n21 : Array Bool := #[true, true, true, true, true, true, true, false, true, true, true, false, false, false, false]
def m0_10 : Array Bool := Sq.M 0 10
def m8_10 : Array Bool := Sq.M 8 10
def m0_15 : Array Bool := Sq.M 0 15
def m12_15 : Array Bool := Sq.M 12 15
def m14_15 : Array Bool := Sq.M 14 15
def m0_11 : Array Bool := Sq.M 0 11
def m1_11 : Array Bool := Sq.M 1 11
def n29 : Array Bool := #[true, false, true, false, false, false, false, false, false, false, false]
def n30 : Array Bool := #[true, false, true, false, false, true, false, false, false, false, false]
def n31 : Array Bool := #[true, false, true, false, false, true, true, false, false, false, false]
def n32 : Array Bool := #[true, false, true, false, false, true, true, true, false, false, false]
def n33 : Array Bool := #[true, true, true, false, false, true, true, true, false, false, false]
def n34 : Array Bool := #[true, false, true, true, false, true, true, true, false, false, false]
def n35 : Array Bool := #[true, true, true, true, false, true, true, true, false, false, false]
def m8_11 : Array Bool := Sq.M 8 11
def m9_11 : Array Bool := Sq.M 9 11
def m10_11 : Array Bool := Sq.M 10 11
def m11_11 : Array Bool := Sq.M 11 11
def m0_4 : Array Bool := Sq.M 0 4
def m1_4 : Array Bool := Sq.M 1 4
def m2_4 : Array Bool := Sq.M 2 4
def m3_4 : Array Bool := Sq.M 3 4
def m4_4 : Array Bool := Sq.M 4 4
def m0_6 : Array Bool := Sq.M 0 6
def m1_6 : Array Bool := Sq.M 1 6
def m2_6 : Array Bool := Sq.M 2 6
def m3_6 : Array Bool := Sq.M 3 6
def m4_6 : Array Bool := Sq.M 4 6
def m5_6 : Array Bool := Sq.M 5 6
def m6_6 : Array Bool := Sq.M 6 6
def m1_12 : Array Bool := Sq.M 1 12
def m2_12 : Array Bool := Sq.M 2 12
def m3_12 : Array Bool := Sq.M 3 12
def m4_12 : Array Bool := Sq.M 4 12
def n56 : Array Bool := #[true, true, true, true, false, true, false, false, false, false, false, false]
def n57 : Array Bool := #[true, true, true, true, false, true, true, false, false, false, false, false]
def n58 : Array Bool := #[true, true, true, true, false, true, true, true, false, false, false, false]
def n59 : Array Bool := #[true, true, true, true, false, true, true, true, true, false, false, false]
def m11_12 : Array Bool := Sq.M 11 12
def m12_12 : Array Bool := Sq.M 12 12
def m1_17 : Array Bool := Sq.M 1 17
def m2_17 : Array Bool := Sq.M 2 17
def n64 : Array Bool := #[true, true, false, false, true, false, false, false, false, false, false, false, false, false, false, false, false]
def n65 : Array Bool := #[true, true, false, false, true, true, false, false, false, false, false, false, false, false, false, false, false]
def n66 : Array Bool := #[true, true, false, false, true, true, false, false, false, true, false, false, false, false, false, false, false]
def n67 : Array Bool := #[true, true, false, false, true, true, false, false, false, true, true, false, false, false, false, false, false]
def n68 : Array Bool := #[true, true, false, false, true, true, false, false, false, true, true, true, false, false, false, false, false]
def n69 : Array Bool := #[true, true, false, false, true, true, false, false, false, true, true, true, true, false, false, false, false]
def n70 : Array Bool := #[true, true, true, true, true, true, false, false, false, true, true, true, true, false, false, false, false]
def n71 : Array Bool := #[true, true, true, true, true, true, true, true, false, true, true, true, true, false, false, false, false]
def m15_17 : Array Bool := Sq.M 15 17
def m17_17 : Array Bool := Sq.M 17 17
def m9_12 : Array Bool := Sq.M 9 12
def n75 : Array Bool := #[true, true, true, false, true, true, false, false, false, true, true, true, true, false, false, false, false]
def n76 : Array Bool := #[true, true, true, true, true, true, true, false, false, true, true, true, true, false, false, false, false]
def m0_12 : Array Bool := Sq.M 0 12
def m10_12 : Array Bool := Sq.M 10 12
def m0_17 : Array Bool := Sq.M 0 17
def m13_17 : Array Bool := Sq.M 13 17
def m14_17 : Array Bool := Sq.M 14 17
def m16_17 : Array Bool := Sq.M 16 17
def m0_5 : Array Bool := Sq.M 0 5
def m1_5 : Array Bool := Sq.M 1 5
def n85 : Array Bool := #[true, false, true, false, false]
def n86 : Array Bool := #[true, false, true, true, false]
def m4_5 : Array Bool := Sq.M 4 5
def m5_5 : Array Bool := Sq.M 5 5
def n89 : Array Bool := #[true, true, false, true, false, false]
def n90 : Array Bool := #[true, true, false, true, true, false]
open Go.RowKit Go.Proofs.YtcdniegjefejcaaW.PrintWords Go.Proofs.YtcdniegjefejcaaW.PrintLast Go.Proofs.YtcdniegjefejcaaW.PrintMore Go.Proofs.Ytcdniegjefejcaa.Sq
attribute [local go_sem] max2_int min2_int max_two min_two max_three min_three max_four min_four   -- for this text's walks alone
set_option linter.unusedVariables false
set_option linter.unusedSimpArgs false



def errW : Option Int → Value
 | none => .nilIface
 | some c => .iface 0 (.int .i64 c)
theorem errW_none : errW none = .nilIface := rfl
theorem errW_some (c : Int) : errW (some c) = .iface 0 (.int .i64 c) := rfl

theorem info5 : (Try.prog.info? 5).map (fun i => (i.zero, i.size, i.bytes)) = some (some (.int .u8 0), 1, 1) := by kernel_rfl
theorem info28 : (Try.prog.info? 28).map (fun i => (i.zero, i.size, i.bytes)) = some (some (.slice none 0 0), 1, 24) := by kernel_rfl
theorem info41 : (Try.prog.info? 41).map (fun i => (i.zero, i.size, i.bytes)) = some (some (.agg #[(.int .i64 0), (.int .i64 0), (.slice none 0 0)]), 3, 40) := by kernel_rfl
-- the values' own types
def rd_L1 (xs : List (List Int)) (i : Int) : (List Int) := xs.getD i.toNat ([] : List Int)
theorem at_L1 {w : World} {A : Option Addr} {n : Nat} {xs : List (List Int)} (h : Kd.C (Kd.slice 5 (Kd.int .u8)) w A n xs) (i : Int) (h0 : 0 ≤ i) (h1 : i < n) : ∃ ad A0 c0, A = some ad ∧ w.cell? (ad.add i.toNat) = some (.slice A0 (rd_L1 xs i).length c0) ∧ (rd_L1 xs i).length ≤ c0 ∧ (Kd.int .u8).C w A0 (rd_L1 xs i).length (rd_L1 xs i) := by
 obtain ⟨ad, c, e, _, hK, hc0⟩ := Kd.C_get h ([] : List Int) i h0 h1
 have hc : ∀ j u, c[j]? = some u → w.cell? (ad.add (i.toNat * 1 + j)) = some u := hc0
 obtain ⟨A0, c0, rfl, l0, g0⟩ := hK
 exact ⟨ad, A0, c0, e, by have hq := hc 0 _ rfl; rwa [Nat.mul_one, Nat.add_zero] at hq, l0, g0⟩

def rd_L2 (xs : List (List (List Int))) (i : Int) : (List (List Int)) := xs.getD i.toNat ([] : List (List Int))
theorem at_L2 {w : World} {A : Option Addr} {n : Nat} {xs : List (List (List Int))} (h : Kd.C (Kd.slice 28 (Kd.slice 5 (Kd.int .u8))) w A n xs) (i : Int) (h0 : 0 ≤ i) (h1 : i < n) : ∃ ad A0 c0, A = some ad ∧ w.cell? (ad.add i.toNat) = some (.slice A0 (rd_L2 xs i).length c0) ∧ (rd_L2 xs i).length ≤ c0 ∧ (Kd.slice 5 (Kd.int .u8)).C w A0 (rd_L2 xs i).length (rd_L2 xs i) := by
 obtain ⟨ad, c, e, _, hK, hc0⟩ := Kd.C_get h ([] : List (List Int)) i h0 h1
 have hc : ∀ j u, c[j]? = some u → w.cell? (ad.add (i.toNat * 1 + j)) = some u := hc0
 obtain ⟨A0, c0, rfl, l0, g0⟩ := hK
 exact ⟨ad, A0, c0, e, by have hq := hc 0 _ rfl; rwa [Nat.mul_one, Nat.add_zero] at hq, l0, g0⟩

/-! #### struct type 41 -/
structure S41 where
 f0 : Int
 f1 : Int
 f2 : (List Int)
def z41 : S41 := ⟨(0 : Int), (0 : Int), ([] : List Int)⟩
def k41 : Kd S41 := Kd.iso (Kd.pair (Kd.int .i64) (Kd.pair (Kd.int .i64) (Kd.slice 5 (Kd.int .u8)))) (fun x : S41 => (x.f0, x.f1, x.f2))
theorem k41_open {w : World} {x : S41} {cs : List Value} (h : k41.K w x cs) : ∃ A2 c2, cs = [.int .i64 x.f0, .int .i64 x.f1, .slice A2 x.f2.length c2] ∧ x.f2.length ≤ c2 ∧ (Kd.int .u8).C w A2 x.f2.length x.f2 := by
 obtain ⟨_, _, rfl, rfl, ⟨_, _, rfl, rfl, ⟨A2, c2, rfl, l2, g2⟩⟩⟩ := h
 exact ⟨A2, c2, rfl, l2, g2⟩
theorem k41_openM {w : World} {base : Nat} {ok : Nat → Prop} {x : S41} {cs : List Value} (h : k41.M w base ok x cs) : ∃ v2, cs = [.int .i64 x.f0, .int .i64 x.f1, v2] ∧ (Kd.int .u8).R 5 w base ok v2 x.f2 := by
 obtain ⟨_, _, rfl, rfl, ⟨_, _, rfl, rfl, ⟨v2, rfl, g2⟩⟩⟩ := h
 exact ⟨v2, rfl, g2⟩
theorem k41_mk (w : World) (x : S41) {A2 : Option Addr} {c2 : Nat} (l2 : x.f2.length ≤ c2) (g2 : (Kd.int .u8).C w A2 x.f2.length x.f2) : k41.K w x [.int .i64 x.f0, .int .i64 x.f1, .slice A2 x.f2.length c2] := ⟨[.int .i64 x.f0], [.int .i64 x.f1, .slice A2 x.f2.length c2], rfl, rfl, ⟨[.int .i64 x.f1], [.slice A2 x.f2.length c2], rfl, rfl, ⟨A2, c2, rfl, l2, g2⟩⟩⟩
theorem k41_mkM (w : World) (base : Nat) (ok : Nat → Prop) (x : S41) {v2 : Value} (g2 : (Kd.int .u8).R 5 w base ok v2 x.f2) : k41.M w base ok x [.int .i64 x.f0, .int .i64 x.f1, v2] := ⟨[.int .i64 x.f0], [.int .i64 x.f1, v2], rfl, rfl, ⟨[.int .i64 x.f1], [v2], rfl, rfl, ⟨v2, rfl, g2⟩⟩⟩
theorem k41_openF {W : World} {ok : Nat → Prop} {x : S41} {cs : List Value} (h : Kd.FK k41 W ok x cs) : ∃ A2 c2, cs = [.int .i64 x.f0, .int .i64 x.f1, .slice A2 x.f2.length c2] ∧ x.f2.length ≤ c2 ∧ Kd.F (Kd.int .u8) W ok A2 x.f2.length x.f2 := by
 obtain ⟨A2, c2, rfl, l2, _⟩ := k41_open (Kd.FK_now h)
 exact ⟨A2, c2, rfl, l2, (fun W' hW => by obtain ⟨A2_, c2_, he, l2_, g2_⟩ := k41_open (h W' hW); injection (Option.some.inj (show some (Value.slice A2 x.f2.length c2) = some (Value.slice A2_ x.f2.length c2_) from congrArg (fun l => l[2]?) he)) with ha_ _ _; rw [ha_]; exact g2_)⟩
theorem k41_mkF (W : World) (ok : Nat → Prop) (x : S41) {A2 : Option Addr} {c2 : Nat} (l2 : x.f2.length ≤ c2) (g2 : Kd.F (Kd.int .u8) W ok A2 x.f2.length x.f2) : Kd.FK k41 W ok x [.int .i64 x.f0, .int .i64 x.f1, .slice A2 x.f2.length c2] := fun W2 hW => k41_mk W2 x l2 (g2 W2 hW)
def rd_T41 (xs : List S41) (i : Int) : S41 := xs.getD i.toNat z41
theorem at_T41 {w : World} {A : Option Addr} {n : Nat} {xs : List S41} (h : Kd.C k41 w A n xs) (i : Int) (h0 : 0 ≤ i) (h1 : i < n) : ∃ ad A2 c2, A = some ad ∧ w.cell? (ad.add (i.toNat * 3)) = some (.int .i64 (rd_T41 xs i).f0) ∧ w.cell? ⟨(ad.add (i.toNat * 3)).block, (ad.add (i.toNat * 3)).off + 1, none⟩ = some (.int .i64 (rd_T41 xs i).f1) ∧ w.cell? ⟨(ad.add (i.toNat * 3)).block, (ad.add (i.toNat * 3)).off + 2, none⟩ = some (.slice A2 (rd_T41 xs i).f2.length c2) ∧ (rd_T41 xs i).f2.length ≤ c2 ∧ (Kd.int .u8).C w A2 (rd_T41 xs i).f2.length (rd_T41 xs i).f2 := by
 obtain ⟨ad, c, e, _, hK, hc0⟩ := Kd.C_get h z41 i h0 h1
 have hc : ∀ j u, c[j]? = some u → w.cell? (ad.add (i.toNat * 3 + j)) = some u := hc0
 obtain ⟨A2, c2, rfl, l2, g2⟩ := k41_open hK
 exact ⟨ad, A2, c2, e, hc 0 _ rfl, by rw [← add_field _ _ 1 (by omega)]; exact hc 1 _ rfl, by rw [← add_field _ _ 2 (by omega)]; exact hc 2 _ rfl, l2, g2⟩

def rd_L5 (xs : List (List S41)) (i : Int) : (List S41) := xs.getD i.toNat ([] : List S41)
theorem at_L5 {w : World} {A : Option Addr} {n : Nat} {xs : List (List S41)} (h : Kd.C (Kd.slice 41 k41) w A n xs) (i : Int) (h0 : 0 ≤ i) (h1 : i < n) : ∃ ad A0 c0, A = some ad ∧ w.cell? (ad.add i.toNat) = some (.slice A0 (rd_L5 xs i).length c0) ∧ (rd_L5 xs i).length ≤ c0 ∧ k41.C w A0 (rd_L5 xs i).length (rd_L5 xs i) := by
 obtain ⟨ad, c, e, _, hK, hc0⟩ := Kd.C_get h ([] : List S41) i h0 h1
 have hc : ∀ j u, c[j]? = some u → w.cell? (ad.add (i.toNat * 1 + j)) = some u := hc0
 obtain ⟨A0, c0, rfl, l0, g0⟩ := hK
 exact ⟨ad, A0, c0, e, by have hq := hc 0 _ rfl; rwa [Nat.mul_one, Nat.add_zero] at hq, l0, g0⟩

end Go.Proofs.Ytcdniegjefejcaa.PFnExactBoth16
