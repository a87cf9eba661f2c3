-- Written by a program of this session (wip/xprint.py) out of the translation; Lean checks it.
import Derived.Test.YtlkphaahkhfgoaaProg
import Derived.Test.YtlkphaahkhfgoaaSq
import Derived.Below
import Derived.Deep.Draws
import Derived.Deep.AppendLies
import Derived.Maps.AppendAt
import Derived.OwnWalk
import Derived.Laws.BytesArg
import Derived.Laws.MakeOwn
import Derived.Laws.OwnMore
import Derived.Deep.OwnRows
import Derived.Tactics
import Derived.Lib.ConvBytes
import Derived.Laws.Slices
import Derived.WalkKit
import Derived.KernelRfl
import Derived.RowKit3
import Derived.Deep.LoopGhost
import Derived.Deep.QuietTactic
import Derived.BigQuiet
import Derived.WideLaws
import Derived.Deep.DeepCutAuto
import Derived.Deep.CutBlock
import Derived.Deep.RegionHeld3
import Derived.Laws.Rows
import Derived.Lib.AppendStr
import Derived.ArgAppend
import Derived.Laws.IdiomCopy
import Derived.OrdersHeld
import Derived.Laws.BitsLemmas
import Derived.RowKit
import Derived.Lib.SliceRun
import Derived.Laws.Cover1
import Derived.Lib.AppendZerosOnto
import Derived.Lib.AppendZeros
import Derived.Lib.Overlaps
import Derived.Laws.Externs
import Derived.Deep.RegionLaw
import Derived.Test.YtlkphaahkhfgoaaWWords
import Derived.Test.YtlkphaahkhfgoaaWLast
import Derived.Test.YtlkphaahkhfgoaaWTab
import Derived.Test.YtlkphaahkhfgoaaWFour
import Derived.Test.YtlkphaahkhfgoaaWQPut
import Derived.Test.YtlkphaahkhfgoaaWApart
import Derived.Test.YtlkphaahkhfgoaaWArr
import Derived.Test.YtlkphaahkhfgoaaWZeros
import Derived.Test.YtlkphaahkhfgoaaWFoot
import Derived.Test.YtlkphaahkhfgoaaWKept
import Derived.Test.YtlkphaahkhfgoaaWShare
import Derived.Test.YtlkphaahkhfgoaaWN
import Derived.Test.YtlkphaahkhfgoaaWFootNe
import Derived.Test.YtlkphaahkhfgoaaWAt
import Derived.Test.YtlkphaahkhfgoaaWEqStruct
import Derived.Test.YtlkphaahkhfgoaaWRepsOne
import Derived.Test.YtlkphaahkhfgoaaWInv
import Derived.Test.YtlkphaahkhfgoaaWInvWords
import Derived.Test.YtlkphaahkhfgoaaWGuard
import Derived.Test.YtlkphaahkhfgoaaWNEv
import Derived.Test.YtlkphaahkhfgoaaWMore
namespace Go.Proofs.Ytlkphaahkhfgoaa.PFnWindows
def m1_9 : Array Bool := Sq.M 1 9
def m2_9 : Array Bool := Sq.M 2 9
def m3_9 : Array Bool := Sq.M 3 9
def m4_9 : Array Bool := Sq.M 4 9
def m5_9 : Array Bool := Sq.M 5 9
def m8_9 : Array Bool := Sq.M 8 9
def m1_18 : Array Bool := Sq.M 1 18
def m2_18 : Array Bool := Sq.M 2 18
def n8 : Array Bool := #[true, true, false, false, true, false, false, false, false, false, false, false, false, false, false, false, false, false]
def n9 : Array Bool := #[true, true, false, false, true, true, false, false, false, false, false, false, false, false, false, false, false, false]
def n10 : Array Bool := #[true, true, false, false, true, true, false, true, false, false, false, false, false, false, false, false, false, false]
def n11 : Array Bool := #[true, true, false, false, true, true, false, true, false, false, true, false, false, false, false, false, false, false]
def n12 : Array Bool := #[true, true, false, false, true, true, false, true, false, false, true, false, true, false, false, false, false, false]
def n13 : Array Bool := #[true, true, true, true, true, true, false, true, false, false, true, false, true, false, false, false, false, false]
def n14 : Array Bool := #[true, true, true, true, true, true, false, true, false, false, true, false, true, false, false, true, false, false]
def n15 : Array Bool := #[true, true, true, true, true, true, true, true, true, false, true, false, true, false, false, true, false, false]
def n16 : Array Bool := #[true, true, true, true, true, true, true, true, true, true, true, false, true, false, false, true, false, false]
def n17 : Array Bool := #[true, true, true, true, true, true, true, true, true, true, true, false, true, false, false, true, true, false]
def m17_18 : Array Bool := Sq.M 17 18
def m18_18 : Array Bool := Sq.M 18 18
def m6_9 : Array Bool := Sq.M 6 9
def n21 : Array Bool := #[true, true, true, false, true, true, false, true, false, false, true, false, true, false, false, false, false, false]
def n22 : Array Bool := #[true, true, true, true, true, true, true, true, false, false, true, false, true, false, false, true, false, false]
def n23 : Array Bool := #[true, true, true, true, true, true, true, true, true, true, true, true, true, false, false, true, true, false]
def n24 : Array Bool := #[true, true, true, true, true, true, true, true, true, true, true, true, true, true, false, true, true, false]
def m0_5 : Array Bool := Sq.M 0 5
def m1_5 : Array Bool := Sq.M 1 5
def n27 : Array Bool := #[true, false, true, false, false]
def m3_5 : Array Bool := Sq.M 3 5
def m4_5 : Array Bool := Sq.M 4 5
def m5_5 : Array Bool := Sq.M 5 5
def m0_9 : Array Bool := Sq.M 0 9
def m7_9 : Array Bool := Sq.M 7 9
def m9_9 : Array Bool := Sq.M 9 9
def m0_18 : Array Bool := Sq.M 0 18
def m1_13 : Array Bool := Sq.M 1 13
def m2_13 : Array Bool := Sq.M 2 13
def n37 : Array Bool := #[true, true, false, true, false, false, false, false, false, false, false, false, false]
def n38 : Array Bool := #[true, true, false, true, true, false, false, false, false, false, false, false, false]
def n39 : Array Bool := #[true, true, false, true, true, false, true, false, false, false, false, false, false]
def n40 : Array Bool := #[true, true, false, true, true, false, true, true, false, false, false, false, false]
def n41 : Array Bool := #[true, true, true, true, true, false, true, true, false, true, false, false, false]
def n42 : Array Bool := #[true, true, true, true, true, false, true, true, true, true, false, false, false]
def n43 : Array Bool := #[true, true, true, true, true, true, true, true, false, true, false, false, false]
def n44 : Array Bool := #[true, true, true, true, true, true, true, true, false, true, true, false, false]
def m10_13 : Array Bool := Sq.M 10 13
def m11_13 : Array Bool := Sq.M 11 13
def m12_13 : Array Bool := Sq.M 12 13
def m13_13 : Array Bool := Sq.M 13 13
def m1_26 : Array Bool := Sq.M 1 26
def n50 : Array Bool := #[true, false, true, false, false, false, false, false, false, false, false, false, false, false, false, false, false, false, false, false, false, false, false, false, false, false]
def m4_26 : Array Bool := Sq.M 4 26
def m5_26 : Array Bool := Sq.M 5 26
def m6_26 : Array Bool := Sq.M 6 26
def m7_26 : Array Bool := Sq.M 7 26
def m8_26 : Array Bool := Sq.M 8 26
def m10_26 : Array Bool := Sq.M 10 26
def m11_26 : Array Bool := Sq.M 11 26
def m12_26 : Array Bool := Sq.M 12 26
def m13_26 : Array Bool := Sq.M 13 26
def m14_26 : Array Bool := Sq.M 14 26
def m15_26 : Array Bool := Sq.M 15 26
def m25_26 : Array Bool := Sq.M 25 26
def m26_26 : Array Bool := Sq.M 26 26
def m16_26 : Array Bool := Sq.M 16 26
def m17_26 : Array Bool := Sq.M 17 26
def m18_26 : Array Bool := Sq.M 18 26
def n67 : Array Bool := #[true, true, true, true, true, true, true, true, true, true, true, true, true, true, true, true, true, true, false, true, false, false, false, false, false, false]
def n68 : Array Bool := #[true, true, true, true, true, true, true, true, true, true, true, true, true, true, true, true, true, true, false, true, true, false, false, false, false, false]
def n69 : Array Bool := #[true, true, true, true, true, true, true, true, true, true, true, true, true, true, true, true, true, true, false, true, true, true, false, false, false, false]
def m24_26 : Array Bool := Sq.M 24 26
def m19_26 : Array Bool := Sq.M 19 26
def m20_26 : Array Bool := Sq.M 20 26
def m21_26 : Array Bool := Sq.M 21 26
def m22_26 : Array Bool := Sq.M 22 26
def m23_26 : Array Bool := Sq.M 23 26
def m9_26 : Array Bool := Sq.M 9 26
def m3_26 : Array Bool := Sq.M 3 26
def m0_13 : Array Bool := Sq.M 0 13
def n79 : Array Bool := #[true, true, false, true, true, true, true, true, true, false, false, false, false]
def n80 : Array Bool := #[true, true, false, true, true, true, true, true, false, false, false, false, false]
def n81 : Array Bool := #[true, true, false, true, true, false, true, true, true, false, false, false, false]
def n82 : Array Bool := #[true, true, true, true, true, false, true, true, false, false, false, false, false]
def n83 : Array Bool := #[true, true, true, true, true, false, true, true, true, false, false, false, false]
def m8_13 : Array Bool := Sq.M 8 13
def m9_13 : Array Bool := Sq.M 9 13
def m0_26 : Array Bool := Sq.M 0 26
def n87 : Array Bool := #[true, false, true, false, false, false, false, false, false, false, false, false, false]
def n88 : Array Bool := #[true, false, true, true, false, false, false, false, false, false, false, false, false]
def n89 : Array Bool := #[true, false, true, true, false, false, true, false, false, false, false, false, false]
def n90 : Array Bool := #[true, false, true, true, false, false, true, true, false, false, false, false, false]
def n91 : Array Bool := #[true, true, true, true, false, false, true, true, false, false, false, false, false]
def m0_7 : Array Bool := Sq.M 0 7
def n93 : Array Bool := #[false, true, false, false, false, false, false]
def n94 : Array Bool := #[false, true, true, false, false, false, false]
def m3_7 : Array Bool := Sq.M 3 7
def m4_7 : Array Bool := Sq.M 4 7
def m5_7 : Array Bool := Sq.M 5 7
def m6_7 : Array Bool := Sq.M 6 7
def m7_7 : Array Bool := Sq.M 7 7
def n100 : Array Bool := #[false, true, false, false, false, false, false, false, false, false, false, false]
def m4_12 : Array Bool := Sq.M 4 12
def m5_12 : Array Bool := Sq.M 5 12
def m7_12 : Array Bool := Sq.M 7 12
def m8_12 : Array Bool := Sq.M 8 12
def m9_12 : Array Bool := Sq.M 9 12
def n106 : Array Bool := #[true, true, true, true, true, true, true, false, false, true, false, false]
def n107 : Array Bool := #[true, true, true, true, true, true, true, true, false, true, false, false]
def m10_12 : Array Bool := Sq.M 10 12
def n109 : Array Bool := #[true, true, true, true, false, false, false, false, false, true, false, false]
def n110 : Array Bool := #[true, true, true, true, true, false, false, false, false, true, false, false]
def m12_12 : Array Bool := Sq.M 12 12
def m2_12 : Array Bool := Sq.M 2 12
def m0_12 : Array Bool := Sq.M 0 12
def m3_12 : Array Bool := Sq.M 3 12
def n115 : Array Bool := #[true, true, false, false, false, false, false, false, false, true, false, false]
def m6_12 : Array Bool := Sq.M 6 12
def n117 : Array Bool := #[true, true, true, true, true, true, false, false, false, true, false, false]
def n118 : Array Bool := #[true, true, true, false, false, false, false, false, false, true, false, false]
def m11_12 : Array Bool := Sq.M 11 12
open Go.RowKit Go.Proofs.YtlkphaahkhfgoaaW.PrintWords Go.Proofs.YtlkphaahkhfgoaaW.PrintLast Go.Proofs.YtlkphaahkhfgoaaW.PrintMore Go.Proofs.Ytlkphaahkhfgoaa.Sq
attribute [local go_sem] max2_int min2_int max_two min_two max_three min_three max_four min_four   -- for this text's walks alone
set_option linter.unusedVariables false
set_option linter.unusedSimpArgs false



def errW : Option Int → Value
 | none => .nilIface
 | some c => .iface 0 (.int .i64 c)
theorem errW_none : errW none = .nilIface := rfl
theorem errW_some (c : Int) : errW (some c) = .iface 0 (.int .i64 c) := rfl

theorem info3 : (Try.prog.info? 3).map (fun i => (i.zero, i.size, i.bytes)) = some (some (.int .i64 0), 1, 8) := by kernel_rfl
theorem info62 : (Try.prog.info? 62).map (fun i => (i.zero, i.size, i.bytes)) = some (some (.agg #[(.int .i64 0), (.int .i64 0), (.int .i64 0)]), 3, 24) := by kernel_rfl
theorem info74 : (Try.prog.info? 74).map (fun i => (i.zero, i.size, i.bytes)) = some (some (.agg #[(.int .i64 0), (.int .i64 0), (.int .i64 0)]), 3, 24) := by kernel_rfl
-- the values' own types
/-! #### struct type 62 -/
structure S62 where
 f0 : Int
 f1 : Int
 f2 : Int
def z62 : S62 := ⟨(0 : Int), (0 : Int), (0 : Int)⟩
def k62 : Kd S62 := Kd.iso (Kd.pair (Kd.int .i64) (Kd.pair (Kd.int .i64) (Kd.int .i64))) (fun x : S62 => (x.f0, x.f1, x.f2))
theorem k62_open {w : World} {x : S62} {cs : List Value} (h : k62.K w x cs) : cs = [.int .i64 x.f0, .int .i64 x.f1, .int .i64 x.f2] := by
 obtain ⟨_, _, rfl, rfl, ⟨_, _, rfl, rfl, rfl⟩⟩ := h
 exact rfl
theorem k62_openM {w : World} {base : Nat} {ok : Nat → Prop} {x : S62} {cs : List Value} (h : k62.M w base ok x cs) : cs = [.int .i64 x.f0, .int .i64 x.f1, .int .i64 x.f2] := by
 obtain ⟨_, _, rfl, rfl, ⟨_, _, rfl, rfl, rfl⟩⟩ := h
 exact rfl
theorem k62_mk (w : World) (x : S62)  : k62.K w x [.int .i64 x.f0, .int .i64 x.f1, .int .i64 x.f2] := ⟨[.int .i64 x.f0], [.int .i64 x.f1, .int .i64 x.f2], rfl, rfl, ⟨[.int .i64 x.f1], [.int .i64 x.f2], rfl, rfl, rfl⟩⟩
theorem k62_mkM (w : World) (base : Nat) (ok : Nat → Prop) (x : S62)  : k62.M w base ok x [.int .i64 x.f0, .int .i64 x.f1, .int .i64 x.f2] := ⟨[.int .i64 x.f0], [.int .i64 x.f1, .int .i64 x.f2], rfl, rfl, ⟨[.int .i64 x.f1], [.int .i64 x.f2], rfl, rfl, rfl⟩⟩
def rd_T62 (xs : List S62) (i : Int) : S62 := xs.getD i.toNat z62
theorem at_T62 {w : World} {A : Option Addr} {n : Nat} {xs : List S62} (h : Kd.C k62 w A n xs) (i : Int) (h0 : 0 ≤ i) (h1 : i < n) : ∃ ad , A = some ad ∧ w.cell? (ad.add (i.toNat * 3)) = some (.int .i64 (rd_T62 xs i).f0) ∧ w.cell? ⟨(ad.add (i.toNat * 3)).block, (ad.add (i.toNat * 3)).off + 1, none⟩ = some (.int .i64 (rd_T62 xs i).f1) ∧ w.cell? ⟨(ad.add (i.toNat * 3)).block, (ad.add (i.toNat * 3)).off + 2, none⟩ = some (.int .i64 (rd_T62 xs i).f2) := by
 obtain ⟨ad, c, e, _, hK, hc0⟩ := Kd.C_get h z62 i h0 h1
 have hc : ∀ j u, c[j]? = some u → w.cell? (ad.add (i.toNat * 3 + j)) = some u := hc0
 obtain rfl := k62_open hK
 exact ⟨ad, e, hc 0 _ rfl, by rw [← add_field _ _ 1 (by omega)]; exact hc 1 _ rfl, by rw [← add_field _ _ 2 (by omega)]; exact hc 2 _ rfl⟩

def rd_L2 (xs : List (List S62)) (i : Int) : (List S62) := xs.getD i.toNat ([] : List S62)
theorem at_L2 {w : World} {A : Option Addr} {n : Nat} {xs : List (List S62)} (h : Kd.C (Kd.slice 62 k62) w A n xs) (i : Int) (h0 : 0 ≤ i) (h1 : i < n) : ∃ ad A0 c0, A = some ad ∧ w.cell? (ad.add i.toNat) = some (.slice A0 (rd_L2 xs i).length c0) ∧ (rd_L2 xs i).length ≤ c0 ∧ k62.C w A0 (rd_L2 xs i).length (rd_L2 xs i) := by
 obtain ⟨ad, c, e, _, hK, hc0⟩ := Kd.C_get h ([] : List S62) i h0 h1
 have hc : ∀ j u, c[j]? = some u → w.cell? (ad.add (i.toNat * 1 + j)) = some u := hc0
 obtain ⟨A0, c0, rfl, l0, g0⟩ := hK
 exact ⟨ad, A0, c0, e, by have hq := hc 0 _ rfl; rwa [Nat.mul_one, Nat.add_zero] at hq, l0, g0⟩

/-! #### struct type 74 -/
structure S74 where
 f0 : Int
 f1 : Int
 f2 : Int
def z74 : S74 := ⟨(0 : Int), (0 : Int), (0 : Int)⟩
def k74 : Kd S74 := Kd.iso (Kd.pair (Kd.int .i64) (Kd.pair (Kd.int .i64) (Kd.int .i64))) (fun x : S74 => (x.f0, x.f1, x.f2))
theorem k74_open {w : World} {x : S74} {cs : List Value} (h : k74.K w x cs) : cs = [.int .i64 x.f0, .int .i64 x.f1, .int .i64 x.f2] := by
 obtain ⟨_, _, rfl, rfl, ⟨_, _, rfl, rfl, rfl⟩⟩ := h
 exact rfl
theorem k74_openM {w : World} {base : Nat} {ok : Nat → Prop} {x : S74} {cs : List Value} (h : k74.M w base ok x cs) : cs = [.int .i64 x.f0, .int .i64 x.f1, .int .i64 x.f2] := by
 obtain ⟨_, _, rfl, rfl, ⟨_, _, rfl, rfl, rfl⟩⟩ := h
 exact rfl
theorem k74_mk (w : World) (x : S74)  : k74.K w x [.int .i64 x.f0, .int .i64 x.f1, .int .i64 x.f2] := ⟨[.int .i64 x.f0], [.int .i64 x.f1, .int .i64 x.f2], rfl, rfl, ⟨[.int .i64 x.f1], [.int .i64 x.f2], rfl, rfl, rfl⟩⟩
theorem k74_mkM (w : World) (base : Nat) (ok : Nat → Prop) (x : S74)  : k74.M w base ok x [.int .i64 x.f0, .int .i64 x.f1, .int .i64 x.f2] := ⟨[.int .i64 x.f0], [.int .i64 x.f1, .int .i64 x.f2], rfl, rfl, ⟨[.int .i64 x.f1], [.int .i64 x.f2], rfl, rfl, rfl⟩⟩
def rd_T74 (xs : List S74) (i : Int) : S74 := xs.getD i.toNat z74
theorem at_T74 {w : World} {A : Option Addr} {n : Nat} {xs : List S74} (h : Kd.C k74 w A n xs) (i : Int) (h0 : 0 ≤ i) (h1 : i < n) : ∃ ad , A = some ad ∧ w.cell? (ad.add (i.toNat * 3)) = some (.int .i64 (rd_T74 xs i).f0) ∧ w.cell? ⟨(ad.add (i.toNat * 3)).block, (ad.add (i.toNat * 3)).off + 1, none⟩ = some (.int .i64 (rd_T74 xs i).f1) ∧ w.cell? ⟨(ad.add (i.toNat * 3)).block, (ad.add (i.toNat * 3)).off + 2, none⟩ = some (.int .i64 (rd_T74 xs i).f2) := by
 obtain ⟨ad, c, e, _, hK, hc0⟩ := Kd.C_get h z74 i h0 h1
 have hc : ∀ j u, c[j]? = some u → w.cell? (ad.add (i.toNat * 3 + j)) = some u := hc0
 obtain rfl := k74_open hK
 exact ⟨ad, e, hc 0 _ rfl, by rw [← add_field _ _ 1 (by omega)]; exact hc 1 _ rfl, by rw [← add_field _ _ 2 (by omega)]; exact hc 2 _ rfl⟩

def rd_L4 (xs : List (List S74)) (i : Int) : (List S74) := xs.getD i.toNat ([] : List S74)
theorem at_L4 {w : World} {A : Option Addr} {n : Nat} {xs : List (List S74)} (h : Kd.C (Kd.slice 74 k74) w A n xs) (i : Int) (h0 : 0 ≤ i) (h1 : i < n) : ∃ ad A0 c0, A = some ad ∧ w.cell? (ad.add i.toNat) = some (.slice A0 (rd_L4 xs i).length c0) ∧ (rd_L4 xs i).length ≤ c0 ∧ k74.C w A0 (rd_L4 xs i).length (rd_L4 xs i) := by
 obtain ⟨ad, c, e, _, hK, hc0⟩ := Kd.C_get h ([] : List S74) i h0 h1
 have hc : ∀ j u, c[j]? = some u → w.cell? (ad.add (i.toNat * 1 + j)) = some u := hc0
 obtain ⟨A0, c0, rfl, l0, g0⟩ := hK
 exact ⟨ad, A0, c0, e, by have hq := hc 0 _ rfl; rwa [Nat.mul_one, Nat.add_zero] at hq, l0, g0⟩

/-! #### struct type 29 -/
structure S29 where
 f0 : Int
 f1 : Int
 f2 : (List S62)
def z29 : S29 := ⟨(0 : Int), (0 : Int), ([] : List S62)⟩
def k29 : Kd S29 := Kd.iso (Kd.pair (Kd.int .i64) (Kd.pair (Kd.int .i64) (Kd.slice 62 k62))) (fun x : S29 => (x.f0, x.f1, x.f2))
theorem k29_open {w : World} {x : S29} {cs : List Value} (h : k29.K w x cs) : ∃ A2 c2, cs = [.int .i64 x.f0, .int .i64 x.f1, .slice A2 x.f2.length c2] ∧ x.f2.length ≤ c2 ∧ k62.C w A2 x.f2.length x.f2 := by
 obtain ⟨_, _, rfl, rfl, ⟨_, _, rfl, rfl, ⟨A2, c2, rfl, l2, g2⟩⟩⟩ := h
 exact ⟨A2, c2, rfl, l2, g2⟩
theorem k29_openM {w : World} {base : Nat} {ok : Nat → Prop} {x : S29} {cs : List Value} (h : k29.M w base ok x cs) : ∃ v2, cs = [.int .i64 x.f0, .int .i64 x.f1, v2] ∧ k62.R 62 w base ok v2 x.f2 := by
 obtain ⟨_, _, rfl, rfl, ⟨_, _, rfl, rfl, ⟨v2, rfl, g2⟩⟩⟩ := h
 exact ⟨v2, rfl, g2⟩
theorem k29_mk (w : World) (x : S29) {A2 : Option Addr} {c2 : Nat} (l2 : x.f2.length ≤ c2) (g2 : k62.C w A2 x.f2.length x.f2) : k29.K w x [.int .i64 x.f0, .int .i64 x.f1, .slice A2 x.f2.length c2] := ⟨[.int .i64 x.f0], [.int .i64 x.f1, .slice A2 x.f2.length c2], rfl, rfl, ⟨[.int .i64 x.f1], [.slice A2 x.f2.length c2], rfl, rfl, ⟨A2, c2, rfl, l2, g2⟩⟩⟩
theorem k29_mkM (w : World) (base : Nat) (ok : Nat → Prop) (x : S29) {v2 : Value} (g2 : k62.R 62 w base ok v2 x.f2) : k29.M w base ok x [.int .i64 x.f0, .int .i64 x.f1, v2] := ⟨[.int .i64 x.f0], [.int .i64 x.f1, v2], rfl, rfl, ⟨[.int .i64 x.f1], [v2], rfl, rfl, ⟨v2, rfl, g2⟩⟩⟩
def rd_T29 (xs : List S29) (i : Int) : S29 := xs.getD i.toNat z29
theorem at_T29 {w : World} {A : Option Addr} {n : Nat} {xs : List S29} (h : Kd.C k29 w A n xs) (i : Int) (h0 : 0 ≤ i) (h1 : i < n) : ∃ ad A2 c2, A = some ad ∧ w.cell? (ad.add (i.toNat * 3)) = some (.int .i64 (rd_T29 xs i).f0) ∧ w.cell? ⟨(ad.add (i.toNat * 3)).block, (ad.add (i.toNat * 3)).off + 1, none⟩ = some (.int .i64 (rd_T29 xs i).f1) ∧ w.cell? ⟨(ad.add (i.toNat * 3)).block, (ad.add (i.toNat * 3)).off + 2, none⟩ = some (.slice A2 (rd_T29 xs i).f2.length c2) ∧ (rd_T29 xs i).f2.length ≤ c2 ∧ k62.C w A2 (rd_T29 xs i).f2.length (rd_T29 xs i).f2 := by
 obtain ⟨ad, c, e, _, hK, hc0⟩ := Kd.C_get h z29 i h0 h1
 have hc : ∀ j u, c[j]? = some u → w.cell? (ad.add (i.toNat * 3 + j)) = some u := hc0
 obtain ⟨A2, c2, rfl, l2, g2⟩ := k29_open hK
 exact ⟨ad, A2, c2, e, hc 0 _ rfl, by rw [← add_field _ _ 1 (by omega)]; exact hc 1 _ rfl, by rw [← add_field _ _ 2 (by omega)]; exact hc 2 _ rfl, l2, g2⟩

end Go.Proofs.Ytlkphaahkhfgoaa.PFnWindows
