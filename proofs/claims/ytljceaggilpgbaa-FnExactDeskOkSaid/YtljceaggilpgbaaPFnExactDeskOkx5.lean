-- Written by a program of this session (wip/xprint.py) out of the translation; Lean checks it.
import Derived.Test.YtljceaggilpgbaaPFnExactDeskOkx0
import Derived.Test.YtljceaggilpgbaaPFnExactDeskOkx1
import Derived.Test.YtljceaggilpgbaaPFnExactDeskOkx2
import Derived.Test.YtljceaggilpgbaaPFnExactDeskOkx3
import Derived.Test.YtljceaggilpgbaaPFnExactDeskOkx4
namespace Go.Proofs.Ytljceaggilpgbaa.PFnExactDeskOk
open Go.RowKit Go.Proofs.YtljceaggilpgbaaW.PrintWords Go.Proofs.YtljceaggilpgbaaW.PrintLast Go.Proofs.YtljceaggilpgbaaW.PrintMore Go.Proofs.Ytljceaggilpgbaa.Sq
attribute [local go_sem] max2_int min2_int max_two min_two max_three min_three max_four min_four   -- for this text's walks alone
set_option linter.unusedVariables false
set_option linter.unusedSimpArgs false

/-! ### laws_toCarryS: function 55 -/
def laws_toCarryS.l0 : Nat → List (S144) → List (S137) → Int → Option ((List (S137)))
 | 0, _, _, _ => none
 | k + 1, x0, x3, x4 => if x4 < (x0.length : Int) then (if 0 ≤ x4 then ((laws_toCarry.f ((rd_T144 x0 x4).f0) ((rd_T144 x0 x4).f1) ((rd_T144 x0 x4).f2)).bind fun bt208 => (if x4 < (x3.length : Int) then (laws_toCarryS.l0 k x0 (x3.set (x4 : Int).toNat (⟨bt208.1, bt208.2.1, bt208.2.2⟩ : S137)) (wrap64 (x4 + 1))) else (none))) else (none)) else (some x3)
def laws_toCarryS.f (k : Nat) (l0 : List (S144)) : Option ((List (S137))) := if 0 ≤ (l0.length : Int) then (if ((l0.length : Int) : Int).toNat ≤ 8796093022208 then (laws_toCarryS.l0 k l0 (List.replicate ((l0.length : Int) : Int).toNat z137) 0) else (none)) else (none)
theorem laws_toCarryS.mono_l : ∀ k, (∀ y0 y1 y2, LeO (laws_toCarryS.l0 k y0 y1 y2) (laws_toCarryS.l0 (k + 1) y0 y1 y2))
 | 0 => fun _ _ _ r h => by simp [laws_toCarryS.l0] at h
 | k + 1 => by
  have ih0 := laws_toCarryS.mono_l k
  ·
   intro y0 y1 y2
   unfold laws_toCarryS.l0
   repeat' first
   | (with_reducible exact ih0 _ _ _)
   | (with_reducible exact LeO.refl _)
   | (with_reducible exact LeO.none _)
   | (with_reducible refine LeO.ite ?_ ?_)
   | (with_reducible refine LeO.bind ?_ (fun _ => ?_))
   | exact ih0 _ _ _
   | exact LeO.none _
   | refine LeO.ite ?_ ?_
   | refine LeO.bind ?_ (fun _ => ?_)
theorem laws_toCarryS.mono : ∀ a0 k, LeO (laws_toCarryS.f k a0) (laws_toCarryS.f (k + 1) a0) := by
 intro a0 k
 have ih0 := laws_toCarryS.mono_l k
 unfold laws_toCarryS.f
 repeat' first
   | (with_reducible exact ih0 _ _ _)
   | (with_reducible exact LeO.refl _)
   | (with_reducible exact LeO.none _)
   | (with_reducible refine LeO.ite ?_ ?_)
   | (with_reducible refine LeO.bind ?_ (fun _ => ?_))
   | exact ih0 _ _ _
   | exact LeO.none _
   | refine LeO.ite ?_ ?_
   | refine LeO.bind ?_ (fun _ => ?_)
set_option maxHeartbeats 8000000 in
set_option maxRecDepth 100000 in
theorem laws_toCarryS.calls (k : Nat) (A0 : Option Addr) (c0 : Nat) (l0 : List (S144)) (r : List (S137)) (w : World) (hr0 : Kd.C k144 w A0 l0.length l0) (hc0 : l0.length ≤ c0) (h : laws_toCarryS.f k l0 = some r) :
  Calls Try.prog 55 #[.slice A0 l0.length c0] w fun e w' => ∃ v0_ : Value, e = .returned (v0_) ∧ Kd.R k137 137 w' w.heap.size (fun _ => True) v0_ r ∧ Below w.heap.size w w' := by
 have hu144 := Try.underlying144
 have hu137 := Try.underlying137
 have HR0 := Aside0.mk hr0
 have HC0 := Aside0.mk hc0
 clear hr0 hc0
 have HB := Aside0.mk (Below.refl w.heap.size w)
 have H : (if 0 ≤ (l0.length : Int) then (if ((l0.length : Int) : Int).toNat ≤ 8796093022208 then (laws_toCarryS.l0 k l0 (List.replicate ((l0.length : Int) : Int).toNat z137) 0) else (none)) else (none)) = some r := h
 clear h
 by_cases c2 : 0 ≤ (l0.length : Int)
 ·
  rw [if_pos c2] at H
  have c2b0 := eq_true c2
  have c2b1 : decide (0 ≤ (l0.length : Int)) = true := decide_eq_true c2
  clear c2
  by_cases c3 : ((l0.length : Int) : Int).toNat ≤ 8796093022208
  ·
   rw [if_pos c3] at H
   have c3b0 := eq_true c3
   have c3b1 : decide (((l0.length : Int) : Int).toNat ≤ 8796093022208) = true := decide_eq_true c3
   clear c3
   obtain ⟨y204, hy204⟩ : ∃ y_ : List (S137), y_ = (List.replicate ((l0.length : Int) : Int).toNat z137) := ⟨_, rfl⟩
   replace H : (laws_toCarryS.l0 k l0 y204 0) = some r := by first | (rw [hy204]; with_reducible exact H) | (have H2_ := (Option.bind_some _ _).symm.trans H; rw [hy204]; with_reducible exact H2_) | (have H2_ := (Option.bind_some _ _).symm.trans H; with_reducible exact H2_) | with_reducible exact H | (rw [hy204]; exact H) | exact H
   have Ny204 := Aside0.mk hy204
   clear hy204
   have H' := Aside0.mk H
   clear H
   go_enter Try.func55, Try.ntmps55
   go_wp2_with (first | ((with_reducible refine gate_dst (N := 7) rfl ?_); refine Kd.R_make k137 _ 137 rfl (N := 7) rfl 42 _ _ rfl (l0.length : Int) rfl rfl Try.underlying42 (.agg #[(.string ⟨#[]⟩), (.int .i64 0), (.int .i64 0)]) 32 info137 rfl (by decide) (by omega) z137 (ok := fun _ => True) (okp := fun _ => True) (k137_mkM _ _ _ z137 ) (fun _ hk => hk) trivial (of_decide_eq_true (by first | (with_reducible assumption) | assumption)) (Nat.le_trans (Nat.mul_le_mul_right _ (of_decide_eq_true (by first | (with_reducible assumption) | assumption) : (l0.length : Int).toNat ≤ 8796093022208)) (by omega)) (Below.refl _ _) (Nat.le_refl _) ?_; intro v205 w4 ho5 hb hg_ hnew_; clear hg_ hnew_; (first | rw [← Ny204.out] at ho5 | (simp only [Int.reduceToNat] at ho5; rw [← Ny204.out] at ho5)); have HO206 := Aside0.mk (Kd.R_lower ho5 (below_size (bl HB.out))); replace HB := Aside0.mk (below_step (bl HB.out) hb); clear hb ho5))
   go_loopg [4] k (fun kq v4 w' => ∃ (x3_1 : List (S137)) (x4_1 : Int), v4 = .int .i64 x4_1 ∧ Aside0 (laws_toCarryS.l0 kq l0 x3_1 x4_1 = some r) ∧ Aside0 (kq ≤ k) ∧ Aside0 (Kd.R k137 137 w' w.heap.size (fun _ => True) v205 x3_1) ∧ Aside0 (Below w.heap.size w w'))
   case atStart => exact ⟨(y204), (0), (by first | rfl | (simp; done) | (simp [*]; done)), H', ⟨Nat.le_refl _⟩, ⟨rl HO206.out⟩, ⟨bl HB.out⟩⟩
   case round =>
    clear H'
    try clear c2
    try clear c2b0
    try clear c2b1
    try clear p2
    try clear c3
    try clear c3b0
    try clear c3b1
    try clear c5
    obtain ⟨x3_1, x4_1, rfl, HA, HK1, HO_3, HB⟩ := hrel
    cases gk with
    | zero => exact absurd HA.out (by simp [laws_toCarryS.l0])
    | succ k1 =>
     have H := HA.out
     clear HA
     simp only [laws_toCarryS.l0] at H
     by_cases c6 : x4_1 < (l0.length : Int)
     ·
      rw [if_pos c6] at H
      have c6b0 : decide (x4_1 < (l0.length : Int)) = true := decide_eq_true c6
      clear c6
      by_cases c7 : 0 ≤ x4_1
      ·
       rw [if_pos c7] at H
       have c7b0 : decide (0 ≤ x4_1) = true := decide_eq_true c7
       clear c7
       replace H := Option.bind_eq_some_iff.mp H
       obtain ⟨⟨t208, t209, t210⟩, A80, H⟩ := H
       replace H : (if x4_1 < (x3_1.length : Int) then (laws_toCarryS.l0 k1 l0 (x3_1.set (x4_1 : Int).toNat (⟨t208, t209, t210⟩ : S137)) (wrap64 (x4_1 + 1))) else (none)) = some r := H
       have A8 := Aside0.mk A80
       clear A80
       by_cases c9 : x4_1 < (x3_1.length : Int)
       ·
        rw [if_pos c9] at H
        have c9b0 : decide (x4_1 < (x3_1.length : Int)) = true := decide_eq_true c9
        clear c9
        obtain ⟨y211, hy211⟩ : ∃ y_ : List (S137), y_ = (x3_1.set (x4_1 : Int).toNat (⟨t208, t209, t210⟩ : S137)) := ⟨_, rfl⟩
        replace H : (laws_toCarryS.l0 k1 l0 y211 (wrap64 (x4_1 + 1))) = some r := by first | (rw [hy211]; with_reducible exact H) | (have H2_ := (Option.bind_some _ _).symm.trans H; rw [hy211]; with_reducible exact H2_) | (have H2_ := (Option.bind_some _ _).symm.trans H; with_reducible exact H2_) | with_reducible exact H | (rw [hy211]; exact H) | exact H
        have Ny211 := Aside0.mk hy211
        clear hy211
        have H' := Aside0.mk H
        clear H
        have p207 : 0 ≤ (x4_1 : Int) := of_decide_eq_true (by first | (with_reducible assumption) | assumption)
        have q207 : x4_1 < (l0.length : Int) := of_decide_eq_true (by first | (with_reducible assumption) | assumption)
        obtain ⟨ad207, e207, hx207_0, hx207_1, hx207_2⟩ := at_T144 HR0.out x4_1 p207 q207
        cases e207
        replace hx207_0 := bc HB.out hx207_0
        replace hx207_1 := bc HB.out hx207_1
        replace hx207_2 := bc HB.out hx207_2
        replace p207 := eq_true p207
        replace q207 := eq_true q207
        go_wp2_with (first | ((with_reducible refine gate_callee (f := 88) rfl ?_); refine goesL_ (some 20) rfl rfl Try.func88 (by kernel_rfl) rfl #[.agg #[.string ((rd_T144 l0 x4_1).f0), .int .i64 ((rd_T144 l0 x4_1).f1), .int .i64 ((rd_T144 l0 x4_1).f2)]] rfl (by (try simp only [am_]); first | done | rfl) ?_; (with_reducible refine (laws_toCarry.calls ((rd_T144 l0 x4_1).f0) ((rd_T144 l0 x4_1).f1) ((rd_T144 l0 x4_1).f2) t208 t209 t210 _ A8.out).mono ?_); rintro e w11 ⟨rfl, hb⟩; refine ⟨_, rfl, ?_⟩; replace HO_3 := Aside0.mk (Kd.R_below (rl HO_3.out) hb); replace HB := Aside0.mk (below_step (bl HB.out) hb); (try clear hb); (try clear hb2); (try clear hk); (try clear hi); have p10 : 0 ≤ (x4_1 : Int) := of_decide_eq_true (by first | (with_reducible assumption) | assumption); have q10 : (x4_1 : Int) < ((x3_1.length : Int) : Int) := of_decide_eq_true (by first | (with_reducible assumption) | assumption); obtain ⟨go10, co10, eo10, gb10, gl10, cl10, HG10⟩ := Kd.R_form HO_3.out (by omega); (first | cases eo10 | (injection eo10 with ea_ en_ ec_; (first | subst ea_ | (injection ea_ with ea_; subst ea_)); subst ec_; clear en_)); have GB10 := Aside0.mk gb10; have GG10 := Aside0.mk HG10; clear gb10 gl10 HG10; obtain ⟨ce10, hcl10, hM10, hcc10, hfr10⟩ := Kd.R_elem HO_3.out z137 (x4_1 : Int) p10 q10; obtain rfl := k137_openM hM10; have hx10_0 : w11.cell? ⟨go10, (x4_1 : Int).toNat * 3, none⟩ = some (.string ((rd_T137 x3_1 x4_1).f0)) := hcc10 0 _ rfl; have hx10_1 : w11.cell? ⟨go10, (x4_1 : Int).toNat * 3 + 1, none⟩ = some (.int .i64 ((rd_T137 x3_1 x4_1).f1)) := hcc10 1 _ rfl; have hx10_2 : w11.cell? ⟨go10, (x4_1 : Int).toNat * 3 + 2, none⟩ = some (.int .i64 ((rd_T137 x3_1 x4_1).f2)) := hcc10 2 _ rfl; have hf10_0 : w11.frozen? ⟨go10, (x4_1 : Int).toNat * 3, none⟩ = false := hfr10 0; have hf10_1 : w11.frozen? ⟨go10, (x4_1 : Int).toNat * 3 + 1, none⟩ = false := hfr10 1; have hf10_2 : w11.frozen? ⟨go10, (x4_1 : Int).toNat * 3 + 2, none⟩ = false := hfr10 2; clear hcl10 hcc10 hfr10; (try clear hM10); replace p10 := eq_true p10; replace q10 := eq_true q10; have HX12 := Aside0.mk (show Kd.R k137 137 w11 w.heap.size (fun _ => True) (.slice (some ⟨go10, 0, none⟩) x3_1.length co10) x3_1 from (rl HO_3.out)); obtain ⟨ce12, hcl12, hM12, hcc12, hfr12⟩ := Kd.R_elem HX12.out z137 (x4_1 : Int) (of_decide_eq_true (by first | (with_reducible assumption) | assumption)) (by have h_ : (x4_1 : Int) < ((x3_1.length : Int) : Int) := of_decide_eq_true (by first | (with_reducible assumption) | assumption); first | exact h_ | (have e_ := (Kd.R_reads' HO_3.out).1; omega) | simpa using h_); obtain rfl := k137_openM hM12; have HP12 := Kd.R_seg HX12.out (x4_1 : Int) (of_decide_eq_true (by first | (with_reducible assumption) | assumption)) (by have h_ : (x4_1 : Int) < ((x3_1.length : Int) : Int) := of_decide_eq_true (by first | (with_reducible assumption) | assumption); first | exact h_ | (have e_ := (Kd.R_reads' HO_3.out).1; omega) | simpa using h_) (seg := [.string t208, .int .i64 t209, .int .i64 t210]) (j := 0) hcl12 hcc12 (show 3 ≤ 3 from by decide) (x' := (⟨t208, t209, t210⟩ : S137)) (k137_mkM _ _ _ (⟨t208, t209, t210⟩ : S137) ) (fun _ hk => hk); have hx12_0 := hcc12 0 _ rfl; (try simp only [show (k137).sz = 3 from rfl, Nat.mul_one, Nat.add_zero] at hx12_0); have hf12_0 := hfr12 0; (try simp only [show (k137).sz = 3 from rfl, Nat.mul_one, Nat.add_zero] at hf12_0); have hx12_1 := hcc12 1 _ rfl; (try simp only [show (k137).sz = 3 from rfl, Nat.mul_one, Nat.add_zero] at hx12_1); have hf12_1 := hfr12 1; (try simp only [show (k137).sz = 3 from rfl, Nat.mul_one, Nat.add_zero] at hf12_1); have hx12_2 := hcc12 2 _ rfl; (try simp only [show (k137).sz = 3 from rfl, Nat.mul_one, Nat.add_zero] at hx12_2); have hf12_2 := hfr12 2; (try simp only [show (k137).sz = 3 from rfl, Nat.mul_one, Nat.add_zero] at hf12_2); clear hcl12 hcc12 hfr12; (try clear hM12)) | ((with_reducible refine gate_store (t := 137) (p := 21) rfl ?_); refine store_event (t := 137) (p := 21) (v := ?vo_w13) (w1 := (((w11.setCell ⟨go10, (x4_1 : Int).toNat * 3, none⟩ (.string t208)).setCell ⟨go10, (x4_1 : Int).toNat * 3 + 1, none⟩ (.int .i64 t209)).setCell ⟨go10, (x4_1 : Int).toNat * 3 + 2, none⟩ (.int .i64 t210))) ?hg ?ho ?hn ?hr ?_; (case ho => rfl); (case hg => rfl); (case hn => rfl); (case hr => first | (go_simp; done) | (go_simp; rfl)); intro w13 hw; have hg : w11.grownBy w13 (some go10) := (by rw [hw]; exact HP12.2); have hp_ : Kd.R k137 137 w13 w.heap.size (fun _ => True) (.slice (some ⟨go10, 0, none⟩) x3_1.length co10) y211 := (by rw [hw, Ny211.out]; exact HP12.1); clear HP12; replace HO_3 := Aside0.mk (hp_); replace HB := Aside0.mk ((by rw [hw]; exact below_set (below_set (below_set (HB.out) GB10.out) GB10.out) GB10.out : Below w.heap.size w w13)); clear hg hw hp_))
        go_roundg k1
        case measure => have := HK1.out; omega
        case rel => exact ⟨(y211), (wrap64 (x4_1 + 1)), (by first | rfl | (simp; done) | (simp [*]; done)), H', ⟨by have := HK1.out; omega⟩, ⟨rl HO_3.out⟩, ⟨bl HB.out⟩⟩
       ·
        rw [if_neg c9] at H
        exact absurd H (by simp)
      ·
       rw [if_neg c7] at H
       exact absurd H (by simp)
     ·
      rw [if_neg c6] at H
      have c6b0 : decide (x4_1 < (l0.length : Int)) = false := decide_eq_false c6
      clear c6
      obtain rfl := Option.some.inj H
      go_wp2
      go_ret
      exact ⟨_, by first | rfl | (simp [errW_none, errW_some] <;> rfl) | (simp [*, errW_none, errW_some] <;> rfl), by (repeat apply rl1); exact HO_3.out, bl HB.out⟩
  ·
   rw [if_neg c3] at H
   exact absurd H (by simp)
 ·
  rw [if_neg c2] at H
  exact absurd H (by simp)

/-! ### laws_toDefect: function 89 -/
def laws_toDefect.f (a0_0 : ByteArray) (a0_1 : Int) (a0_2 : Int) : Option (ByteArray × Int × Int) := some (a0_0, a0_1, a0_2)
set_option maxHeartbeats 8000000 in
set_option maxRecDepth 100000 in
theorem laws_toDefect.calls (a0_0 : ByteArray) (a0_1 : Int) (a0_2 : Int) (r1 : ByteArray) (r2 : Int) (r3 : Int) (w : World) (h : laws_toDefect.f a0_0 a0_1 a0_2 = some (r1, r2, r3)) :
  Calls Try.prog 89 #[.agg #[.string a0_0, .int .i64 a0_1, .int .i64 a0_2]] w fun e w' => e = .returned (.agg #[.string r1, .int .i64 r2, .int .i64 r3]) ∧ Below w.heap.size w w' := by
 have hu146 := Try.underlying146
 have hu63 := Try.underlying63
 have HB := Aside0.mk (Below.refl w.heap.size w)
 have H : (some (a0_0, a0_1, a0_2)) = some (r1, r2, r3) := h
 clear h
 simp only [Option.some.injEq, Prod.mk.injEq] at H
 obtain ⟨rfl, rfl, rfl⟩ := H
 go_enter Try.func89, Try.ntmps89
 go_wp2_with (first | ((with_reducible refine gate_dst (N := 1) rfl ?_); refine box_event ?hg (N := 1) ?hd (cs := #[.string a0_0, .int .i64 a0_1, .int .i64 a0_2]) (t := 146) ?hr ?_; (case hd => rfl); (case hg => rfl); (case hr => first | (go_simp; done) | (go_simp; rfl)); intro gb212 hg w2 hbox hb; have BK212 := Aside0.mk (hbox); have GW212 := Aside0.mk ((by rw [hg]; exact (below_size (bl HB.out)) : w.heap.size ≤ gb212)); have GE212 := GW212; replace HB := Aside0.mk (below_step (bl HB.out) hb); clear hb hbox hg) | ((with_reducible refine gate_dst (N := 2) rfl ?_); refine box_event ?hg (N := 2) ?hd (cs := #[.string (⟨#[]⟩ : ByteArray), .int .i64 0, .int .i64 0]) (t := 63) ?hr ?_; (case hd => rfl); (case hg => rfl); (case hr => first | (go_simp; done) | (go_simp; rfl)); intro gb213 hg w3 hbox hb; have BK213 := Aside0.mk (hbox); have GW213 := Aside0.mk ((by rw [hg]; exact (below_size (by repeat with_reducible first | exact bl HB.out | refine below_set ?_ GE212.out | refine bq ?_)) : w.heap.size ≤ gb213)); have GE213 := GW213; replace HB := Aside0.mk (below_step (by repeat with_reducible first | exact bl HB.out | refine below_set ?_ GE212.out | refine bq ?_) hb); have NB212_213 := nb_ hg BK212.out; have NB213_212 := Aside0.mk NB212_213.out.symm; replace BK212 := Aside0.mk (blk_below (bk BK212.out) hb); clear hb hbox hg) | ((with_reducible refine gate_dst (N := 3) rfl ?_); refine box_event ?hg (N := 3) ?hd (cs := #[.string (⟨#[]⟩ : ByteArray), .int .i64 0, .int .i64 0]) (t := 63) ?hr ?_; (case hd => rfl); (case hg => rfl); (case hr => first | (go_simp; done) | (go_simp; rfl)); intro gb214 hg w4 hbox hb; have BK214 := Aside0.mk (hbox); have GW214 := Aside0.mk ((by rw [hg]; exact (below_size (by repeat with_reducible first | exact bl HB.out | refine below_set ?_ GE212.out | refine below_set ?_ GE213.out | refine bq ?_)) : w.heap.size ≤ gb214)); have GE214 := GW214; replace HB := Aside0.mk (below_step (by repeat with_reducible first | exact bl HB.out | refine below_set ?_ GE212.out | refine below_set ?_ GE213.out | refine bq ?_) hb); have NB212_214 := nb_ hg BK212.out; have NB214_212 := Aside0.mk NB212_214.out.symm; replace BK212 := Aside0.mk (blk_below (bk BK212.out) hb); have NB213_214 := nb_ hg BK213.out; have NB214_213 := Aside0.mk NB213_214.out.symm; replace BK213 := Aside0.mk (blk_below (g := gb213) (o := .cells #[.string (⟨#[]⟩ : ByteArray), .int .i64 0, .int .i64 0] 63 (0, 0)) (bk BK213.out) hb); clear hb hbox hg; have hnb5 := NB212_213.out; have hnc5 := NB213_212.out; have hnb6 := NB212_214.out; have hnc6 := NB214_212.out; obtain ⟨hcz7_0, hcz7_1, hcz7_2⟩ := ck3 BK212.out; obtain ⟨hfz7_0, hfz7_1, hfz7_2⟩ := fz3 BK212.out; have hnb8 := NB214_213.out; have hnc8 := NB213_214.out; obtain ⟨hcz9_0, hcz9_1, hcz9_2⟩ := ck3 BK214.out; obtain ⟨hfz9_0, hfz9_1, hfz9_2⟩ := fz3 BK214.out; obtain ⟨hcz10_0, hcz10_1, hcz10_2⟩ := ck3 BK213.out; obtain ⟨hfz10_0, hfz10_1, hfz10_2⟩ := fz3 BK213.out))
 refine bodyPost_ret (results_cell_row rfl _ _ gb213 63 #[.string a0_0, .int .i64 a0_1, .int .i64 a0_2] (0, 0) _ rfl (by (repeat refine bk1 ?_); refine blk_put (cs := #[.string a0_0, .int .i64 a0_1, .int .i64 0]) ?_ 2 _ rfl; (repeat refine bk1 ?_); refine blk_put (cs := #[.string a0_0, .int .i64 0, .int .i64 0]) ?_ 1 _ rfl; (repeat refine bk1 ?_); refine blk_put (cs := #[.string (⟨#[]⟩ : ByteArray), .int .i64 0, .int .i64 0]) ?_ 0 _ rfl; (repeat refine bk1 ?_); refine blk_far ?_ NB213_214.out _; (repeat refine bk1 ?_); refine blk_far ?_ NB213_214.out _; (repeat refine bk1 ?_); refine blk_far ?_ NB213_214.out _; (repeat refine bk1 ?_); exact BK213.out) Try.underlying63 rfl (by kernel_rfl)) rfl ?_
 exact ⟨by first | rfl | (simp [errW_none, errW_some] <;> rfl) | (simp [*, errW_none, errW_some] <;> rfl), by repeat with_reducible first | exact bl HB.out | refine below_set ?_ GE212.out | refine below_set ?_ GE213.out | refine below_set ?_ GE214.out | refine bq ?_⟩

/-! ### laws_toDefectS: function 56 -/
def laws_toDefectS.l0 : Nat → List (S146) → List (S63) → Int → Option ((List (S63)))
 | 0, _, _, _ => none
 | k + 1, x0, x3, x4 => if x4 < (x0.length : Int) then (if 0 ≤ x4 then ((laws_toDefect.f ((rd_T146 x0 x4).f0) ((rd_T146 x0 x4).f1) ((rd_T146 x0 x4).f2)).bind fun bt219 => (if x4 < (x3.length : Int) then (laws_toDefectS.l0 k x0 (x3.set (x4 : Int).toNat (⟨bt219.1, bt219.2.1, bt219.2.2⟩ : S63)) (wrap64 (x4 + 1))) else (none))) else (none)) else (some x3)
def laws_toDefectS.f (k : Nat) (l0 : List (S146)) : Option ((List (S63))) := if 0 ≤ (l0.length : Int) then (if ((l0.length : Int) : Int).toNat ≤ 8796093022208 then (laws_toDefectS.l0 k l0 (List.replicate ((l0.length : Int) : Int).toNat z63) 0) else (none)) else (none)
theorem laws_toDefectS.mono_l : ∀ k, (∀ y0 y1 y2, LeO (laws_toDefectS.l0 k y0 y1 y2) (laws_toDefectS.l0 (k + 1) y0 y1 y2))
 | 0 => fun _ _ _ r h => by simp [laws_toDefectS.l0] at h
 | k + 1 => by
  have ih0 := laws_toDefectS.mono_l k
  ·
   intro y0 y1 y2
   unfold laws_toDefectS.l0
   repeat' first
   | (with_reducible exact ih0 _ _ _)
   | (with_reducible exact LeO.refl _)
   | (with_reducible exact LeO.none _)
   | (with_reducible refine LeO.ite ?_ ?_)
   | (with_reducible refine LeO.bind ?_ (fun _ => ?_))
   | exact ih0 _ _ _
   | exact LeO.none _
   | refine LeO.ite ?_ ?_
   | refine LeO.bind ?_ (fun _ => ?_)
theorem laws_toDefectS.mono : ∀ a0 k, LeO (laws_toDefectS.f k a0) (laws_toDefectS.f (k + 1) a0) := by
 intro a0 k
 have ih0 := laws_toDefectS.mono_l k
 unfold laws_toDefectS.f
 repeat' first
   | (with_reducible exact ih0 _ _ _)
   | (with_reducible exact LeO.refl _)
   | (with_reducible exact LeO.none _)
   | (with_reducible refine LeO.ite ?_ ?_)
   | (with_reducible refine LeO.bind ?_ (fun _ => ?_))
   | exact ih0 _ _ _
   | exact LeO.none _
   | refine LeO.ite ?_ ?_
   | refine LeO.bind ?_ (fun _ => ?_)
set_option maxHeartbeats 8000000 in
set_option maxRecDepth 100000 in
theorem laws_toDefectS.calls (k : Nat) (A0 : Option Addr) (c0 : Nat) (l0 : List (S146)) (r : List (S63)) (w : World) (hr0 : Kd.C k146 w A0 l0.length l0) (hc0 : l0.length ≤ c0) (h : laws_toDefectS.f k l0 = some r) :
  Calls Try.prog 56 #[.slice A0 l0.length c0] w fun e w' => ∃ v0_ : Value, e = .returned (v0_) ∧ Kd.R k63 63 w' w.heap.size (fun _ => True) v0_ r ∧ Below w.heap.size w w' := by
 have hu146 := Try.underlying146
 have hu63 := Try.underlying63
 have HR0 := Aside0.mk hr0
 have HC0 := Aside0.mk hc0
 clear hr0 hc0
 have HB := Aside0.mk (Below.refl w.heap.size w)
 have H : (if 0 ≤ (l0.length : Int) then (if ((l0.length : Int) : Int).toNat ≤ 8796093022208 then (laws_toDefectS.l0 k l0 (List.replicate ((l0.length : Int) : Int).toNat z63) 0) else (none)) else (none)) = some r := h
 clear h
 by_cases c2 : 0 ≤ (l0.length : Int)
 ·
  rw [if_pos c2] at H
  have c2b0 := eq_true c2
  have c2b1 : decide (0 ≤ (l0.length : Int)) = true := decide_eq_true c2
  clear c2
  by_cases c3 : ((l0.length : Int) : Int).toNat ≤ 8796093022208
  ·
   rw [if_pos c3] at H
   have c3b0 := eq_true c3
   have c3b1 : decide (((l0.length : Int) : Int).toNat ≤ 8796093022208) = true := decide_eq_true c3
   clear c3
   obtain ⟨y215, hy215⟩ : ∃ y_ : List (S63), y_ = (List.replicate ((l0.length : Int) : Int).toNat z63) := ⟨_, rfl⟩
   replace H : (laws_toDefectS.l0 k l0 y215 0) = some r := by first | (rw [hy215]; with_reducible exact H) | (have H2_ := (Option.bind_some _ _).symm.trans H; rw [hy215]; with_reducible exact H2_) | (have H2_ := (Option.bind_some _ _).symm.trans H; with_reducible exact H2_) | with_reducible exact H | (rw [hy215]; exact H) | exact H
   have Ny215 := Aside0.mk hy215
   clear hy215
   have H' := Aside0.mk H
   clear H
   go_enter Try.func56, Try.ntmps56
   go_wp2_with (first | ((with_reducible refine gate_dst (N := 7) rfl ?_); refine Kd.R_make k63 _ 63 rfl (N := 7) rfl 43 _ _ rfl (l0.length : Int) rfl rfl Try.underlying43 (.agg #[(.string ⟨#[]⟩), (.int .i64 0), (.int .i64 0)]) 32 info63 rfl (by decide) (by omega) z63 (ok := fun _ => True) (okp := fun _ => True) (k63_mkM _ _ _ z63 ) (fun _ hk => hk) trivial (of_decide_eq_true (by first | (with_reducible assumption) | assumption)) (Nat.le_trans (Nat.mul_le_mul_right _ (of_decide_eq_true (by first | (with_reducible assumption) | assumption) : (l0.length : Int).toNat ≤ 8796093022208)) (by omega)) (Below.refl _ _) (Nat.le_refl _) ?_; intro v216 w4 ho5 hb hg_ hnew_; clear hg_ hnew_; (first | rw [← Ny215.out] at ho5 | (simp only [Int.reduceToNat] at ho5; rw [← Ny215.out] at ho5)); have HO217 := Aside0.mk (Kd.R_lower ho5 (below_size (bl HB.out))); replace HB := Aside0.mk (below_step (bl HB.out) hb); clear hb ho5))
   go_loopg [4] k (fun kq v4 w' => ∃ (x3_1 : List (S63)) (x4_1 : Int), v4 = .int .i64 x4_1 ∧ Aside0 (laws_toDefectS.l0 kq l0 x3_1 x4_1 = some r) ∧ Aside0 (kq ≤ k) ∧ Aside0 (Kd.R k63 63 w' w.heap.size (fun _ => True) v216 x3_1) ∧ Aside0 (Below w.heap.size w w'))
   case atStart => exact ⟨(y215), (0), (by first | rfl | (simp; done) | (simp [*]; done)), H', ⟨Nat.le_refl _⟩, ⟨rl HO217.out⟩, ⟨bl HB.out⟩⟩
   case round =>
    clear H'
    try clear c2
    try clear c2b0
    try clear c2b1
    try clear p2
    try clear c3
    try clear c3b0
    try clear c3b1
    try clear c5
    obtain ⟨x3_1, x4_1, rfl, HA, HK1, HO_3, HB⟩ := hrel
    cases gk with
    | zero => exact absurd HA.out (by simp [laws_toDefectS.l0])
    | succ k1 =>
     have H := HA.out
     clear HA
     simp only [laws_toDefectS.l0] at H
     by_cases c6 : x4_1 < (l0.length : Int)
     ·
      rw [if_pos c6] at H
      have c6b0 : decide (x4_1 < (l0.length : Int)) = true := decide_eq_true c6
      clear c6
      by_cases c7 : 0 ≤ x4_1
      ·
       rw [if_pos c7] at H
       have c7b0 : decide (0 ≤ x4_1) = true := decide_eq_true c7
       clear c7
       replace H := Option.bind_eq_some_iff.mp H
       obtain ⟨⟨t219, t220, t221⟩, A80, H⟩ := H
       replace H : (if x4_1 < (x3_1.length : Int) then (laws_toDefectS.l0 k1 l0 (x3_1.set (x4_1 : Int).toNat (⟨t219, t220, t221⟩ : S63)) (wrap64 (x4_1 + 1))) else (none)) = some r := H
       have A8 := Aside0.mk A80
       clear A80
       by_cases c9 : x4_1 < (x3_1.length : Int)
       ·
        rw [if_pos c9] at H
        have c9b0 : decide (x4_1 < (x3_1.length : Int)) = true := decide_eq_true c9
        clear c9
        obtain ⟨y222, hy222⟩ : ∃ y_ : List (S63), y_ = (x3_1.set (x4_1 : Int).toNat (⟨t219, t220, t221⟩ : S63)) := ⟨_, rfl⟩
        replace H : (laws_toDefectS.l0 k1 l0 y222 (wrap64 (x4_1 + 1))) = some r := by first | (rw [hy222]; with_reducible exact H) | (have H2_ := (Option.bind_some _ _).symm.trans H; rw [hy222]; with_reducible exact H2_) | (have H2_ := (Option.bind_some _ _).symm.trans H; with_reducible exact H2_) | with_reducible exact H | (rw [hy222]; exact H) | exact H
        have Ny222 := Aside0.mk hy222
        clear hy222
        have H' := Aside0.mk H
        clear H
        have p218 : 0 ≤ (x4_1 : Int) := of_decide_eq_true (by first | (with_reducible assumption) | assumption)
        have q218 : x4_1 < (l0.length : Int) := of_decide_eq_true (by first | (with_reducible assumption) | assumption)
        obtain ⟨ad218, e218, hx218_0, hx218_1, hx218_2⟩ := at_T146 HR0.out x4_1 p218 q218
        cases e218
        replace hx218_0 := bc HB.out hx218_0
        replace hx218_1 := bc HB.out hx218_1
        replace hx218_2 := bc HB.out hx218_2
        replace p218 := eq_true p218
        replace q218 := eq_true q218
        go_wp2_with (first | ((with_reducible refine gate_callee (f := 89) rfl ?_); refine goesL_ (some 20) rfl rfl Try.func89 (by kernel_rfl) rfl #[.agg #[.string ((rd_T146 l0 x4_1).f0), .int .i64 ((rd_T146 l0 x4_1).f1), .int .i64 ((rd_T146 l0 x4_1).f2)]] rfl (by (try simp only [am_]); first | done | rfl) ?_; (with_reducible refine (laws_toDefect.calls ((rd_T146 l0 x4_1).f0) ((rd_T146 l0 x4_1).f1) ((rd_T146 l0 x4_1).f2) t219 t220 t221 _ A8.out).mono ?_); rintro e w11 ⟨rfl, hb⟩; refine ⟨_, rfl, ?_⟩; replace HO_3 := Aside0.mk (Kd.R_below (rl HO_3.out) hb); replace HB := Aside0.mk (below_step (bl HB.out) hb); (try clear hb); (try clear hb2); (try clear hk); (try clear hi); have p10 : 0 ≤ (x4_1 : Int) := of_decide_eq_true (by first | (with_reducible assumption) | assumption); have q10 : (x4_1 : Int) < ((x3_1.length : Int) : Int) := of_decide_eq_true (by first | (with_reducible assumption) | assumption); obtain ⟨go10, co10, eo10, gb10, gl10, cl10, HG10⟩ := Kd.R_form HO_3.out (by omega); (first | cases eo10 | (injection eo10 with ea_ en_ ec_; (first | subst ea_ | (injection ea_ with ea_; subst ea_)); subst ec_; clear en_)); have GB10 := Aside0.mk gb10; have GG10 := Aside0.mk HG10; clear gb10 gl10 HG10; obtain ⟨ce10, hcl10, hM10, hcc10, hfr10⟩ := Kd.R_elem HO_3.out z63 (x4_1 : Int) p10 q10; obtain rfl := k63_openM hM10; have hx10_0 : w11.cell? ⟨go10, (x4_1 : Int).toNat * 3, none⟩ = some (.string ((rd_T63 x3_1 x4_1).f0)) := hcc10 0 _ rfl; have hx10_1 : w11.cell? ⟨go10, (x4_1 : Int).toNat * 3 + 1, none⟩ = some (.int .i64 ((rd_T63 x3_1 x4_1).f1)) := hcc10 1 _ rfl; have hx10_2 : w11.cell? ⟨go10, (x4_1 : Int).toNat * 3 + 2, none⟩ = some (.int .i64 ((rd_T63 x3_1 x4_1).f2)) := hcc10 2 _ rfl; have hf10_0 : w11.frozen? ⟨go10, (x4_1 : Int).toNat * 3, none⟩ = false := hfr10 0; have hf10_1 : w11.frozen? ⟨go10, (x4_1 : Int).toNat * 3 + 1, none⟩ = false := hfr10 1; have hf10_2 : w11.frozen? ⟨go10, (x4_1 : Int).toNat * 3 + 2, none⟩ = false := hfr10 2; clear hcl10 hcc10 hfr10; (try clear hM10); replace p10 := eq_true p10; replace q10 := eq_true q10; have HX12 := Aside0.mk (show Kd.R k63 63 w11 w.heap.size (fun _ => True) (.slice (some ⟨go10, 0, none⟩) x3_1.length co10) x3_1 from (rl HO_3.out)); obtain ⟨ce12, hcl12, hM12, hcc12, hfr12⟩ := Kd.R_elem HX12.out z63 (x4_1 : Int) (of_decide_eq_true (by first | (with_reducible assumption) | assumption)) (by have h_ : (x4_1 : Int) < ((x3_1.length : Int) : Int) := of_decide_eq_true (by first | (with_reducible assumption) | assumption); first | exact h_ | (have e_ := (Kd.R_reads' HO_3.out).1; omega) | simpa using h_); obtain rfl := k63_openM hM12; have HP12 := Kd.R_seg HX12.out (x4_1 : Int) (of_decide_eq_true (by first | (with_reducible assumption) | assumption)) (by have h_ : (x4_1 : Int) < ((x3_1.length : Int) : Int) := of_decide_eq_true (by first | (with_reducible assumption) | assumption); first | exact h_ | (have e_ := (Kd.R_reads' HO_3.out).1; omega) | simpa using h_) (seg := [.string t219, .int .i64 t220, .int .i64 t221]) (j := 0) hcl12 hcc12 (show 3 ≤ 3 from by decide) (x' := (⟨t219, t220, t221⟩ : S63)) (k63_mkM _ _ _ (⟨t219, t220, t221⟩ : S63) ) (fun _ hk => hk); have hx12_0 := hcc12 0 _ rfl; (try simp only [show (k63).sz = 3 from rfl, Nat.mul_one, Nat.add_zero] at hx12_0); have hf12_0 := hfr12 0; (try simp only [show (k63).sz = 3 from rfl, Nat.mul_one, Nat.add_zero] at hf12_0); have hx12_1 := hcc12 1 _ rfl; (try simp only [show (k63).sz = 3 from rfl, Nat.mul_one, Nat.add_zero] at hx12_1); have hf12_1 := hfr12 1; (try simp only [show (k63).sz = 3 from rfl, Nat.mul_one, Nat.add_zero] at hf12_1); have hx12_2 := hcc12 2 _ rfl; (try simp only [show (k63).sz = 3 from rfl, Nat.mul_one, Nat.add_zero] at hx12_2); have hf12_2 := hfr12 2; (try simp only [show (k63).sz = 3 from rfl, Nat.mul_one, Nat.add_zero] at hf12_2); clear hcl12 hcc12 hfr12; (try clear hM12)) | ((with_reducible refine gate_store (t := 63) (p := 21) rfl ?_); refine store_event (t := 63) (p := 21) (v := ?vo_w13) (w1 := (((w11.setCell ⟨go10, (x4_1 : Int).toNat * 3, none⟩ (.string t219)).setCell ⟨go10, (x4_1 : Int).toNat * 3 + 1, none⟩ (.int .i64 t220)).setCell ⟨go10, (x4_1 : Int).toNat * 3 + 2, none⟩ (.int .i64 t221))) ?hg ?ho ?hn ?hr ?_; (case ho => rfl); (case hg => rfl); (case hn => rfl); (case hr => first | (go_simp; done) | (go_simp; rfl)); intro w13 hw; have hg : w11.grownBy w13 (some go10) := (by rw [hw]; exact HP12.2); have hp_ : Kd.R k63 63 w13 w.heap.size (fun _ => True) (.slice (some ⟨go10, 0, none⟩) x3_1.length co10) y222 := (by rw [hw, Ny222.out]; exact HP12.1); clear HP12; replace HO_3 := Aside0.mk (hp_); replace HB := Aside0.mk ((by rw [hw]; exact below_set (below_set (below_set (HB.out) GB10.out) GB10.out) GB10.out : Below w.heap.size w w13)); clear hg hw hp_))
        go_roundg k1
        case measure => have := HK1.out; omega
        case rel => exact ⟨(y222), (wrap64 (x4_1 + 1)), (by first | rfl | (simp; done) | (simp [*]; done)), H', ⟨by have := HK1.out; omega⟩, ⟨rl HO_3.out⟩, ⟨bl HB.out⟩⟩
       ·
        rw [if_neg c9] at H
        exact absurd H (by simp)
      ·
       rw [if_neg c7] at H
       exact absurd H (by simp)
     ·
      rw [if_neg c6] at H
      have c6b0 : decide (x4_1 < (l0.length : Int)) = false := decide_eq_false c6
      clear c6
      obtain rfl := Option.some.inj H
      go_wp2
      go_ret
      exact ⟨_, by first | rfl | (simp [errW_none, errW_some] <;> rfl) | (simp [*, errW_none, errW_some] <;> rfl), by (repeat apply rl1); exact HO_3.out, bl HB.out⟩
  ·
   rw [if_neg c3] at H
   exact absurd H (by simp)
 ·
  rw [if_neg c2] at H
  exact absurd H (by simp)

/-! ### laws_toFleet: function 24 -/
def laws_toFleet.f (k : Nat) (l0_0 : List (S142)) (l0_1 : List (S144)) (l0_2 : List (S146)) (a0_3 : Int) (a0_4 : Int) (a0_5 : Int) : Option ((List (S104)) × (List (S137)) × (List (S63)) × Int × Int × Int) := (laws_toTaskS.f k l0_0).bind fun t226 => ((laws_toCarryS.f k l0_1).bind fun t229 => ((laws_toDefectS.f k l0_2).bind fun t232 => ((laws_toClock.f a0_3 a0_4 a0_5).bind fun bt235 => (some (t226, t229, t232, bt235.1, bt235.2.1, bt235.2.2)))))
theorem laws_toFleet.mono : ∀ a0 a1 a2 a3 a4 a5 k, LeO (laws_toFleet.f k a0 a1 a2 a3 a4 a5) (laws_toFleet.f (k + 1) a0 a1 a2 a3 a4 a5) := by
 intro a0 a1 a2 a3 a4 a5 k
 unfold laws_toFleet.f
 repeat' first
   | (with_reducible exact laws_toCarryS.mono _ _)
   | (with_reducible exact laws_toDefectS.mono _ _)
   | (with_reducible exact laws_toTaskS.mono _ _)
   | (with_reducible exact LeO.refl _)
   | (with_reducible exact LeO.none _)
   | (with_reducible refine LeO.ite ?_ ?_)
   | (with_reducible refine LeO.bind ?_ (fun _ => ?_))
   | exact laws_toCarryS.mono _ _
   | exact laws_toDefectS.mono _ _
   | exact laws_toTaskS.mono _ _
   | exact LeO.none _
   | refine LeO.ite ?_ ?_
   | refine LeO.bind ?_ (fun _ => ?_)
set_option maxHeartbeats 8000000 in
set_option maxRecDepth 100000 in
theorem laws_toFleet.calls (k : Nat) (A0_0 : Option Addr) (c0_0 : Nat) (l0_0 : List (S142)) (A0_1 : Option Addr) (c0_1 : Nat) (l0_1 : List (S144)) (A0_2 : Option Addr) (c0_2 : Nat) (l0_2 : List (S146)) (a0_3 : Int) (a0_4 : Int) (a0_5 : Int) (r1 : List (S104)) (r2 : List (S137)) (r3 : List (S63)) (r4 : Int) (r5 : Int) (r6 : Int) (w : World) (hr0_0 : Kd.C k142 w A0_0 l0_0.length l0_0) (hc0_0 : l0_0.length ≤ c0_0) (hr0_1 : Kd.C k144 w A0_1 l0_1.length l0_1) (hc0_1 : l0_1.length ≤ c0_1) (hr0_2 : Kd.C k146 w A0_2 l0_2.length l0_2) (hc0_2 : l0_2.length ≤ c0_2) (h : laws_toFleet.f k l0_0 l0_1 l0_2 a0_3 a0_4 a0_5 = some (r1, r2, r3, r4, r5, r6)) :
  Calls Try.prog 24 #[.agg #[.slice A0_0 l0_0.length c0_0, .slice A0_1 l0_1.length c0_1, .slice A0_2 l0_2.length c0_2, .int .i64 a0_3, .int .i64 a0_4, .int .i64 a0_5]] w fun e w' => ∃ v0_ v1_ v2_ : Value, e = .returned (.agg #[v0_, v1_, v2_, .int .i64 r4, .int .i64 r5, .int .i64 r6]) ∧ Kd.R k104 104 w' w.heap.size (fun _ => True) v0_ r1 ∧ Kd.R k137 137 w' w.heap.size (fun _ => True) v1_ r2 ∧ Kd.R k63 63 w' w.heap.size (fun _ => True) v2_ r3 ∧ Below w.heap.size w w' := by
 have hu33 := Try.underlying33
 have hu46 := Try.underlying46
 have hu31 := Try.underlying31
 have hu44 := Try.underlying44
 have HR0_0 := Aside0.mk hr0_0
 have HC0_0 := Aside0.mk hc0_0
 clear hr0_0 hc0_0
 have HR0_1 := Aside0.mk hr0_1
 have HC0_1 := Aside0.mk hc0_1
 clear hr0_1 hc0_1
 have HR0_2 := Aside0.mk hr0_2
 have HC0_2 := Aside0.mk hc0_2
 clear hr0_2 hc0_2
 have HB := Aside0.mk (Below.refl w.heap.size w)
 have H : ((laws_toTaskS.f k l0_0).bind fun t226 => ((laws_toCarryS.f k l0_1).bind fun t229 => ((laws_toDefectS.f k l0_2).bind fun t232 => ((laws_toClock.f a0_3 a0_4 a0_5).bind fun bt235 => (some (t226, t229, t232, bt235.1, bt235.2.1, bt235.2.2)))))) = some (r1, r2, r3, r4, r5, r6) := h
 clear h
 replace H := Option.bind_eq_some_iff.mp H
 obtain ⟨t226, A20, H⟩ := H
 replace H : ((laws_toCarryS.f k l0_1).bind fun t229 => ((laws_toDefectS.f k l0_2).bind fun t232 => ((laws_toClock.f a0_3 a0_4 a0_5).bind fun bt235 => (some (t226, t229, t232, bt235.1, bt235.2.1, bt235.2.2))))) = some (r1, r2, r3, r4, r5, r6) := H
 have A2 := Aside0.mk A20
 clear A20
 replace H := Option.bind_eq_some_iff.mp H
 obtain ⟨t229, A30, H⟩ := H
 replace H : ((laws_toDefectS.f k l0_2).bind fun t232 => ((laws_toClock.f a0_3 a0_4 a0_5).bind fun bt235 => (some (t226, t229, t232, bt235.1, bt235.2.1, bt235.2.2)))) = some (r1, r2, r3, r4, r5, r6) := H
 have A3 := Aside0.mk A30
 clear A30
 replace H := Option.bind_eq_some_iff.mp H
 obtain ⟨t232, A40, H⟩ := H
 replace H : ((laws_toClock.f a0_3 a0_4 a0_5).bind fun bt235 => (some (t226, t229, t232, bt235.1, bt235.2.1, bt235.2.2))) = some (r1, r2, r3, r4, r5, r6) := H
 have A4 := Aside0.mk A40
 clear A40
 replace H := Option.bind_eq_some_iff.mp H
 obtain ⟨⟨t235, t236, t237⟩, A50, H⟩ := H
 replace H : (some (t226, t229, t232, t235, t236, t237)) = some (r1, r2, r3, r4, r5, r6) := H
 have A5 := Aside0.mk A50
 clear A50
 simp only [Option.some.injEq, Prod.mk.injEq] at H
 obtain ⟨rfl, rfl, rfl, rfl, rfl, rfl⟩ := H
 go_enter Try.func24, Try.ntmps24
 go_wp2_with (first | ((with_reducible refine gate_dst (N := 1) rfl ?_); refine box_event ?hg (N := 1) ?hd (cs := #[.slice A0_0 l0_0.length c0_0, .slice A0_1 l0_1.length c0_1, .slice A0_2 l0_2.length c0_2, .int .i64 a0_3, .int .i64 a0_4, .int .i64 a0_5]) (t := 33) ?hr ?_; (case hd => rfl); (case hg => rfl); (case hr => first | (go_simp; done) | (go_simp; rfl)); intro gb223 hg w6 hbox hb; have BK223 := Aside0.mk (hbox); have GW223 := Aside0.mk ((by rw [hg]; exact (below_size (bl HB.out)) : w.heap.size ≤ gb223)); have GE223 := GW223; replace HB := Aside0.mk (below_step (bl HB.out) hb); clear hb hbox hg) | ((with_reducible refine gate_dst (N := 2) rfl ?_); refine box_event ?hg (N := 2) ?hd (cs := #[.slice none 0 0, .slice none 0 0, .slice none 0 0, .int .i64 0, .int .i64 0, .int .i64 0]) (t := 46) ?hr ?_; (case hd => rfl); (case hg => rfl); (case hr => first | (go_simp; done) | (go_simp; rfl)); intro gb224 hg w7 hbox hb; have BK224 := Aside0.mk (hbox); have GW224 := Aside0.mk ((by rw [hg]; exact (below_size (by repeat with_reducible first | exact bl HB.out | refine below_set ?_ GE223.out | refine bq ?_)) : w.heap.size ≤ gb224)); have GE224 := GW224; replace HB := Aside0.mk (below_step (by repeat with_reducible first | exact bl HB.out | refine below_set ?_ GE223.out | refine bq ?_) hb); have NB223_224 := nb_ hg BK223.out; have NB224_223 := Aside0.mk NB223_224.out.symm; replace BK223 := Aside0.mk (blk_below (bk BK223.out) hb); clear hb hbox hg) | ((with_reducible refine gate_dst (N := 3) rfl ?_); refine box_event ?hg (N := 3) ?hd (cs := #[.slice none 0 0, .slice none 0 0, .slice none 0 0, .int .i64 0, .int .i64 0, .int .i64 0]) (t := 46) ?hr ?_; (case hd => rfl); (case hg => rfl); (case hr => first | (go_simp; done) | (go_simp; rfl)); intro gb225 hg w8 hbox hb; have BK225 := Aside0.mk (hbox); have GW225 := Aside0.mk ((by rw [hg]; exact (below_size (by repeat with_reducible first | exact bl HB.out | refine below_set ?_ GE223.out | refine below_set ?_ GE224.out | refine bq ?_)) : w.heap.size ≤ gb225)); have GE225 := GW225; replace HB := Aside0.mk (below_step (by repeat with_reducible first | exact bl HB.out | refine below_set ?_ GE223.out | refine below_set ?_ GE224.out | refine bq ?_) hb); have NB223_225 := nb_ hg BK223.out; have NB225_223 := Aside0.mk NB223_225.out.symm; replace BK223 := Aside0.mk (blk_below (bk BK223.out) hb); have NB224_225 := nb_ hg BK224.out; have NB225_224 := Aside0.mk NB224_225.out.symm; replace BK224 := Aside0.mk (blk_below (bk BK224.out) hb); clear hb hbox hg; have hnb9 := NB223_224.out; have hnc9 := NB224_223.out; have hnb10 := NB223_225.out; have hnc10 := NB225_223.out; obtain ⟨hcz11_0, hcz11_1, hcz11_2, hcz11_3, hcz11_4, hcz11_5⟩ := ck6 BK223.out; obtain ⟨hfz11_0, hfz11_1, hfz11_2, hfz11_3, hfz11_4, hfz11_5⟩ := fz6 BK223.out) | ((with_reducible refine gate_callee (f := 54) rfl ?_); refine goesL_ (some 6) rfl rfl Try.func54 (by kernel_rfl) rfl #[.slice A0_0 l0_0.length c0_0] rfl (by (try simp only [am_]); first | done | rfl) ?_; (with_reducible refine (laws_toTaskS.calls k _ _ l0_0 t226 _ ?side1 ?side2 A2.out).mono ?_); (case side1 => exact rc (Kd.C_below HR0_0.out HB.out)); (case side2 => exact HC0_0.out); rintro e w12 ⟨v227, rfl, ho0, hb⟩; refine ⟨_, rfl, ?_⟩; have HO228 := Aside0.mk (Kd.R_lower ho0 (below_size (by repeat with_reducible first | exact bl HB.out | refine below_set ?_ GE223.out | refine below_set ?_ GE224.out | refine below_set ?_ GE225.out | refine bq ?_))); replace BK223 := Aside0.mk (blk_below (bk BK223.out) hb); replace BK224 := Aside0.mk (blk_below (bk BK224.out) hb); replace BK225 := Aside0.mk (blk_below (bk BK225.out) hb); replace HB := Aside0.mk (below_step (by repeat with_reducible first | exact bl HB.out | refine below_set ?_ GE223.out | refine below_set ?_ GE224.out | refine below_set ?_ GE225.out | refine bq ?_) hb); (try clear hb); (try clear hb2); (try clear hk); (try clear hi); (try clear ho0); obtain ⟨Ao13, co13, eo13⟩ := Kd.R_slice HO228.out; subst eo13; have hnb14 := NB225_224.out; have hnc14 := NB224_225.out; obtain ⟨hcz15_0, hcz15_1, hcz15_2, hcz15_3, hcz15_4, hcz15_5⟩ := ck6 BK225.out; obtain ⟨hfz15_0, hfz15_1, hfz15_2, hfz15_3, hfz15_4, hfz15_5⟩ := fz6 BK225.out; obtain ⟨hcz16_0, hcz16_1, hcz16_2, hcz16_3, hcz16_4, hcz16_5⟩ := ck6 BK223.out; obtain ⟨hfz16_0, hfz16_1, hfz16_2, hfz16_3, hfz16_4, hfz16_5⟩ := fz6 BK223.out) | ((with_reducible refine gate_callee (f := 55) rfl ?_); refine goesL_ (some 10) rfl rfl Try.func55 (by kernel_rfl) rfl #[.slice A0_1 l0_1.length c0_1] rfl (by (try simp only [am_]); first | done | rfl) ?_; (with_reducible refine (laws_toCarryS.calls k _ _ l0_1 t229 _ ?side1 ?side2 A3.out).mono ?_); (case side1 => exact Kd.C_below HR0_1.out (by repeat with_reducible first | exact bl HB.out | refine below_set ?_ GE223.out | refine below_set ?_ GE224.out | refine below_set ?_ GE225.out | refine bq ?_)); (case side2 => exact HC0_1.out); rintro e w17 ⟨v230, rfl, ho0, hb⟩; refine ⟨_, rfl, ?_⟩; replace HO228 := Aside0.mk (Kd.R_below (by (repeat apply rl1); exact (Kd.R_mono (Kd.R_far (p := ⟨gb225, 0, none⟩) (Kd.R_types HO228.out BK225.out (by decide)) (fun _ hk => hk.2) (.slice Ao13 t226.length co13)) (fun _ h_ => h_.1))) hb); have HO231 := Aside0.mk (Kd.R_lower ho0 (below_size (by repeat with_reducible first | exact bl HB.out | refine below_set ?_ GE223.out | refine below_set ?_ GE224.out | refine below_set ?_ GE225.out | refine bq ?_))); replace BK223 := Aside0.mk (blk_below (g := gb223) (o := .cells #[.slice A0_0 l0_0.length c0_0, .slice A0_1 l0_1.length c0_1, .slice A0_2 l0_2.length c0_2, .int .i64 a0_3, .int .i64 a0_4, .int .i64 a0_5] 33 (0, 0)) (by (repeat refine bk1 ?_); refine blk_far ?_ NB223_225.out _; (repeat refine bk1 ?_); exact BK223.out) hb); replace BK224 := Aside0.mk (blk_below (g := gb224) (o := .cells #[.slice none 0 0, .slice none 0 0, .slice none 0 0, .int .i64 0, .int .i64 0, .int .i64 0] 46 (0, 0)) (by (repeat refine bk1 ?_); refine blk_far ?_ NB224_225.out _; (repeat refine bk1 ?_); exact BK224.out) hb); replace BK225 := Aside0.mk (blk_below (g := gb225) (o := .cells #[.slice Ao13 t226.length co13, .slice none 0 0, .slice none 0 0, .int .i64 0, .int .i64 0, .int .i64 0] 46 (0, 0)) (by (repeat refine bk1 ?_); refine blk_put (cs := #[.slice none 0 0, .slice none 0 0, .slice none 0 0, .int .i64 0, .int .i64 0, .int .i64 0]) ?_ 0 _ rfl; (repeat refine bk1 ?_); exact BK225.out) hb); replace HB := Aside0.mk (below_step (by repeat with_reducible first | exact bl HB.out | refine below_set ?_ GE223.out | refine below_set ?_ GE224.out | refine below_set ?_ GE225.out | refine bq ?_) hb); (try clear hb); (try clear hb2); (try clear hk); (try clear hi); (try clear ho0); obtain ⟨Ao18, co18, eo18⟩ := Kd.R_slice HO231.out; subst eo18; obtain ⟨hcz19_0, hcz19_1, hcz19_2, hcz19_3, hcz19_4, hcz19_5⟩ := ck6 BK225.out; obtain ⟨hfz19_0, hfz19_1, hfz19_2, hfz19_3, hfz19_4, hfz19_5⟩ := fz6 BK225.out; obtain ⟨hcz20_0, hcz20_1, hcz20_2, hcz20_3, hcz20_4, hcz20_5⟩ := ck6 BK223.out; obtain ⟨hfz20_0, hfz20_1, hfz20_2, hfz20_3, hfz20_4, hfz20_5⟩ := fz6 BK223.out) | ((with_reducible refine gate_callee (f := 56) rfl ?_); refine goesL_ (some 14) rfl rfl Try.func56 (by kernel_rfl) rfl #[.slice A0_2 l0_2.length c0_2] rfl (by (try simp only [am_]); first | done | rfl) ?_; (with_reducible refine (laws_toDefectS.calls k _ _ l0_2 t232 _ ?side1 ?side2 A4.out).mono ?_); (case side1 => exact Kd.C_below HR0_2.out (by repeat with_reducible first | exact bl HB.out | refine below_set ?_ GE223.out | refine below_set ?_ GE224.out | refine below_set ?_ GE225.out | refine bq ?_)); (case side2 => exact HC0_2.out); rintro e w21 ⟨v233, rfl, ho0, hb⟩; refine ⟨_, rfl, ?_⟩; replace HO228 := Aside0.mk (Kd.R_below (by (repeat apply rl1); exact (Kd.R_mono (Kd.R_far (p := ⟨gb225, 1, none⟩) (Kd.R_types HO228.out BK225.out (by decide)) (fun _ hk => hk.2) (.slice Ao18 t229.length co18)) (fun _ h_ => h_.1))) hb); replace HO231 := Aside0.mk (Kd.R_below (by (repeat apply rl1); exact (Kd.R_mono (Kd.R_far (p := ⟨gb225, 1, none⟩) (Kd.R_types HO231.out BK225.out (by decide)) (fun _ hk => hk.2) (.slice Ao18 t229.length co18)) (fun _ h_ => h_.1))) hb); have HO234 := Aside0.mk (Kd.R_lower ho0 (below_size (by repeat with_reducible first | exact bl HB.out | refine below_set ?_ GE223.out | refine below_set ?_ GE224.out | refine below_set ?_ GE225.out | refine bq ?_))); replace BK223 := Aside0.mk (blk_below (g := gb223) (o := .cells #[.slice A0_0 l0_0.length c0_0, .slice A0_1 l0_1.length c0_1, .slice A0_2 l0_2.length c0_2, .int .i64 a0_3, .int .i64 a0_4, .int .i64 a0_5] 33 (0, 0)) (by (repeat refine bk1 ?_); refine blk_far ?_ NB223_225.out _; (repeat refine bk1 ?_); exact BK223.out) hb); replace BK224 := Aside0.mk (blk_below (g := gb224) (o := .cells #[.slice none 0 0, .slice none 0 0, .slice none 0 0, .int .i64 0, .int .i64 0, .int .i64 0] 46 (0, 0)) (by (repeat refine bk1 ?_); refine blk_far ?_ NB224_225.out _; (repeat refine bk1 ?_); exact BK224.out) hb); replace BK225 := Aside0.mk (blk_below (g := gb225) (o := .cells #[.slice Ao13 t226.length co13, .slice Ao18 t229.length co18, .slice none 0 0, .int .i64 0, .int .i64 0, .int .i64 0] 46 (0, 0)) (by (repeat refine bk1 ?_); refine blk_put (cs := #[.slice Ao13 t226.length co13, .slice none 0 0, .slice none 0 0, .int .i64 0, .int .i64 0, .int .i64 0]) ?_ 1 _ rfl; (repeat refine bk1 ?_); exact BK225.out) hb); replace HB := Aside0.mk (below_step (by repeat with_reducible first | exact bl HB.out | refine below_set ?_ GE223.out | refine below_set ?_ GE224.out | refine below_set ?_ GE225.out | refine bq ?_) hb); (try clear hb); (try clear hb2); (try clear hk); (try clear hi); (try clear ho0); obtain ⟨Ao22, co22, eo22⟩ := Kd.R_slice HO234.out; subst eo22; obtain ⟨hcz23_0, hcz23_1, hcz23_2, hcz23_3, hcz23_4, hcz23_5⟩ := ck6 BK225.out; obtain ⟨hfz23_0, hfz23_1, hfz23_2, hfz23_3, hfz23_4, hfz23_5⟩ := fz6 BK225.out; obtain ⟨hcz24_0, hcz24_1, hcz24_2, hcz24_3, hcz24_4, hcz24_5⟩ := ck6 BK223.out; obtain ⟨hfz24_0, hfz24_1, hfz24_2, hfz24_3, hfz24_4, hfz24_5⟩ := fz6 BK223.out) | ((with_reducible refine gate_callee (f := 57) rfl ?_); refine goesL_ (some 18) rfl rfl Try.func57 (by kernel_rfl) rfl #[.agg #[.int .i64 a0_3, .int .i64 a0_4, .int .i64 a0_5]] rfl (by (try simp only [am_]); first | done | rfl) ?_; (with_reducible refine (laws_toClock.calls a0_3 a0_4 a0_5 t235 t236 t237 _ A5.out).mono ?_); rintro e w25 ⟨rfl, hb⟩; refine ⟨_, rfl, ?_⟩; replace HO228 := Aside0.mk (Kd.R_below (by (repeat apply rl1); exact (Kd.R_mono (Kd.R_far (p := ⟨gb225, 2, none⟩) (Kd.R_types HO228.out BK225.out (by decide)) (fun _ hk => hk.2) (.slice Ao22 t232.length co22)) (fun _ h_ => h_.1))) hb); replace HO231 := Aside0.mk (Kd.R_below (by (repeat apply rl1); exact (Kd.R_mono (Kd.R_far (p := ⟨gb225, 2, none⟩) (Kd.R_types HO231.out BK225.out (by decide)) (fun _ hk => hk.2) (.slice Ao22 t232.length co22)) (fun _ h_ => h_.1))) hb); replace HO234 := Aside0.mk (Kd.R_below (by (repeat apply rl1); exact (Kd.R_mono (Kd.R_far (p := ⟨gb225, 2, none⟩) (Kd.R_types HO234.out BK225.out (by decide)) (fun _ hk => hk.2) (.slice Ao22 t232.length co22)) (fun _ h_ => h_.1))) hb); replace BK223 := Aside0.mk (blk_below (g := gb223) (o := .cells #[.slice A0_0 l0_0.length c0_0, .slice A0_1 l0_1.length c0_1, .slice A0_2 l0_2.length c0_2, .int .i64 a0_3, .int .i64 a0_4, .int .i64 a0_5] 33 (0, 0)) (by (repeat refine bk1 ?_); refine blk_far ?_ NB223_225.out _; (repeat refine bk1 ?_); exact BK223.out) hb); replace BK224 := Aside0.mk (blk_below (g := gb224) (o := .cells #[.slice none 0 0, .slice none 0 0, .slice none 0 0, .int .i64 0, .int .i64 0, .int .i64 0] 46 (0, 0)) (by (repeat refine bk1 ?_); refine blk_far ?_ NB224_225.out _; (repeat refine bk1 ?_); exact BK224.out) hb); replace BK225 := Aside0.mk (blk_below (g := gb225) (o := .cells #[.slice Ao13 t226.length co13, .slice Ao18 t229.length co18, .slice Ao22 t232.length co22, .int .i64 0, .int .i64 0, .int .i64 0] 46 (0, 0)) (by (repeat refine bk1 ?_); refine blk_put (cs := #[.slice Ao13 t226.length co13, .slice Ao18 t229.length co18, .slice none 0 0, .int .i64 0, .int .i64 0, .int .i64 0]) ?_ 2 _ rfl; (repeat refine bk1 ?_); exact BK225.out) hb); replace HB := Aside0.mk (below_step (by repeat with_reducible first | exact bl HB.out | refine below_set ?_ GE223.out | refine below_set ?_ GE224.out | refine below_set ?_ GE225.out | refine bq ?_) hb); (try clear hb); (try clear hb2); (try clear hk); (try clear hi); obtain ⟨hcz26_0, hcz26_1, hcz26_2, hcz26_3, hcz26_4, hcz26_5⟩ := ck6 BK225.out; obtain ⟨hfz26_0, hfz26_1, hfz26_2, hfz26_3, hfz26_4, hfz26_5⟩ := fz6 BK225.out; obtain ⟨hcz27_0, hcz27_1, hcz27_2, hcz27_3, hcz27_4, hcz27_5⟩ := ck6 BK224.out; obtain ⟨hfz27_0, hfz27_1, hfz27_2, hfz27_3, hfz27_4, hfz27_5⟩ := fz6 BK224.out))
 refine bodyPost_ret (results_cell_row rfl _ _ gb224 46 #[.slice Ao13 t226.length co13, .slice Ao18 t229.length co18, .slice Ao22 t232.length co22, .int .i64 t235, .int .i64 t236, .int .i64 t237] (0, 0) _ rfl (by (repeat refine bk1 ?_); refine blk_put (cs := #[.slice Ao13 t226.length co13, .slice Ao18 t229.length co18, .slice Ao22 t232.length co22, .int .i64 t235, .int .i64 t236, .int .i64 0]) ?_ 5 _ rfl; (repeat refine bk1 ?_); refine blk_put (cs := #[.slice Ao13 t226.length co13, .slice Ao18 t229.length co18, .slice Ao22 t232.length co22, .int .i64 t235, .int .i64 0, .int .i64 0]) ?_ 4 _ rfl; (repeat refine bk1 ?_); refine blk_put (cs := #[.slice Ao13 t226.length co13, .slice Ao18 t229.length co18, .slice Ao22 t232.length co22, .int .i64 0, .int .i64 0, .int .i64 0]) ?_ 3 _ rfl; (repeat refine bk1 ?_); refine blk_put (cs := #[.slice Ao13 t226.length co13, .slice Ao18 t229.length co18, .slice none 0 0, .int .i64 0, .int .i64 0, .int .i64 0]) ?_ 2 _ rfl; (repeat refine bk1 ?_); refine blk_put (cs := #[.slice Ao13 t226.length co13, .slice none 0 0, .slice none 0 0, .int .i64 0, .int .i64 0, .int .i64 0]) ?_ 1 _ rfl; (repeat refine bk1 ?_); refine blk_put (cs := #[.slice none 0 0, .slice none 0 0, .slice none 0 0, .int .i64 0, .int .i64 0, .int .i64 0]) ?_ 0 _ rfl; (repeat refine bk1 ?_); refine blk_far ?_ NB224_225.out _; (repeat refine bk1 ?_); refine blk_far ?_ NB224_225.out _; (repeat refine bk1 ?_); refine blk_far ?_ NB224_225.out _; (repeat refine bk1 ?_); exact BK224.out) Try.underlying46 rfl (by kernel_rfl)) rfl ?_
 exact ⟨_, _, _, by first | rfl | (simp [errW_none, errW_some] <;> rfl) | (simp [*, errW_none, errW_some] <;> rfl), by (repeat apply rl1); exact Kd.R_mono (Kd.R_far (p := ⟨gb224, 5, none⟩) (Kd.R_far (p := ⟨gb224, 4, none⟩) (Kd.R_far (p := ⟨gb224, 3, none⟩) (Kd.R_far (p := ⟨gb224, 2, none⟩) (Kd.R_far (p := ⟨gb224, 1, none⟩) (Kd.R_far (p := ⟨gb224, 0, none⟩) (Kd.R_far (p := ⟨gb225, 5, none⟩) (Kd.R_far (p := ⟨gb225, 4, none⟩) (Kd.R_far (p := ⟨gb225, 3, none⟩) (Kd.R_types (Kd.R_types HO228.out BK225.out (by decide)) BK224.out (by decide)) (fun _ hk => hk.1.2) (.int .i64 t235)) (fun _ hk => hk.1.2) (.int .i64 t236)) (fun _ hk => hk.1.2) (.int .i64 t237)) (fun _ hk => hk.2) (.slice Ao13 t226.length co13)) (fun _ hk => hk.2) (.slice Ao18 t229.length co18)) (fun _ hk => hk.2) (.slice Ao22 t232.length co22)) (fun _ hk => hk.2) (.int .i64 t235)) (fun _ hk => hk.2) (.int .i64 t236)) (fun _ hk => hk.2) (.int .i64 t237)) (fun _ hk => trivial), by (repeat apply rl1); exact Kd.R_mono (Kd.R_far (p := ⟨gb224, 5, none⟩) (Kd.R_far (p := ⟨gb224, 4, none⟩) (Kd.R_far (p := ⟨gb224, 3, none⟩) (Kd.R_far (p := ⟨gb224, 2, none⟩) (Kd.R_far (p := ⟨gb224, 1, none⟩) (Kd.R_far (p := ⟨gb224, 0, none⟩) (Kd.R_far (p := ⟨gb225, 5, none⟩) (Kd.R_far (p := ⟨gb225, 4, none⟩) (Kd.R_far (p := ⟨gb225, 3, none⟩) (Kd.R_types (Kd.R_types HO231.out BK225.out (by decide)) BK224.out (by decide)) (fun _ hk => hk.1.2) (.int .i64 t235)) (fun _ hk => hk.1.2) (.int .i64 t236)) (fun _ hk => hk.1.2) (.int .i64 t237)) (fun _ hk => hk.2) (.slice Ao13 t226.length co13)) (fun _ hk => hk.2) (.slice Ao18 t229.length co18)) (fun _ hk => hk.2) (.slice Ao22 t232.length co22)) (fun _ hk => hk.2) (.int .i64 t235)) (fun _ hk => hk.2) (.int .i64 t236)) (fun _ hk => hk.2) (.int .i64 t237)) (fun _ hk => trivial), by (repeat apply rl1); exact Kd.R_mono (Kd.R_far (p := ⟨gb224, 5, none⟩) (Kd.R_far (p := ⟨gb224, 4, none⟩) (Kd.R_far (p := ⟨gb224, 3, none⟩) (Kd.R_far (p := ⟨gb224, 2, none⟩) (Kd.R_far (p := ⟨gb224, 1, none⟩) (Kd.R_far (p := ⟨gb224, 0, none⟩) (Kd.R_far (p := ⟨gb225, 5, none⟩) (Kd.R_far (p := ⟨gb225, 4, none⟩) (Kd.R_far (p := ⟨gb225, 3, none⟩) (Kd.R_types (Kd.R_types HO234.out BK225.out (by decide)) BK224.out (by decide)) (fun _ hk => hk.1.2) (.int .i64 t235)) (fun _ hk => hk.1.2) (.int .i64 t236)) (fun _ hk => hk.1.2) (.int .i64 t237)) (fun _ hk => hk.2) (.slice Ao13 t226.length co13)) (fun _ hk => hk.2) (.slice Ao18 t229.length co18)) (fun _ hk => hk.2) (.slice Ao22 t232.length co22)) (fun _ hk => hk.2) (.int .i64 t235)) (fun _ hk => hk.2) (.int .i64 t236)) (fun _ hk => hk.2) (.int .i64 t237)) (fun _ hk => trivial), by repeat with_reducible first | exact bl HB.out | refine below_set ?_ GE223.out | refine below_set ?_ GE224.out | refine below_set ?_ GE225.out | refine bq ?_⟩

/-! ### laws_toDesk: function 7 -/
def laws_toDesk.f (k : Nat) (a0_0 : Int) (a0_1 : Int) (a0_2 : Int) (a0_3 : Int) (a0_4 : Int) (l0_5 : List (S109)) (a0_6 : Int) (a0_7 : Int) (a0_8 : Int) (a0_9 : Int) (a0_10 : Int) (a0_11 : Int) (a0_12 : Int) (a0_13 : Int) (a0_14 : Bool) (l0_15 : List (S142)) (l0_16 : List (S144)) (l0_17 : List (S146)) (a0_18 : Int) (a0_19 : Int) (a0_20 : Int) : Option (Int × Int × Int × Int × Int × (List (S71)) × Int × Int × Int × Int × Int × Int × Int × Int × Bool × (List (S104)) × (List (S137)) × (List (S63)) × Int × Int × Int) := (laws_toCraft.f a0_0 a0_1 a0_2 a0_3 a0_4).bind fun bt241 => ((laws_toLegS.f k l0_5).bind fun t246 => ((laws_toPilot.f a0_6 a0_7 a0_8 a0_9 a0_10 a0_11 a0_12 a0_13 a0_14).bind fun bt249 => ((laws_toFleet.f k l0_15 l0_16 l0_17 a0_18 a0_19 a0_20).bind fun bt258 => (some (bt241.1, bt241.2.1, bt241.2.2.1, bt241.2.2.2.1, bt241.2.2.2.2, t246, bt249.1, bt249.2.1, bt249.2.2.1, bt249.2.2.2.1, bt249.2.2.2.2.1, bt249.2.2.2.2.2.1, bt249.2.2.2.2.2.2.1, bt249.2.2.2.2.2.2.2.1, bt249.2.2.2.2.2.2.2.2, bt258.1, bt258.2.1, bt258.2.2.1, bt258.2.2.2.1, bt258.2.2.2.2.1, bt258.2.2.2.2.2)))))
theorem laws_toDesk.mono : ∀ a0 a1 a2 a3 a4 a5 a6 a7 a8 a9 a10 a11 a12 a13 a14 a15 a16 a17 a18 a19 a20 k, LeO (laws_toDesk.f k a0 a1 a2 a3 a4 a5 a6 a7 a8 a9 a10 a11 a12 a13 a14 a15 a16 a17 a18 a19 a20) (laws_toDesk.f (k + 1) a0 a1 a2 a3 a4 a5 a6 a7 a8 a9 a10 a11 a12 a13 a14 a15 a16 a17 a18 a19 a20) := by
 intro a0 a1 a2 a3 a4 a5 a6 a7 a8 a9 a10 a11 a12 a13 a14 a15 a16 a17 a18 a19 a20 k
 unfold laws_toDesk.f
 repeat' first
   | (with_reducible exact laws_toFleet.mono _ _ _ _ _ _ _)
   | (with_reducible exact laws_toLegS.mono _ _)
   | (with_reducible exact LeO.refl _)
   | (with_reducible exact LeO.none _)
   | (with_reducible refine LeO.ite ?_ ?_)
   | (with_reducible refine LeO.bind ?_ (fun _ => ?_))
   | exact laws_toFleet.mono _ _ _ _ _ _ _
   | exact laws_toLegS.mono _ _
   | exact LeO.none _
   | refine LeO.ite ?_ ?_
   | refine LeO.bind ?_ (fun _ => ?_)
def pcs (cs : Array Value) (o : Nat) : List Value → Array Value
 | [] => cs
 | v :: r => pcs (cs.setIfInBounds o v) (o + 1) r
theorem size_pcs : ∀ (vs : List Value) (cs : Array Value) (o : Nat), (pcs cs o vs).size = cs.size
 | [], _, _ => rfl
 | v :: r, cs, o => by unfold pcs; rw [size_pcs r]; simp
theorem blk_pcs : ∀ (vs : List Value) (o : Nat) {w : World} {g : Nat} {t : TypeId} {cs : Array Value} (h : w.heap[g]? = some (.cells cs t (0, 0))), (w.setCells g o vs).heap[g]? = some (.cells (pcs cs o vs) t (0, 0))
 | [], _, _, _, _, _, h => h
 | v :: r, o, _, _, _, _, h => blk_pcs r (o + 1) (blk_set h o v)
theorem grown_pcs (vs : List Value) (o : Nat) (w : World) (g : Nat) : w.grownBy (w.setCells g o vs) (some g) := by
 obtain ⟨s1, s2, s3, s4⟩ := setCells_same g vs o w
 exact ⟨s1, s2, s3, by omega, fun k _ hk => setCells_far vs o k (fun he => hk (by rw [he]))⟩
theorem stm_ {P : Program} {ops : Array Oper} {o : Oper} {rest : List Oper} {a : Act} {W : World} {Q : Exit → Act → World → Prop} (ty : TypeId) (p : Tmp) (y : Operand) (g off : Nat) (cells old new : Array Value) (t : TypeId) (hgd : o.guard = none) (ho : o.op = .store ty (.tmp p) y) (hd : o.dst = none)
  (hx : a.eval (.tmp p) = .pointer (some ⟨g, off, none⟩)) (hy : a.eval y = .agg cells) (hg : W.heap[g]? = some (.cells old t (0, 0))) (hi : (P.info? ty).map (·.size) = some cells.size) (hn : off + cells.size ≤ old.size) (h1 : cells.all (·.oneCell') = true) (hnew : pcs old off cells.toList = new)
  (h : ∀ w1, w1.heap[g]? = some (.cells new t (0, 0)) → W.grownBy w1 (some g) → wpList P ops Q rest a w1) : wpList P ops Q (o :: rest) a W := by
 refine wpList_store_mid hgd ty (.tmp p) y ho g off cells hx hy (fun j hj => ⟨?_, blk_frozen hg _⟩) hi h1 ?_
 · rw [blk_cell hg]; simp; omega
 rw [hd]
 show wpList P ops Q rest a _
 exact h _ (by have := blk_pcs cells.toList off hg; rwa [hnew] at this) (grown_pcs _ _ _ _)
theorem r_put {α : Type} {d : Kd α} {e : Nat} {w w1 : World} {base : Nat} {ok : Nat → Prop} {v : Value} {xs : List α} (h : d.R e w base ok v xs) {g t : Nat} {cells : Array Value} (hb : w.heap[g]? = some (.cells cells t (0, 0))) (ht : ∀ q, q ∈ e :: d.E → q ≠ t) (hg : w.grownBy w1 (some g)) : d.R e w1 base ok v xs :=
 Kd.R_mono (Kd.R_grown (Kd.R_types h hb ht) hg (fun k hk e_ => hk.2 (by injection e_))) (fun _ h_ => h_.1)
theorem b_put {w W w1 : World} {g : Nat} (h : Below w.heap.size w W) (hg : W.grownBy w1 (some g)) (hn : w.heap.size ≤ g) : Below w.heap.size w w1 := h.grown hg h.size (fun k hk => by injection hk with hk; rw [← hk]; exact hn)
set_option maxHeartbeats 8000000 in
set_option maxRecDepth 100000 in
theorem laws_toDesk.calls (k : Nat) (a0_0 : Int) (a0_1 : Int) (a0_2 : Int) (a0_3 : Int) (a0_4 : Int) (A0_5 : Option Addr) (c0_5 : Nat) (l0_5 : List (S109)) (a0_6 : Int) (a0_7 : Int) (a0_8 : Int) (a0_9 : Int) (a0_10 : Int) (a0_11 : Int) (a0_12 : Int) (a0_13 : Int) (a0_14 : Bool) (A0_15 : Option Addr) (c0_15 : Nat) (l0_15 : List (S142)) (A0_16 : Option Addr) (c0_16 : Nat) (l0_16 : List (S144)) (A0_17 : Option Addr) (c0_17 : Nat) (l0_17 : List (S146)) (a0_18 : Int) (a0_19 : Int) (a0_20 : Int) (r1 : Int) (r2 : Int) (r3 : Int) (r4 : Int) (r5 : Int) (r6 : List (S71)) (r7 : Int) (r8 : Int) (r9 : Int) (r10 : Int) (r11 : Int) (r12 : Int) (r13 : Int) (r14 : Int) (r15 : Bool) (r16 : List (S104)) (r17 : List (S137)) (r18 : List (S63)) (r19 : Int) (r20 : Int) (r21 : Int) (w : World) (hr0_5 : Kd.C k109 w A0_5 l0_5.length l0_5) (hc0_5 : l0_5.length ≤ c0_5) (hr0_15 : Kd.C k142 w A0_15 l0_15.length l0_15) (hc0_15 : l0_15.length ≤ c0_15) (hr0_16 : Kd.C k144 w A0_16 l0_16.length l0_16) (hc0_16 : l0_16.length ≤ c0_16) (hr0_17 : Kd.C k146 w A0_17 l0_17.length l0_17) (hc0_17 : l0_17.length ≤ c0_17) (h : laws_toDesk.f k a0_0 a0_1 a0_2 a0_3 a0_4 l0_5 a0_6 a0_7 a0_8 a0_9 a0_10 a0_11 a0_12 a0_13 a0_14 l0_15 l0_16 l0_17 a0_18 a0_19 a0_20 = some (r1, r2, r3, r4, r5, r6, r7, r8, r9, r10, r11, r12, r13, r14, r15, r16, r17, r18, r19, r20, r21)) :
  Calls Try.prog 7 #[.agg #[.int .i64 a0_0, .int .i64 a0_1, .int .i64 a0_2, .int .i64 a0_3, .int .i64 a0_4, .slice A0_5 l0_5.length c0_5, .int .i64 a0_6, .int .i64 a0_7, .int .i64 a0_8, .int .i64 a0_9, .int .i64 a0_10, .int .i64 a0_11, .int .i64 a0_12, .int .i64 a0_13, .bool a0_14, .slice A0_15 l0_15.length c0_15, .slice A0_16 l0_16.length c0_16, .slice A0_17 l0_17.length c0_17, .int .i64 a0_18, .int .i64 a0_19, .int .i64 a0_20]] w fun e w' => ∃ v5_ v15_ v16_ v17_ : Value, e = .returned (.agg #[.int .i64 r1, .int .i64 r2, .int .i64 r3, .int .i64 r4, .int .i64 r5, v5_, .int .i64 r7, .int .i64 r8, .int .i64 r9, .int .i64 r10, .int .i64 r11, .int .i64 r12, .int .i64 r13, .int .i64 r14, .bool r15, v15_, v16_, v17_, .int .i64 r19, .int .i64 r20, .int .i64 r21]) ∧ Kd.R k71 71 w' w.heap.size (fun _ => True) v5_ r6 ∧ Kd.R k104 104 w' w.heap.size (fun _ => True) v15_ r16 ∧ Kd.R k137 137 w' w.heap.size (fun _ => True) v16_ r17 ∧ Kd.R k63 63 w' w.heap.size (fun _ => True) v17_ r18 ∧ Below w.heap.size w w' := by
 have hu35 := Try.underlying35
 have hu48 := Try.underlying48
 have hu23 := Try.underlying23
 have hu38 := Try.underlying38
 have hu26 := Try.underlying26
 have hu40 := Try.underlying40
 have hu33 := Try.underlying33
 have hu46 := Try.underlying46
 have HR0_5 := Aside0.mk hr0_5
 have HC0_5 := Aside0.mk hc0_5
 clear hr0_5 hc0_5
 have HR0_15 := Aside0.mk hr0_15
 have HC0_15 := Aside0.mk hc0_15
 clear hr0_15 hc0_15
 have HR0_16 := Aside0.mk hr0_16
 have HC0_16 := Aside0.mk hc0_16
 clear hr0_16 hc0_16
 have HR0_17 := Aside0.mk hr0_17
 have HC0_17 := Aside0.mk hc0_17
 clear hr0_17 hc0_17
 have HB := Aside0.mk (Below.refl w.heap.size w)
 have H : ((laws_toCraft.f a0_0 a0_1 a0_2 a0_3 a0_4).bind fun bt241 => ((laws_toLegS.f k l0_5).bind fun t246 => ((laws_toPilot.f a0_6 a0_7 a0_8 a0_9 a0_10 a0_11 a0_12 a0_13 a0_14).bind fun bt249 => ((laws_toFleet.f k l0_15 l0_16 l0_17 a0_18 a0_19 a0_20).bind fun bt258 => (some (bt241.1, bt241.2.1, bt241.2.2.1, bt241.2.2.2.1, bt241.2.2.2.2, t246, bt249.1, bt249.2.1, bt249.2.2.1, bt249.2.2.2.1, bt249.2.2.2.2.1, bt249.2.2.2.2.2.1, bt249.2.2.2.2.2.2.1, bt249.2.2.2.2.2.2.2.1, bt249.2.2.2.2.2.2.2.2, bt258.1, bt258.2.1, bt258.2.2.1, bt258.2.2.2.1, bt258.2.2.2.2.1, bt258.2.2.2.2.2)))))) = some (r1, r2, r3, r4, r5, r6, r7, r8, r9, r10, r11, r12, r13, r14, r15, r16, r17, r18, r19, r20, r21) := h
 clear h
 replace H := Option.bind_eq_some_iff.mp H
 obtain ⟨⟨t241, t242, t243, t244, t245⟩, A20, H⟩ := H
 replace H : ((laws_toLegS.f k l0_5).bind fun t246 => ((laws_toPilot.f a0_6 a0_7 a0_8 a0_9 a0_10 a0_11 a0_12 a0_13 a0_14).bind fun bt249 => ((laws_toFleet.f k l0_15 l0_16 l0_17 a0_18 a0_19 a0_20).bind fun bt258 => (some (t241, t242, t243, t244, t245, t246, bt249.1, bt249.2.1, bt249.2.2.1, bt249.2.2.2.1, bt249.2.2.2.2.1, bt249.2.2.2.2.2.1, bt249.2.2.2.2.2.2.1, bt249.2.2.2.2.2.2.2.1, bt249.2.2.2.2.2.2.2.2, bt258.1, bt258.2.1, bt258.2.2.1, bt258.2.2.2.1, bt258.2.2.2.2.1, bt258.2.2.2.2.2))))) = some (r1, r2, r3, r4, r5, r6, r7, r8, r9, r10, r11, r12, r13, r14, r15, r16, r17, r18, r19, r20, r21) := H
 have A2 := Aside0.mk A20
 clear A20
 replace H := Option.bind_eq_some_iff.mp H
 obtain ⟨t246, A30, H⟩ := H
 replace H : ((laws_toPilot.f a0_6 a0_7 a0_8 a0_9 a0_10 a0_11 a0_12 a0_13 a0_14).bind fun bt249 => ((laws_toFleet.f k l0_15 l0_16 l0_17 a0_18 a0_19 a0_20).bind fun bt258 => (some (t241, t242, t243, t244, t245, t246, bt249.1, bt249.2.1, bt249.2.2.1, bt249.2.2.2.1, bt249.2.2.2.2.1, bt249.2.2.2.2.2.1, bt249.2.2.2.2.2.2.1, bt249.2.2.2.2.2.2.2.1, bt249.2.2.2.2.2.2.2.2, bt258.1, bt258.2.1, bt258.2.2.1, bt258.2.2.2.1, bt258.2.2.2.2.1, bt258.2.2.2.2.2)))) = some (r1, r2, r3, r4, r5, r6, r7, r8, r9, r10, r11, r12, r13, r14, r15, r16, r17, r18, r19, r20, r21) := H
 have A3 := Aside0.mk A30
 clear A30
 replace H := Option.bind_eq_some_iff.mp H
 obtain ⟨⟨t249, t250, t251, t252, t253, t254, t255, t256, t257⟩, A40, H⟩ := H
 replace H : ((laws_toFleet.f k l0_15 l0_16 l0_17 a0_18 a0_19 a0_20).bind fun bt258 => (some (t241, t242, t243, t244, t245, t246, t249, t250, t251, t252, t253, t254, t255, t256, t257, bt258.1, bt258.2.1, bt258.2.2.1, bt258.2.2.2.1, bt258.2.2.2.2.1, bt258.2.2.2.2.2))) = some (r1, r2, r3, r4, r5, r6, r7, r8, r9, r10, r11, r12, r13, r14, r15, r16, r17, r18, r19, r20, r21) := H
 have A4 := Aside0.mk A40
 clear A40
 replace H := Option.bind_eq_some_iff.mp H
 obtain ⟨⟨t258, t261, t264, t267, t268, t269⟩, A50, H⟩ := H
 replace H : (some (t241, t242, t243, t244, t245, t246, t249, t250, t251, t252, t253, t254, t255, t256, t257, t258, t261, t264, t267, t268, t269)) = some (r1, r2, r3, r4, r5, r6, r7, r8, r9, r10, r11, r12, r13, r14, r15, r16, r17, r18, r19, r20, r21) := H
 have A5 := Aside0.mk A50
 clear A50
 simp only [Option.some.injEq, Prod.mk.injEq] at H
 obtain ⟨rfl, rfl, rfl, rfl, rfl, rfl, rfl, rfl, rfl, rfl, rfl, rfl, rfl, rfl, rfl, rfl, rfl, rfl, rfl, rfl, rfl⟩ := H
 have HF := Aside0.mk ((⟨blk_alloc (blk_alloc (blk_new w (.cells #[.int .i64 a0_0, .int .i64 a0_1, .int .i64 a0_2, .int .i64 a0_3, .int .i64 a0_4, .slice A0_5 l0_5.length c0_5, .int .i64 a0_6, .int .i64 a0_7, .int .i64 a0_8, .int .i64 a0_9, .int .i64 a0_10, .int .i64 a0_11, .int .i64 a0_12, .int .i64 a0_13, .bool a0_14, .slice A0_15 l0_15.length c0_15, .slice A0_16 l0_16.length c0_16, .slice A0_17 l0_17.length c0_17, .int .i64 a0_18, .int .i64 a0_19, .int .i64 a0_20] 35 (0, 0))) _) _, by have := blk_alloc (blk_new (w.alloc (.cells #[.int .i64 a0_0, .int .i64 a0_1, .int .i64 a0_2, .int .i64 a0_3, .int .i64 a0_4, .slice A0_5 l0_5.length c0_5, .int .i64 a0_6, .int .i64 a0_7, .int .i64 a0_8, .int .i64 a0_9, .int .i64 a0_10, .int .i64 a0_11, .int .i64 a0_12, .int .i64 a0_13, .bool a0_14, .slice A0_15 l0_15.length c0_15, .slice A0_16 l0_16.length c0_16, .slice A0_17 l0_17.length c0_17, .int .i64 a0_18, .int .i64 a0_19, .int .i64 a0_20] 35 (0, 0))) (.cells #[.int .i64 0, .int .i64 0, .int .i64 0, .int .i64 0, .int .i64 0, .slice none 0 0, .int .i64 0, .int .i64 0, .int .i64 0, .int .i64 0, .int .i64 0, .int .i64 0, .int .i64 0, .int .i64 0, .bool false, .slice none 0 0, .slice none 0 0, .slice none 0 0, .int .i64 0, .int .i64 0, .int .i64 0] 48 (0, 0))) (.cells #[.int .i64 0, .int .i64 0, .int .i64 0, .int .i64 0, .int .i64 0, .slice none 0 0, .int .i64 0, .int .i64 0, .int .i64 0, .int .i64 0, .int .i64 0, .int .i64 0, .int .i64 0, .int .i64 0, .bool false, .slice none 0 0, .slice none 0 0, .slice none 0 0, .int .i64 0, .int .i64 0, .int .i64 0] 48 (0, 0)); rwa [World.size_alloc] at this, by have := blk_new ((w.alloc (.cells #[.int .i64 a0_0, .int .i64 a0_1, .int .i64 a0_2, .int .i64 a0_3, .int .i64 a0_4, .slice A0_5 l0_5.length c0_5, .int .i64 a0_6, .int .i64 a0_7, .int .i64 a0_8, .int .i64 a0_9, .int .i64 a0_10, .int .i64 a0_11, .int .i64 a0_12, .int .i64 a0_13, .bool a0_14, .slice A0_15 l0_15.length c0_15, .slice A0_16 l0_16.length c0_16, .slice A0_17 l0_17.length c0_17, .int .i64 a0_18, .int .i64 a0_19, .int .i64 a0_20] 35 (0, 0))).alloc (.cells #[.int .i64 0, .int .i64 0, .int .i64 0, .int .i64 0, .int .i64 0, .slice none 0 0, .int .i64 0, .int .i64 0, .int .i64 0, .int .i64 0, .int .i64 0, .int .i64 0, .int .i64 0, .int .i64 0, .bool false, .slice none 0 0, .slice none 0 0, .slice none 0 0, .int .i64 0, .int .i64 0, .int .i64 0] 48 (0, 0))) (.cells #[.int .i64 0, .int .i64 0, .int .i64 0, .int .i64 0, .int .i64 0, .slice none 0 0, .int .i64 0, .int .i64 0, .int .i64 0, .int .i64 0, .int .i64 0, .int .i64 0, .int .i64 0, .int .i64 0, .bool false, .slice none 0 0, .slice none 0 0, .slice none 0 0, .int .i64 0, .int .i64 0, .int .i64 0] 48 (0, 0)); rwa [World.size_alloc, World.size_alloc] at this, below_alloc (below_alloc (below_alloc HB.out _) _) _⟩ : (fun W => W.heap[w.heap.size]? = some (.cells #[.int .i64 a0_0, .int .i64 a0_1, .int .i64 a0_2, .int .i64 a0_3, .int .i64 a0_4, .slice A0_5 l0_5.length c0_5, .int .i64 a0_6, .int .i64 a0_7, .int .i64 a0_8, .int .i64 a0_9, .int .i64 a0_10, .int .i64 a0_11, .int .i64 a0_12, .int .i64 a0_13, .bool a0_14, .slice A0_15 l0_15.length c0_15, .slice A0_16 l0_16.length c0_16, .slice A0_17 l0_17.length c0_17, .int .i64 a0_18, .int .i64 a0_19, .int .i64 a0_20] 35 (0, 0)) ∧ W.heap[w.heap.size + 1]? = some (.cells #[.int .i64 0, .int .i64 0, .int .i64 0, .int .i64 0, .int .i64 0, .slice none 0 0, .int .i64 0, .int .i64 0, .int .i64 0, .int .i64 0, .int .i64 0, .int .i64 0, .int .i64 0, .int .i64 0, .bool false, .slice none 0 0, .slice none 0 0, .slice none 0 0, .int .i64 0, .int .i64 0, .int .i64 0] 48 (0, 0)) ∧ W.heap[w.heap.size + 1 + 1]? = some (.cells #[.int .i64 0, .int .i64 0, .int .i64 0, .int .i64 0, .int .i64 0, .slice none 0 0, .int .i64 0, .int .i64 0, .int .i64 0, .int .i64 0, .int .i64 0, .int .i64 0, .int .i64 0, .int .i64 0, .bool false, .slice none 0 0, .slice none 0 0, .slice none 0 0, .int .i64 0, .int .i64 0, .int .i64 0] 48 (0, 0)) ∧ Below w.heap.size w W) (((w.alloc (.cells #[.int .i64 a0_0, .int .i64 a0_1, .int .i64 a0_2, .int .i64 a0_3, .int .i64 a0_4, .slice A0_5 l0_5.length c0_5, .int .i64 a0_6, .int .i64 a0_7, .int .i64 a0_8, .int .i64 a0_9, .int .i64 a0_10, .int .i64 a0_11, .int .i64 a0_12, .int .i64 a0_13, .bool a0_14, .slice A0_15 l0_15.length c0_15, .slice A0_16 l0_16.length c0_16, .slice A0_17 l0_17.length c0_17, .int .i64 a0_18, .int .i64 a0_19, .int .i64 a0_20] 35 (0, 0))).alloc (.cells #[.int .i64 0, .int .i64 0, .int .i64 0, .int .i64 0, .int .i64 0, .slice none 0 0, .int .i64 0, .int .i64 0, .int .i64 0, .int .i64 0, .int .i64 0, .int .i64 0, .int .i64 0, .int .i64 0, .bool false, .slice none 0 0, .slice none 0 0, .slice none 0 0, .int .i64 0, .int .i64 0, .int .i64 0] 48 (0, 0))).alloc (.cells #[.int .i64 0, .int .i64 0, .int .i64 0, .int .i64 0, .int .i64 0, .slice none 0 0, .int .i64 0, .int .i64 0, .int .i64 0, .int .i64 0, .int .i64 0, .int .i64 0, .int .i64 0, .int .i64 0, .bool false, .slice none 0 0, .slice none 0 0, .slice none 0 0, .int .i64 0, .int .i64 0, .int .i64 0] 48 (0, 0)))))
 clear HB
 go_enter Try.func7, Try.ntmps7
 go_upto_region 2 with (fail)
 refine world_ (fun W => W.heap[w.heap.size]? = some (.cells #[.int .i64 a0_0, .int .i64 a0_1, .int .i64 a0_2, .int .i64 a0_3, .int .i64 a0_4, .slice A0_5 l0_5.length c0_5, .int .i64 a0_6, .int .i64 a0_7, .int .i64 a0_8, .int .i64 a0_9, .int .i64 a0_10, .int .i64 a0_11, .int .i64 a0_12, .int .i64 a0_13, .bool a0_14, .slice A0_15 l0_15.length c0_15, .slice A0_16 l0_16.length c0_16, .slice A0_17 l0_17.length c0_17, .int .i64 a0_18, .int .i64 a0_19, .int .i64 a0_20] 35 (0, 0)) ∧ W.heap[w.heap.size + 1]? = some (.cells #[.int .i64 0, .int .i64 0, .int .i64 0, .int .i64 0, .int .i64 0, .slice none 0 0, .int .i64 0, .int .i64 0, .int .i64 0, .int .i64 0, .int .i64 0, .int .i64 0, .int .i64 0, .int .i64 0, .bool false, .slice none 0 0, .slice none 0 0, .slice none 0 0, .int .i64 0, .int .i64 0, .int .i64 0] 48 (0, 0)) ∧ W.heap[w.heap.size + 1 + 1]? = some (.cells #[.int .i64 0, .int .i64 0, .int .i64 0, .int .i64 0, .int .i64 0, .slice none 0 0, .int .i64 0, .int .i64 0, .int .i64 0, .int .i64 0, .int .i64 0, .int .i64 0, .int .i64 0, .int .i64 0, .bool false, .slice none 0 0, .slice none 0 0, .slice none 0 0, .int .i64 0, .int .i64 0, .int .i64 0] 48 (0, 0)) ∧ Below w.heap.size w W) HF.out ?_
 clear HF
 rintro W ⟨BA, BO, BN, HB⟩
 have hcs := (⟨ck BA 0 rfl, ck BA 1 rfl, ck BA 2 rfl, ck BA 3 rfl, ck BA 4 rfl⟩ : W.cell? ⟨w.heap.size, 0, none⟩ = some (.int .i64 a0_0) ∧ W.cell? ⟨w.heap.size, 1, none⟩ = some (.int .i64 a0_1) ∧ W.cell? ⟨w.heap.size, 2, none⟩ = some (.int .i64 a0_2) ∧ W.cell? ⟨w.heap.size, 3, none⟩ = some (.int .i64 a0_3) ∧ W.cell? ⟨w.heap.size, 4, none⟩ = some (.int .i64 a0_4))
 obtain ⟨hq0, hq1, hq2, hq3, hq4⟩ := hcs
 go_upto_region 3 with (first | (go_at_call 21; (with_reducible refine (laws_toCraft.calls a0_0 a0_1 a0_2 a0_3 a0_4 t241 t242 t243 t244 t245 _ A2.out).mono ?_); rintro e w5 ⟨rfl, hb⟩) | ((with_reducible refine gate_store (t := 38) (p := 7) rfl ?_); refine stm_ 38 7 (.tmp 6) (w.heap.size + 1 + 1) 0 #[.int .i64 t241, .int .i64 t242, .int .i64 t243, .int .i64 t244, .int .i64 t245] #[.int .i64 0, .int .i64 0, .int .i64 0, .int .i64 0, .int .i64 0, .slice none 0 0, .int .i64 0, .int .i64 0, .int .i64 0, .int .i64 0, .int .i64 0, .int .i64 0, .int .i64 0, .int .i64 0, .bool false, .slice none 0 0, .slice none 0 0, .slice none 0 0, .int .i64 0, .int .i64 0, .int .i64 0] #[.int .i64 t241, .int .i64 t242, .int .i64 t243, .int .i64 t244, .int .i64 t245, .slice none 0 0, .int .i64 0, .int .i64 0, .int .i64 0, .int .i64 0, .int .i64 0, .int .i64 0, .int .i64 0, .int .i64 0, .bool false, .slice none 0 0, .slice none 0 0, .slice none 0 0, .int .i64 0, .int .i64 0, .int .i64 0] 48 ?e1 ?e2 ?e3 ?e4 ?e5 ?e6 ?e7 ?e8 ?e9 ?e10 ?_; (case e1 => rfl); (case e2 => rfl); (case e3 => rfl); (case e4 => rfl); (case e5 => rfl); (case e6 => exact blk_below BN hb); (case e7 => kernel_rfl); (case e8 => exact Nat.le_of_ble_eq_true rfl); (case e9 => kernel_rfl); (case e10 => first | kernel_rfl | rfl); intro w6 BN6 hg6))
 have HF := Aside0.mk ((⟨blk_grown (blk_below BA hb) hg6 (by intro e; injection e with e; omega), blk_grown (blk_below BO hb) hg6 (by intro e; injection e with e; omega), BN6, b_put (below_step HB hb) hg6 (by omega)⟩ : (fun W => W.heap[w.heap.size]? = some (.cells #[.int .i64 a0_0, .int .i64 a0_1, .int .i64 a0_2, .int .i64 a0_3, .int .i64 a0_4, .slice A0_5 l0_5.length c0_5, .int .i64 a0_6, .int .i64 a0_7, .int .i64 a0_8, .int .i64 a0_9, .int .i64 a0_10, .int .i64 a0_11, .int .i64 a0_12, .int .i64 a0_13, .bool a0_14, .slice A0_15 l0_15.length c0_15, .slice A0_16 l0_16.length c0_16, .slice A0_17 l0_17.length c0_17, .int .i64 a0_18, .int .i64 a0_19, .int .i64 a0_20] 35 (0, 0)) ∧ W.heap[w.heap.size + 1]? = some (.cells #[.int .i64 0, .int .i64 0, .int .i64 0, .int .i64 0, .int .i64 0, .slice none 0 0, .int .i64 0, .int .i64 0, .int .i64 0, .int .i64 0, .int .i64 0, .int .i64 0, .int .i64 0, .int .i64 0, .bool false, .slice none 0 0, .slice none 0 0, .slice none 0 0, .int .i64 0, .int .i64 0, .int .i64 0] 48 (0, 0)) ∧ W.heap[w.heap.size + 1 + 1]? = some (.cells #[.int .i64 t241, .int .i64 t242, .int .i64 t243, .int .i64 t244, .int .i64 t245, .slice none 0 0, .int .i64 0, .int .i64 0, .int .i64 0, .int .i64 0, .int .i64 0, .int .i64 0, .int .i64 0, .int .i64 0, .bool false, .slice none 0 0, .slice none 0 0, .slice none 0 0, .int .i64 0, .int .i64 0, .int .i64 0] 48 (0, 0)) ∧ Below w.heap.size w W) w6))
 refine world_ (fun W => W.heap[w.heap.size]? = some (.cells #[.int .i64 a0_0, .int .i64 a0_1, .int .i64 a0_2, .int .i64 a0_3, .int .i64 a0_4, .slice A0_5 l0_5.length c0_5, .int .i64 a0_6, .int .i64 a0_7, .int .i64 a0_8, .int .i64 a0_9, .int .i64 a0_10, .int .i64 a0_11, .int .i64 a0_12, .int .i64 a0_13, .bool a0_14, .slice A0_15 l0_15.length c0_15, .slice A0_16 l0_16.length c0_16, .slice A0_17 l0_17.length c0_17, .int .i64 a0_18, .int .i64 a0_19, .int .i64 a0_20] 35 (0, 0)) ∧ W.heap[w.heap.size + 1]? = some (.cells #[.int .i64 0, .int .i64 0, .int .i64 0, .int .i64 0, .int .i64 0, .slice none 0 0, .int .i64 0, .int .i64 0, .int .i64 0, .int .i64 0, .int .i64 0, .int .i64 0, .int .i64 0, .int .i64 0, .bool false, .slice none 0 0, .slice none 0 0, .slice none 0 0, .int .i64 0, .int .i64 0, .int .i64 0] 48 (0, 0)) ∧ W.heap[w.heap.size + 1 + 1]? = some (.cells #[.int .i64 t241, .int .i64 t242, .int .i64 t243, .int .i64 t244, .int .i64 t245, .slice none 0 0, .int .i64 0, .int .i64 0, .int .i64 0, .int .i64 0, .int .i64 0, .int .i64 0, .int .i64 0, .int .i64 0, .bool false, .slice none 0 0, .slice none 0 0, .slice none 0 0, .int .i64 0, .int .i64 0, .int .i64 0] 48 (0, 0)) ∧ Below w.heap.size w W) HF.out ?_
 clear HF
 rintro W ⟨BA, BO, BN, HB⟩
 have hcs := ck BA 5 rfl
 have hq5 := hcs
 go_upto_region 4 with (first | (go_at_call 22; (with_reducible refine (laws_toLegS.calls k _ _ l0_5 t246 _ ?side1 ?side2 A3.out).mono ?_); (case side1 => exact Kd.C_below HR0_5.out HB); (case side2 => exact HC0_5.out); rintro e w5 ⟨v6, rfl, ho0, hb⟩; have BN5 := blk_below BN hb; have hx5 : w5.cell? ⟨w.heap.size + 1 + 1, 5, none⟩ = some (.slice none 0 0) := ck BN5 5 rfl; have hz5 := blk_frozen BN5 5; obtain ⟨Ao, co, eo⟩ := Kd.R_slice ho0; subst eo))
 have hg6 := grown_pcs [.slice Ao t246.length co] 5 w5 (w.heap.size + 1 + 1)
 have BN6 := blk_pcs [.slice Ao t246.length co] 5 BN5
 obtain ⟨v6, hv6⟩ : ∃ v, v = (.slice Ao t246.length co : Value) := ⟨_, rfl⟩
 clear hx5 hz5
 have HF := Aside0.mk ((⟨blk_grown (blk_below BA hb) hg6 (by intro e; injection e with e; omega), blk_grown (blk_below BO hb) hg6 (by intro e; injection e with e; omega), by rw [hv6]; exact BN6, b_put (below_step HB hb) hg6 (by omega), by rw [hv6]; exact Kd.R_lower (r_put ho0 BN5 (by decide) hg6) HB.size⟩ : (fun W => W.heap[w.heap.size]? = some (.cells #[.int .i64 a0_0, .int .i64 a0_1, .int .i64 a0_2, .int .i64 a0_3, .int .i64 a0_4, .slice A0_5 l0_5.length c0_5, .int .i64 a0_6, .int .i64 a0_7, .int .i64 a0_8, .int .i64 a0_9, .int .i64 a0_10, .int .i64 a0_11, .int .i64 a0_12, .int .i64 a0_13, .bool a0_14, .slice A0_15 l0_15.length c0_15, .slice A0_16 l0_16.length c0_16, .slice A0_17 l0_17.length c0_17, .int .i64 a0_18, .int .i64 a0_19, .int .i64 a0_20] 35 (0, 0)) ∧ W.heap[w.heap.size + 1]? = some (.cells #[.int .i64 0, .int .i64 0, .int .i64 0, .int .i64 0, .int .i64 0, .slice none 0 0, .int .i64 0, .int .i64 0, .int .i64 0, .int .i64 0, .int .i64 0, .int .i64 0, .int .i64 0, .int .i64 0, .bool false, .slice none 0 0, .slice none 0 0, .slice none 0 0, .int .i64 0, .int .i64 0, .int .i64 0] 48 (0, 0)) ∧ W.heap[w.heap.size + 1 + 1]? = some (.cells #[.int .i64 t241, .int .i64 t242, .int .i64 t243, .int .i64 t244, .int .i64 t245, v6, .int .i64 0, .int .i64 0, .int .i64 0, .int .i64 0, .int .i64 0, .int .i64 0, .int .i64 0, .int .i64 0, .bool false, .slice none 0 0, .slice none 0 0, .slice none 0 0, .int .i64 0, .int .i64 0, .int .i64 0] 48 (0, 0)) ∧ Below w.heap.size w W ∧ Kd.R k71 71 W w.heap.size (fun _ => True) v6 t246) (w5.setCells (w.heap.size + 1 + 1) 5 [.slice Ao t246.length co])))
 refine world_ (fun W => W.heap[w.heap.size]? = some (.cells #[.int .i64 a0_0, .int .i64 a0_1, .int .i64 a0_2, .int .i64 a0_3, .int .i64 a0_4, .slice A0_5 l0_5.length c0_5, .int .i64 a0_6, .int .i64 a0_7, .int .i64 a0_8, .int .i64 a0_9, .int .i64 a0_10, .int .i64 a0_11, .int .i64 a0_12, .int .i64 a0_13, .bool a0_14, .slice A0_15 l0_15.length c0_15, .slice A0_16 l0_16.length c0_16, .slice A0_17 l0_17.length c0_17, .int .i64 a0_18, .int .i64 a0_19, .int .i64 a0_20] 35 (0, 0)) ∧ W.heap[w.heap.size + 1]? = some (.cells #[.int .i64 0, .int .i64 0, .int .i64 0, .int .i64 0, .int .i64 0, .slice none 0 0, .int .i64 0, .int .i64 0, .int .i64 0, .int .i64 0, .int .i64 0, .int .i64 0, .int .i64 0, .int .i64 0, .bool false, .slice none 0 0, .slice none 0 0, .slice none 0 0, .int .i64 0, .int .i64 0, .int .i64 0] 48 (0, 0)) ∧ W.heap[w.heap.size + 1 + 1]? = some (.cells #[.int .i64 t241, .int .i64 t242, .int .i64 t243, .int .i64 t244, .int .i64 t245, v6, .int .i64 0, .int .i64 0, .int .i64 0, .int .i64 0, .int .i64 0, .int .i64 0, .int .i64 0, .int .i64 0, .bool false, .slice none 0 0, .slice none 0 0, .slice none 0 0, .int .i64 0, .int .i64 0, .int .i64 0] 48 (0, 0)) ∧ Below w.heap.size w W ∧ Kd.R k71 71 W w.heap.size (fun _ => True) v6 t246) HF.out ?_
 clear HF
 rintro W ⟨BA, BO, BN, HB, HO6⟩
 clear hv6 hg6 BN6 BN5 ho0
 have hcs := (⟨ck BA 6 rfl, ck BA 7 rfl, ck BA 8 rfl, ck BA 9 rfl, ck BA 10 rfl, ck BA 11 rfl, ck BA 12 rfl, ck BA 13 rfl, ck BA 14 rfl⟩ : W.cell? ⟨w.heap.size, 6, none⟩ = some (.int .i64 a0_6) ∧ W.cell? ⟨w.heap.size, 7, none⟩ = some (.int .i64 a0_7) ∧ W.cell? ⟨w.heap.size, 8, none⟩ = some (.int .i64 a0_8) ∧ W.cell? ⟨w.heap.size, 9, none⟩ = some (.int .i64 a0_9) ∧ W.cell? ⟨w.heap.size, 10, none⟩ = some (.int .i64 a0_10) ∧ W.cell? ⟨w.heap.size, 11, none⟩ = some (.int .i64 a0_11) ∧ W.cell? ⟨w.heap.size, 12, none⟩ = some (.int .i64 a0_12) ∧ W.cell? ⟨w.heap.size, 13, none⟩ = some (.int .i64 a0_13) ∧ W.cell? ⟨w.heap.size, 14, none⟩ = some (.bool a0_14))
 obtain ⟨hq6, hq7, hq8, hq9, hq10, hq11, hq12, hq13, hq14⟩ := hcs
 go_upto_region 5 with (first | (go_at_call 23; (with_reducible refine (laws_toPilot.calls a0_6 a0_7 a0_8 a0_9 a0_10 a0_11 a0_12 a0_13 a0_14 t249 t250 t251 t252 t253 t254 t255 t256 t257 _ A4.out).mono ?_); rintro e w5 ⟨rfl, hb⟩) | ((with_reducible refine gate_store (t := 40) (p := 15) rfl ?_); refine stm_ 40 15 (.tmp 14) (w.heap.size + 1 + 1) 6 #[.int .i64 t249, .int .i64 t250, .int .i64 t251, .int .i64 t252, .int .i64 t253, .int .i64 t254, .int .i64 t255, .int .i64 t256, .bool t257] #[.int .i64 t241, .int .i64 t242, .int .i64 t243, .int .i64 t244, .int .i64 t245, v6, .int .i64 0, .int .i64 0, .int .i64 0, .int .i64 0, .int .i64 0, .int .i64 0, .int .i64 0, .int .i64 0, .bool false, .slice none 0 0, .slice none 0 0, .slice none 0 0, .int .i64 0, .int .i64 0, .int .i64 0] #[.int .i64 t241, .int .i64 t242, .int .i64 t243, .int .i64 t244, .int .i64 t245, v6, .int .i64 t249, .int .i64 t250, .int .i64 t251, .int .i64 t252, .int .i64 t253, .int .i64 t254, .int .i64 t255, .int .i64 t256, .bool t257, .slice none 0 0, .slice none 0 0, .slice none 0 0, .int .i64 0, .int .i64 0, .int .i64 0] 48 ?e1 ?e2 ?e3 ?e4 ?e5 ?e6 ?e7 ?e8 ?e9 ?e10 ?_; (case e1 => rfl); (case e2 => rfl); (case e3 => rfl); (case e4 => rfl); (case e5 => rfl); (case e6 => exact blk_below BN hb); (case e7 => kernel_rfl); (case e8 => exact Nat.le_of_ble_eq_true rfl); (case e9 => kernel_rfl); (case e10 => first | kernel_rfl | rfl); intro w6 BN6 hg6))
 have HF := Aside0.mk ((⟨blk_grown (blk_below BA hb) hg6 (by intro e; injection e with e; omega), blk_grown (blk_below BO hb) hg6 (by intro e; injection e with e; omega), BN6, b_put (below_step HB hb) hg6 (by omega), r_put (Kd.R_below HO6 hb) (blk_below BN hb) (by decide) hg6⟩ : (fun W => W.heap[w.heap.size]? = some (.cells #[.int .i64 a0_0, .int .i64 a0_1, .int .i64 a0_2, .int .i64 a0_3, .int .i64 a0_4, .slice A0_5 l0_5.length c0_5, .int .i64 a0_6, .int .i64 a0_7, .int .i64 a0_8, .int .i64 a0_9, .int .i64 a0_10, .int .i64 a0_11, .int .i64 a0_12, .int .i64 a0_13, .bool a0_14, .slice A0_15 l0_15.length c0_15, .slice A0_16 l0_16.length c0_16, .slice A0_17 l0_17.length c0_17, .int .i64 a0_18, .int .i64 a0_19, .int .i64 a0_20] 35 (0, 0)) ∧ W.heap[w.heap.size + 1]? = some (.cells #[.int .i64 0, .int .i64 0, .int .i64 0, .int .i64 0, .int .i64 0, .slice none 0 0, .int .i64 0, .int .i64 0, .int .i64 0, .int .i64 0, .int .i64 0, .int .i64 0, .int .i64 0, .int .i64 0, .bool false, .slice none 0 0, .slice none 0 0, .slice none 0 0, .int .i64 0, .int .i64 0, .int .i64 0] 48 (0, 0)) ∧ W.heap[w.heap.size + 1 + 1]? = some (.cells #[.int .i64 t241, .int .i64 t242, .int .i64 t243, .int .i64 t244, .int .i64 t245, v6, .int .i64 t249, .int .i64 t250, .int .i64 t251, .int .i64 t252, .int .i64 t253, .int .i64 t254, .int .i64 t255, .int .i64 t256, .bool t257, .slice none 0 0, .slice none 0 0, .slice none 0 0, .int .i64 0, .int .i64 0, .int .i64 0] 48 (0, 0)) ∧ Below w.heap.size w W ∧ Kd.R k71 71 W w.heap.size (fun _ => True) v6 t246) w6))
 refine world_ (fun W => W.heap[w.heap.size]? = some (.cells #[.int .i64 a0_0, .int .i64 a0_1, .int .i64 a0_2, .int .i64 a0_3, .int .i64 a0_4, .slice A0_5 l0_5.length c0_5, .int .i64 a0_6, .int .i64 a0_7, .int .i64 a0_8, .int .i64 a0_9, .int .i64 a0_10, .int .i64 a0_11, .int .i64 a0_12, .int .i64 a0_13, .bool a0_14, .slice A0_15 l0_15.length c0_15, .slice A0_16 l0_16.length c0_16, .slice A0_17 l0_17.length c0_17, .int .i64 a0_18, .int .i64 a0_19, .int .i64 a0_20] 35 (0, 0)) ∧ W.heap[w.heap.size + 1]? = some (.cells #[.int .i64 0, .int .i64 0, .int .i64 0, .int .i64 0, .int .i64 0, .slice none 0 0, .int .i64 0, .int .i64 0, .int .i64 0, .int .i64 0, .int .i64 0, .int .i64 0, .int .i64 0, .int .i64 0, .bool false, .slice none 0 0, .slice none 0 0, .slice none 0 0, .int .i64 0, .int .i64 0, .int .i64 0] 48 (0, 0)) ∧ W.heap[w.heap.size + 1 + 1]? = some (.cells #[.int .i64 t241, .int .i64 t242, .int .i64 t243, .int .i64 t244, .int .i64 t245, v6, .int .i64 t249, .int .i64 t250, .int .i64 t251, .int .i64 t252, .int .i64 t253, .int .i64 t254, .int .i64 t255, .int .i64 t256, .bool t257, .slice none 0 0, .slice none 0 0, .slice none 0 0, .int .i64 0, .int .i64 0, .int .i64 0] 48 (0, 0)) ∧ Below w.heap.size w W ∧ Kd.R k71 71 W w.heap.size (fun _ => True) v6 t246) HF.out ?_
 clear HF
 rintro W ⟨BA, BO, BN, HB, HO6⟩
 have hcs := (⟨ck BA 15 rfl, ck BA 16 rfl, ck BA 17 rfl, ck BA 18 rfl, ck BA 19 rfl, ck BA 20 rfl⟩ : W.cell? ⟨w.heap.size, 15, none⟩ = some (.slice A0_15 l0_15.length c0_15) ∧ W.cell? ⟨w.heap.size, 16, none⟩ = some (.slice A0_16 l0_16.length c0_16) ∧ W.cell? ⟨w.heap.size, 17, none⟩ = some (.slice A0_17 l0_17.length c0_17) ∧ W.cell? ⟨w.heap.size, 18, none⟩ = some (.int .i64 a0_18) ∧ W.cell? ⟨w.heap.size, 19, none⟩ = some (.int .i64 a0_19) ∧ W.cell? ⟨w.heap.size, 20, none⟩ = some (.int .i64 a0_20))
 obtain ⟨hq15, hq16, hq17, hq18, hq19, hq20⟩ := hcs
 go_upto_region 6 with (first | (go_at_call 24; (with_reducible refine (laws_toFleet.calls k _ _ l0_15 _ _ l0_16 _ _ l0_17 a0_18 a0_19 a0_20 t258 t261 t264 t267 t268 t269 _ ?side1 ?side2 ?side3 ?side4 ?side5 ?side6 A5.out).mono ?_); (case side1 => exact Kd.C_below HR0_15.out HB); (case side2 => exact HC0_15.out); (case side3 => exact Kd.C_below HR0_16.out HB); (case side4 => exact HC0_16.out); (case side5 => exact Kd.C_below HR0_17.out HB); (case side6 => exact HC0_17.out); rintro e w5 ⟨v16, v17, v18, rfl, ho16, ho17, ho18, hb⟩) | ((with_reducible refine gate_store (t := 46) (p := 19) rfl ?_); refine stm_ 46 19 (.tmp 18) (w.heap.size + 1 + 1) 15 #[v16, v17, v18, .int .i64 t267, .int .i64 t268, .int .i64 t269] #[.int .i64 t241, .int .i64 t242, .int .i64 t243, .int .i64 t244, .int .i64 t245, v6, .int .i64 t249, .int .i64 t250, .int .i64 t251, .int .i64 t252, .int .i64 t253, .int .i64 t254, .int .i64 t255, .int .i64 t256, .bool t257, .slice none 0 0, .slice none 0 0, .slice none 0 0, .int .i64 0, .int .i64 0, .int .i64 0] #[.int .i64 t241, .int .i64 t242, .int .i64 t243, .int .i64 t244, .int .i64 t245, v6, .int .i64 t249, .int .i64 t250, .int .i64 t251, .int .i64 t252, .int .i64 t253, .int .i64 t254, .int .i64 t255, .int .i64 t256, .bool t257, v16, v17, v18, .int .i64 t267, .int .i64 t268, .int .i64 t269] 48 ?e1 ?e2 ?e3 ?e4 ?e5 ?e6 ?e7 ?e8 ?e9 ?e10 ?_; (case e1 => rfl); (case e2 => rfl); (case e3 => rfl); (case e4 => rfl); (case e5 => rfl); (case e6 => exact blk_below BN hb); (case e7 => kernel_rfl); (case e8 => exact Nat.le_of_ble_eq_true rfl); (case e9 => first | (obtain ⟨_, _, rfl⟩ := Kd.R_slice ho16; obtain ⟨_, _, rfl⟩ := Kd.R_slice ho17; obtain ⟨_, _, rfl⟩ := Kd.R_slice ho18; first | rfl | kernel_rfl)); (case e10 => first | kernel_rfl | rfl); intro w6 BN6 hg6))
 have HF := Aside0.mk ((⟨blk_grown (blk_below BA hb) hg6 (by intro e; injection e with e; omega), blk_grown (blk_below BO hb) hg6 (by intro e; injection e with e; omega), BN6, b_put (below_step HB hb) hg6 (by omega), r_put (Kd.R_below HO6 hb) (blk_below BN hb) (by decide) hg6, Kd.R_lower (r_put ho16 (blk_below BN hb) (by decide) hg6) HB.size, Kd.R_lower (r_put ho17 (blk_below BN hb) (by decide) hg6) HB.size, Kd.R_lower (r_put ho18 (blk_below BN hb) (by decide) hg6) HB.size⟩ : (fun W => W.heap[w.heap.size]? = some (.cells #[.int .i64 a0_0, .int .i64 a0_1, .int .i64 a0_2, .int .i64 a0_3, .int .i64 a0_4, .slice A0_5 l0_5.length c0_5, .int .i64 a0_6, .int .i64 a0_7, .int .i64 a0_8, .int .i64 a0_9, .int .i64 a0_10, .int .i64 a0_11, .int .i64 a0_12, .int .i64 a0_13, .bool a0_14, .slice A0_15 l0_15.length c0_15, .slice A0_16 l0_16.length c0_16, .slice A0_17 l0_17.length c0_17, .int .i64 a0_18, .int .i64 a0_19, .int .i64 a0_20] 35 (0, 0)) ∧ W.heap[w.heap.size + 1]? = some (.cells #[.int .i64 0, .int .i64 0, .int .i64 0, .int .i64 0, .int .i64 0, .slice none 0 0, .int .i64 0, .int .i64 0, .int .i64 0, .int .i64 0, .int .i64 0, .int .i64 0, .int .i64 0, .int .i64 0, .bool false, .slice none 0 0, .slice none 0 0, .slice none 0 0, .int .i64 0, .int .i64 0, .int .i64 0] 48 (0, 0)) ∧ W.heap[w.heap.size + 1 + 1]? = some (.cells #[.int .i64 t241, .int .i64 t242, .int .i64 t243, .int .i64 t244, .int .i64 t245, v6, .int .i64 t249, .int .i64 t250, .int .i64 t251, .int .i64 t252, .int .i64 t253, .int .i64 t254, .int .i64 t255, .int .i64 t256, .bool t257, v16, v17, v18, .int .i64 t267, .int .i64 t268, .int .i64 t269] 48 (0, 0)) ∧ Below w.heap.size w W ∧ Kd.R k71 71 W w.heap.size (fun _ => True) v6 t246 ∧ Kd.R k104 104 W w.heap.size (fun _ => True) v16 t258 ∧ Kd.R k137 137 W w.heap.size (fun _ => True) v17 t261 ∧ Kd.R k63 63 W w.heap.size (fun _ => True) v18 t264) w6))
 refine world_ (fun W => W.heap[w.heap.size]? = some (.cells #[.int .i64 a0_0, .int .i64 a0_1, .int .i64 a0_2, .int .i64 a0_3, .int .i64 a0_4, .slice A0_5 l0_5.length c0_5, .int .i64 a0_6, .int .i64 a0_7, .int .i64 a0_8, .int .i64 a0_9, .int .i64 a0_10, .int .i64 a0_11, .int .i64 a0_12, .int .i64 a0_13, .bool a0_14, .slice A0_15 l0_15.length c0_15, .slice A0_16 l0_16.length c0_16, .slice A0_17 l0_17.length c0_17, .int .i64 a0_18, .int .i64 a0_19, .int .i64 a0_20] 35 (0, 0)) ∧ W.heap[w.heap.size + 1]? = some (.cells #[.int .i64 0, .int .i64 0, .int .i64 0, .int .i64 0, .int .i64 0, .slice none 0 0, .int .i64 0, .int .i64 0, .int .i64 0, .int .i64 0, .int .i64 0, .int .i64 0, .int .i64 0, .int .i64 0, .bool false, .slice none 0 0, .slice none 0 0, .slice none 0 0, .int .i64 0, .int .i64 0, .int .i64 0] 48 (0, 0)) ∧ W.heap[w.heap.size + 1 + 1]? = some (.cells #[.int .i64 t241, .int .i64 t242, .int .i64 t243, .int .i64 t244, .int .i64 t245, v6, .int .i64 t249, .int .i64 t250, .int .i64 t251, .int .i64 t252, .int .i64 t253, .int .i64 t254, .int .i64 t255, .int .i64 t256, .bool t257, v16, v17, v18, .int .i64 t267, .int .i64 t268, .int .i64 t269] 48 (0, 0)) ∧ Below w.heap.size w W ∧ Kd.R k71 71 W w.heap.size (fun _ => True) v6 t246 ∧ Kd.R k104 104 W w.heap.size (fun _ => True) v16 t258 ∧ Kd.R k137 137 W w.heap.size (fun _ => True) v17 t261 ∧ Kd.R k63 63 W w.heap.size (fun _ => True) v18 t264) HF.out ?_
 clear HF
 rintro W ⟨BA, BO, BN, HB, HO6, HO16, HO17, HO18⟩
 go_wp2_with (first | ((with_reducible refine gate_dst (N := 20) rfl ?_); refine wpList_load_row rfl 48 (.tmp 3) rfl (w.heap.size + 1 + 1) rfl 48 #[.int .i64 t241, .int .i64 t242, .int .i64 t243, .int .i64 t244, .int .i64 t245, v6, .int .i64 t249, .int .i64 t250, .int .i64 t251, .int .i64 t252, .int .i64 t253, .int .i64 t254, .int .i64 t255, .int .i64 t256, .bool t257, v16, v17, v18, .int .i64 t267, .int .i64 t268, .int .i64 t269] (0, 0) _ BN Try.underlying48 rfl (by kernel_rfl) ?_) | ((with_reducible refine gate_store (t := 48) (p := 2) rfl ?_); refine stm_ 48 2 (.tmp 20) (w.heap.size + 1) 0 #[.int .i64 t241, .int .i64 t242, .int .i64 t243, .int .i64 t244, .int .i64 t245, v6, .int .i64 t249, .int .i64 t250, .int .i64 t251, .int .i64 t252, .int .i64 t253, .int .i64 t254, .int .i64 t255, .int .i64 t256, .bool t257, v16, v17, v18, .int .i64 t267, .int .i64 t268, .int .i64 t269] #[.int .i64 0, .int .i64 0, .int .i64 0, .int .i64 0, .int .i64 0, .slice none 0 0, .int .i64 0, .int .i64 0, .int .i64 0, .int .i64 0, .int .i64 0, .int .i64 0, .int .i64 0, .int .i64 0, .bool false, .slice none 0 0, .slice none 0 0, .slice none 0 0, .int .i64 0, .int .i64 0, .int .i64 0] #[.int .i64 t241, .int .i64 t242, .int .i64 t243, .int .i64 t244, .int .i64 t245, v6, .int .i64 t249, .int .i64 t250, .int .i64 t251, .int .i64 t252, .int .i64 t253, .int .i64 t254, .int .i64 t255, .int .i64 t256, .bool t257, v16, v17, v18, .int .i64 t267, .int .i64 t268, .int .i64 t269] 48 ?e1 ?e2 ?e3 ?e4 ?e5 ?e6 ?e7 ?e8 ?e9 ?e10 ?_; (case e1 => rfl); (case e2 => rfl); (case e3 => rfl); (case e4 => rfl); (case e5 => rfl); (case e6 => exact BO); (case e7 => kernel_rfl); (case e8 => exact Nat.le_of_ble_eq_true rfl); (case e9 => first | (obtain ⟨_, _, rfl⟩ := Kd.R_slice HO6; obtain ⟨_, _, rfl⟩ := Kd.R_slice HO16; obtain ⟨_, _, rfl⟩ := Kd.R_slice HO17; obtain ⟨_, _, rfl⟩ := Kd.R_slice HO18; first | rfl | kernel_rfl)); (case e10 => first | kernel_rfl | rfl); intro w6 BO6 hg6))
 refine bodyPost_ret (results_cell_row rfl _ _ (w.heap.size + 1) 48 #[.int .i64 t241, .int .i64 t242, .int .i64 t243, .int .i64 t244, .int .i64 t245, v6, .int .i64 t249, .int .i64 t250, .int .i64 t251, .int .i64 t252, .int .i64 t253, .int .i64 t254, .int .i64 t255, .int .i64 t256, .bool t257, v16, v17, v18, .int .i64 t267, .int .i64 t268, .int .i64 t269] (0, 0) _ rfl BO6 Try.underlying48 rfl (by kernel_rfl)) rfl ?_
 exact ⟨v6, v16, v17, v18, rfl, r_put HO6 BO (by decide) hg6, r_put HO16 BO (by decide) hg6, r_put HO17 BO (by decide) hg6, r_put HO18 BO (by decide) hg6, b_put HB hg6 (by omega)⟩

/-! ### impl_in: function 38 -/
def impl_in.f (a0 : Int) (a1 : Int) (a2 : Int) : Option (Bool) := if a0 ≥ a1 then (some (decide (a0 ≤ a2))) else (some false)
set_option maxHeartbeats 8000000 in
set_option maxRecDepth 100000 in
theorem impl_in.calls (a0 : Int) (a1 : Int) (a2 : Int) (r : Bool) (w : World) (h : impl_in.f a0 a1 a2 = some r) :
  Calls Try.prog 38 #[.int .i64 a0, .int .i64 a1, .int .i64 a2] w fun e w' => e = .returned (.bool r) ∧ Drawn0 w w' := by
 have H : (if a0 ≥ a1 then (some (decide (a0 ≤ a2))) else (some false)) = some r := h
 clear h
 by_cases c4 : a0 ≥ a1
 ·
  rw [if_pos c4] at H
  have c4b0 : decide (a1 ≤ a0) = true := decide_eq_true c4
  clear c4
  obtain rfl := Option.some.inj H
  go_enter Try.func38, Try.ntmps38
  go_wp2
  go_ret
  exact ⟨by first | rfl | (simp; done) | (simp [*]; done), by repeat (first | exact Drawn0.refl _ | apply Drawn0.step)⟩
 ·
  rw [if_neg c4] at H
  have c4b0 : decide (a1 ≤ a0) = false := decide_eq_false c4
  clear c4
  obtain rfl := Option.some.inj H
  go_enter Try.func38, Try.ntmps38
  go_wp2
  go_ret
  exact ⟨by first | rfl | (simp; done) | (simp [*]; done), by repeat (first | exact Drawn0.refl _ | apply Drawn0.step)⟩

/-! ### impl_isDir: function 59 -/
def impl_isDir.f (a0 : Int) : Option (Bool) := (impl_in.f a0 0 7).bind fun t270 => (some t270)
set_option maxHeartbeats 8000000 in
set_option maxRecDepth 100000 in
theorem impl_isDir.calls (a0 : Int) (r : Bool) (w : World) (h : impl_isDir.f a0 = some r) :
  Calls Try.prog 59 #[.int .i64 a0] w fun e w' => e = .returned (.bool r) ∧ Drawn0 w w' := by
 have H : ((impl_in.f a0 0 7).bind fun t270 => (some t270)) = some r := h
 clear h
 replace H := Option.bind_eq_some_iff.mp H
 obtain ⟨t270, A20, H⟩ := H
 replace H : (some t270) = some r := H
 have A2 := Aside0.mk A20
 clear A20
 obtain rfl := Option.some.inj H
 go_enter Try.func59, Try.ntmps59
 go_wp2_with (first | ((with_reducible refine gate_callee (f := 38) rfl ?_); refine goesL_ (some 4) rfl rfl Try.func38 (by kernel_rfl) rfl #[.int .i64 a0, .int .i64 0, .int .i64 7] rfl (by (try simp only [am_]); first | done | rfl) ?_; (with_reducible refine (impl_in.calls a0 0 7 t270 _ A2.out).mono ?_); rintro e w' ⟨rfl, ⟨nd, rfl⟩⟩; refine ⟨_, rfl, ?_⟩))
 go_ret
 exact ⟨by first | rfl | (simp; done) | (simp [*]; done), by repeat (first | exact Drawn0.refl _ | apply Drawn0.step)⟩

/-! ### impl_LegOk: function 27 -/
def impl_LegOk.f (a0_0 : Int) (a0_1 : Int) (a0_2 : Int) (a0_3 : Int) : Option (Bool) := if a0_0 = 1 then ((impl_in.f a0_1 (-500) 500).bind fun t272 => (if t272 = true then ((impl_in.f a0_2 (-500) 500).bind fun t273 => (some t273)) else (some false))) else (if a0_0 = 2 then ((impl_isDir.f a0_1).bind fun t274 => (if t274 = true then ((impl_in.f a0_3 1 500).bind fun t275 => (some t275)) else (some false))) else (if a0_0 = 3 then ((impl_in.f a0_3 0 1000).bind fun t276 => (some t276)) else (if a0_0 = 4 then ((impl_in.f a0_3 1 9).bind fun t277 => (some t277)) else (if a0_0 = 5 then ((impl_isDir.f a0_1).bind fun t278 => (if t278 = true then (if a0_2 = (-1) then (some true) else (some (a0_2 == 1))) else (some false))) else (some false)))))
set_option maxHeartbeats 8000000 in
set_option maxRecDepth 100000 in
theorem impl_LegOk.calls (a0_0 : Int) (a0_1 : Int) (a0_2 : Int) (a0_3 : Int) (r : Bool) (w : World) (h : impl_LegOk.f a0_0 a0_1 a0_2 a0_3 = some r) :
  Calls Try.prog 27 #[.agg #[.int .i64 a0_0, .int .i64 a0_1, .int .i64 a0_2, .int .i64 a0_3]] w fun e w' => e = .returned (.bool r) ∧ Below w.heap.size w w' := by
 have hu71 := Try.underlying71
 have HB := Aside0.mk (Below.refl w.heap.size w)
 have H : (if a0_0 = 1 then ((impl_in.f a0_1 (-500) 500).bind fun t272 => (if t272 = true then ((impl_in.f a0_2 (-500) 500).bind fun t273 => (some t273)) else (some false))) else (if a0_0 = 2 then ((impl_isDir.f a0_1).bind fun t274 => (if t274 = true then ((impl_in.f a0_3 1 500).bind fun t275 => (some t275)) else (some false))) else (if a0_0 = 3 then ((impl_in.f a0_3 0 1000).bind fun t276 => (some t276)) else (if a0_0 = 4 then ((impl_in.f a0_3 1 9).bind fun t277 => (some t277)) else (if a0_0 = 5 then ((impl_isDir.f a0_1).bind fun t278 => (if t278 = true then (if a0_2 = (-1) then (some true) else (some (a0_2 == 1))) else (some false))) else (some false)))))) = some r := h
 clear h
 have HC2 := Aside0.mk H
 clear H
 go_enter Try.func27, Try.ntmps27
 go_upto_if 5 with (first | ((with_reducible refine gate_dst (N := 1) rfl ?_); refine box_event ?hg (N := 1) ?hd (cs := #[.int .i64 a0_0, .int .i64 a0_1, .int .i64 a0_2, .int .i64 a0_3]) (t := 71) ?hr ?_; (case hd => rfl); (case hg => rfl); (case hr => first | (go_simp; done) | (go_simp; rfl)); intro gb271 hg w3 hbox hb; have BK271 := Aside0.mk (hbox); have GW271 := Aside0.mk ((by rw [hg]; exact (below_size (bl HB.out)) : w.heap.size ≤ gb271)); have GE271 := GW271; replace HB := Aside0.mk (below_step (bl HB.out) hb); clear hb hbox hg; obtain ⟨hcz4_0, hcz4_1, hcz4_2, hcz4_3⟩ := ck4 BK271.out; obtain ⟨hfz4_0, hfz4_1, hfz4_2, hfz4_3⟩ := fz4 BK271.out))
 have H := HC2.out
 clear HC2
 by_cases c5 : a0_0 = 1
 ·
  rw [if_pos c5] at H
  have c5b0 : (a0_0 == 1) = true := beq_iff_eq.mpr c5
  have c5b1 : (a0_0 != 1) = false := bne_eq_false_iff_eq.mpr c5
  clear c5
  (first | rw [c5b0] | (simp only [i64_w, i32_w]; rw [c5b0]) | skip)
  replace H := Option.bind_eq_some_iff.mp H
  obtain ⟨t272, A60, H⟩ := H
  replace H : (if t272 = true then ((impl_in.f a0_2 (-500) 500).bind fun t273 => (some t273)) else (some false)) = some r := H
  have A6 := Aside0.mk A60
  clear A60
  by_cases c7 : t272 = true
  ·
   subst c7
   have H1 : ((impl_in.f a0_2 (-500) 500).bind fun t273 => (some t273)) = some r := by rw [if_pos rfl] at H; exact H
   clear H
   have H := H1
   clear H1
   replace H := Option.bind_eq_some_iff.mp H
   obtain ⟨t273, A80, H⟩ := H
   replace H : (some t273) = some r := H
   have A8 := Aside0.mk A80
   clear A80
   obtain rfl := Option.some.inj H
   obtain ⟨hcz9_0, hcz9_1, hcz9_2, hcz9_3⟩ := ck4 BK271.out
   obtain ⟨hfz9_0, hfz9_1, hfz9_2, hfz9_3⟩ := fz4 BK271.out
   go_wp2_with (first | ((with_reducible refine gate_callee (f := 38) rfl ?_); refine goesL_ (some 9) rfl rfl Try.func38 (by kernel_rfl) rfl #[.int .i64 a0_1, .int .i64 (-500), .int .i64 500] rfl (by (try simp only [am_]); first | done | rfl) ?_; (with_reducible refine (impl_in.calls a0_1 (-500) 500 true _ A6.out).mono ?_); rintro e w' ⟨rfl, ⟨nd, rfl⟩⟩; refine ⟨_, rfl, ?_⟩) | (go_at_call 38; (with_reducible refine (impl_in.calls a0_2 (-500) 500 t273 _ A8.out).mono ?_); rintro e w' ⟨rfl, ⟨nd, rfl⟩⟩))
   go_ret
   exact ⟨by first | rfl | (simp [errW_none, errW_some] <;> rfl) | (simp [*, errW_none, errW_some] <;> rfl), by repeat with_reducible first | exact bl HB.out | refine below_set ?_ GE271.out | refine bq ?_⟩
  ·
   replace c7 := Bool.eq_false_iff.mpr c7
   subst c7
   have H1 : (some false) = some r := by rw [if_neg (show ¬ (false = true) by decide)] at H; exact H
   clear H
   have H := H1
   clear H1
   obtain rfl := Option.some.inj H
   obtain ⟨hcz10_0, hcz10_1, hcz10_2, hcz10_3⟩ := ck4 BK271.out
   obtain ⟨hfz10_0, hfz10_1, hfz10_2, hfz10_3⟩ := fz4 BK271.out
   go_wp2_with (first | ((with_reducible refine gate_callee (f := 38) rfl ?_); refine goesL_ (some 9) rfl rfl Try.func38 (by kernel_rfl) rfl #[.int .i64 a0_1, .int .i64 (-500), .int .i64 500] rfl (by (try simp only [am_]); first | done | rfl) ?_; (with_reducible refine (impl_in.calls a0_1 (-500) 500 false _ A6.out).mono ?_); rintro e w' ⟨rfl, ⟨nd, rfl⟩⟩; refine ⟨_, rfl, ?_⟩))
   go_ret
   exact ⟨by first | rfl | (simp [errW_none, errW_some] <;> rfl) | (simp [*, errW_none, errW_some] <;> rfl), by repeat with_reducible first | exact bl HB.out | refine below_set ?_ GE271.out | refine bq ?_⟩
 ·
  rw [if_neg c5] at H
  have c5b0 : (a0_0 == 1) = false := beq_eq_false_iff_ne.mpr c5
  have c5b1 : (a0_0 != 1) = true := bne_iff_ne.mpr c5
  (first | rw [c5b0] | (simp only [i64_w, i32_w]; rw [c5b0]) | skip)
  by_cases c11 : a0_0 = 2
  ·
   rw [if_pos c11] at H
   have c11b0 : (a0_0 == 2) = true := beq_iff_eq.mpr c11
   have c11b1 : (a0_0 != 2) = false := bne_eq_false_iff_eq.mpr c11
   clear c11
   replace H := Option.bind_eq_some_iff.mp H
   obtain ⟨t274, A120, H⟩ := H
   replace H : (if t274 = true then ((impl_in.f a0_3 1 500).bind fun t275 => (some t275)) else (some false)) = some r := H
   have A12 := Aside0.mk A120
   clear A120
   by_cases c13 : t274 = true
   ·
    subst c13
    have H1 : ((impl_in.f a0_3 1 500).bind fun t275 => (some t275)) = some r := by rw [if_pos rfl] at H; exact H
    clear H
    have H := H1
    clear H1
    replace H := Option.bind_eq_some_iff.mp H
    obtain ⟨t275, A140, H⟩ := H
    replace H : (some t275) = some r := H
    have A14 := Aside0.mk A140
    clear A140
    obtain rfl := Option.some.inj H
    obtain ⟨hcz15_0, hcz15_1, hcz15_2, hcz15_3⟩ := ck4 BK271.out
    obtain ⟨hfz15_0, hfz15_1, hfz15_2, hfz15_3⟩ := fz4 BK271.out
    go_wp2_with (first | ((with_reducible refine gate_callee (f := 59) rfl ?_); refine goesL_ (some 19) rfl rfl Try.func59 (by kernel_rfl) rfl #[.int .i64 a0_1] rfl (by (try simp only [am_]); first | done | rfl) ?_; (with_reducible refine (impl_isDir.calls a0_1 true _ A12.out).mono ?_); rintro e w' ⟨rfl, ⟨nd, rfl⟩⟩; refine ⟨_, rfl, ?_⟩) | (go_at_call 38; (with_reducible refine (impl_in.calls a0_3 1 500 t275 _ A14.out).mono ?_); rintro e w' ⟨rfl, ⟨nd, rfl⟩⟩))
    go_ret
    exact ⟨by first | rfl | (simp [errW_none, errW_some] <;> rfl) | (simp [*, errW_none, errW_some] <;> rfl), by repeat with_reducible first | exact bl HB.out | refine below_set ?_ GE271.out | refine bq ?_⟩
   ·
    replace c13 := Bool.eq_false_iff.mpr c13
    subst c13
    have H1 : (some false) = some r := by rw [if_neg (show ¬ (false = true) by decide)] at H; exact H
    clear H
    have H := H1
    clear H1
    obtain rfl := Option.some.inj H
    obtain ⟨hcz16_0, hcz16_1, hcz16_2, hcz16_3⟩ := ck4 BK271.out
    obtain ⟨hfz16_0, hfz16_1, hfz16_2, hfz16_3⟩ := fz4 BK271.out
    go_wp2_with (first | ((with_reducible refine gate_callee (f := 59) rfl ?_); refine goesL_ (some 19) rfl rfl Try.func59 (by kernel_rfl) rfl #[.int .i64 a0_1] rfl (by (try simp only [am_]); first | done | rfl) ?_; (with_reducible refine (impl_isDir.calls a0_1 false _ A12.out).mono ?_); rintro e w' ⟨rfl, ⟨nd, rfl⟩⟩; refine ⟨_, rfl, ?_⟩))
    go_ret
    exact ⟨by first | rfl | (simp [errW_none, errW_some] <;> rfl) | (simp [*, errW_none, errW_some] <;> rfl), by repeat with_reducible first | exact bl HB.out | refine below_set ?_ GE271.out | refine bq ?_⟩
  ·
   rw [if_neg c11] at H
   have c11b0 : (a0_0 == 2) = false := beq_eq_false_iff_ne.mpr c11
   have c11b1 : (a0_0 != 2) = true := bne_iff_ne.mpr c11
   by_cases c17 : a0_0 = 3
   ·
    rw [if_pos c17] at H
    have c17b0 : (a0_0 == 3) = true := beq_iff_eq.mpr c17
    have c17b1 : (a0_0 != 3) = false := bne_eq_false_iff_eq.mpr c17
    clear c17
    replace H := Option.bind_eq_some_iff.mp H
    obtain ⟨t276, A180, H⟩ := H
    replace H : (some t276) = some r := H
    have A18 := Aside0.mk A180
    clear A180
    obtain rfl := Option.some.inj H
    obtain ⟨hcz19_0, hcz19_1, hcz19_2, hcz19_3⟩ := ck4 BK271.out
    obtain ⟨hfz19_0, hfz19_1, hfz19_2, hfz19_3⟩ := fz4 BK271.out
    go_wp2_with (first | ((with_reducible refine gate_callee (f := 38) rfl ?_); refine goesL_ (some 29) rfl rfl Try.func38 (by kernel_rfl) rfl #[.int .i64 a0_3, .int .i64 0, .int .i64 1000] rfl (by (try simp only [am_]); first | done | rfl) ?_; (with_reducible refine (impl_in.calls a0_3 0 1000 t276 _ A18.out).mono ?_); rintro e w' ⟨rfl, ⟨nd, rfl⟩⟩; refine ⟨_, rfl, ?_⟩))
    go_ret
    exact ⟨by first | rfl | (simp [errW_none, errW_some] <;> rfl) | (simp [*, errW_none, errW_some] <;> rfl), by repeat with_reducible first | exact bl HB.out | refine below_set ?_ GE271.out | refine bq ?_⟩
   ·
    rw [if_neg c17] at H
    have c17b0 : (a0_0 == 3) = false := beq_eq_false_iff_ne.mpr c17
    have c17b1 : (a0_0 != 3) = true := bne_iff_ne.mpr c17
    by_cases c20 : a0_0 = 4
    ·
     rw [if_pos c20] at H
     have c20b0 : (a0_0 == 4) = true := beq_iff_eq.mpr c20
     have c20b1 : (a0_0 != 4) = false := bne_eq_false_iff_eq.mpr c20
     clear c20
     replace H := Option.bind_eq_some_iff.mp H
     obtain ⟨t277, A210, H⟩ := H
     replace H : (some t277) = some r := H
     have A21 := Aside0.mk A210
     clear A210
     obtain rfl := Option.some.inj H
     obtain ⟨hcz22_0, hcz22_1, hcz22_2, hcz22_3⟩ := ck4 BK271.out
     obtain ⟨hfz22_0, hfz22_1, hfz22_2, hfz22_3⟩ := fz4 BK271.out
     go_wp2_with (first | ((with_reducible refine gate_callee (f := 38) rfl ?_); refine goesL_ (some 34) rfl rfl Try.func38 (by kernel_rfl) rfl #[.int .i64 a0_3, .int .i64 1, .int .i64 9] rfl (by (try simp only [am_]); first | done | rfl) ?_; (with_reducible refine (impl_in.calls a0_3 1 9 t277 _ A21.out).mono ?_); rintro e w' ⟨rfl, ⟨nd, rfl⟩⟩; refine ⟨_, rfl, ?_⟩))
     go_ret
     exact ⟨by first | rfl | (simp [errW_none, errW_some] <;> rfl) | (simp [*, errW_none, errW_some] <;> rfl), by repeat with_reducible first | exact bl HB.out | refine below_set ?_ GE271.out | refine bq ?_⟩
    ·
     rw [if_neg c20] at H
     have c20b0 : (a0_0 == 4) = false := beq_eq_false_iff_ne.mpr c20
     have c20b1 : (a0_0 != 4) = true := bne_iff_ne.mpr c20
     by_cases c23 : a0_0 = 5
     ·
      rw [if_pos c23] at H
      have c23b0 : (a0_0 == 5) = true := beq_iff_eq.mpr c23
      have c23b1 : (a0_0 != 5) = false := bne_eq_false_iff_eq.mpr c23
      clear c23
      replace H := Option.bind_eq_some_iff.mp H
      obtain ⟨t278, A240, H⟩ := H
      replace H : (if t278 = true then (if a0_2 = (-1) then (some true) else (some (a0_2 == 1))) else (some false)) = some r := H
      have A24 := Aside0.mk A240
      clear A240
      by_cases c25 : t278 = true
      ·
       subst c25
       have H1 : (if a0_2 = (-1) then (some true) else (some (a0_2 == 1))) = some r := by rw [if_pos rfl] at H; exact H
       clear H
       have H := H1
       clear H1
       by_cases c26 : a0_2 = (-1)
       ·
        rw [if_pos c26] at H
        have c26b0 : (a0_2 == (-1)) = true := beq_iff_eq.mpr c26
        have c26b1 : (a0_2 != (-1)) = false := bne_eq_false_iff_eq.mpr c26
        clear c26
        obtain rfl := Option.some.inj H
        obtain ⟨hcz27_0, hcz27_1, hcz27_2, hcz27_3⟩ := ck4 BK271.out
        obtain ⟨hfz27_0, hfz27_1, hfz27_2, hfz27_3⟩ := fz4 BK271.out
        go_wp2_with (first | ((with_reducible refine gate_callee (f := 59) rfl ?_); refine goesL_ (some 39) rfl rfl Try.func59 (by kernel_rfl) rfl #[.int .i64 a0_1] rfl (by (try simp only [am_]); first | done | rfl) ?_; (with_reducible refine (impl_isDir.calls a0_1 true _ A24.out).mono ?_); rintro e w' ⟨rfl, ⟨nd, rfl⟩⟩; refine ⟨_, rfl, ?_⟩))
        go_ret
        exact ⟨by first | rfl | (simp [errW_none, errW_some] <;> rfl) | (simp [*, errW_none, errW_some] <;> rfl), by repeat with_reducible first | exact bl HB.out | refine below_set ?_ GE271.out | refine bq ?_⟩
       ·
        rw [if_neg c26] at H
        have c26b0 : (a0_2 == (-1)) = false := beq_eq_false_iff_ne.mpr c26
        have c26b1 : (a0_2 != (-1)) = true := bne_iff_ne.mpr c26
        obtain rfl := Option.some.inj H
        obtain ⟨hcz28_0, hcz28_1, hcz28_2, hcz28_3⟩ := ck4 BK271.out
        obtain ⟨hfz28_0, hfz28_1, hfz28_2, hfz28_3⟩ := fz4 BK271.out
        go_wp2_with (first | ((with_reducible refine gate_callee (f := 59) rfl ?_); refine goesL_ (some 39) rfl rfl Try.func59 (by kernel_rfl) rfl #[.int .i64 a0_1] rfl (by (try simp only [am_]); first | done | rfl) ?_; (with_reducible refine (impl_isDir.calls a0_1 true _ A24.out).mono ?_); rintro e w' ⟨rfl, ⟨nd, rfl⟩⟩; refine ⟨_, rfl, ?_⟩))
        go_ret
        exact ⟨by first | rfl | (simp [errW_none, errW_some] <;> rfl) | (simp [*, errW_none, errW_some] <;> rfl), by repeat with_reducible first | exact bl HB.out | refine below_set ?_ GE271.out | refine bq ?_⟩
      ·
       replace c25 := Bool.eq_false_iff.mpr c25
       subst c25
       have H1 : (some false) = some r := by rw [if_neg (show ¬ (false = true) by decide)] at H; exact H
       clear H
       have H := H1
       clear H1
       obtain rfl := Option.some.inj H
       obtain ⟨hcz29_0, hcz29_1, hcz29_2, hcz29_3⟩ := ck4 BK271.out
       obtain ⟨hfz29_0, hfz29_1, hfz29_2, hfz29_3⟩ := fz4 BK271.out
       go_wp2_with (first | ((with_reducible refine gate_callee (f := 59) rfl ?_); refine goesL_ (some 39) rfl rfl Try.func59 (by kernel_rfl) rfl #[.int .i64 a0_1] rfl (by (try simp only [am_]); first | done | rfl) ?_; (with_reducible refine (impl_isDir.calls a0_1 false _ A24.out).mono ?_); rintro e w' ⟨rfl, ⟨nd, rfl⟩⟩; refine ⟨_, rfl, ?_⟩))
       go_ret
       exact ⟨by first | rfl | (simp [errW_none, errW_some] <;> rfl) | (simp [*, errW_none, errW_some] <;> rfl), by repeat with_reducible first | exact bl HB.out | refine below_set ?_ GE271.out | refine bq ?_⟩
     ·
      rw [if_neg c23] at H
      have c23b0 : (a0_0 == 5) = false := beq_eq_false_iff_ne.mpr c23
      have c23b1 : (a0_0 != 5) = true := bne_iff_ne.mpr c23
      obtain rfl := Option.some.inj H
      go_wp2
      go_ret
      exact ⟨by first | rfl | (simp [errW_none, errW_some] <;> rfl) | (simp [*, errW_none, errW_some] <;> rfl), by repeat with_reducible first | exact bl HB.out | refine below_set ?_ GE271.out | refine bq ?_⟩

/-! ### slices.ContainsFunc with impl.DeskOk's plain function value (by hand): functions 26, 58, 25 -/
def legB (x : S71) : Bool := if x.f0 = 1 then (decide (-500 ≤ x.f1) && decide (x.f1 ≤ 500)) && (decide (-500 ≤ x.f2) && decide (x.f2 ≤ 500)) else if x.f0 = 2 then (decide (0 ≤ x.f1) && decide (x.f1 ≤ 7)) && (decide (1 ≤ x.f3) && decide (x.f3 ≤ 500)) else if x.f0 = 3 then decide (0 ≤ x.f3) && decide (x.f3 ≤ 1000) else if x.f0 = 4 then decide (1 ≤ x.f3) && decide (x.f3 ≤ 9) else if x.f0 = 5 then (decide (0 ≤ x.f1) && decide (x.f1 ≤ 7)) && (x.f2 == -1 || x.f2 == 1) else false
theorem inl_is (a b c : Int) : impl_in.f a b c = some (decide (b ≤ a) && decide (a ≤ c)) := by unfold impl_in.f; by_cases h : a ≥ b <;> simp [h]
theorem legB_is (x : S71) : impl_LegOk.f x.f0 x.f1 x.f2 x.f3 = some (legB x) := by
 unfold impl_LegOk.f legB
 simp only [impl_isDir.f, inl_is, Option.bind_some]
 split
 ·
  cases decide (-500 ≤ x.f1) && decide (x.f1 ≤ 500) <;> simp
 ·
  split
  ·
   cases decide (0 ≤ x.f1) && decide (x.f1 ≤ 7) <;> simp
  ·
   split
   ·
    rfl
   ·
    split
    ·
     rfl
    ·
     split
     ·
      cases decide (0 ≤ x.f1) && decide (x.f1 ≤ 7) <;> simp <;> split <;> simp [*]
     ·
      rfl
set_option maxHeartbeats 8000000 in
theorem deskok1 (x : S71) (w : World) :
  Calls Try.prog 26 #[.agg #[.int .i64 x.f0, .int .i64 x.f1, .int .i64 x.f2, .int .i64 x.f3]] w fun e w' => e = .returned (.bool (!legB x)) ∧ Below w.heap.size w w' := by
 have hu_ := Try.underlying71
 have A1 := Aside0.mk (legB_is x)
 generalize legB x = b at A1
 go_enter Try.func26, Try.ntmps26
 go_wp2_with (first | (go_at_call 27; (with_reducible refine (impl_LegOk.calls _ _ _ _ _ _ A1.out).mono ?_); rintro e w' ⟨rfl, hb⟩))
 go_ret
 exact ⟨rfl, below_step (below_alloc (Below.refl _ _) _) hb⟩
theorem rdl_get {l : List S71} {i : Nat} (h : i < l.length) : rd_T71 l (i : Int) = l[i] := by simp [rd_T71, List.getD_eq_getElem?_getD, h]
theorem anyl_take (q : S71 → Bool) {l : List S71} {i : Nat} (h : i < l.length) (hn : (l.take i).any q = false) (hb : q (rd_T71 l (i : Int)) = false) : (l.take (i + 1)).any q = false := by
 rw [List.take_succ_eq_append_getElem h, List.any_append, hn, ← rdl_get h]
 simp [hb]
theorem anyl_hit (q : S71 → Bool) {l : List S71} {i : Nat} (h : i < l.length) (hb : q (rd_T71 l (i : Int)) = true) : l.any q = true :=
 List.any_eq_true.2 ⟨l[i], List.getElem_mem h, by rw [← rdl_get h]; exact hb⟩
set_option maxHeartbeats 8000000 in
theorem deskok_index (l : List S71) (A : Option Addr) (c : Nat) (w : World) (hr : Kd.C k71 w A l.length l) (hc : l.length ≤ c) (hl : l.length ≤ 1152921504606846976) :
  Calls Try.prog 58 #[.slice A l.length c, .func (.func 26) #[] #[]] w fun e w' => (∃ i : Int, e = .returned (.int .i64 i) ∧ decide (i ≥ 0) = l.any (fun x => !legB x)) ∧ Below w.heap.size w w' := by
 have hu_ := Try.underlying71
 have HR := Aside0.mk hr
 have HL := Aside0.mk hl
 obtain ⟨q, hq⟩ : ∃ q : S71 → Bool, q = fun x => !legB x := ⟨_, rfl⟩
 have HQ := Aside0.mk (show ∀ (x : S71) (W : World), Calls Try.prog 26 #[.agg #[.int .i64 x.f0, .int .i64 x.f1, .int .i64 x.f2, .int .i64 x.f3]] W fun e w' => e = .returned (.bool (q x)) ∧ Below W.heap.size W w' from by rw [hq]; exact deskok1)
 rw [← hq]
 clear hr hq
 go_enter Try.func58, Try.ntmps58
 go_wp2
 go_loopw [8] (fun v8 wr => ∃ i : Nat, i ≤ l.length ∧ v8 = .int .i64 i ∧ Aside0 ((l.take i).any q = false) ∧ Aside0 (Below w.heap.size w wr)) (fun v8 _ => l.length - (intOf v8).toNat)
 case atStart => exact ⟨0, Nat.zero_le _, rfl, ⟨by simp⟩, ⟨Below.refl _ _⟩⟩
 case round =>
  obtain ⟨i, hi, rfl, HN, HB⟩ := hrel
  by_cases hlt : i < l.length
  ·
   obtain ⟨ad, e0, hx0, hx1, hx2, hx3⟩ := at_T71 (Kd.C_below HR.out HB.out) (i : Int) (by omega) (by omega)
   cases e0
   simp only [Int.toNat_natCast] at hx0 hx1 hx2 hx3
   cases hb : q (rd_T71 l (i : Int)) with
   | true =>
    have HB1 := Aside0.mk hb
    clear hb
    go_wp2_with (first | (go_at_call 26; (with_reducible refine (HQ.out _ _).mono ?_); rw [HB1.out]; rintro e w' ⟨rfl, hb⟩))
    go_ret
    exact ⟨⟨(i : Int), rfl, by rw [anyl_hit _ hlt HB1.out]; simp⟩, below_step HB.out hb⟩
   | false =>
    have HB1 := Aside0.mk hb
    clear hb
    go_wp2_with (first | (go_at_call 26; (with_reducible refine (HQ.out _ _).mono ?_); rw [HB1.out]; rintro e w' ⟨rfl, hb⟩))
    go_roundw
    case rel => exact ⟨i + 1, by omega, by go_num, ⟨anyl_take _ hlt HN.out HB1.out⟩, ⟨below_step HB.out hb⟩⟩
    case measure => simp [intOf]; omega
  ·
   obtain rfl : i = l.length := by omega
   go_wp2
   go_ret
   have hn := HN.out
   rw [List.take_length] at hn
   exact ⟨⟨-1, rfl, by rw [hn]; rfl⟩, HB.out⟩
def slices_ContainsFunc_DeskOk_1.f (l0 : List S71) (a1 : Int) : Option Bool := if l0.length ≤ 1152921504606846976 then some (l0.any (fun x => !legB x)) else none
set_option maxHeartbeats 8000000 in
theorem slices_ContainsFunc_DeskOk_1.calls (A0 : Option Addr) (c0 : Nat) (l0 : List S71) (a1 : Int) (r : Bool) (w : World) (hr0 : Kd.C k71 w A0 l0.length l0) (hc0 : l0.length ≤ c0) (h : slices_ContainsFunc_DeskOk_1.f l0 a1 = some r) :
  Calls Try.prog 25 #[.slice A0 l0.length c0, .func (.func 26) #[] #[]] w fun e w' => e = .returned (.bool r) ∧ Below w.heap.size w w' := by
 unfold slices_ContainsFunc_DeskOk_1.f at h
 by_cases hl : l0.length ≤ 1152921504606846976
 ·
  rw [if_pos hl] at h
  obtain rfl := Option.some.inj h
  clear h
  have HI := Aside0.mk (deskok_index l0 A0 c0 w hr0 hc0 hl)
  clear hr0
  go_enter Try.func25, Try.ntmps25
  go_wp2_with (first | (go_at_call 58; (with_reducible refine HI.out.mono ?_); rintro e w' ⟨⟨i, rfl, hi⟩, hb⟩; have HH := Aside0.mk hi; clear hi))
  go_ret
  exact ⟨by rw [← HH.out]; first | rfl | simp, hb⟩
 ·
  rw [if_neg hl] at h
  exact absurd h (by simp)

/- impl_in: told above -/

/- impl_isDir: told above -/

end Go.Proofs.Ytljceaggilpgbaa.PFnExactDeskOk
