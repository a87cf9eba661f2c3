-- Written by a program of this session (wip/xprint.py) out of the translation; Lean checks it.
import Derived.Test.YtdimdlifjdbgnaaPFnReleasedx0
import Derived.Test.YtdimdlifjdbgnaaPFnReleasedx1
import Derived.Test.YtdimdlifjdbgnaaPFnReleasedx2
import Derived.Test.YtdimdlifjdbgnaaPFnReleasedx3
import Derived.Test.YtdimdlifjdbgnaaPFnReleasedx4
import Derived.Test.YtdimdlifjdbgnaaPFnReleasedx5
import Derived.Test.YtdimdlifjdbgnaaPFnReleasedx6
import Derived.Test.YtdimdlifjdbgnaaPFnReleasedx7
import Derived.Test.YtdimdlifjdbgnaaPFnReleasedx8
import Derived.Test.YtdimdlifjdbgnaaPFnReleasedx9
namespace Go.Proofs.Ytdimdlifjdbgnaa.PFnReleased
open Go.RowKit Go.Proofs.YtdimdlifjdbgnaaW.PrintWords Go.Proofs.YtdimdlifjdbgnaaW.PrintLast Go.Proofs.YtdimdlifjdbgnaaW.PrintMore Go.Proofs.Ytdimdlifjdbgnaa.Sq
attribute [local go_sem] max2_int min2_int max_two min_two max_three min_three max_four min_four   -- for this text's walks alone
set_option linter.unusedVariables false
set_option linter.unusedSimpArgs false

-- HAND FROM
open Go.Proofs.Ytdimdlifjdbgnaa.Base Go.Proofs.Ytdimdlifjdbgnaa.Sq
set_option maxHeartbeats 4000000 in
set_option maxRecDepth 100000 in
theorem impl_Release.go (A0 : Option Addr) (c0 : Nat) (l0 : List S44) (A1 : Option Addr) (c1 : Nat) (l1 : List S84) (A2 : Option Addr) (c2 : Nat) (l2 : List S57) (p q r : Int) (w : World) (hr0 : Kd.C k44 w A0 l0.length l0) (hc0 : l0.length ≤ c0) (hr1 : Kd.C k84 w A1 l1.length l1) (hc1 : l1.length ≤ c1) (hr2 : Kd.C k57 w A2 l2.length l2) (hc2 : l2.length ≤ c2) (hz : FleetSz l0 l1 l2) :
    Calls Try.prog 11 #[.agg #[.slice A0 l0.length c0, .slice A1 l1.length c1, .slice A2 l2.length c2, .int .i64 p, .int .i64 q, .int .i64 r]] w fun e w' => e = .returned (.tuple #[.int .i64 (releaseB l0 l1 l2 p q r).1, .string (releaseB l0 l1 l2 p q r).2]) ∧ Below w.heap.size w w' := by
  have hu56 := Try.underlying30
  have hnew := below_alloc (Below.refl w.heap.size w) (.cells #[.slice A0 l0.length c0, .slice A1 l1.length c1, .slice A2 l2.length c2, .int .i64 p, .int .i64 q, .int .i64 r] 30 (0, 0))
  have HF := Aside0.mk (And.intro (blk_new w (.cells #[.slice A0 l0.length c0, .slice A1 l1.length c1, .slice A2 l2.length c2, .int .i64 p, .int .i64 q, .int .i64 r] 30 (0, 0))) hnew)
  have KF := Aside0.mk (impl_FleetOk.go A0 c0 l0 A1 c1 l1 A2 c2 l2 p q r (w.alloc (.cells #[.slice A0 l0.length c0, .slice A1 l1.length c1, .slice A2 l2.length c2, .int .i64 p, .int .i64 q, .int .i64 r] 30 (0, 0))) (Kd.C_below hr0 hnew) hc0 (Kd.C_below hr1 hnew) hc1 (Kd.C_below hr2 hnew) hc2 hz)
  cases hok : fleetB l0 l1 l2 p q r with
  | false =>
    rw [hok] at KF
    have HS := Aside0.mk (show releaseB l0 l1 l2 p q r = (1, ⟨#[]⟩) by unfold releaseB; rw [if_neg (by rw [hok]; simp)])
    clear hok hr0 hr1 hr2 hz hnew
    go_enter Try.func11, Try.ntmps11
    go_wp2_with (first | (go_at_call 8; (with_reducible refine KF.out.mono ?_); rintro e w5 ⟨rfl, hb⟩))
    go_ret2
    exact ⟨by rw [HS.out]; rfl, below_step HF.out.2 hb⟩
  | true =>
    rw [hok] at KF
    have HS := Aside0.mk (show releaseB l0 l1 l2 p q r = releaseF l0 l1 l2 p q r by unfold releaseB; rw [if_pos hok])
    have KR := Aside0.mk (fun w5 (hb : Below (w.alloc (.cells #[.slice A0 l0.length c0, .slice A1 l1.length c1, .slice A2 l2.length c2, .int .i64 p, .int .i64 q, .int .i64 r] 30 (0, 0))).heap.size (w.alloc (.cells #[.slice A0 l0.length c0, .slice A1 l1.length c1, .slice A2 l2.length c2, .int .i64 p, .int .i64 q, .int .i64 r] 30 (0, 0))) w5) => release_t w.heap.size A0 c0 l0 A1 c1 l1 A2 c2 l2 p q r w5 (blk_below HF.out.1 hb) (Kd.C_below hr0 (below_step hnew hb)) hc0 (Kd.C_below hr1 (below_step hnew hb)) hc1 (Kd.C_below hr2 (below_step hnew hb)) hc2 hz hok)
    clear hok hr0 hr1 hr2 hz hnew
    go_enter Try.func11, Try.ntmps11
    go_wp2_with (first | (go_at_call 8; (with_reducible refine KF.out.mono ?_); rintro e w5 ⟨rfl, hb⟩) | (go_at_call 35; (with_reducible refine (KR.out _ hb).mono ?_); rintro e w6 ⟨rfl, hb6⟩))
    go_ret2
    exact ⟨by rw [HS.out]; rfl, below_step (below_step HF.out.2 hb) hb6⟩
def impl_Release.f (l0_0 : List S44) (l0_1 : List S84) (l0_2 : List S57) (a0_3 : Int) (a0_4 : Int) (a0_5 : Int) : Option (Int × ByteArray) := if fleetSzB l0_0 l0_1 l0_2 = true then some (releaseB l0_0 l0_1 l0_2 a0_3 a0_4 a0_5) else none
theorem impl_Release.calls (A0_0 : Option Addr) (c0_0 : Nat) (l0_0 : List (S44)) (A0_1 : Option Addr) (c0_1 : Nat) (l0_1 : List (S84)) (A0_2 : Option Addr) (c0_2 : Nat) (l0_2 : List (S57)) (a0_3 : Int) (a0_4 : Int) (a0_5 : Int) (r1 : Int) (r2 : ByteArray) (w : World) (hr0_0 : Kd.C k44 w A0_0 l0_0.length l0_0) (hc0_0 : l0_0.length ≤ c0_0) (hr0_1 : Kd.C k84 w A0_1 l0_1.length l0_1) (hc0_1 : l0_1.length ≤ c0_1) (hr0_2 : Kd.C k57 w A0_2 l0_2.length l0_2) (hc0_2 : l0_2.length ≤ c0_2) (h : impl_Release.f l0_0 l0_1 l0_2 a0_3 a0_4 a0_5 = some (r1, r2)) :
    Calls Try.prog 11 #[.agg #[.slice A0_0 l0_0.length c0_0, .slice A0_1 l0_1.length c0_1, .slice A0_2 l0_2.length c0_2, .int .i64 a0_3, .int .i64 a0_4, .int .i64 a0_5]] w fun e w' => e = .returned (.tuple #[.int .i64 r1, .string r2]) ∧ Below w.heap.size w w' := by
  unfold impl_Release.f at h
  by_cases hz : fleetSzB l0_0 l0_1 l0_2 = true
  · rw [if_pos hz] at h
    have e := Option.some.inj h
    have c := impl_Release.go A0_0 c0_0 l0_0 A0_1 c0_1 l0_1 A0_2 c0_2 l0_2 a0_3 a0_4 a0_5 w hr0_0 hc0_0 hr0_1 hc0_1 hr0_2 hc0_2 (fleetSz_of.1 hz)
    rw [e] at c
    exact c
  · rw [if_neg hz] at h
    exact absurd h (by simp)
-- HAND TO

/-! ### impl_Task: function 75 -/
def impl_Task.f (l0 : List (S44)) : Option ((List (S44))) := (some (([] : List (S44)) : List (S44))).bind fun y383 => (if y383.length + l0.length < 2199023255552 then (some (y383 ++ l0)) else (none))
set_option maxHeartbeats 8000000 in
set_option maxRecDepth 100000 in
theorem impl_Task.calls (A0 : Option Addr) (c0 : Nat) (l0 : List (S44)) (r : List (S44)) (w : World) (hr0 : Kd.C k44 w A0 l0.length l0) (hc0 : l0.length ≤ c0) (h : impl_Task.f l0 = some r) :
  Calls Try.prog 75 #[.slice A0 l0.length c0] w fun e w' => ∃ v0_ : Value, e = .returned (v0_) ∧ Kd.R k44 44 w' w.heap.size (fun _ => True) v0_ r ∧ Below w.heap.size w w' := by
 cases A0 with
 | none =>
  have hl : l0 = [] := by
   rcases Nat.eq_zero_or_pos l0.length with z | z
   ·
    exact List.length_eq_zero_iff.1 z
   ·
    obtain ⟨ad, e, _⟩ := hr0.2.2 z
    cases e
  subst hl
  obtain rfl : [] = r := by simpa [impl_Task.f] using h
  clear h hr0
  have he := fun W => Lib.run_eql_slice_nil (P := Try.prog) W 24 44 none 0 c0 0 0 Try.underlying24
  go_enter Try.func75, Try.ntmps75
  go_wp2
  go_ret
  exact ⟨_, rfl, Kd.R_nil _ _ _ _ _, Below.refl _ _⟩
 | some ad0 =>
  have HR0 := Aside0.mk hr0
  have HC0 := Aside0.mk hc0
  clear hr0 hc0
  have HB := Aside0.mk (Below.refl w.heap.size w)
  have H : ((some (([] : List (S44)) : List (S44))).bind fun y383 => (if y383.length + l0.length < 2199023255552 then (some (y383 ++ l0)) else (none))) = some r := h
  clear h
  obtain ⟨y383, hy383⟩ : ∃ y_ : List (S44), y_ = (([] : List (S44))) := ⟨_, rfl⟩
  replace H : (if y383.length + l0.length < 2199023255552 then (some (y383 ++ l0)) else (none)) = some r := by first | (rw [hy383]; with_reducible exact H) | (have H2_ := (Option.bind_some _ _).symm.trans H; rw [hy383]; with_reducible exact H2_) | (have H2_ := (Option.bind_some _ _).symm.trans H; with_reducible exact H2_) | with_reducible exact H | (rw [hy383]; exact H) | exact H
  have Ny383 := Aside0.mk hy383
  clear hy383
  by_cases c2 : y383.length + l0.length < 2199023255552
  ·
   rw [if_pos c2] at H
   have LMc2 := Aside0.mk c2
   clear c2
   obtain ⟨y386, hy386⟩ : ∃ y_ : List (S44), y_ = (y383 ++ l0) := ⟨_, rfl⟩
   replace H : (some y386) = some r := by first | (rw [hy386]; with_reducible exact H) | (have H2_ := (Option.bind_some _ _).symm.trans H; rw [hy386]; with_reducible exact H2_) | (have H2_ := (Option.bind_some _ _).symm.trans H; with_reducible exact H2_) | with_reducible exact H | (rw [hy386]; exact H) | exact H
   have Ny386 := Aside0.mk hy386
   clear hy386
   obtain rfl := Option.some.inj H
   have he := fun W => Lib.run_eql_slice_nil (P := Try.prog) W 24 44 (some ad0) l0.length c0 0 0 Try.underlying24
   go_enter Try.func75, Try.ntmps75
   go_wp2_with (first | ((with_reducible refine gate_dst (N := 5) rfl ?_); refine Kd.R_lit k44 _ 44 ?hg (N := 5) ?hd (xs := ([] : List (S44))) (inner := []) (ok := fun _ => True) (okp := fun _ => True) ?hr ?hp (fun _ hk => hk) trivial (Below.refl _ _) (Nat.le_refl _) (by simp) ?_; (case hd => rfl); (case hg => rfl); (case hr => first | (go_simp; done) | (go_simp; rfl)); (case hp => exact (Reps.none _ _)); intro v384 w3 ho4 hb hg_ hnew_; clear hg_ hnew_; (first | rw [← Ny383.out] at ho4 | (simp only [Int.reduceToNat] at ho4; rw [← Ny383.out] at ho4)); have HO385 := Aside0.mk (Kd.R_lower ho4 (below_size (bl HB.out))); replace HB := Aside0.mk (below_step (bl HB.out) hb); clear hb ho4) | ((with_reducible refine gate_builtin (b := .append) (xs := #[.tmp 5, .tmp 6]) rfl ?_); at_builtin; refine Kd.R_append_rows k44 (w0 := w) w.heap.size rfl (.tmp 5) (.tmp 6) 24 44 (.agg #[(.string ⟨#[]⟩), (.int .i64 0), (.int .i64 0), (.int .i64 0), (.int .i64 0), (.int .i64 0), (.int .i64 0)]) 64 rfl Try.underlying24 info44 rfl (by decide) (by omega) v384 y383 l0 _ _ _ (fun _ => True) (fun _ => False) rfl rfl ?aO ?aR (fun _ _ h => h) (fun _ h => h.elim) ?aF ?aB ?aS ?aL ?_; (case aR => exact rc (Kd.C_below HR0.out HB.out)); (case aB => exact (bl HB.out)); (case aF => exact (fun _ _ => trivial)); (case aO => exact (rl HO385.out)); (case aS => exact (below_size (bl HB.out))); (case aL => have := LMc2.out; omega); intro v387 w5 ho hb hg hat; rw [← Ny386.out] at ho; replace HB := Aside0.mk (hb); have HO388 := Aside0.mk (ho); clear HO385; clear ho hb hg hat))
   go_ret
   exact ⟨_, by first | rfl | (simp [errW_none, errW_some] <;> rfl) | (simp [*, errW_none, errW_some] <;> rfl), by (repeat apply rl1); exact HO388.out, bl HB.out⟩
  ·
   rw [if_neg c2] at H
   exact absurd H (by simp)

/-! ### impl_Carry: function 76 -/
def impl_Carry.f (l0 : List (S84)) : Option ((List (S84))) := (some (([] : List (S84)) : List (S84))).bind fun y389 => (if y389.length + l0.length < 4398046511104 then (some (y389 ++ l0)) else (none))
set_option maxHeartbeats 8000000 in
set_option maxRecDepth 100000 in
theorem impl_Carry.calls (A0 : Option Addr) (c0 : Nat) (l0 : List (S84)) (r : List (S84)) (w : World) (hr0 : Kd.C k84 w A0 l0.length l0) (hc0 : l0.length ≤ c0) (h : impl_Carry.f l0 = some r) :
  Calls Try.prog 76 #[.slice A0 l0.length c0] w fun e w' => ∃ v0_ : Value, e = .returned (v0_) ∧ Kd.R k84 84 w' w.heap.size (fun _ => True) v0_ r ∧ Below w.heap.size w w' := by
 cases A0 with
 | none =>
  have hl : l0 = [] := by
   rcases Nat.eq_zero_or_pos l0.length with z | z
   ·
    exact List.length_eq_zero_iff.1 z
   ·
    obtain ⟨ad, e, _⟩ := hr0.2.2 z
    cases e
  subst hl
  obtain rfl : [] = r := by simpa [impl_Carry.f] using h
  clear h hr0
  have he := fun W => Lib.run_eql_slice_nil (P := Try.prog) W 25 84 none 0 c0 0 0 Try.underlying25
  go_enter Try.func76, Try.ntmps76
  go_wp2
  go_ret
  exact ⟨_, rfl, Kd.R_nil _ _ _ _ _, Below.refl _ _⟩
 | some ad0 =>
  have HR0 := Aside0.mk hr0
  have HC0 := Aside0.mk hc0
  clear hr0 hc0
  have HB := Aside0.mk (Below.refl w.heap.size w)
  have H : ((some (([] : List (S84)) : List (S84))).bind fun y389 => (if y389.length + l0.length < 4398046511104 then (some (y389 ++ l0)) else (none))) = some r := h
  clear h
  obtain ⟨y389, hy389⟩ : ∃ y_ : List (S84), y_ = (([] : List (S84))) := ⟨_, rfl⟩
  replace H : (if y389.length + l0.length < 4398046511104 then (some (y389 ++ l0)) else (none)) = some r := by first | (rw [hy389]; with_reducible exact H) | (have H2_ := (Option.bind_some _ _).symm.trans H; rw [hy389]; with_reducible exact H2_) | (have H2_ := (Option.bind_some _ _).symm.trans H; with_reducible exact H2_) | with_reducible exact H | (rw [hy389]; exact H) | exact H
  have Ny389 := Aside0.mk hy389
  clear hy389
  by_cases c2 : y389.length + l0.length < 4398046511104
  ·
   rw [if_pos c2] at H
   have LMc2 := Aside0.mk c2
   clear c2
   obtain ⟨y392, hy392⟩ : ∃ y_ : List (S84), y_ = (y389 ++ l0) := ⟨_, rfl⟩
   replace H : (some y392) = some r := by first | (rw [hy392]; with_reducible exact H) | (have H2_ := (Option.bind_some _ _).symm.trans H; rw [hy392]; with_reducible exact H2_) | (have H2_ := (Option.bind_some _ _).symm.trans H; with_reducible exact H2_) | with_reducible exact H | (rw [hy392]; exact H) | exact H
   have Ny392 := Aside0.mk hy392
   clear hy392
   obtain rfl := Option.some.inj H
   have he := fun W => Lib.run_eql_slice_nil (P := Try.prog) W 25 84 (some ad0) l0.length c0 0 0 Try.underlying25
   go_enter Try.func76, Try.ntmps76
   go_wp2_with (first | ((with_reducible refine gate_dst (N := 5) rfl ?_); refine Kd.R_lit k84 _ 84 ?hg (N := 5) ?hd (xs := ([] : List (S84))) (inner := []) (ok := fun _ => True) (okp := fun _ => True) ?hr ?hp (fun _ hk => hk) trivial (Below.refl _ _) (Nat.le_refl _) (by simp) ?_; (case hd => rfl); (case hg => rfl); (case hr => first | (go_simp; done) | (go_simp; rfl)); (case hp => exact (Reps.none _ _)); intro v390 w3 ho4 hb hg_ hnew_; clear hg_ hnew_; (first | rw [← Ny389.out] at ho4 | (simp only [Int.reduceToNat] at ho4; rw [← Ny389.out] at ho4)); have HO391 := Aside0.mk (Kd.R_lower ho4 (below_size (bl HB.out))); replace HB := Aside0.mk (below_step (bl HB.out) hb); clear hb ho4) | ((with_reducible refine gate_builtin (b := .append) (xs := #[.tmp 5, .tmp 6]) rfl ?_); at_builtin; refine Kd.R_append_rows k84 (w0 := w) w.heap.size rfl (.tmp 5) (.tmp 6) 25 84 (.agg #[(.string ⟨#[]⟩), (.int .i64 0), (.int .i64 0)]) 32 rfl Try.underlying25 info84 rfl (by decide) (by omega) v390 y389 l0 _ _ _ (fun _ => True) (fun _ => False) rfl rfl ?aO ?aR (fun _ _ h => h) (fun _ h => h.elim) ?aF ?aB ?aS ?aL ?_; (case aR => exact rc (Kd.C_below HR0.out HB.out)); (case aB => exact (bl HB.out)); (case aF => exact (fun _ _ => trivial)); (case aO => exact (rl HO391.out)); (case aS => exact (below_size (bl HB.out))); (case aL => have := LMc2.out; omega); intro v393 w5 ho hb hg hat; rw [← Ny392.out] at ho; replace HB := Aside0.mk (hb); have HO394 := Aside0.mk (ho); clear HO391; clear ho hb hg hat))
   go_ret
   exact ⟨_, by first | rfl | (simp [errW_none, errW_some] <;> rfl) | (simp [*, errW_none, errW_some] <;> rfl), by (repeat apply rl1); exact HO394.out, bl HB.out⟩
  ·
   rw [if_neg c2] at H
   exact absurd H (by simp)

/-! ### impl_Defect_77: function 77 -/
def impl_Defect_77.f (l0 : List (S57)) : Option ((List (S57))) := (some (([] : List (S57)) : List (S57))).bind fun y395 => (if y395.length + l0.length < 4398046511104 then (some (y395 ++ l0)) else (none))
set_option maxHeartbeats 8000000 in
set_option maxRecDepth 100000 in
theorem impl_Defect_77.calls (A0 : Option Addr) (c0 : Nat) (l0 : List (S57)) (r : List (S57)) (w : World) (hr0 : Kd.C k57 w A0 l0.length l0) (hc0 : l0.length ≤ c0) (h : impl_Defect_77.f l0 = some r) :
  Calls Try.prog 77 #[.slice A0 l0.length c0] w fun e w' => ∃ v0_ : Value, e = .returned (v0_) ∧ Kd.R k57 57 w' w.heap.size (fun _ => True) v0_ r ∧ Below w.heap.size w w' := by
 cases A0 with
 | none =>
  have hl : l0 = [] := by
   rcases Nat.eq_zero_or_pos l0.length with z | z
   ·
    exact List.length_eq_zero_iff.1 z
   ·
    obtain ⟨ad, e, _⟩ := hr0.2.2 z
    cases e
  subst hl
  obtain rfl : [] = r := by simpa [impl_Defect_77.f] using h
  clear h hr0
  have he := fun W => Lib.run_eql_slice_nil (P := Try.prog) W 26 57 none 0 c0 0 0 Try.underlying26
  go_enter Try.func77, Try.ntmps77
  go_wp2
  go_ret
  exact ⟨_, rfl, Kd.R_nil _ _ _ _ _, Below.refl _ _⟩
 | some ad0 =>
  have HR0 := Aside0.mk hr0
  have HC0 := Aside0.mk hc0
  clear hr0 hc0
  have HB := Aside0.mk (Below.refl w.heap.size w)
  have H : ((some (([] : List (S57)) : List (S57))).bind fun y395 => (if y395.length + l0.length < 4398046511104 then (some (y395 ++ l0)) else (none))) = some r := h
  clear h
  obtain ⟨y395, hy395⟩ : ∃ y_ : List (S57), y_ = (([] : List (S57))) := ⟨_, rfl⟩
  replace H : (if y395.length + l0.length < 4398046511104 then (some (y395 ++ l0)) else (none)) = some r := by first | (rw [hy395]; with_reducible exact H) | (have H2_ := (Option.bind_some _ _).symm.trans H; rw [hy395]; with_reducible exact H2_) | (have H2_ := (Option.bind_some _ _).symm.trans H; with_reducible exact H2_) | with_reducible exact H | (rw [hy395]; exact H) | exact H
  have Ny395 := Aside0.mk hy395
  clear hy395
  by_cases c2 : y395.length + l0.length < 4398046511104
  ·
   rw [if_pos c2] at H
   have LMc2 := Aside0.mk c2
   clear c2
   obtain ⟨y398, hy398⟩ : ∃ y_ : List (S57), y_ = (y395 ++ l0) := ⟨_, rfl⟩
   replace H : (some y398) = some r := by first | (rw [hy398]; with_reducible exact H) | (have H2_ := (Option.bind_some _ _).symm.trans H; rw [hy398]; with_reducible exact H2_) | (have H2_ := (Option.bind_some _ _).symm.trans H; with_reducible exact H2_) | with_reducible exact H | (rw [hy398]; exact H) | exact H
   have Ny398 := Aside0.mk hy398
   clear hy398
   obtain rfl := Option.some.inj H
   have he := fun W => Lib.run_eql_slice_nil (P := Try.prog) W 26 57 (some ad0) l0.length c0 0 0 Try.underlying26
   go_enter Try.func77, Try.ntmps77
   go_wp2_with (first | ((with_reducible refine gate_dst (N := 5) rfl ?_); refine Kd.R_lit k57 _ 57 ?hg (N := 5) ?hd (xs := ([] : List (S57))) (inner := []) (ok := fun _ => True) (okp := fun _ => True) ?hr ?hp (fun _ hk => hk) trivial (Below.refl _ _) (Nat.le_refl _) (by simp) ?_; (case hd => rfl); (case hg => rfl); (case hr => first | (go_simp; done) | (go_simp; rfl)); (case hp => exact (Reps.none _ _)); intro v396 w3 ho4 hb hg_ hnew_; clear hg_ hnew_; (first | rw [← Ny395.out] at ho4 | (simp only [Int.reduceToNat] at ho4; rw [← Ny395.out] at ho4)); have HO397 := Aside0.mk (Kd.R_lower ho4 (below_size (bl HB.out))); replace HB := Aside0.mk (below_step (bl HB.out) hb); clear hb ho4) | ((with_reducible refine gate_builtin (b := .append) (xs := #[.tmp 5, .tmp 6]) rfl ?_); at_builtin; refine Kd.R_append_rows k57 (w0 := w) w.heap.size rfl (.tmp 5) (.tmp 6) 26 57 (.agg #[(.string ⟨#[]⟩), (.int .i64 0), (.int .i64 0)]) 32 rfl Try.underlying26 info57 rfl (by decide) (by omega) v396 y395 l0 _ _ _ (fun _ => True) (fun _ => False) rfl rfl ?aO ?aR (fun _ _ h => h) (fun _ h => h.elim) ?aF ?aB ?aS ?aL ?_; (case aR => exact rc (Kd.C_below HR0.out HB.out)); (case aB => exact (bl HB.out)); (case aF => exact (fun _ _ => trivial)); (case aO => exact (rl HO397.out)); (case aS => exact (below_size (bl HB.out))); (case aL => have := LMc2.out; omega); intro v399 w5 ho hb hg hat; rw [← Ny398.out] at ho; replace HB := Aside0.mk (hb); have HO400 := Aside0.mk (ho); clear HO397; clear ho hb hg hat))
   go_ret
   exact ⟨_, by first | rfl | (simp [errW_none, errW_some] <;> rfl) | (simp [*, errW_none, errW_some] <;> rfl), by (repeat apply rl1); exact HO400.out, bl HB.out⟩
  ·
   rw [if_neg c2] at H
   exact absurd H (by simp)

/-! ### impl_cloneFleet: function 36 -/
def impl_cloneFleet.f (l0_0 : List (S44)) (l0_1 : List (S84)) (l0_2 : List (S57)) (a0_3 : Int) (a0_4 : Int) (a0_5 : Int) : Option ((List (S44)) × (List (S84)) × (List (S57)) × Int × Int × Int) := (impl_Task.f l0_0).bind fun t403 => ((impl_Carry.f l0_1).bind fun t406 => ((impl_Defect_77.f l0_2).bind fun t409 => (some (t403, t406, t409, a0_3, a0_4, a0_5))))
def impl_cloneFleet.T1 : Bool × List (List Nat × List Nat) := (true, [([], []), ([0], [0]), ([1], [1]), ([], []), ([3], [3]), ([4, 2], [4]), ([], []), ([6], [6]), ([7, 5], [7]), ([], []), ([9], [9]), ([2, 5, 8, 10], [2, 5, 8, 10]), ([11, 8, 0, 1, 2, 3, 4, 5, 6, 7, 8, 9, 10, 11], [11])])
def impl_cloneFleet.B1 : List Nat := [0, 1, 3, 0, 8, 31, 0, 64, 255, 0, 512, 2047, 4095]
theorem impl_cloneFleet.tab1 : rtab .any (opsOf Try.f36 1) = impl_cloneFleet.T1 := by kernel_rfl
theorem impl_cloneFleet.bits1 : waitsOk impl_cloneFleet.T1.2 impl_cloneFleet.B1 = true := by kernel_rfl
set_option maxHeartbeats 8000000 in
set_option maxRecDepth 100000 in
theorem impl_cloneFleet.calls (A0_0 : Option Addr) (c0_0 : Nat) (l0_0 : List (S44)) (A0_1 : Option Addr) (c0_1 : Nat) (l0_1 : List (S84)) (A0_2 : Option Addr) (c0_2 : Nat) (l0_2 : List (S57)) (a0_3 : Int) (a0_4 : Int) (a0_5 : Int) (r1 : List (S44)) (r2 : List (S84)) (r3 : List (S57)) (r4 : Int) (r5 : Int) (r6 : Int) (w : World) (hr0_0 : Kd.C k44 w A0_0 l0_0.length l0_0) (hc0_0 : l0_0.length ≤ c0_0) (hr0_1 : Kd.C k84 w A0_1 l0_1.length l0_1) (hc0_1 : l0_1.length ≤ c0_1) (hr0_2 : Kd.C k57 w A0_2 l0_2.length l0_2) (hc0_2 : l0_2.length ≤ c0_2) (h : impl_cloneFleet.f l0_0 l0_1 l0_2 a0_3 a0_4 a0_5 = some (r1, r2, r3, r4, r5, r6)) :
  Calls Try.prog 36 #[.agg #[.slice A0_0 l0_0.length c0_0, .slice A0_1 l0_1.length c0_1, .slice A0_2 l0_2.length c0_2, .int .i64 a0_3, .int .i64 a0_4, .int .i64 a0_5]] w fun e w' => ∃ v0_ v1_ v2_ : Value, e = .returned (.agg #[v0_, v1_, v2_, .int .i64 r4, .int .i64 r5, .int .i64 r6]) ∧ Kd.R k44 44 w' w.heap.size (fun _ => True) v0_ r1 ∧ Kd.R k84 84 w' w.heap.size (fun _ => True) v1_ r2 ∧ Kd.R k57 57 w' w.heap.size (fun _ => True) v2_ r3 ∧ Below w.heap.size w w' := by
 have hu30 := Try.underlying30
 have hu28 := Try.underlying28
 have HR0_0 := Aside0.mk hr0_0
 have HC0_0 := Aside0.mk hc0_0
 clear hr0_0 hc0_0
 have HR0_1 := Aside0.mk hr0_1
 have HC0_1 := Aside0.mk hc0_1
 clear hr0_1 hc0_1
 have HR0_2 := Aside0.mk hr0_2
 have HC0_2 := Aside0.mk hc0_2
 clear hr0_2 hc0_2
 have HB := Aside0.mk (Below.refl w.heap.size w)
 have H : ((impl_Task.f l0_0).bind fun t403 => ((impl_Carry.f l0_1).bind fun t406 => ((impl_Defect_77.f l0_2).bind fun t409 => (some (t403, t406, t409, a0_3, a0_4, a0_5))))) = some (r1, r2, r3, r4, r5, r6) := h
 clear h
 replace H := Option.bind_eq_some_iff.mp H
 obtain ⟨t403, A20, H⟩ := H
 replace H : ((impl_Carry.f l0_1).bind fun t406 => ((impl_Defect_77.f l0_2).bind fun t409 => (some (t403, t406, t409, a0_3, a0_4, a0_5)))) = some (r1, r2, r3, r4, r5, r6) := H
 have A2 := Aside0.mk A20
 clear A20
 replace H := Option.bind_eq_some_iff.mp H
 obtain ⟨t406, A30, H⟩ := H
 replace H : ((impl_Defect_77.f l0_2).bind fun t409 => (some (t403, t406, t409, a0_3, a0_4, a0_5))) = some (r1, r2, r3, r4, r5, r6) := H
 have A3 := Aside0.mk A30
 clear A30
 replace H := Option.bind_eq_some_iff.mp H
 obtain ⟨t409, A40, H⟩ := H
 replace H : (some (t403, t406, t409, a0_3, a0_4, a0_5)) = some (r1, r2, r3, r4, r5, r6) := H
 have A4 := Aside0.mk A40
 clear A40
 simp only [Option.some.injEq, Prod.mk.injEq] at H
 obtain ⟨rfl, rfl, rfl, rfl, rfl, rfl⟩ := H
 go_enter Try.func36, Try.ntmps36
 try go_wp2_with (first | ((with_reducible refine gate_dst (N := 1) rfl ?_); refine box_event ?hg (N := 1) ?hd (cs := #[.slice A0_0 l0_0.length c0_0, .slice A0_1 l0_1.length c0_1, .slice A0_2 l0_2.length c0_2, .int .i64 a0_3, .int .i64 a0_4, .int .i64 a0_5]) (t := 30) ?hr ?_; (case hd => rfl); (case hg => rfl); (case hr => first | (go_simp; done) | (go_simp; rfl)); intro gb401 hg w5 hbox hb; have BK401 := Aside0.mk (hbox); have GW401 := Aside0.mk ((by rw [hg]; exact (below_size (bl HB.out)) : w.heap.size ≤ gb401)); have GE401 := GW401; replace HB := Aside0.mk (below_step (bl HB.out) hb); clear hb hbox hg) | ((with_reducible refine gate_dst (N := 2) rfl ?_); refine box_event ?hg (N := 2) ?hd (cs := #[.slice none 0 0, .slice none 0 0, .slice none 0 0, .int .i64 0, .int .i64 0, .int .i64 0]) (t := 30) ?hr ?_; (case hd => rfl); (case hg => rfl); (case hr => first | (go_simp; done) | (go_simp; rfl)); intro gb402 hg w6 hbox hb; have BK402 := Aside0.mk (hbox); have GW402 := Aside0.mk ((by rw [hg]; exact (below_size (by repeat with_reducible first | exact bl HB.out | refine below_set ?_ GE401.out | refine bq ?_)) : w.heap.size ≤ gb402)); have GE402 := GW402; replace HB := Aside0.mk (below_step (by repeat with_reducible first | exact bl HB.out | refine below_set ?_ GE401.out | refine bq ?_) hb); have NB401_402 := nb_ hg BK401.out; have NB402_401 := Aside0.mk NB401_402.out.symm; replace BK401 := Aside0.mk (blk_below (bk BK401.out) hb); clear hb hbox hg))
 have n0_ := Aside0.mk (blk_drew BK401.out)
 have n1_ := Aside0.mk (blk_drew BK402.out)
 have n2_ := Aside0.mk (below_drew1 HB.out)
 clear BK401
 clear BK402
 clear HB
 have BK401 := n0_
 have BK402 := n1_
 have HB := n2_
 clear n0_ n1_ n2_
 refine start_ (n := 13) (S := fun w' => w'.cell? ⟨gb401, 0, none⟩ = some (.slice A0_0 l0_0.length c0_0) ∧ w'.cell? ⟨gb401, 1, none⟩ = some (.slice A0_1 l0_1.length c0_1) ∧ w'.cell? ⟨gb401, 2, none⟩ = some (.slice A0_2 l0_2.length c0_2) ∧ w'.cell? ⟨gb401, 3, none⟩ = some (.int .i64 a0_3) ∧ w'.cell? ⟨gb401, 4, none⟩ = some (.int .i64 a0_4) ∧ w'.cell? ⟨gb401, 5, none⟩ = some (.int .i64 a0_5)) (ds := []) m0_13 (by kernel_rfl) rfl rfl ⟨ck BK401.out 0 rfl, ck BK401.out 1 rfl, ck BK401.out 2 rfl, ck BK401.out 3 rfl, ck BK401.out 4 rfl, ck BK401.out 5 rfl⟩ (fun hHeld => ?_); refine with_tabW impl_cloneFleet.tab1 impl_cloneFleet.bits1 (fun HT_ HW_ => ?_)
 generalize w6.drew = w7 at BK401 BK402 HB hHeld ⊢
 refine pq_ HT_.out 0 3 m1_13 ?_
 refine pq_ HT_.out 3 6 n58 ?_
 refine pq_ HT_.out 6 9 n59 ?_
 refine pq_ HT_.out 9 12 n60 ?_
 refine tk_ HT_.out HW_.out 1 4 n61 rfl rfl (by kernel_rfl) (by rfl) (by rintro w' ⟨s0, s1, s2, s3, s4, s5⟩; go_simp; with_reducible rfl) hHeld (by simp only [sp_]; rfl) (fun _ _ _ h => h) ?_
 refine tk_ HT_.out HW_.out 4 7 n62 rfl rfl (by kernel_rfl) (by rfl) (by rintro w' ⟨s0, s1, s2, s3, s4, s5⟩; go_simp; with_reducible rfl) hHeld (by simp only [sp_]; rfl) (fun _ _ _ h => h) ?_
 refine tk_ HT_.out HW_.out 7 10 n63 rfl rfl (by kernel_rfl) (by rfl) (by rintro w' ⟨s0, s1, s2, s3, s4, s5⟩; go_simp; with_reducible rfl) hHeld (by simp only [sp_]; rfl) (fun _ _ _ h => h) ?_
 refine tk_ HT_.out HW_.out 10 13 n64 rfl rfl (by kernel_rfl) (by rfl) (by rintro w' ⟨s0, s1, s2, s3, s4, s5⟩; go_simp; with_reducible rfl) hHeld (by simp only [sp_]; rfl) (fun _ _ _ h => h) ?_
 refine one_ (i := 2) (N := some 5) n65 rfl rfl (one_of HT_.out (by kernel_rfl)) (by decide) (fun K hK => ?_)
 refine goes_ Try.func75 (by kernel_rfl) rfl #[.slice A0_0 l0_0.length c0_0] (by rfl) rfl rfl (by (try simp only [am_]); first | done | rfl) ?_
 with_reducible refine (impl_Task.calls _ _ l0_0 t403 _ ?side1 ?side2 A2.out).mono ?_
 (case side1 => exact rc (Kd.C_below HR0_0.out HB.out))
 (case side2 => exact HC0_0.out)
 rintro e w8 ⟨v404, rfl, ho0, hb⟩
 refine ⟨_, rfl, ?_⟩
 have n0_ := Aside0.mk (Kd.R_lower ho0 (below_size (by repeat with_reducible first | exact bl HB.out | refine below_set ?_ GE401.out | refine below_set ?_ GE402.out | refine bq ?_)))
 have n1_ := Aside0.mk (blk_below (bk BK401.out) hb)
 have n2_ := Aside0.mk (blk_below (bk BK402.out) hb)
 have n3_ := Aside0.mk (below_step (by repeat with_reducible first | exact bl HB.out | refine below_set ?_ GE401.out | refine below_set ?_ GE402.out | refine bq ?_) hb)
 clear BK401
 clear BK402
 clear HB
 have HO405 := n0_
 have BK401 := n1_
 have BK402 := n2_
 have HB := n3_
 clear n0_ n1_ n2_ n3_
 (try clear hb)
 (try clear hb2)
 (try clear hk)
 (try clear hi)
 (try clear ho0)
 refine hK.out _ _ ⟨ck BK401.out 0 rfl, ck BK401.out 1 rfl, ck BK401.out 2 rfl, ck BK401.out 3 rfl, ck BK401.out 4 rfl, ck BK401.out 5 rfl⟩ (fun hHeld => ?_)
 clear hK K
 refine norm_ (a' := ?_) ?_ ?_
 rotate_left
 ·
  show Act.put _ (some 5) _ = _
  simp only [sp_]
  rfl
 refine one_ (i := 5) (N := some 8) n66 rfl rfl (one_of HT_.out (by kernel_rfl)) (by decide) (fun K hK => ?_)
 refine goes_ Try.func76 (by kernel_rfl) rfl #[.slice A0_1 l0_1.length c0_1] (by rfl) rfl rfl (by (try simp only [am_]); first | done | rfl) ?_
 with_reducible refine (impl_Carry.calls _ _ l0_1 t406 _ ?side1 ?side2 A3.out).mono ?_
 (case side1 => exact rc (Kd.C_below HR0_1.out HB.out))
 (case side2 => exact HC0_1.out)
 rintro e w9 ⟨v407, rfl, ho0, hb⟩
 refine ⟨_, rfl, ?_⟩
 have n0_ := Aside0.mk (Kd.R_below (rl HO405.out) hb)
 have n1_ := Aside0.mk (Kd.R_lower ho0 (below_size (by repeat with_reducible first | exact bl HB.out | refine below_set ?_ GE401.out | refine below_set ?_ GE402.out | refine bq ?_)))
 have n2_ := Aside0.mk (blk_below (bk BK401.out) hb)
 have n3_ := Aside0.mk (blk_below (bk BK402.out) hb)
 have n4_ := Aside0.mk (below_step (by repeat with_reducible first | exact bl HB.out | refine below_set ?_ GE401.out | refine below_set ?_ GE402.out | refine bq ?_) hb)
 clear HO405
 clear BK401
 clear BK402
 clear HB
 have HO405 := n0_
 have HO408 := n1_
 have BK401 := n2_
 have BK402 := n3_
 have HB := n4_
 clear n0_ n1_ n2_ n3_ n4_
 (try clear hb)
 (try clear hb2)
 (try clear hk)
 (try clear hi)
 (try clear ho0)
 refine hK.out _ _ ⟨ck BK401.out 0 rfl, ck BK401.out 1 rfl, ck BK401.out 2 rfl, ck BK401.out 3 rfl, ck BK401.out 4 rfl, ck BK401.out 5 rfl⟩ (fun hHeld => ?_)
 clear hK K
 refine norm_ (a' := ?_) ?_ ?_
 rotate_left
 ·
  show Act.put _ (some 8) _ = _
  simp only [sp_]
  rfl
 refine one_ (i := 8) (N := some 11) m11_13 rfl rfl (one_of HT_.out (by kernel_rfl)) (by decide) (fun K hK => ?_)
 refine goes_ Try.func77 (by kernel_rfl) rfl #[.slice A0_2 l0_2.length c0_2] (by rfl) rfl rfl (by (try simp only [am_]); first | done | rfl) ?_
 with_reducible refine (impl_Defect_77.calls _ _ l0_2 t409 _ ?side1 ?side2 A4.out).mono ?_
 (case side1 => exact rc (Kd.C_below HR0_2.out HB.out))
 (case side2 => exact HC0_2.out)
 rintro e w10 ⟨v410, rfl, ho0, hb⟩
 refine ⟨_, rfl, ?_⟩
 have n0_ := Aside0.mk (Kd.R_below (rl HO405.out) hb)
 have n1_ := Aside0.mk (Kd.R_below (rl HO408.out) hb)
 have n2_ := Aside0.mk (Kd.R_lower ho0 (below_size (by repeat with_reducible first | exact bl HB.out | refine below_set ?_ GE401.out | refine below_set ?_ GE402.out | refine bq ?_)))
 have n3_ := Aside0.mk (blk_below (bk BK401.out) hb)
 have n4_ := Aside0.mk (blk_below (bk BK402.out) hb)
 have n5_ := Aside0.mk (below_step (by repeat with_reducible first | exact bl HB.out | refine below_set ?_ GE401.out | refine below_set ?_ GE402.out | refine bq ?_) hb)
 clear HO405
 clear HO408
 clear BK401
 clear BK402
 clear HB
 have HO405 := n0_
 have HO408 := n1_
 have HO411 := n2_
 have BK401 := n3_
 have BK402 := n4_
 have HB := n5_
 clear n0_ n1_ n2_ n3_ n4_ n5_
 (try clear hb)
 (try clear hb2)
 (try clear hk)
 (try clear hi)
 (try clear ho0)
 obtain ⟨Ao11, co11, eo11⟩ := Kd.R_slice HO411.out
 (first | subst eo11 | (injection eo11 with f1_ f2_ f3_; have f4_ := f1_.symm; have f5_ := f3_.symm; clear f1_ f2_ f3_; subst f4_; subst f5_))
 obtain ⟨Ao12, co12, eo12⟩ := Kd.R_slice HO408.out
 (first | subst eo12 | (injection eo12 with f1_ f2_ f3_; have f4_ := f1_.symm; have f5_ := f3_.symm; clear f1_ f2_ f3_; subst f4_; subst f5_))
 obtain ⟨Ao13, co13, eo13⟩ := Kd.R_slice HO405.out
 (first | subst eo13 | (injection eo13 with f1_ f2_ f3_; have f4_ := f1_.symm; have f5_ := f3_.symm; clear f1_ f2_ f3_; subst f4_; subst f5_))
 refine hK.out _ _ ⟨ck BK401.out 0 rfl, ck BK401.out 1 rfl, ck BK401.out 2 rfl, ck BK401.out 3 rfl, ck BK401.out 4 rfl, ck BK401.out 5 rfl⟩ (fun hHeld => ?_)
 clear hK K
 refine norm_ (a' := ?_) ?_ ?_
 rotate_left
 ·
  show Act.put _ (some 11) _ = _
  simp only [sp_]
  rfl
 refine pq_ HT_.out 11 14 m12_13 ?_
 refine one_ (i := 12) (N := none) m13_13 rfl rfl (one_of HT_.out (by kernel_rfl)) (by decide) (fun K hK => ?_)
 have hs14 : w10.cell? ⟨gb402, 0, none⟩ = some (.slice none 0 0) := ck BK402.out 0 rfl
 have hfs14 := blk_frozen BK402.out 0
 have hns14_0 := NB401_402.out
 have hms14_0 := NB402_401.out
 have hs15 : w10.cell? ⟨gb402, 1, none⟩ = some (.slice none 0 0) := ck BK402.out 1 rfl
 have hfs15 := blk_frozen BK402.out 1
 have hns15_0 := NB401_402.out
 have hms15_0 := NB402_401.out
 have hs16 : w10.cell? ⟨gb402, 2, none⟩ = some (.slice none 0 0) := ck BK402.out 2 rfl
 have hfs16 := blk_frozen BK402.out 2
 have hns16_0 := NB401_402.out
 have hms16_0 := NB402_401.out
 have hs17 : w10.cell? ⟨gb402, 3, none⟩ = some (.int .i64 0) := ck BK402.out 3 rfl
 have hfs17 := blk_frozen BK402.out 3
 have hns17_0 := NB401_402.out
 have hms17_0 := NB402_401.out
 have hs18 : w10.cell? ⟨gb402, 4, none⟩ = some (.int .i64 0) := ck BK402.out 4 rfl
 have hfs18 := blk_frozen BK402.out 4
 have hns18_0 := NB401_402.out
 have hms18_0 := NB402_401.out
 have hs19 : w10.cell? ⟨gb402, 5, none⟩ = some (.int .i64 0) := ck BK402.out 5 rfl
 have hfs19 := blk_frozen BK402.out 5
 have hns19_0 := NB401_402.out
 have hms19_0 := NB402_401.out
 refine skip_ (w1 := ?_) (by rfl) rfl ?_ ?_
 rotate_left
 ·
  go_simp
  rfl
 refine hK.out _ _ ⟨((cell_far (p := ⟨gb402, _, none⟩) NB401_402.out _).trans (((cell_far (p := ⟨gb402, _, none⟩) NB401_402.out _).trans (((cell_far (p := ⟨gb402, _, none⟩) NB401_402.out _).trans (((cell_far (p := ⟨gb402, _, none⟩) NB401_402.out _).trans (((cell_far (p := ⟨gb402, _, none⟩) NB401_402.out _).trans (((cell_far (p := ⟨gb402, _, none⟩) NB401_402.out _).trans (hHeld.1)))))))))))), ((cell_far (p := ⟨gb402, _, none⟩) NB401_402.out _).trans (((cell_far (p := ⟨gb402, _, none⟩) NB401_402.out _).trans (((cell_far (p := ⟨gb402, _, none⟩) NB401_402.out _).trans (((cell_far (p := ⟨gb402, _, none⟩) NB401_402.out _).trans (((cell_far (p := ⟨gb402, _, none⟩) NB401_402.out _).trans (((cell_far (p := ⟨gb402, _, none⟩) NB401_402.out _).trans (hHeld.2.1)))))))))))), ((cell_far (p := ⟨gb402, _, none⟩) NB401_402.out _).trans (((cell_far (p := ⟨gb402, _, none⟩) NB401_402.out _).trans (((cell_far (p := ⟨gb402, _, none⟩) NB401_402.out _).trans (((cell_far (p := ⟨gb402, _, none⟩) NB401_402.out _).trans (((cell_far (p := ⟨gb402, _, none⟩) NB401_402.out _).trans (((cell_far (p := ⟨gb402, _, none⟩) NB401_402.out _).trans (hHeld.2.2.1)))))))))))), ((cell_far (p := ⟨gb402, _, none⟩) NB401_402.out _).trans (((cell_far (p := ⟨gb402, _, none⟩) NB401_402.out _).trans (((cell_far (p := ⟨gb402, _, none⟩) NB401_402.out _).trans (((cell_far (p := ⟨gb402, _, none⟩) NB401_402.out _).trans (((cell_far (p := ⟨gb402, _, none⟩) NB401_402.out _).trans (((cell_far (p := ⟨gb402, _, none⟩) NB401_402.out _).trans (hHeld.2.2.2.1)))))))))))), ((cell_far (p := ⟨gb402, _, none⟩) NB401_402.out _).trans (((cell_far (p := ⟨gb402, _, none⟩) NB401_402.out _).trans (((cell_far (p := ⟨gb402, _, none⟩) NB401_402.out _).trans (((cell_far (p := ⟨gb402, _, none⟩) NB401_402.out _).trans (((cell_far (p := ⟨gb402, _, none⟩) NB401_402.out _).trans (((cell_far (p := ⟨gb402, _, none⟩) NB401_402.out _).trans (hHeld.2.2.2.2.1)))))))))))), ((cell_far (p := ⟨gb402, _, none⟩) NB401_402.out _).trans (((cell_far (p := ⟨gb402, _, none⟩) NB401_402.out _).trans (((cell_far (p := ⟨gb402, _, none⟩) NB401_402.out _).trans (((cell_far (p := ⟨gb402, _, none⟩) NB401_402.out _).trans (((cell_far (p := ⟨gb402, _, none⟩) NB401_402.out _).trans (((cell_far (p := ⟨gb402, _, none⟩) NB401_402.out _).trans (hHeld.2.2.2.2.2))))))))))))⟩ (fun hHeld => ?_)
 clear hK K
 refine done_ (done_of HT_.out (by kernel_rfl)) ?_
 try go_wp2
 refine bodyPost_ret (results_cell_row rfl _ _ gb402 30 #[.slice Ao13 t403.length co13, .slice Ao12 t406.length co12, .slice Ao11 t409.length co11, .int .i64 a0_3, .int .i64 a0_4, .int .i64 a0_5] (0, 0) _ rfl (by (repeat refine bk1 ?_); refine blk_put (cs := #[.slice Ao13 t403.length co13, .slice Ao12 t406.length co12, .slice Ao11 t409.length co11, .int .i64 a0_3, .int .i64 a0_4, .int .i64 0]) ?_ 5 _ rfl; (repeat refine bk1 ?_); refine blk_put (cs := #[.slice Ao13 t403.length co13, .slice Ao12 t406.length co12, .slice Ao11 t409.length co11, .int .i64 a0_3, .int .i64 0, .int .i64 0]) ?_ 4 _ rfl; (repeat refine bk1 ?_); refine blk_put (cs := #[.slice Ao13 t403.length co13, .slice Ao12 t406.length co12, .slice Ao11 t409.length co11, .int .i64 0, .int .i64 0, .int .i64 0]) ?_ 3 _ rfl; (repeat refine bk1 ?_); refine blk_put (cs := #[.slice Ao13 t403.length co13, .slice Ao12 t406.length co12, .slice none 0 0, .int .i64 0, .int .i64 0, .int .i64 0]) ?_ 2 _ rfl; (repeat refine bk1 ?_); refine blk_put (cs := #[.slice Ao13 t403.length co13, .slice none 0 0, .slice none 0 0, .int .i64 0, .int .i64 0, .int .i64 0]) ?_ 1 _ rfl; (repeat refine bk1 ?_); refine blk_put (cs := #[.slice none 0 0, .slice none 0 0, .slice none 0 0, .int .i64 0, .int .i64 0, .int .i64 0]) ?_ 0 _ rfl; (repeat refine bk1 ?_); exact BK402.out) Try.underlying30 rfl (by kernel_rfl)) rfl ?_
 exact ⟨_, _, _, by first | rfl | (simp [errW_none, errW_some] <;> rfl) | (simp [*, errW_none, errW_some] <;> rfl), by (repeat apply rl1); exact Kd.R_mono (Kd.R_far (p := ⟨gb402, 5, none⟩) (Kd.R_far (p := ⟨gb402, 4, none⟩) (Kd.R_far (p := ⟨gb402, 3, none⟩) (Kd.R_far (p := ⟨gb402, 2, none⟩) (Kd.R_far (p := ⟨gb402, 1, none⟩) (Kd.R_far (p := ⟨gb402, 0, none⟩) (Kd.R_types HO405.out BK402.out (by decide)) (fun _ hk => hk.2) (.slice Ao13 t403.length co13)) (fun _ hk => hk.2) (.slice Ao12 t406.length co12)) (fun _ hk => hk.2) (.slice Ao11 t409.length co11)) (fun _ hk => hk.2) (.int .i64 a0_3)) (fun _ hk => hk.2) (.int .i64 a0_4)) (fun _ hk => hk.2) (.int .i64 a0_5)) (fun _ hk => trivial), by (repeat apply rl1); exact Kd.R_mono (Kd.R_far (p := ⟨gb402, 5, none⟩) (Kd.R_far (p := ⟨gb402, 4, none⟩) (Kd.R_far (p := ⟨gb402, 3, none⟩) (Kd.R_far (p := ⟨gb402, 2, none⟩) (Kd.R_far (p := ⟨gb402, 1, none⟩) (Kd.R_far (p := ⟨gb402, 0, none⟩) (Kd.R_types HO408.out BK402.out (by decide)) (fun _ hk => hk.2) (.slice Ao13 t403.length co13)) (fun _ hk => hk.2) (.slice Ao12 t406.length co12)) (fun _ hk => hk.2) (.slice Ao11 t409.length co11)) (fun _ hk => hk.2) (.int .i64 a0_3)) (fun _ hk => hk.2) (.int .i64 a0_4)) (fun _ hk => hk.2) (.int .i64 a0_5)) (fun _ hk => trivial), by (repeat apply rl1); exact Kd.R_mono (Kd.R_far (p := ⟨gb402, 5, none⟩) (Kd.R_far (p := ⟨gb402, 4, none⟩) (Kd.R_far (p := ⟨gb402, 3, none⟩) (Kd.R_far (p := ⟨gb402, 2, none⟩) (Kd.R_far (p := ⟨gb402, 1, none⟩) (Kd.R_far (p := ⟨gb402, 0, none⟩) (Kd.R_types HO411.out BK402.out (by decide)) (fun _ hk => hk.2) (.slice Ao13 t403.length co13)) (fun _ hk => hk.2) (.slice Ao12 t406.length co12)) (fun _ hk => hk.2) (.slice Ao11 t409.length co11)) (fun _ hk => hk.2) (.int .i64 a0_3)) (fun _ hk => hk.2) (.int .i64 a0_4)) (fun _ hk => hk.2) (.int .i64 a0_5)) (fun _ hk => trivial), by repeat with_reducible first | exact bl HB.out | refine below_set ?_ GE401.out | refine below_set ?_ GE402.out | refine bq ?_⟩

-- NOT PRINTED: function 78 (impl_Task_string)

-- NOT PRINTED: function 109 (impl_Defect_int)

-- NOT PRINTED: function 118 (impl_Defect_118)

/- impl_Defect_122: only slices.Insert comes to it, where its contract is told by hand -/

/- impl_Defect_121: only slices.Insert comes to it, where its contract is told by hand -/

/- impl_Defect_119: only slices.Insert comes to it, where its contract is told by hand -/

-- HAND FROM
/-! ### slices.Insert (function 112) (by hand) -/
def impl_Defect_112.f (l0 : List S57) (a1 : Int) (l2 : List S57) : Option (List S57) := if 0 ≤ a1 then if a1 ≤ (l0.length : Int) then if l2.length = 1 then if l0.length ≤ 1000000 then some (l0.take a1.toNat ++ l2 ++ l0.drop a1.toNat) else none else none else none else none
def cellsS57 (l : List S57) : List Value := l.flatMap fun x => [.string x.f0, .int .i64 x.f1, .int .i64 x.f2]
theorem cellsS57_length : ∀ l : List S57, (cellsS57 l).length = l.length * 3
  | [] => rfl
  | x :: l => by simp only [cellsS57, List.flatMap_cons, List.length_append, List.length_cons, List.length_nil]; have := cellsS57_length l; unfold cellsS57 at this; omega
theorem cellsS57_append (a b : List S57) : cellsS57 (a ++ b) = cellsS57 a ++ cellsS57 b := by simp [cellsS57]
theorem cellsS57_take (l : List S57) (i : Nat) (hi : i ≤ l.length) : (cellsS57 l).take (i * 3) = cellsS57 (l.take i) := by
  conv => lhs; rw [← List.take_append_drop i l, cellsS57_append]
  rw [List.take_append_of_le_length (by rw [cellsS57_length, List.length_take]; omega), List.take_of_length_le (by rw [cellsS57_length, List.length_take]; omega)]
theorem cellsS57_drop (l : List S57) (i : Nat) (hi : i ≤ l.length) : (cellsS57 l).drop (i * 3) = cellsS57 (l.drop i) := by
  conv => lhs; rw [← List.take_append_drop i l, cellsS57_append]
  have h : (cellsS57 (l.take i)).length = i * 3 := by rw [cellsS57_length, List.length_take]; omega
  rw [← h, List.drop_left]
theorem cellsS57_one (l : List S57) : ∀ u ∈ cellsS57 l, u.oneCell' = true := by
  intro u hu
  obtain ⟨x, _, hx⟩ := List.mem_flatMap.1 hu
  simp only [List.mem_cons, List.not_mem_nil, or_false] at hx
  rcases hx with rfl | rfl | rfl <;> rfl
theorem cellsS57_reps {w : World} {base : Nat} {ok : Nat → Prop} : ∀ (l : List S57) (cs : List Value), Reps (k57.M w base ok) 3 l cs → cs = cellsS57 l
  | [], cs, h => List.eq_nil_of_length_eq_zero (by have := h.1; simpa using this)
  | x :: l, cs, h => by
    have h0 := k57_openM (h.2 0 x rfl)
    have hl := h.1
    simp only [List.length_cons] at hl
    have ih := cellsS57_reps l (cs.drop 3) ⟨by rw [List.length_drop]; omega, fun j p hj => by
      have := h.2 (j + 1) p (by simpa using hj)
      rwa [show (j + 1) * 3 = 3 + j * 3 by omega, ← List.drop_drop] at this⟩
    rw [Nat.zero_mul, List.drop_zero] at h0
    rw [← List.take_append_drop 3 cs, ih, h0]
    simp [cellsS57]
theorem reps_cellsS57 (w : World) (base : Nat) (ok : Nat → Prop) : ∀ l : List S57, Reps (k57.M w base ok) 3 l (cellsS57 l)
  | [] => Reps.none _ _
  | x :: l => by
    have ih := reps_cellsS57 w base ok l
    refine ⟨cellsS57_length _, fun j p hj => ?_⟩
    cases j with
    | zero =>
      obtain rfl : x = p := by simpa using hj
      have e : ((cellsS57 (x :: l)).drop (0 * 3)).take 3 = [.string x.f0, .int .i64 x.f1, .int .i64 x.f2] := by simp [cellsS57]
      rw [e]
      exact k57_mkM _ _ _ x
    | succ j =>
      have := ih.2 j p (by simpa using hj)
      have e : (cellsS57 (x :: l)).drop ((j + 1) * 3) = (cellsS57 l).drop (j * 3) := by
        rw [show (j + 1) * 3 = 3 + j * 3 by omega, ← List.drop_drop]
        congr 1
      rw [e]
      exact this
theorem ownS57_of {w : World} {base : Nat} {ok : Nat → Prop} {v : Value} {l : List S57} (h : Kd.R k57 57 w base ok v l) : w.ownsRow base 57 3 v l.length (cellsS57 l) := by
  obtain ⟨_, inner, ho, hr⟩ := h
  rw [← cellsS57_reps l inner hr]
  exact ho
theorem R_ownS57 {w : World} {base : Nat} {ok : Nat → Prop} {v : Value} {l : List S57} (h0 : ∀ k, v.ownBlock = some k → ok k) (h : w.ownsRow base 57 3 v l.length (cellsS57 l)) : Kd.R k57 57 w base ok v l :=
  ⟨h0, cellsS57 l, h, reps_cellsS57 _ _ _ l⟩
/-! copy, elements of any size -/
theorem run_copy_many {P : Program} (w : World) (dT sT ty elem : TypeId) (b o dLen dCap : Nat) (a : Addr) (sLen sCap sz : Nat) (cs : List Value)
    (hu : P.underlying dT = some (.slice elem)) (hs : (P.info? elem).map (·.size) = some sz) (hn : cs.length = Nat.min sLen dLen * sz)
    (hsrc : ∀ j v, cs[j]? = some v → w.cell? (a.add j) = some v) (hc : ∀ j, j < cs.length → (w.cell? ⟨b, o + j, none⟩).isSome = true) (hf : ∀ j, j < cs.length → w.frozen? ⟨b, o + j, none⟩ = false) (h1 : ∀ v ∈ cs, v.oneCell' = true) :
    (Builtin.copy_ #[dT, sT] ty #[.slice (some ⟨b, o, none⟩) dLen dCap, .slice (some a) sLen sCap]).run P w = .ok (goInt (Nat.min sLen dLen)) (w.setCells b o cs) := by
  have hl := run_loadCells_list (P := P) w a cs hsrc
  have hst := run_storeCells_cells (P := P) b o cs 0 w (by simpa using hc) (by simpa using hf) h1
  cases hq : P.info? elem with
  | none => simp [hq] at hs
  | some i =>
    have hi : i.size = sz := by simpa [hq] using hs
    simp [Builtin.copy_, run_underlying hu, Builtin.lenOf, Builtin.firstCells, sizeOf, typeInfo, hq, hi, ← hn, hl, hst]
theorem wpList_copy_runH {P : Program} (w : World) {ops : Array Oper} {rest : List Oper} {o : Oper} {a : Act} {Q : Exit → Act → World → Prop} (hgd : o.guard = none) (d s : Operand) (t t' : TypeId)
    (ho : o.op = .call { callee := .builtin .copy, args := #[d, s], argTypes := #[t, t'] }) (v u : Value) (hd : a.eval d = v) (hs : a.eval s = u) {v' : Value} {w' : World}
    (hr : ∀ ty, (Builtin.copy_ #[t, t'] ty #[v, u]).run P w = .ok v' w') (h : wpList P ops Q rest (a.put o.dst v') w') : wpList P ops Q (o :: rest) a w :=
  Kd.event_run hgd (by
    unfold execOp
    simp only [ho, resolve, invoke, builtin, Sem.run_bind, Sem.run_pure, Result.andThen_ok, List.map_toArray, List.map_cons, List.map_nil, hd, hs, hr]) h
theorem step_copy_runH {P : Program} {ops : Array Oper} {o : Oper} {a : Act} {w : World} {K : Act → World → Prop} {Q : Exit → Act → World → Prop} {E : Prop}
    (hg : o.guard = none) (d x : Operand) (dT sT : TypeId) (hop : o.op = Op.call { callee := Callee.builtin Builtin.copy, args := #[d, x], argTypes := #[dT, sT] })
    (v u : Value) (hd : a.eval d = v) (hx : a.eval x = u) {v' : Value} {w' : World} (hr : ∀ ty, (Builtin.copy_ #[dT, sT] ty #[v, u]).run P w = .ok v' w') (hK : K (a.put o.dst v') w') :
    if Region.wanted o (yielded ops a.tmps) = true then Oper.wp P o a w K Q else E := by
  have hw : Region.wanted o (yielded ops a.tmps) = true := by simp [Region.wanted, hg]
  rw [if_pos hw]
  unfold Oper.wp
  simp [execOp, hop, resolve, invoke, builtin, hd, hx, hr, Result.andThen]
  exact hK
theorem infoI57 : (Try.prog.info? 57).map (fun i => (i.zero, i.size, i.bytes)) = some (some (.agg #[.string ByteArray.empty, .int .i64 0, .int .i64 0]), 3, 32) := by kernel_rfl
set_option maxHeartbeats 8000000 in
set_option maxRecDepth 100000 in
theorem insEnd112 (P0_ : Nat → Prop) (u : Value) (l : List S57) (x : S57) (vb vc : Nat) (w0 w : World) (hB : Below w0.heap.size w0 w) (ho0 : Kd.R k57 57 w w0.heap.size P0_ u l) (hl : l.length ≤ 1000000) (hx : ∀ j v, [.string x.f0, .int .i64 x.f1, .int .i64 x.f2][j]? = some v → w.cell? ⟨vb, j, none⟩ = some v) :
    Calls Try.prog 112 #[u, .int .i64 (l.length : Int), .slice (some ⟨vb, 0, none⟩) 1 vc] w fun e w' => ∃ v, e = .returned v ∧ Kd.R k57 57 w' w0.heap.size (fun k_ => P0_ k_ ∨ w.heap.size ≤ k_) v (l ++ [x]) ∧ Below w0.heap.size w0 w' ∧ Kept w w' P0_ := by
  obtain ⟨i0, hi, hz0, hz1, hz2⟩ := info_parts infoI57
  obtain ⟨v', w', hrun, hown, hg, _, hat⟩ := run_append_own_at w w0.heap.size 26 26 57 i0 _ 3 32 Try.underlying26 hi hz0 hz1 hz2 rfl (by decide) u l.length (cellsS57 l) (ownS57_of ho0) ⟨vb, 0, none⟩ 1 vc [.string x.f0, .int .i64 x.f1, .int .i64 x.f2] rfl
    (fun j v hj => by rw [add_plain]; exact hx j v hj) (by simp [Value.oneCell']) (by simp only [maxLen]; omega) (by omega) hB.size
  obtain ⟨A, c, rfl⟩ := Kd.R_slice ho0
  have hrd := Kd.R_reads' ho0
  have hlc : l.length ≤ c := hrd.2.1
  have H1 := Aside0.mk hown
  have H2 := Aside0.mk hg
  have H3 := Aside0.mk hat
  have H4 := Aside0.mk hrun
  have HO := Aside0.mk ho0
  have HB := Aside0.mk hB
  clear hi hz0 hz1 hz2 hown hg hat hrun ho0 hrd hx hB
  go_enter Try.func112, Try.ntmps112
  go_wp2_with (at_builtin; refine Lib.wpList_append_run _ rfl _ _ 26 26 rfl _ _ rfl rfl v' w' H4.out ?_)
  all_goals
    go_ret
    refine ⟨v', rfl, R_ownS57 (fun k hk => ?_) (by rw [List.length_append, cellsS57_append]; exact H1.out), HB.out.grown H2.out HB.out.size (fun k hk => Kd.R_base HO.out k hk), Kept.of_grown H2.out (Kept.refl _ _) (fun k hk => .inl (HO.out.1 k hk))⟩
    rcases H3.out with hat | hat
    · exact .inl (HO.out.1 k (by rw [← hat]; exact hk))
    · rw [hat] at hk; injection hk with hk; exact .inr (by omega)
theorem some_setCells (b : Nat) (vs : List Value) (o : Nat) (w : World) (h : ∀ j, j < vs.length → (w.cell? ⟨b, o + j, none⟩).isSome = true) (k : Nat) (hk : (w.cell? ⟨b, k, none⟩).isSome = true) : ((w.setCells b o vs).cell? ⟨b, k, none⟩).isSome = true := by
  by_cases hin : o ≤ k ∧ k < o + vs.length
  · have := World.cell?_setCells_in b vs o w h (k - o) (by omega)
    rw [show o + (k - o) = k by omega] at this
    rw [this]; rfl
  · rw [World.cell?_setCells_out b vs o w ⟨b, k, none⟩ (fun _ _ => by show k < o ∨ o + vs.length ≤ k; omega)]
    exact hk
set_option maxHeartbeats 8000000 in
set_option maxRecDepth 100000 in
theorem insShift112 (P0_ : Nat → Prop) (b c i : Nat) (l : List S57) (x : S57) (vb vc : Nat) (w0 w : World) (hB : Below w0.heap.size w0 w) (ho0 : Kd.R k57 57 w w0.heap.size P0_ (.slice (some ⟨b, 0, none⟩) l.length c) l) (hl : l.length ≤ 1000000) (hi : i < l.length) (hroom : l.length + 1 ≤ c)
    (hne : vb ≠ b) {curv : Array Value} (hv : w.heap[vb]? = some (.cells curv 57 (0, 0))) (hx : ∀ j v, [.string x.f0, .int .i64 x.f1, .int .i64 x.f2][j]? = some v → w.cell? ⟨vb, j, none⟩ = some v) :
    Calls Try.prog 112 #[.slice (some ⟨b, 0, none⟩) l.length c, .int .i64 (i : Int), .slice (some ⟨vb, 0, none⟩) 1 vc] w fun e w' => ∃ v, e = .returned v ∧ Kd.R k57 57 w' w0.heap.size (fun k_ => P0_ k_ ∨ w.heap.size ≤ k_) v (l.take i ++ [x] ++ l.drop i) ∧ Below w0.heap.size w0 w' ∧ Kept w w' P0_ := by
  have hown := ownS57_of ho0
  obtain ⟨g', cap, cur, he, hbb, hh, hnc, hcm, hcs, ht⟩ := hown.2.resolve_left (by rintro ⟨h, _⟩; cases h)
  injection he with he1 _ he3
  injection he1 with he1
  injection he1 with he1
  subst he1 he3
  unfold maxLen at hcm
  have hP : P0_ b := ho0.1 b rfl
  have hov : ∀ lb cb, (callFunc 118 #[.slice (some ⟨vb, 0, none⟩) 1 vc, .slice (some ⟨b, (i + 1) * 3, none⟩) lb cb]).run Try.prog w = .ok (.value (.bool false)) w := fun lb cb => by
    rw [run_callFunc_extern (fn := Try.f118) rfl (by kernel_rfl) (by kernel_rfl) (by kernel_rfl) (e := Extern.SlicesOverlaps.overlaps #[26, 26] #[4]) (by kernel_rfl),
      Lib.run_overlaps_apart w 26 4 57 Try.underlying26 3 (fun w => by kernel_rfl) ⟨vb, 0, none⟩ ⟨b, (i + 1) * 3, none⟩ 1 vc lb cb hne 57 57 curv.size cur.size (by simp [World.shape?, hv]) (by simp [World.shape?, hh]) (by omega) (blk_frozen hv _) (blk_frozen hv _)]
    rfl
  have hsz : (Try.prog.info? 57).map (·.size) = some 3 := by
    obtain ⟨i0, hi0, h0, h1, h2⟩ := info_parts infoI57
    rw [hi0]; simp [h1]
  have hdl : (cellsS57 (l.drop i)).length = (l.length - i) * 3 := by rw [cellsS57_length, List.length_drop]
  have hcell : ∀ j u, (cellsS57 l)[j]? = some u → w.cell? ⟨b, j, none⟩ = some u := fun j u hj => by
    rw [blk_cell hh, ← Array.getElem?_toList]
    rw [← ht, List.getElem?_take] at hj
    split at hj
    · exact hj
    · cases hj
  have hsome : ∀ j, j < c * 3 → (w.cell? ⟨b, j, none⟩).isSome = true := fun j hj => by rw [blk_cell hh]; simp; omega
  have hcp1 : ∀ dc sc ty, (Builtin.copy_ #[26, 26] ty #[.slice (some ⟨b, (i + 1) * 3, none⟩) (l.length - i) dc, .slice (some ⟨b, i * 3, none⟩) (l.length + 1 - i) sc]).run Try.prog w.drew = .ok (goInt ((l.length - i : Nat) : Int)) (w.drew.setCells b ((i + 1) * 3) (cellsS57 (l.drop i))) := fun dc sc ty => by
    have hm : Nat.min (l.length + 1 - i) (l.length - i) = l.length - i := by simp only [Nat.min_def]; split <;> omega
    have := run_copy_many (P := Try.prog) w.drew 26 26 ty 57 b ((i + 1) * 3) (l.length - i) dc ⟨b, i * 3, none⟩ (l.length + 1 - i) sc 3 (cellsS57 (l.drop i)) Try.underlying26 hsz (by rw [hdl, hm])
      (fun j v hj => by rw [Addr.add_lit]; refine hcell _ v ?_; rw [← cellsS57_drop l i (by omega), List.getElem?_drop] at hj; exact hj)
      (fun j hj => hsome _ (by omega)) (fun j hj => blk_frozen hh _) (cellsS57_one _)
    rw [hm] at this
    exact this
  obtain ⟨cur1, hh1, hs1, ht1⟩ := setCells_row (cellsS57 (l.drop i)) ((i + 1) * 3) w.drew cur hh (by omega)
  have hfar1 : ∀ k, k ≠ b → (w.drew.setCells b ((i + 1) * 3) (cellsS57 (l.drop i))).heap[k]? = w.heap[k]? := fun k hk => setCells_far _ _ k hk
  obtain ⟨e1, e2, e3, e4⟩ := setCells_same b (cellsS57 (l.drop i)) ((i + 1) * 3) w.drew
  generalize w.drew.setCells b ((i + 1) * 3) (cellsS57 (l.drop i)) = W1 at hcp1 hh1 hfar1 e1 e2 e3 e4
  have hv1 : W1.heap[vb]? = some (.cells curv 57 (0, 0)) := (hfar1 vb hne).trans hv
  have hcp2 : ∀ dc ty, (Builtin.copy_ #[26, 26] ty #[.slice (some ⟨b, i * 3, none⟩) (l.length + 1 - i) dc, .slice (some ⟨vb, 0, none⟩) 1 vc]).run Try.prog W1 = .ok (goInt 1) (W1.setCells b (i * 3) [.string x.f0, .int .i64 x.f1, .int .i64 x.f2]) := fun dc ty => by
    have hm : Nat.min 1 (l.length + 1 - i) = 1 := by simp only [Nat.min_def]; split <;> omega
    have := run_copy_many (P := Try.prog) W1 26 26 ty 57 b (i * 3) (l.length + 1 - i) dc ⟨vb, 0, none⟩ 1 vc 3 [.string x.f0, .int .i64 x.f1, .int .i64 x.f2] Try.underlying26 hsz (by rw [hm]; rfl)
      (fun j v hj => by
        rw [add_plain]
        have := hx j v hj
        rw [blk_cell hv] at this
        rw [blk_cell hv1]
        exact this)
      (fun j hj => by rw [blk_cell hh1]; simp only [List.length_cons, List.length_nil] at hj; simp; omega) (fun j hj => blk_frozen hh1 _) (by simp [Value.oneCell'])
    rw [hm] at this
    exact this
  obtain ⟨cur2, hh2, hs2, ht2⟩ := setCells_row [.string x.f0, .int .i64 x.f1, .int .i64 x.f2] (i * 3) W1 cur1 hh1 (by simp only [List.length_cons, List.length_nil]; omega)
  have hfar2 : ∀ k, k ≠ b → (W1.setCells b (i * 3) [.string x.f0, .int .i64 x.f1, .int .i64 x.f2]).heap[k]? = w.heap[k]? := fun k hk => (setCells_far _ _ k hk).trans (hfar1 k hk)
  obtain ⟨f1, f2, f3, f4⟩ := setCells_same b [.string x.f0, .int .i64 x.f1, .int .i64 x.f2] (i * 3) W1
  generalize W1.setCells b (i * 3) [.string x.f0, .int .i64 x.f1, .int .i64 x.f2] = W2 at hcp2 hh2 hfar2 f1 f2 f3 f4
  have hg : w.grownBy W2 (some b) := ⟨f1.trans e1, f2.trans e2, f3.trans e3, by rw [f4, e4]; exact Nat.le_refl _, fun k _ hk => hfar2 k (fun e => hk (by rw [e]))⟩
  have hfin : cur2.toList.take ((l.length + 1) * 3) = cellsS57 (l.take i ++ [x] ++ l.drop i) := by
    have hcl : cur.toList.length = c * 3 := by rw [Array.length_toList, hcs]
    have hA : cur1.toList.take (i * 3) = cellsS57 (l.take i) := by
      rw [ht1, List.append_assoc, List.take_append_of_le_length (by rw [List.length_take]; omega), List.take_take, Nat.min_eq_left (by omega), ← cellsS57_take l i (by omega), ← ht, List.take_take, Nat.min_eq_left (by omega)]
    have hD : (cur1.toList.drop (i * 3 + 3)).take ((l.length - i) * 3) = cellsS57 (l.drop i) := by
      rw [ht1, List.append_assoc, List.drop_append_of_le_length (by rw [List.length_take]; omega), List.drop_of_length_le (by rw [List.length_take]; omega), List.nil_append, ← hdl, List.take_left]
    rw [ht2, cellsS57_append, cellsS57_append, hA, List.append_assoc, List.append_assoc]
    have h1 : (cellsS57 (l.take i)).length = i * 3 := by rw [cellsS57_length, List.length_take]; omega
    rw [List.take_append, List.take_of_length_le (by omega), h1, List.take_append, List.take_of_length_le (show ([.string x.f0, .int .i64 x.f1, .int .i64 x.f2] : List Value).length ≤ _ by show 3 ≤ _; omega)]
    congr 1
    have e : (l.length + 1) * 3 - i * 3 - ([.string x.f0, .int .i64 x.f1, .int .i64 x.f2] : List Value).length = (l.length - i) * 3 := by show (l.length + 1) * 3 - i * 3 - 3 = _; omega
    rw [e]
    have e' : i * 3 + ([.string x.f0, .int .i64 x.f1, .int .i64 x.f2] : List Value).length = i * 3 + 3 := rfl
    rw [e', hD]
    rfl
  have hlen : (l.take i ++ [x] ++ l.drop i).length = l.length + 1 := by simp; omega
  have hres : W2.ownsRow w0.heap.size 57 3 (.slice (some ⟨b, 0, none⟩) (l.length + 1) c) (l.take i ++ [x] ++ l.drop i).length (cellsS57 (l.take i ++ [x] ++ l.drop i)) :=
    ⟨cellsS57_length _, .inr ⟨b, c, cur2, by rw [hlen], hbb, hh2, by omega, by unfold maxLen; omega, by omega, by rw [hlen]; exact hfin⟩⟩
  have HG := Aside0.mk hg
  have HR := Aside0.mk hres
  have HB := Aside0.mk hB
  have HC1 := Aside0.mk hcp1
  have HC2 := Aside0.mk hcp2
  have hci : ¬ c = i := by omega
  have hci1 : ¬ c = i + 1 := by omega
  have hni : ¬ ((i : Int) = (l.length : Int)) := by omega
  clear hg hres hB hcp1 hcp2 hfin hlen hh2 hh1 ht1 ht2 hs1 hs2 hfar1 hfar2 e1 e2 e3 e4 f1 f2 f3 f4 hv1 hcell hsome hdl hsz hown ht hcs hh ho0 hv hx
  go_enter Try.func112, Try.ntmps112
  go_wp2_with (simp only [hov])
  have hw1 : IntKind.i64.wrap ((i : Int) + 1) = (i : Int) + 1 := by rw [IntKind.wrap_i64]; omega
  have hb1 : (0 : Int) ≤ (i : Int) + 1 := by omega
  have htn : ((i : Int) + 1).toNat = i + 1 := by omega
  have hin : i ≤ l.length := by omega
  have hb3 : (i : Int) ≤ (l.length : Int) + 1 := by omega
  go_region_law (refine step_copy_runH rfl (.tmp 73) (.tmp 76) 26 26 rfl (.slice (some ⟨b, (i + 1) * 3, none⟩) (l.length - i) (c - (i + 1))) (.slice (some ⟨b, i * 3, none⟩) (l.length + 1 - i) (c - i)) (by simp [Act.eval, Act.put]) (by simp [Act.eval, Act.put]) (HC1.out _ _) ?_)
  go_wp2_with (with_reducible refine wpList_copy_runH _ rfl (.tmp 80) (.tmp 81) 26 26 rfl (.slice (some ⟨b, i * 3, none⟩) (l.length + 1 - i) (c - i)) (.slice (some ⟨vb, 0, none⟩) 1 vc) (by simp [Act.eval, Act.put]) (by simp [Act.eval, Act.put]) (HC2.out _) ?_)
  go_ret
  exact ⟨_, rfl, R_ownS57 (fun k hk => .inl (by injection hk with hk; subst hk; exact hP)) HR.out, HB.out.grown HG.out HB.out.size (fun k hk => by injection hk with hk; subst hk; exact hbb), Kept.of_grown HG.out (Kept.refl _ _) (fun k hk => .inl (by injection hk with hk; subst hk; exact hP))⟩
set_option maxHeartbeats 8000000 in
set_option maxRecDepth 100000 in
theorem insGrow112 (P0_ : Nat → Prop) (b c i : Nat) (l : List S57) (x : S57) (vb vc : Nat) (w0 w : World) (hB : Below w0.heap.size w0 w) (ho0 : Kd.R k57 57 w w0.heap.size P0_ (.slice (some ⟨b, 0, none⟩) l.length c) l) (hl : l.length ≤ 1000000) (hi : i < l.length) (hroom : c < l.length + 1)
    {curv : Array Value} (hv : w.heap[vb]? = some (.cells curv 57 (0, 0))) (hx : ∀ j v, [.string x.f0, .int .i64 x.f1, .int .i64 x.f2][j]? = some v → w.cell? ⟨vb, j, none⟩ = some v) :
    Calls Try.prog 112 #[.slice (some ⟨b, 0, none⟩) l.length c, .int .i64 (i : Int), .slice (some ⟨vb, 0, none⟩) 1 vc] w fun e w' => ∃ v, e = .returned v ∧ Kd.R k57 57 w' w0.heap.size (fun k_ => P0_ k_ ∨ w.heap.size ≤ k_) v (l.take i ++ [x] ++ l.drop i) ∧ Below w0.heap.size w0 w' ∧ Kept w w' P0_ := by
  have hown := ownS57_of ho0
  obtain ⟨g', cap, cur, he, hbb, hh, hnc, hcm, hcs, ht⟩ := hown.2.resolve_left (by rintro ⟨h, _⟩; cases h)
  injection he with he1 _ he3
  injection he1 with he1
  injection he1 with he1
  subst he1 he3
  have hcell : ∀ j u, (cellsS57 l)[j]? = some u → w.cell? ⟨b, j, none⟩ = some u := fun j u hj => by
    rw [blk_cell hh, ← Array.getElem?_toList]
    rw [← ht, List.getElem?_take] at hj
    split at hj
    · exact hj
    · cases hj
  obtain ⟨i0, hi0, hz0, hz1, hz2⟩ := info_parts infoI57
  have hsz : (Try.prog.info? 57).map (·.size) = some 3 := by rw [hi0]; simp [hz1]
  have hold : (Builtin.firstCells i0.size i (.slice (some ⟨b, 0, none⟩) i c)).run Try.prog w.drew = .ok (cellsS57 (l.take i)).toArray w.drew := by
    rw [hz1]
    exact run_firstCells_some w.drew 3 i ⟨b, 0, none⟩ i c (cellsS57 (l.take i)) (by rw [cellsS57_length, List.length_take]; omega) (fun j v hj => by
      rw [add_plain]
      rw [← cellsS57_take l i (by omega), List.getElem?_take] at hj
      split at hj
      · exact hcell j v hj
      · cases hj)
  have hrz : ∀ ty, (Builtin.append_ #[26, 3] ty #[.slice (some ⟨b, 0, none⟩) i c, .int .i64 ((l.length : Int) + 1 - (i : Int))]).run Try.prog w =
      .ok (.slice (some ⟨w.heap.size, 0, none⟩) (l.length + 1) (grownCap w (l.length + 1) c 57)) (w.drew.alloc (.cells ((cellsS57 (l.take i)).toArray ++ Builtin.zeroCells (Value.agg #[.string ByteArray.empty, .int .i64 0, .int .i64 0]).cells (l.length + 1 - i) ++ Builtin.zeroCells (Value.agg #[.string ByteArray.empty, .int .i64 0, .int .i64 0]).cells (grownCap w (l.length + 1) c 57 - (l.length + 1))) 57)) := fun ty => by
    have hik : i + (l.length + 1 - i) = l.length + 1 := by omega
    have h := Lib.run_append_grow_zeros w 26 3 ty 57 i0 _ .i64 .i64 Try.underlying26 Try.underlying3 hi0 hz0 (some ⟨b, 0, none⟩) i c (cellsS57 (l.take i)) hold (l.length + 1 - i) (by omega) (by omega) (by omega) (by omega) (by rw [hz2]; omega) (by rw [hz2, hik]; exact growslice_fits hroom (by omega))
    rw [hik] at h
    rw [show (l.length : Int) + 1 - (i : Int) = ((l.length + 1 - i : Nat) : Int) by omega]
    exact h
  have hGn : l.length + 1 ≤ grownCap w (l.length + 1) c 57 := grownCap_ge w _ _ _
  have hG63 : grownCap w (l.length + 1) c 57 ≤ 9223372036854775807 := by
    have := grownCap_le_maxLen w (l.length + 1) c 57 (by unfold maxLen; omega)
    unfold maxLen at this
    omega
  generalize grownCap w (l.length + 1) c 57 = G at hrz hGn hG63
  obtain ⟨ROW, hROW⟩ : ∃ ROW : Array Value, ROW = (cellsS57 (l.take i)).toArray ++ Builtin.zeroCells (Value.agg #[.string ByteArray.empty, .int .i64 0, .int .i64 0]).cells (l.length + 1 - i) ++ Builtin.zeroCells (Value.agg #[.string ByteArray.empty, .int .i64 0, .int .i64 0]).cells (G - (l.length + 1)) := ⟨_, rfl⟩
  rw [← hROW] at hrz
  have htl : (cellsS57 (l.take i)).length = i * 3 := by rw [cellsS57_length, List.length_take]; omega
  have hRs : ROW.size = G * 3 := by
    rw [hROW, Array.size_append, Array.size_append, size_zeroCells, size_zeroCells, List.size_toArray, htl]
    show i * 3 + (l.length + 1 - i) * 3 + (G - (l.length + 1)) * 3 = G * 3
    omega
  have hRt : ROW.toList.take (i * 3) = cellsS57 (l.take i) := by
    rw [hROW, Array.toList_append, Array.toList_append, List.append_assoc, ← htl, List.take_left]
  have hdl : (cellsS57 (l.drop i)).length = (l.length - i) * 3 := by rw [cellsS57_length, List.length_drop]
  have hbw : b < w.heap.size := blk_lt hh
  have hvw : vb < w.heap.size := blk_lt hv
  obtain ⟨H, hH⟩ : ∃ H, H = w.heap.size := ⟨_, rfl⟩
  have hB1 : Below w.heap.size w (w.drew.alloc (.cells ROW 57)) := below_alloc (w := w) (W := w.drew) (below_drew (Below.refl _ _)) _
  have hW1 : (w.drew.alloc (.cells ROW 57)).heap[H]? = some (.cells ROW 57 (0, 0)) := by rw [hH]; exact blk_new w.drew _
  generalize w.drew.alloc (.cells ROW 57) = W1 at hrz hB1 hW1
  rw [← hH] at hrz
  have hvW1 : W1.heap[vb]? = some (.cells curv 57 (0, 0)) := blk_below hv hB1
  have hcpA : ∀ dc ty, (Builtin.copy_ #[26, 26] ty #[.slice (some ⟨H, i * 3, none⟩) (l.length + 1 - i) dc, .slice (some ⟨vb, 0, none⟩) 1 vc]).run Try.prog W1 = .ok (goInt 1) (W1.setCells H (i * 3) [.string x.f0, .int .i64 x.f1, .int .i64 x.f2]) := fun dc ty => by
    have hm : Nat.min 1 (l.length + 1 - i) = 1 := by simp only [Nat.min_def]; split <;> omega
    have := run_copy_many (P := Try.prog) W1 26 26 ty 57 H (i * 3) (l.length + 1 - i) dc ⟨vb, 0, none⟩ 1 vc 3 [.string x.f0, .int .i64 x.f1, .int .i64 x.f2] Try.underlying26 hsz (by rw [hm]; rfl)
      (fun j v hj => by
        rw [add_plain]
        have := hx j v hj
        rw [blk_cell hv] at this
        rw [blk_cell hvW1]
        exact this)
      (fun j hj => by rw [blk_cell hW1]; simp only [List.length_cons, List.length_nil] at hj; simp; omega) (fun j hj => blk_frozen hW1 _) (by simp [Value.oneCell'])
    rw [hm] at this
    exact this
  obtain ⟨cur1, hh1, hs1, ht1⟩ := setCells_row [.string x.f0, .int .i64 x.f1, .int .i64 x.f2] (i * 3) W1 ROW hW1 (by simp only [List.length_cons, List.length_nil]; omega)
  have hfar1 : ∀ k, k ≠ H → (W1.setCells H (i * 3) [.string x.f0, .int .i64 x.f1, .int .i64 x.f2]).heap[k]? = W1.heap[k]? := fun k hk => setCells_far _ _ k hk
  obtain ⟨e1, e2, e3, e4⟩ := setCells_same H [.string x.f0, .int .i64 x.f1, .int .i64 x.f2] (i * 3) W1
  generalize W1.setCells H (i * 3) [.string x.f0, .int .i64 x.f1, .int .i64 x.f2] = W2 at hcpA hh1 hfar1 e1 e2 e3 e4
  have hbN : b ≠ H := by omega
  have hbW2 : W2.heap[b]? = some (.cells cur 57 (0, 0)) := (hfar1 b hbN).trans (blk_below hh hB1)
  have hcpB : ∀ dc sc ty, (Builtin.copy_ #[26, 26] ty #[.slice (some ⟨H, (i + 1) * 3, none⟩) (l.length - i) dc, .slice (some ⟨b, i * 3, none⟩) (l.length - i) sc]).run Try.prog W2.drew = .ok (goInt ((l.length - i : Nat) : Int)) (W2.drew.setCells H ((i + 1) * 3) (cellsS57 (l.drop i))) := fun dc sc ty => by
    have hm : Nat.min (l.length - i) (l.length - i) = l.length - i := Nat.min_self _
    have := run_copy_many (P := Try.prog) W2.drew 26 26 ty 57 H ((i + 1) * 3) (l.length - i) dc ⟨b, i * 3, none⟩ (l.length - i) sc 3 (cellsS57 (l.drop i)) Try.underlying26 hsz (by rw [hdl, hm])
      (fun j v hj => by
        rw [Addr.add_lit]
        rw [← cellsS57_drop l i (by omega), List.getElem?_drop] at hj
        have := hcell _ v hj
        rw [blk_cell hh] at this
        rw [blk_cell (w := W2.drew) hbW2]
        exact this)
      (fun j hj => by rw [blk_cell (w := W2.drew) hh1]; simp; omega) (fun j hj => blk_frozen (w := W2.drew) hh1 _) (cellsS57_one _)
    rw [hm] at this
    exact this
  obtain ⟨cur2, hh2, hs2, ht2⟩ := setCells_row (cellsS57 (l.drop i)) ((i + 1) * 3) W2.drew cur1 hh1 (by omega)
  have hfar2 : ∀ k, k ≠ H → (W2.drew.setCells H ((i + 1) * 3) (cellsS57 (l.drop i))).heap[k]? = W1.heap[k]? := fun k hk => (setCells_far _ _ k hk).trans (hfar1 k hk)
  obtain ⟨f1, f2, f3, f4⟩ := setCells_same H (cellsS57 (l.drop i)) ((i + 1) * 3) W2.drew
  generalize W2.drew.setCells H ((i + 1) * 3) (cellsS57 (l.drop i)) = W3 at hcpB hh2 hfar2 f1 f2 f3 f4
  have hBF : Below w.heap.size w W3 := ⟨f1.trans (e1.trans hB1.os), f2.trans (e2.trans hB1.tape), f3.trans (e3.trans hB1.output), by rw [f4]; exact Nat.le_trans hB1.size (Nat.le_of_eq e4.symm), fun k hk => (hfar2 k (by omega)).trans (hB1.block k hk)⟩
  have hfin : cur2.toList.take ((l.length + 1) * 3) = cellsS57 (l.take i ++ [x] ++ l.drop i) := by
    have hA : cur1.toList.take ((i + 1) * 3) = cellsS57 (l.take i) ++ [.string x.f0, .int .i64 x.f1, .int .i64 x.f2] := by
      rw [ht1, hRt, List.append_assoc, ← List.append_assoc]
      have : (cellsS57 (l.take i) ++ ([.string x.f0, .int .i64 x.f1, .int .i64 x.f2] : List Value)).length = (i + 1) * 3 := by rw [List.length_append, htl]; show i * 3 + 3 = _; omega
      rw [← this, List.take_left]
    rw [ht2, hA, cellsS57_append, cellsS57_append]
    have : (cellsS57 (l.take i) ++ ([.string x.f0, .int .i64 x.f1, .int .i64 x.f2] : List Value) ++ cellsS57 (l.drop i)).length = (l.length + 1) * 3 := by rw [List.length_append, List.length_append, htl, hdl]; show i * 3 + 3 + _ = _; omega
    rw [← this, List.take_left]
    rfl
  have hlen : (l.take i ++ [x] ++ l.drop i).length = l.length + 1 := by simp; omega
  have hres : W3.ownsRow w0.heap.size 57 3 (.slice (some ⟨H, 0, none⟩) (l.length + 1) G) (l.take i ++ [x] ++ l.drop i).length (cellsS57 (l.take i ++ [x] ++ l.drop i)) :=
    ⟨cellsS57_length _, .inr ⟨H, G, cur2, by rw [hlen], by rw [hH]; exact hB.size, hh2, by omega, by unfold maxLen; omega, by omega, by rw [hlen]; exact hfin⟩⟩
  have HG := Aside0.mk hBF
  have HR := Aside0.mk hres
  have HB := Aside0.mk hB
  have HC0 := Aside0.mk hrz
  have HC1 := Aside0.mk hcpA
  have HC2 := Aside0.mk hcpB
  have HH := Aside0.mk hH
  have hGi : ¬ G = i := by omega
  have hGi1 : ¬ G = i + 1 := by omega
  have hci : ¬ c = i := by omega
  have hni : ¬ ((i : Int) = (l.length : Int)) := by omega
  have hz3 : (c : Int) < (l.length : Int) + 1 := by omega
  clear hBF hres hB hrz hcpA hcpB hfin hlen hh2 hh1 ht1 ht2 hs1 hs2 hfar1 hfar2 e1 e2 e3 e4 f1 f2 f3 f4 hcell hdl hsz hown ht hcs hh ho0 hv hx hH hbw hvw hW1 hB1 hvW1 hbW2 htl hRt hRs hROW hold hi0 hz0 hz1 hz2 hcm
  go_enter Try.func112, Try.ntmps112
  go_wp2_with (first
    | (at_builtin; refine Lib.wpList_append_run _ rfl (.tmp 34) (.tmp 39) 26 3 rfl (.slice (some ⟨b, 0, none⟩) i c) (.int .i64 ((l.length : Int) + 1 - (i : Int))) (by simp [Act.eval, Act.put]) (by simp [Act.eval, Act.put]) _ _ (HC0.out _) ?_)
    | (with_reducible refine wpList_copy_runH _ rfl (.tmp 43) (.tmp 44) 26 26 rfl (.slice (some ⟨H, i * 3, none⟩) (l.length + 1 - i) (G - i)) (.slice (some ⟨vb, 0, none⟩) 1 vc) (by simp [Act.eval, Act.put]) (by simp [Act.eval, Act.put]) (HC1.out _) ?_))
  have hw1 : IntKind.i64.wrap ((i : Int) + 1) = (i : Int) + 1 := by rw [IntKind.wrap_i64]; omega
  have hb1 : (0 : Int) ≤ (i : Int) + 1 := by omega
  have htn : ((i : Int) + 1).toNat = i + 1 := by omega
  have hin : i ≤ l.length := by omega
  have hb3 : (i : Int) ≤ (l.length : Int) + 1 := by omega
  go_region_law (refine step_copy_runH rfl (.tmp 50) (.tmp 53) 26 26 rfl (.slice (some ⟨H, (i + 1) * 3, none⟩) (l.length - i) (G - (i + 1))) (.slice (some ⟨b, i * 3, none⟩) (l.length - i) (c - i)) (by simp [Act.eval, Act.put]) (by simp [Act.eval, Act.put]) (HC2.out _ _) ?_)
  go_wp2
  go_ret
  exact ⟨_, rfl, R_ownS57 (fun k hk => .inr (by injection hk with hk; subst hk; exact Nat.le_of_eq HH.out.symm)) HR.out, below_step HB.out HG.out, Kept.of_below HG.out _⟩
theorem impl_Defect_112.calls (P0_ : Nat → Prop) (u9000_ : Value) (l0 : List S57) (a1 : Int) (P2_ : Nat → Prop) (u9002_ : Value) (l2 : List S57) (r : List S57) (w0 w : World) (hB : Below w0.heap.size w0 w) (ho0 : Kd.R k57 57 w w0.heap.size P0_ u9000_ l0) (hap0 : ∀ k_, P0_ k_ → ¬ P2_ k_) (ho2 : Kd.R k57 57 w w0.heap.size P2_ u9002_ l2) (hap2 : ∀ k_, P2_ k_ → ¬ P0_ k_) (h : impl_Defect_112.f l0 a1 l2 = some r) :
    Calls Try.prog 112 #[u9000_, .int .i64 a1, u9002_] w fun e w' => ∃ v, e = .returned v ∧ Kd.R k57 57 w' w0.heap.size (fun k_ => (P0_ k_ ∨ P2_ k_) ∨ w.heap.size ≤ k_) v r ∧ Below w0.heap.size w0 w' ∧ Kept w w' (fun k_ => P0_ k_ ∨ P2_ k_) := by
  unfold impl_Defect_112.f at h
  by_cases h1 : 0 ≤ a1
  · rw [if_pos h1] at h
    by_cases h2 : a1 ≤ (l0.length : Int)
    · rw [if_pos h2] at h
      by_cases h3 : l2.length = 1
      · rw [if_pos h3] at h
        by_cases h4 : l0.length ≤ 1000000
        · rw [if_pos h4] at h
          obtain rfl := Option.some.inj h
          obtain ⟨i, rfl⟩ := Int.eq_ofNat_of_zero_le h1
          obtain ⟨x, rfl⟩ := List.length_eq_one_iff.1 h3
          obtain ⟨vb, vc, rfl, hvb, hvl, curv, hv⟩ := Kd.R_form ho2 (by simp)
          have hP2 : P2_ vb := ho2.1 vb rfl
          have hx : ∀ j v, [.string x.f0, .int .i64 x.f1, .int .i64 x.f2][j]? = some v → w.cell? ⟨vb, j, none⟩ = some v := fun j v hj => by
            have := (ownS57_of ho2).cells (g := vb) rfl j v (by simpa [cellsS57] using hj)
            rwa [add_plain] at this
          rw [Int.toNat_natCast]
          have fin : ∀ {v : Value} {w' : World} {rr : List S57}, Kd.R k57 57 w' w0.heap.size (fun k_ => P0_ k_ ∨ w.heap.size ≤ k_) v rr → Kd.R k57 57 w' w0.heap.size (fun k_ => (P0_ k_ ∨ P2_ k_) ∨ w.heap.size ≤ k_) v rr := fun h => Kd.R_mono h (fun _ hk => hk.elim (fun h => .inl (.inl h)) .inr)
          by_cases h5 : i = l0.length
          · subst h5
            rw [List.take_length, List.drop_length, List.append_nil]
            exact (insEnd112 P0_ u9000_ l0 x vb vc w0 w hB ho0 h4 hx).mono fun _ _ ⟨v, e, hr, hb, hk⟩ => ⟨v, e, fin hr, hb, hk.mono (fun _ hk => .inl hk)⟩
          · obtain ⟨b, c, rfl, hbb, hbl, curb, hb⟩ := Kd.R_form ho0 (by omega)
            have hne : vb ≠ b := fun e => hap0 b (ho0.1 b rfl) (e ▸ hP2)
            by_cases h6 : l0.length + 1 ≤ c
            · exact (insShift112 P0_ b c i l0 x vb vc w0 w hB ho0 h4 (by omega) h6 hne hv hx).mono fun _ _ ⟨v, e, hr, hb, hk⟩ => ⟨v, e, fin hr, hb, hk.mono (fun _ hk => .inl hk)⟩
            · exact (insGrow112 P0_ b c i l0 x vb vc w0 w hB ho0 h4 (by omega) (by omega) hv hx).mono fun _ _ ⟨v, e, hr, hb, hk⟩ => ⟨v, e, fin hr, hb, hk.mono (fun _ hk => .inl hk)⟩
        · rw [if_neg h4] at h
          exact absurd h (by simp)
      · rw [if_neg h3] at h
        exact absurd h (by simp)
    · rw [if_neg h2] at h
      exact absurd h (by simp)
  · rw [if_neg h1] at h
    exact absurd h (by simp)
-- HAND TO

/- impl_Fleet_find: told with (*Fleet).do -/

end Go.Proofs.Ytdimdlifjdbgnaa.PFnReleased
