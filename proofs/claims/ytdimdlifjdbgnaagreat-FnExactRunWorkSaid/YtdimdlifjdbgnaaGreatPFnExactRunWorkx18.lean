import Derived.Test.YtdimdlifjdbgnaaGreatPFnExactRunWorkx17
namespace Go.Proofs.YtdimdlifjdbgnaaGreat.PFnExactRunWork
open Go.RowKit Go.Proofs.YtdimdlifjdbgnaaGreatW.PrintWords Go.Proofs.YtdimdlifjdbgnaaGreatW.PrintLast Go.Proofs.YtdimdlifjdbgnaaGreatW.PrintMore Go.Proofs.YtdimdlifjdbgnaaGreat.Sq
attribute [local go_sem] max2_int min2_int max_two min_two max_three min_three max_four min_four
set_option linter.unusedVariables false
set_option linter.unusedSimpArgs false

-- HAND FROM
open Go.Proofs.YtdimdlifjdbgnaaGreat.Base Go.Proofs.YtdimdlifjdbgnaaGreat.Sq
/-! #### Carrys -/
def cmarks (k0 : Int) (n : Nat) : List S88 := (List.range n).map fun i : Nat => ⟨mtx (k0 + 3 * (i : Int)), wk 1 (k0 + 3 * (i : Int)), wk 2 (k0 + 3 * (i : Int))⟩
theorem cmarks_length (k0 : Int) (n : Nat) : (cmarks k0 n).length = n := by simp [cmarks]
theorem cmarks_get {k0 : Int} {n i : Nat} (h : i < n) : rd_T88 (cmarks k0 n) (i : Int) = ⟨mtx (k0 + 3 * (i : Int)), wk 1 (k0 + 3 * (i : Int)), wk 2 (k0 + 3 * (i : Int))⟩ := by simp [rd_T88, cmarks, List.getD_eq_getElem?_getD, h]
theorem cmarks_set {k0 : Int} {xs : List S88} {i : Nat} (h : i < xs.length) : (cmarks k0 i ++ xs.drop i).set i ⟨mtx (k0 + 3 * (i : Int)), wk 1 (k0 + 3 * (i : Int)), wk 2 (k0 + 3 * (i : Int))⟩ = cmarks k0 (i + 1) ++ xs.drop (i + 1) := by
  rw [List.set_append, if_neg (by rw [cmarks_length]; omega), cmarks_length, Nat.sub_self, List.drop_eq_getElem_cons h, List.set_cons_zero]
  simp [cmarks, List.range_succ]
set_option maxHeartbeats 4000000 in
theorem cmark_t (P0 : Nat → Prop) (u : Value) (l : List S88) (k0 : Int) (w0 w : World) (hB : Below w0.heap.size w0 w) (ho : Kd.R k88 88 w w0.heap.size P0 u l) (h0 : 0 < k0) (h1 : k0 ≤ 1125899906842624) (hn : l.length ≤ 140737488355328) :
    Calls Tryz.prog 37 #[u, .int .i64 k0] w fun e w' => e = .returned (.int .i64 (k0 + 3 * (l.length : Int))) ∧ Mk k88 88 w0 w w' P0 u (cmarks k0 l.length) := by
  obtain ⟨A, c, rfl⟩ := Kd.R_slice ho
  have H := Aside0.mk (show Mk k88 88 w0 w w P0 (.slice A l.length c) l from ⟨Kd.R_mono ho fun k hk => .inl hk, Kept.refl w P0, hB⟩)
  clear hB ho
  go_enter Tryz.func37, Tryz.ntmps37
  go_wp2
  go_loopw [1, 5] (fun v1 v5 wr => ∃ i : Nat, i ≤ l.length ∧ v1 = .int .i64 (k0 + 3 * (i : Int)) ∧ v5 = .int .i64 i ∧ Aside0 (Mk k88 88 w0 w wr P0 (.slice A l.length c) (cmarks k0 i ++ l.drop i))) (fun _ v5 _ => l.length - (intOf v5).toNat)
  case atStart => exact ⟨0, Nat.zero_le _, by simp, rfl, H⟩
  case round =>
    clear H
    obtain ⟨i, hi, rfl, rfl, H⟩ := hrel
    by_cases hlt : i < l.length
    · have hl : (cmarks k0 i ++ l.drop i).length = l.length := by rw [List.length_append, cmarks_length, List.length_drop]; omega
      obtain ⟨go, cap, e0, -⟩ := Kd.R_form H.out.r (by omega)
      injection e0 with e1 e2 e3
      subst e1
      clear e2 e3
      obtain ⟨ys, hys⟩ : ∃ ys, ys = cmarks k0 i ++ l.drop i := ⟨_, rfl⟩
      rw [← hys] at H hl
      have hiy : i < ys.length := by omega
      obtain ⟨X, hX⟩ : ∃ X, X = ys[i] := ⟨_, rfl⟩
      have H := Aside0.mk (show Mk k88 88 w0 w wr P0 (.slice (some ⟨go, 0, none⟩) l.length c) (ys.set i X) from by rw [hX, List.set_getElem_self]; exact H.out)
      have HYS := Aside0.mk hys
      clear hys hX
      obtain ⟨K0, e0⟩ : ∃ K0, k0 + 3 * (i : Int) = K0 := ⟨_, rfl⟩
      obtain ⟨k, hk⟩ := mark_get (K0) (by omega) (by omega)
      have KT := Aside0.mk (fun w' => laws_markText.calls k (K0) (mtx (K0)) w' hk)
      have EK := Aside0.mk e0
      rw [e0]
      clear hk e0
      go_wp2_with (first | (go_at_call 39; (with_reducible refine (KT.out _).mono ?_); rintro e w10 ⟨rfl, hb⟩; replace H := Aside0.mk (H.out.up hb); clear hb) | ((with_reducible refine gate_store (t := 9) (p := 17) rfl ?_); refine mst_ (fun x : S88 => [.string x.f0, .int .i64 x.f1, .int .i64 x.f2]) z88 k88_openM (fun _ _ _ x => k88_mkM _ _ _ x) i 0 (.string (mtx (K0))) ⟨mtx (K0), X.f1, X.f2⟩ H.out hiy (by decide) rfl rfl rfl ?_ ?h2; (case h2 => rintro ⟨old, hc⟩ hf; simp only [show k88.sz = 3 from rfl, Nat.add_zero, wk] at hc hf ⊢; (first | (go_simp; done) | (go_simp; rfl))); clear H; intro w10 h; have H := Aside0.mk h; clear h) | ((with_reducible refine gate_store (t := 3) (p := 24) rfl ?_); refine mst_ (fun x : S88 => [.string x.f0, .int .i64 x.f1, .int .i64 x.f2]) z88 k88_openM (fun _ _ _ x => k88_mkM _ _ _ x) i 1 (.int .i64 (wk 1 K0)) ⟨mtx (K0), wk 1 K0, X.f2⟩ H.out hiy (by decide) rfl rfl rfl ?_ ?h2; (case h2 => rintro ⟨old, hc⟩ hf; simp only [show k88.sz = 3 from rfl, Nat.add_zero, wk] at hc hf ⊢; (first | (go_simp; done) | (go_simp; rfl))); clear H; intro w10 h; have H := Aside0.mk h; clear h) | ((with_reducible refine gate_store (t := 3) (p := 31) rfl ?_); refine mst_ (fun x : S88 => [.string x.f0, .int .i64 x.f1, .int .i64 x.f2]) z88 k88_openM (fun _ _ _ x => k88_mkM _ _ _ x) i 2 (.int .i64 (wk 2 K0)) ⟨mtx (K0), wk 1 K0, wk 2 K0⟩ H.out hiy (by decide) rfl rfl rfl ?_ ?h2; (case h2 => rintro ⟨old, hc⟩ hf; simp only [show k88.sz = 3 from rfl, Nat.add_zero, wk] at hc hf ⊢; (first | (go_simp; done) | (go_simp; rfl))); clear H; intro w10 h; have H := Aside0.mk h; clear h))
      go_roundw
      case measure => simp [intOf]; omega
      case rel =>
        have e0 := EK.out
        have hys := HYS.out
        have he := wk_eq (k := K0) (by omega) (by omega) 3 (by decide)
        refine ⟨i + 1, by omega, (show Value.int .i64 (wk 3 K0) = Value.int .i64 _ by rw [he]; congr 1; omega), by go_num, ⟨?_⟩⟩
        have h := H.out
        subst e0
        rw [hys, cmarks_set hlt] at h
        exact h
    · obtain rfl : i = l.length := by omega
      go_wp2
      go_ret
      exact ⟨rfl, by have h := H.out; simpa using h⟩
def laws_markCarryS.f (_ : Nat) (l0 : List S88) (a1 : Int) : Option (Int × List S88) := if 0 < a1 ∧ a1 ≤ 1125899906842624 ∧ l0.length ≤ 140737488355328 then some (a1 + 3 * (l0.length : Int), cmarks a1 l0.length) else none
theorem laws_markCarryS.calls (k : Nat) (P0_ : Nat → Prop) (u9000_ : Value) (l0 : List (S88)) (a1 : Int) (r1 : Int) (r2 : List (S88)) (w0 w : World) (hB : Below w0.heap.size w0 w) (ho0 : Kd.R k88 88 w w0.heap.size P0_ u9000_ l0) (h : laws_markCarryS.f k l0 a1 = some (r1, r2)) :
    Calls Tryz.prog 37 #[u9000_, .int .i64 a1] w fun e w' => e = .returned (.int .i64 r1) ∧ Kd.R k88 88 w' w0.heap.size (fun k_ => (P0_ k_ ∨ w.heap.size ≤ k_)) u9000_ r2 ∧ Below w0.heap.size w0 w' ∧ Kept w w' (fun k_ => P0_ k_) := by
  unfold laws_markCarryS.f at h
  split at h
  · rename_i c
    cases h
    exact (cmark_t P0_ u9000_ l0 a1 w0 w hB ho0 c.1 c.2.1 c.2.2).mono fun e w' h => ⟨h.1, h.2.r, h.2.b, h.2.k⟩
  · cases h
theorem markCarry_ev (xs : List S88) (k0 : Int) (h0 : 0 < k0) (h1 : k0 ≤ 1125899906842624) (hn : xs.length ≤ 140737488355328) : Ev (fun k => laws_markCarryS.f k xs k0) (k0 + 3 * (xs.length : Int), cmarks k0 xs.length) := by
  simp only [laws_markCarryS.f, if_pos (And.intro h0 (And.intro h1 hn))]
  exact ev_now _
def ckey (x : S88) : List UInt8 × List Int := (x.f0.data.toList, [x.f1, x.f2])
theorem ckey_inj {a b : List S88} (h : a.map ckey = b.map ckey) : a = b := by
  refine List.map_inj_right (fun x y e => ?_) |>.1 h
  obtain ⟨⟨x0⟩, x1, x2⟩ := x
  obtain ⟨⟨y0⟩, y1, y2⟩ := y
  simp only [ckey, Prod.mk.injEq, List.cons.injEq, and_true] at e
  obtain ⟨e, e2⟩ := e
  have e3 := congrArg Array.mk e
  simp_all
set_option maxHeartbeats 4000000 in
theorem cheld_t (A : Option Addr) (c : Nat) (l : List S88) (k0 : Int) (w : World) (hr : Kd.C k88 w A l.length l) (hc : l.length ≤ c) (hl : l = cmarks k0 l.length) (h0 : 0 < k0) (h1 : k0 ≤ 1125899906842624) (hn : l.length ≤ 140737488355328) :
    Calls Tryz.prog 41 #[.slice A l.length c, .int .i64 k0] w fun e w' => e = .returned (.int .i64 (k0 + 3 * (l.length : Int))) ∧ Below w.heap.size w w' := by
  have HR := Aside0.mk hr
  have HL := Aside0.mk hl
  clear hr hl
  go_enter Tryz.func41, Tryz.ntmps41
  go_wp2
  go_loopw [1, 5] (fun v1 v5 wr => ∃ i : Nat, i ≤ l.length ∧ v1 = .int .i64 (k0 + 3 * (i : Int)) ∧ v5 = .int .i64 i ∧ Aside0 (Below w.heap.size w wr)) (fun _ v5 _ => l.length - (intOf v5).toNat)
  case atStart => exact ⟨0, Nat.zero_le _, by simp, rfl, ⟨Below.refl _ _⟩⟩
  case round =>
    obtain ⟨i, hi, rfl, rfl, HB⟩ := hrel
    by_cases hlt : i < l.length
    · obtain ⟨ad, e0, hx0, hx1, hx2⟩ := at_T88 (Kd.C_below HR.out HB.out) (i : Int) (by omega) (by omega)
      cases e0
      simp only [Int.toNat_natCast] at hx0 hx1 hx2
      have hX : rd_T88 l (i : Int) = ⟨mtx (k0 + 3 * (i : Int)), wk 1 (k0 + 3 * (i : Int)), wk 2 (k0 + 3 * (i : Int))⟩ := by rw [HL.out]; exact cmarks_get hlt
      simp only [hX] at hx0 hx1 hx2
      clear hX
      obtain ⟨K0, e0⟩ : ∃ K0, k0 + 3 * (i : Int) = K0 := ⟨_, rfl⟩
      simp only [e0] at hx0 hx1 hx2 ⊢
      simp only [wk] at hx0 hx1 hx2
      obtain ⟨k, hk⟩ := mark_get (K0) (by omega) (by omega)
      have KT := Aside0.mk (fun w' => laws_markText.calls k (K0) (mtx (K0)) w' hk)
      have EK := Aside0.mk e0
      have HX := Aside0.mk (fun w' (h : Up wr w') => And.intro (bc h hx0) (And.intro (bc h hx1) (bc h hx2)))
      clear hk e0 hx0 hx1 hx2
      go_upto_region 4 with (fail)
      refine rg_ (by kernel_rfl) (by kernel_rfl) ?_
      repeat (first | refine qn_ ?_ | refine qc_ eMark (fun w' _ => KT.out w') ?_ | refine ql_ HX.out ?_)
      refine qd_ ?_
      intro w5 hb
      obtain ⟨hx0, hx1, hx2⟩ := HX.out w5 hb
      go_wp2
      go_roundw
      case measure => simp [intOf]; omega
      case rel =>
        have e0 := EK.out
        have he := wk_eq (k := K0) (by omega) (by omega) 3 (by decide)
        exact ⟨i + 1, by omega, (show Value.int .i64 (wk 3 K0) = Value.int .i64 _ by rw [he]; congr 1; omega), by go_num, ⟨below_step HB.out hb⟩⟩
    · obtain rfl : i = l.length := by omega
      go_wp2
      go_ret
      exact ⟨rfl, HB.out⟩
def laws_heldCarryS.f (_ : Nat) (l0 : List (S88)) (a1 : Int) : Option Int := if 0 < a1 ∧ a1 ≤ 1125899906842624 ∧ l0.length ≤ 140737488355328 ∧ l0.map ckey = (cmarks a1 l0.length).map ckey then some (a1 + 3 * (l0.length : Int)) else none
theorem laws_heldCarryS.calls (k : Nat) (A0 : Option Addr) (c0 : Nat) (l0 : List (S88)) (a1 : Int) (r : Int) (w : World) (hr0 : Kd.C k88 w A0 l0.length l0) (hc0 : l0.length ≤ c0) (h : laws_heldCarryS.f k l0 a1 = some r) :
    Calls Tryz.prog 41 #[.slice A0 l0.length c0, .int .i64 a1] w fun e w' => e = .returned (.int .i64 r) ∧ Below w.heap.size w w' := by
  unfold laws_heldCarryS.f at h
  split at h
  · rename_i c
    cases h
    exact cheld_t A0 c0 l0 a1 w hr0 hc0 (ckey_inj c.2.2.2) c.1 c.2.1 c.2.2.1
  · cases h
theorem heldCarry_ev (n : Nat) (k0 : Int) (h0 : 0 < k0) (h1 : k0 ≤ 1125899906842624) (hn : n ≤ 140737488355328) : Ev (fun k => laws_heldCarryS.f k (cmarks k0 n) k0) (k0 + 3 * (n : Int)) := by
  simp only [laws_heldCarryS.f, cmarks_length, and_true, if_pos (And.intro h0 (And.intro h1 hn))]
  exact ev_now _
-- HAND TO

-- HAND FROM
open Go.Proofs.YtdimdlifjdbgnaaGreat.Base Go.Proofs.YtdimdlifjdbgnaaGreat.Sq
/-! #### Defects -/
def fmarks (k0 : Int) (n : Nat) : List S90 := (List.range n).map fun i : Nat => ⟨mtx (k0 + 3 * (i : Int)), wk 1 (k0 + 3 * (i : Int)), wk 2 (k0 + 3 * (i : Int))⟩
theorem fmarks_length (k0 : Int) (n : Nat) : (fmarks k0 n).length = n := by simp [fmarks]
theorem fmarks_get {k0 : Int} {n i : Nat} (h : i < n) : rd_T90 (fmarks k0 n) (i : Int) = ⟨mtx (k0 + 3 * (i : Int)), wk 1 (k0 + 3 * (i : Int)), wk 2 (k0 + 3 * (i : Int))⟩ := by simp [rd_T90, fmarks, List.getD_eq_getElem?_getD, h]
theorem fmarks_set {k0 : Int} {xs : List S90} {i : Nat} (h : i < xs.length) : (fmarks k0 i ++ xs.drop i).set i ⟨mtx (k0 + 3 * (i : Int)), wk 1 (k0 + 3 * (i : Int)), wk 2 (k0 + 3 * (i : Int))⟩ = fmarks k0 (i + 1) ++ xs.drop (i + 1) := by
  rw [List.set_append, if_neg (by rw [fmarks_length]; omega), fmarks_length, Nat.sub_self, List.drop_eq_getElem_cons h, List.set_cons_zero]
  simp [fmarks, List.range_succ]
set_option maxHeartbeats 4000000 in
theorem fmark_t (P0 : Nat → Prop) (u : Value) (l : List S90) (k0 : Int) (w0 w : World) (hB : Below w0.heap.size w0 w) (ho : Kd.R k90 90 w w0.heap.size P0 u l) (h0 : 0 < k0) (h1 : k0 ≤ 1125899906842624) (hn : l.length ≤ 140737488355328) :
    Calls Tryz.prog 38 #[u, .int .i64 k0] w fun e w' => e = .returned (.int .i64 (k0 + 3 * (l.length : Int))) ∧ Mk k90 90 w0 w w' P0 u (fmarks k0 l.length) := by
  obtain ⟨A, c, rfl⟩ := Kd.R_slice ho
  have H := Aside0.mk (show Mk k90 90 w0 w w P0 (.slice A l.length c) l from ⟨Kd.R_mono ho fun k hk => .inl hk, Kept.refl w P0, hB⟩)
  clear hB ho
  go_enter Tryz.func38, Tryz.ntmps38
  go_wp2
  go_loopw [1, 5] (fun v1 v5 wr => ∃ i : Nat, i ≤ l.length ∧ v1 = .int .i64 (k0 + 3 * (i : Int)) ∧ v5 = .int .i64 i ∧ Aside0 (Mk k90 90 w0 w wr P0 (.slice A l.length c) (fmarks k0 i ++ l.drop i))) (fun _ v5 _ => l.length - (intOf v5).toNat)
  case atStart => exact ⟨0, Nat.zero_le _, by simp, rfl, H⟩
  case round =>
    clear H
    obtain ⟨i, hi, rfl, rfl, H⟩ := hrel
    by_cases hlt : i < l.length
    · have hl : (fmarks k0 i ++ l.drop i).length = l.length := by rw [List.length_append, fmarks_length, List.length_drop]; omega
      obtain ⟨go, cap, e0, -⟩ := Kd.R_form H.out.r (by omega)
      injection e0 with e1 e2 e3
      subst e1
      clear e2 e3
      obtain ⟨ys, hys⟩ : ∃ ys, ys = fmarks k0 i ++ l.drop i := ⟨_, rfl⟩
      rw [← hys] at H hl
      have hiy : i < ys.length := by omega
      obtain ⟨X, hX⟩ : ∃ X, X = ys[i] := ⟨_, rfl⟩
      have H := Aside0.mk (show Mk k90 90 w0 w wr P0 (.slice (some ⟨go, 0, none⟩) l.length c) (ys.set i X) from by rw [hX, List.set_getElem_self]; exact H.out)
      have HYS := Aside0.mk hys
      clear hys hX
      obtain ⟨K0, e0⟩ : ∃ K0, k0 + 3 * (i : Int) = K0 := ⟨_, rfl⟩
      obtain ⟨k, hk⟩ := mark_get (K0) (by omega) (by omega)
      have KT := Aside0.mk (fun w' => laws_markText.calls k (K0) (mtx (K0)) w' hk)
      have EK := Aside0.mk e0
      rw [e0]
      clear hk e0
      go_wp2_with (first | (go_at_call 39; (with_reducible refine (KT.out _).mono ?_); rintro e w10 ⟨rfl, hb⟩; replace H := Aside0.mk (H.out.up hb); clear hb) | ((with_reducible refine gate_store (t := 9) (p := 17) rfl ?_); refine mst_ (fun x : S90 => [.string x.f0, .int .i64 x.f1, .int .i64 x.f2]) z90 k90_openM (fun _ _ _ x => k90_mkM _ _ _ x) i 0 (.string (mtx (K0))) ⟨mtx (K0), X.f1, X.f2⟩ H.out hiy (by decide) rfl rfl rfl ?_ ?h2; (case h2 => rintro ⟨old, hc⟩ hf; simp only [show k90.sz = 3 from rfl, Nat.add_zero, wk] at hc hf ⊢; (first | (go_simp; done) | (go_simp; rfl))); clear H; intro w10 h; have H := Aside0.mk h; clear h) | ((with_reducible refine gate_store (t := 3) (p := 24) rfl ?_); refine mst_ (fun x : S90 => [.string x.f0, .int .i64 x.f1, .int .i64 x.f2]) z90 k90_openM (fun _ _ _ x => k90_mkM _ _ _ x) i 1 (.int .i64 (wk 1 K0)) ⟨mtx (K0), wk 1 K0, X.f2⟩ H.out hiy (by decide) rfl rfl rfl ?_ ?h2; (case h2 => rintro ⟨old, hc⟩ hf; simp only [show k90.sz = 3 from rfl, Nat.add_zero, wk] at hc hf ⊢; (first | (go_simp; done) | (go_simp; rfl))); clear H; intro w10 h; have H := Aside0.mk h; clear h) | ((with_reducible refine gate_store (t := 3) (p := 31) rfl ?_); refine mst_ (fun x : S90 => [.string x.f0, .int .i64 x.f1, .int .i64 x.f2]) z90 k90_openM (fun _ _ _ x => k90_mkM _ _ _ x) i 2 (.int .i64 (wk 2 K0)) ⟨mtx (K0), wk 1 K0, wk 2 K0⟩ H.out hiy (by decide) rfl rfl rfl ?_ ?h2; (case h2 => rintro ⟨old, hc⟩ hf; simp only [show k90.sz = 3 from rfl, Nat.add_zero, wk] at hc hf ⊢; (first | (go_simp; done) | (go_simp; rfl))); clear H; intro w10 h; have H := Aside0.mk h; clear h))
      go_roundw
      case measure => simp [intOf]; omega
      case rel =>
        have e0 := EK.out
        have hys := HYS.out
        have he := wk_eq (k := K0) (by omega) (by omega) 3 (by decide)
        refine ⟨i + 1, by omega, (show Value.int .i64 (wk 3 K0) = Value.int .i64 _ by rw [he]; congr 1; omega), by go_num, ⟨?_⟩⟩
        have h := H.out
        subst e0
        rw [hys, fmarks_set hlt] at h
        exact h
    · obtain rfl : i = l.length := by omega
      go_wp2
      go_ret
      exact ⟨rfl, by have h := H.out; simpa using h⟩
def laws_markDefectS.f (_ : Nat) (l0 : List S90) (a1 : Int) : Option (Int × List S90) := if 0 < a1 ∧ a1 ≤ 1125899906842624 ∧ l0.length ≤ 140737488355328 then some (a1 + 3 * (l0.length : Int), fmarks a1 l0.length) else none
theorem laws_markDefectS.calls (k : Nat) (P0_ : Nat → Prop) (u9000_ : Value) (l0 : List (S90)) (a1 : Int) (r1 : Int) (r2 : List (S90)) (w0 w : World) (hB : Below w0.heap.size w0 w) (ho0 : Kd.R k90 90 w w0.heap.size P0_ u9000_ l0) (h : laws_markDefectS.f k l0 a1 = some (r1, r2)) :
    Calls Tryz.prog 38 #[u9000_, .int .i64 a1] w fun e w' => e = .returned (.int .i64 r1) ∧ Kd.R k90 90 w' w0.heap.size (fun k_ => (P0_ k_ ∨ w.heap.size ≤ k_)) u9000_ r2 ∧ Below w0.heap.size w0 w' ∧ Kept w w' (fun k_ => P0_ k_) := by
  unfold laws_markDefectS.f at h
  split at h
  · rename_i c
    cases h
    exact (fmark_t P0_ u9000_ l0 a1 w0 w hB ho0 c.1 c.2.1 c.2.2).mono fun e w' h => ⟨h.1, h.2.r, h.2.b, h.2.k⟩
  · cases h
theorem markDefect_ev (xs : List S90) (k0 : Int) (h0 : 0 < k0) (h1 : k0 ≤ 1125899906842624) (hn : xs.length ≤ 140737488355328) : Ev (fun k => laws_markDefectS.f k xs k0) (k0 + 3 * (xs.length : Int), fmarks k0 xs.length) := by
  simp only [laws_markDefectS.f, if_pos (And.intro h0 (And.intro h1 hn))]
  exact ev_now _
def fkey (x : S90) : List UInt8 × List Int := (x.f0.data.toList, [x.f1, x.f2])
theorem fkey_inj {a b : List S90} (h : a.map fkey = b.map fkey) : a = b := by
  refine List.map_inj_right (fun x y e => ?_) |>.1 h
  obtain ⟨⟨x0⟩, x1, x2⟩ := x
  obtain ⟨⟨y0⟩, y1, y2⟩ := y
  simp only [fkey, Prod.mk.injEq, List.cons.injEq, and_true] at e
  obtain ⟨e, e2⟩ := e
  have e3 := congrArg Array.mk e
  simp_all
set_option maxHeartbeats 4000000 in
theorem fheld_t (A : Option Addr) (c : Nat) (l : List S90) (k0 : Int) (w : World) (hr : Kd.C k90 w A l.length l) (hc : l.length ≤ c) (hl : l = fmarks k0 l.length) (h0 : 0 < k0) (h1 : k0 ≤ 1125899906842624) (hn : l.length ≤ 140737488355328) :
    Calls Tryz.prog 42 #[.slice A l.length c, .int .i64 k0] w fun e w' => e = .returned (.int .i64 (k0 + 3 * (l.length : Int))) ∧ Below w.heap.size w w' := by
  have HR := Aside0.mk hr
  have HL := Aside0.mk hl
  clear hr hl
  go_enter Tryz.func42, Tryz.ntmps42
  go_wp2
  go_loopw [1, 5] (fun v1 v5 wr => ∃ i : Nat, i ≤ l.length ∧ v1 = .int .i64 (k0 + 3 * (i : Int)) ∧ v5 = .int .i64 i ∧ Aside0 (Below w.heap.size w wr)) (fun _ v5 _ => l.length - (intOf v5).toNat)
  case atStart => exact ⟨0, Nat.zero_le _, by simp, rfl, ⟨Below.refl _ _⟩⟩
  case round =>
    obtain ⟨i, hi, rfl, rfl, HB⟩ := hrel
    by_cases hlt : i < l.length
    · obtain ⟨ad, e0, hx0, hx1, hx2⟩ := at_T90 (Kd.C_below HR.out HB.out) (i : Int) (by omega) (by omega)
      cases e0
      simp only [Int.toNat_natCast] at hx0 hx1 hx2
      have hX : rd_T90 l (i : Int) = ⟨mtx (k0 + 3 * (i : Int)), wk 1 (k0 + 3 * (i : Int)), wk 2 (k0 + 3 * (i : Int))⟩ := by rw [HL.out]; exact fmarks_get hlt
      simp only [hX] at hx0 hx1 hx2
      clear hX
      obtain ⟨K0, e0⟩ : ∃ K0, k0 + 3 * (i : Int) = K0 := ⟨_, rfl⟩
      simp only [e0] at hx0 hx1 hx2 ⊢
      simp only [wk] at hx0 hx1 hx2
      obtain ⟨k, hk⟩ := mark_get (K0) (by omega) (by omega)
      have KT := Aside0.mk (fun w' => laws_markText.calls k (K0) (mtx (K0)) w' hk)
      have EK := Aside0.mk e0
      have HX := Aside0.mk (fun w' (h : Up wr w') => And.intro (bc h hx0) (And.intro (bc h hx1) (bc h hx2)))
      clear hk e0 hx0 hx1 hx2
      go_upto_region 4 with (fail)
      refine rg_ (by kernel_rfl) (by kernel_rfl) ?_
      repeat (first | refine qn_ ?_ | refine qc_ eMark (fun w' _ => KT.out w') ?_ | refine ql_ HX.out ?_)
      refine qd_ ?_
      intro w5 hb
      obtain ⟨hx0, hx1, hx2⟩ := HX.out w5 hb
      go_wp2
      go_roundw
      case measure => simp [intOf]; omega
      case rel =>
        have e0 := EK.out
        have he := wk_eq (k := K0) (by omega) (by omega) 3 (by decide)
        exact ⟨i + 1, by omega, (show Value.int .i64 (wk 3 K0) = Value.int .i64 _ by rw [he]; congr 1; omega), by go_num, ⟨below_step HB.out hb⟩⟩
    · obtain rfl : i = l.length := by omega
      go_wp2
      go_ret
      exact ⟨rfl, HB.out⟩
def laws_heldDefectS.f (_ : Nat) (l0 : List (S90)) (a1 : Int) : Option Int := if 0 < a1 ∧ a1 ≤ 1125899906842624 ∧ l0.length ≤ 140737488355328 ∧ l0.map fkey = (fmarks a1 l0.length).map fkey then some (a1 + 3 * (l0.length : Int)) else none
theorem laws_heldDefectS.calls (k : Nat) (A0 : Option Addr) (c0 : Nat) (l0 : List (S90)) (a1 : Int) (r : Int) (w : World) (hr0 : Kd.C k90 w A0 l0.length l0) (hc0 : l0.length ≤ c0) (h : laws_heldDefectS.f k l0 a1 = some r) :
    Calls Tryz.prog 42 #[.slice A0 l0.length c0, .int .i64 a1] w fun e w' => e = .returned (.int .i64 r) ∧ Below w.heap.size w w' := by
  unfold laws_heldDefectS.f at h
  split at h
  · rename_i c
    cases h
    exact fheld_t A0 c0 l0 a1 w hr0 hc0 (fkey_inj c.2.2.2) c.1 c.2.1 c.2.2.1
  · cases h
theorem heldDefect_ev (n : Nat) (k0 : Int) (h0 : 0 < k0) (h1 : k0 ≤ 1125899906842624) (hn : n ≤ 140737488355328) : Ev (fun k => laws_heldDefectS.f k (fmarks k0 n) k0) (k0 + 3 * (n : Int)) := by
  simp only [laws_heldDefectS.f, fmarks_length, and_true, if_pos (And.intro h0 (And.intro h1 hn))]
  exact ev_now _
-- HAND TO

/-! ### laws_markFleet: function 13 -/
def laws_markFleet.f (k : Nat) (l0_0 : List (S86)) (l0_1 : List (S88)) (l0_2 : List (S90)) (a0_3 : Int) (a0_4 : Int) (a0_5 : Int) (a1 : Int) : Option (Int × (List (S86)) × (List (S88)) × (List (S90))) := (laws_markTaskS.f k l0_0 a1).bind fun bt360 => ((laws_markCarryS.f k l0_1 bt360.1).bind fun bt362 => ((laws_markDefectS.f k l0_2 bt362.1).bind fun bt364 => (some (bt364.1, bt360.2, bt362.2, bt364.2))))
set_option maxHeartbeats 8000000 in
set_option maxRecDepth 100000 in
theorem laws_markFleet.calls (k : Nat) (P0_0_ : Nat → Prop) (u9000_ : Value) (l0_0 : List (S86)) (P0_1_ : Nat → Prop) (u9001_ : Value) (l0_1 : List (S88)) (P0_2_ : Nat → Prop) (u9002_ : Value) (l0_2 : List (S90)) (a0_3 : Int) (a0_4 : Int) (a0_5 : Int) (a1 : Int) (r1 : Int) (r2 : List (S86)) (r3 : List (S88)) (r4 : List (S90)) (w0 w : World) (hB : Below w0.heap.size w0 w) (ho0_0 : Kd.R k86 86 w w0.heap.size P0_0_ u9000_ l0_0) (ho0_1 : Kd.R k88 88 w w0.heap.size P0_1_ u9001_ l0_1) (ho0_2 : Kd.R k90 90 w w0.heap.size P0_2_ u9002_ l0_2) (h : laws_markFleet.f k l0_0 l0_1 l0_2 a0_3 a0_4 a0_5 a1 = some (r1, r2, r3, r4)) :
  Calls Tryz.prog 13 #[.agg #[u9000_, u9001_, u9002_, .int .i64 a0_3, .int .i64 a0_4, .int .i64 a0_5], .int .i64 a1] w fun e w' => e = .returned (.int .i64 r1) ∧ Kd.R k86 86 w' w0.heap.size (fun k_ => ((P0_0_ k_ ∨ P0_1_ k_ ∨ P0_2_ k_) ∨ w.heap.size ≤ k_)) u9000_ r2 ∧ Kd.R k88 88 w' w0.heap.size (fun k_ => ((P0_0_ k_ ∨ P0_1_ k_ ∨ P0_2_ k_) ∨ w.heap.size ≤ k_)) u9001_ r3 ∧ Kd.R k90 90 w' w0.heap.size (fun k_ => ((P0_0_ k_ ∨ P0_1_ k_ ∨ P0_2_ k_) ∨ w.heap.size ≤ k_)) u9002_ r4 ∧ Below w0.heap.size w0 w' ∧ Kept w w' (fun k_ => P0_0_ k_ ∨ P0_1_ k_ ∨ P0_2_ k_) := by
 have hu37 := Tryz.underlying37
 have HO0_0 := Aside0.mk (show Kd.R k86 86 w w0.heap.size (fun k_ => ((P0_0_ k_ ∨ P0_1_ k_ ∨ P0_2_ k_) ∨ w.heap.size ≤ k_)) u9000_ l0_0 from Kd.R_mono ho0_0 (fun k_ hk => (.inl (.inl hk))))
 have HO0_1 := Aside0.mk (show Kd.R k88 88 w w0.heap.size (fun k_ => ((P0_0_ k_ ∨ P0_1_ k_ ∨ P0_2_ k_) ∨ w.heap.size ≤ k_)) u9001_ l0_1 from Kd.R_mono ho0_1 (fun k_ hk => (.inl (.inr (.inl hk)))))
 have HO0_2 := Aside0.mk (show Kd.R k90 90 w w0.heap.size (fun k_ => ((P0_0_ k_ ∨ P0_1_ k_ ∨ P0_2_ k_) ∨ w.heap.size ≤ k_)) u9002_ l0_2 from Kd.R_mono ho0_2 (fun k_ hk => (.inl (.inr (.inr hk)))))
 have HK := Aside0.mk (Kept.refl w (fun k_ => P0_0_ k_ ∨ P0_1_ k_ ∨ P0_2_ k_))
 have HW0 := Aside0.mk hB.size
 have HB := Aside0.mk hB
 clear hB
 have H : ((laws_markTaskS.f k l0_0 a1).bind fun bt360 => ((laws_markCarryS.f k l0_1 bt360.1).bind fun bt362 => ((laws_markDefectS.f k l0_2 bt362.1).bind fun bt364 => (some (bt364.1, bt360.2, bt362.2, bt364.2))))) = some (r1, r2, r3, r4) := h
 clear h
 replace H := Option.bind_eq_some_iff.mp H
 obtain ⟨⟨t360, t361⟩, A30, H⟩ := H
 replace H : ((laws_markCarryS.f k l0_1 t360).bind fun bt362 => ((laws_markDefectS.f k l0_2 bt362.1).bind fun bt364 => (some (bt364.1, t361, bt362.2, bt364.2)))) = some (r1, r2, r3, r4) := H
 have A3 := Aside0.mk A30
 clear A30
 replace H := Option.bind_eq_some_iff.mp H
 obtain ⟨⟨t362, t363⟩, A40, H⟩ := H
 replace H : ((laws_markDefectS.f k l0_2 t362).bind fun bt364 => (some (bt364.1, t361, t363, bt364.2))) = some (r1, r2, r3, r4) := H
 have A4 := Aside0.mk A40
 clear A40
 replace H := Option.bind_eq_some_iff.mp H
 obtain ⟨⟨t364, t365⟩, A50, H⟩ := H
 replace H : (some (t364, t361, t363, t365)) = some (r1, r2, r3, r4) := H
 have A5 := Aside0.mk A50
 clear A50
 simp only [Option.some.injEq, Prod.mk.injEq] at H
 obtain ⟨rfl, rfl, rfl, rfl⟩ := H
 obtain ⟨Ao6, co6, eo6⟩ := Kd.R_slice HO0_0.out
 subst eo6
 obtain ⟨Ao7, co7, eo7⟩ := Kd.R_slice HO0_1.out
 subst eo7
 obtain ⟨Ao8, co8, eo8⟩ := Kd.R_slice HO0_2.out
 subst eo8
 go_enter Tryz.func13, Tryz.ntmps13
 go_wp2_with (first | ((with_reducible refine gate_dst (N := 2) rfl ?_); refine box_event ?hg (N := 2) ?hd (cs := #[.slice Ao6 l0_0.length co6, .slice Ao7 l0_1.length co7, .slice Ao8 l0_2.length co8, .int .i64 a0_3, .int .i64 a0_4, .int .i64 a0_5]) (t := 37) ?hr ?_; (case hd => rfl); (case hg => rfl); (case hr => first | (go_simp; done) | (go_simp; rfl)); intro gb359 hg w9 hbox hb; replace HO0_0 := Aside0.mk (Kd.R_below (rl HO0_0.out) hb); replace HO0_1 := Aside0.mk (Kd.R_below (rl HO0_1.out) hb); replace HO0_2 := Aside0.mk (Kd.R_below (rl HO0_2.out) hb); have BK359 := Aside0.mk (hbox); have GW359 := Aside0.mk ((by rw [hg]; exact (by first | exact HK.out.1 | exact (show Kept w _ (fun k_ => P0_0_ k_ ∨ P0_1_ k_ ∨ P0_2_ k_) from by repeat (first | (with_reducible first | exact HK.out | apply Kept.alloc | apply Kept.drewN | apply Kept.drew) | exact HK.out)).1) : w.heap.size ≤ gb359)); replace HK := Aside0.mk (Kept.below (S := (fun k_ => P0_0_ k_ ∨ P0_1_ k_ ∨ P0_2_ k_)) (by repeat (first | (with_reducible first | exact HK.out | apply Kept.alloc | apply Kept.drewN | apply Kept.drew) | exact HK.out)) hb); have GE359 := Aside0.mk ((by rw [hg]; exact (below_size (bl HB.out)) : w0.heap.size ≤ gb359)); replace HB := Aside0.mk (below_step (bl HB.out) hb); clear hb hbox hg; obtain ⟨hcz10_0, hcz10_1, hcz10_2, hcz10_3, hcz10_4, hcz10_5⟩ := ck6 BK359.out; obtain ⟨hfz10_0, hfz10_1, hfz10_2, hfz10_3, hfz10_4, hfz10_5⟩ := fz6 BK359.out) | ((with_reducible refine gate_callee (f := 36) rfl ?_); refine goesL_ (some 8) rfl rfl Tryz.func36 (by kernel_rfl) rfl #[.slice Ao6 l0_0.length co6, .int .i64 a1] rfl (by (try simp only [am_]); first | done | rfl) ?_; (with_reducible refine (laws_markTaskS.calls k (fun k_ => some k_ = (.slice Ao6 l0_0.length co6 : Value).ownBlock) (.slice Ao6 l0_0.length co6) l0_0 a1 t360 t361 w0 _ ?side1 ?side2 A3.out).mono ?_); (case side1 => repeat (first | (with_reducible first | exact HB.out | apply below_alloc | apply pw_below_drewN | apply below_drew1 | refine below_set ?_ GE359.out) | exact HB.out)); (case side2 => exact Kd.R_tight rfl HO0_0.out); rintro e w11 ⟨rfl, hy0, hb, hkp⟩; refine ⟨_, rfl, ?_⟩; replace HO0_1 := Aside0.mk (Kd.R_mono (ok' := fun k_ => ((P0_0_ k_ ∨ P0_1_ k_ ∨ P0_2_ k_) ∨ w.heap.size ≤ k_)) (Kd.R_keptB ((Kd.R_apart' HO0_1.out (Kd.R_typed HO0_0.out) (by decide))) hkp (fun k_ hk_ hs_ => (hk_.2) hs_)) (fun k_ hk_ => hk_.1.1)); replace HO0_2 := Aside0.mk (Kd.R_mono (ok' := fun k_ => ((P0_0_ k_ ∨ P0_1_ k_ ∨ P0_2_ k_) ∨ w.heap.size ≤ k_)) (Kd.R_keptB ((Kd.R_apart' HO0_2.out (Kd.R_typed HO0_0.out) (by decide))) hkp (fun k_ hk_ hs_ => (hk_.2) hs_)) (fun k_ hk_ => hk_.1.1)); replace BK359 := Aside0.mk (blk_kept (bk BK359.out) hkp (fun hs_ => (fun e_ => (Kd.R_ne HO0_0.out BK359.out (by decide)) e_) hs_)); replace HK := Aside0.mk (Kept.then_ (S := (fun k_ => P0_0_ k_ ∨ P0_1_ k_ ∨ P0_2_ k_)) (by repeat (first | (with_reducible first | exact HK.out | apply Kept.alloc | apply Kept.drewN | apply Kept.drew | refine Kept.setCell ?_ (.inr GW359.out) _) | exact HK.out)) hkp (fun k_ hs_ => (fun e_ => (HO0_0.out.1 k_ e_.symm)) hs_)); replace HO0_0 := Aside0.mk (Kd.R_reok rfl hy0 (fun k_ e_ => HO0_0.out.1 k_ e_)); replace HB := Aside0.mk (hb); (try clear hb); (try clear hkp); (try clear hy0); obtain ⟨hcz12_0, hcz12_1, hcz12_2, hcz12_3, hcz12_4, hcz12_5⟩ := ck6 BK359.out; obtain ⟨hfz12_0, hfz12_1, hfz12_2, hfz12_3, hfz12_4, hfz12_5⟩ := fz6 BK359.out) | ((with_reducible refine gate_callee (f := 37) rfl ?_); refine goesL_ (some 12) rfl rfl Tryz.func37 (by kernel_rfl) rfl #[.slice Ao7 l0_1.length co7, .int .i64 t360] rfl (by (try simp only [am_]); first | done | rfl) ?_; (with_reducible refine (laws_markCarryS.calls k (fun k_ => some k_ = (.slice Ao7 l0_1.length co7 : Value).ownBlock) (.slice Ao7 l0_1.length co7) l0_1 t360 t362 t363 w0 _ ?side1 ?side2 A4.out).mono ?_); (case side1 => repeat (first | (with_reducible first | exact HB.out | apply below_alloc | apply pw_below_drewN | apply below_drew1 | refine below_set ?_ GE359.out) | exact HB.out)); (case side2 => exact Kd.R_tight rfl HO0_1.out); rintro e w13 ⟨rfl, hy0, hb, hkp⟩; refine ⟨_, rfl, ?_⟩; replace HO0_0 := Aside0.mk (Kd.R_mono (ok' := fun k_ => ((P0_0_ k_ ∨ P0_1_ k_ ∨ P0_2_ k_) ∨ w.heap.size ≤ k_)) (Kd.R_keptB ((Kd.R_apart' HO0_0.out (Kd.R_typed HO0_1.out) (by decide))) hkp (fun k_ hk_ hs_ => (hk_.2) hs_)) (fun k_ hk_ => hk_.1.1)); replace HO0_2 := Aside0.mk (Kd.R_mono (ok' := fun k_ => ((P0_0_ k_ ∨ P0_1_ k_ ∨ P0_2_ k_) ∨ w.heap.size ≤ k_)) (Kd.R_keptB ((Kd.R_apart' HO0_2.out (Kd.R_typed HO0_1.out) (by decide))) hkp (fun k_ hk_ hs_ => (hk_.2) hs_)) (fun k_ hk_ => hk_.1.1)); replace BK359 := Aside0.mk (blk_kept (bk BK359.out) hkp (fun hs_ => (fun e_ => (Kd.R_ne HO0_1.out BK359.out (by decide)) e_) hs_)); replace HK := Aside0.mk (Kept.then_ (S := (fun k_ => P0_0_ k_ ∨ P0_1_ k_ ∨ P0_2_ k_)) (by repeat (first | (with_reducible first | exact HK.out | apply Kept.alloc | apply Kept.drewN | apply Kept.drew | refine Kept.setCell ?_ (.inr GW359.out) _) | exact HK.out)) hkp (fun k_ hs_ => (fun e_ => (HO0_1.out.1 k_ e_.symm)) hs_)); replace HO0_1 := Aside0.mk (Kd.R_reok rfl hy0 (fun k_ e_ => HO0_1.out.1 k_ e_)); replace HB := Aside0.mk (hb); (try clear hb); (try clear hkp); (try clear hy0); obtain ⟨hcz14_0, hcz14_1, hcz14_2, hcz14_3, hcz14_4, hcz14_5⟩ := ck6 BK359.out; obtain ⟨hfz14_0, hfz14_1, hfz14_2, hfz14_3, hfz14_4, hfz14_5⟩ := fz6 BK359.out) | ((with_reducible refine gate_callee (f := 38) rfl ?_); refine goesL_ (some 16) rfl rfl Tryz.func38 (by kernel_rfl) rfl #[.slice Ao8 l0_2.length co8, .int .i64 t362] rfl (by (try simp only [am_]); first | done | rfl) ?_; (with_reducible refine (laws_markDefectS.calls k (fun k_ => some k_ = (.slice Ao8 l0_2.length co8 : Value).ownBlock) (.slice Ao8 l0_2.length co8) l0_2 t362 t364 t365 w0 _ ?side1 ?side2 A5.out).mono ?_); (case side1 => repeat (first | (with_reducible first | exact HB.out | apply below_alloc | apply pw_below_drewN | apply below_drew1 | refine below_set ?_ GE359.out) | exact HB.out)); (case side2 => exact Kd.R_tight rfl HO0_2.out); rintro e w15 ⟨rfl, hy0, hb, hkp⟩; refine ⟨_, rfl, ?_⟩; replace HO0_0 := Aside0.mk (Kd.R_mono (ok' := fun k_ => ((P0_0_ k_ ∨ P0_1_ k_ ∨ P0_2_ k_) ∨ w.heap.size ≤ k_)) (Kd.R_keptB ((Kd.R_apart' HO0_0.out (Kd.R_typed HO0_2.out) (by decide))) hkp (fun k_ hk_ hs_ => (hk_.2) hs_)) (fun k_ hk_ => hk_.1.1)); replace HO0_1 := Aside0.mk (Kd.R_mono (ok' := fun k_ => ((P0_0_ k_ ∨ P0_1_ k_ ∨ P0_2_ k_) ∨ w.heap.size ≤ k_)) (Kd.R_keptB ((Kd.R_apart' HO0_1.out (Kd.R_typed HO0_2.out) (by decide))) hkp (fun k_ hk_ hs_ => (hk_.2) hs_)) (fun k_ hk_ => hk_.1.1)); replace BK359 := Aside0.mk (blk_kept (bk BK359.out) hkp (fun hs_ => (fun e_ => (Kd.R_ne HO0_2.out BK359.out (by decide)) e_) hs_)); replace HK := Aside0.mk (Kept.then_ (S := (fun k_ => P0_0_ k_ ∨ P0_1_ k_ ∨ P0_2_ k_)) (by repeat (first | (with_reducible first | exact HK.out | apply Kept.alloc | apply Kept.drewN | apply Kept.drew | refine Kept.setCell ?_ (.inr GW359.out) _) | exact HK.out)) hkp (fun k_ hs_ => (fun e_ => (HO0_2.out.1 k_ e_.symm)) hs_)); replace HO0_2 := Aside0.mk (Kd.R_reok rfl hy0 (fun k_ e_ => HO0_2.out.1 k_ e_)); replace HB := Aside0.mk (hb); (try clear hb); (try clear hkp); (try clear hy0)))
 go_ret
 exact ⟨by first | rfl | (simp [errW_none, errW_some] <;> rfl) | (simp [*, errW_none, errW_some] <;> rfl), by (repeat apply rl1); exact HO0_0.out, by (repeat apply rl1); exact HO0_1.out, by (repeat apply rl1); exact HO0_2.out, by repeat with_reducible first | exact bl HB.out | refine below_set ?_ GE359.out | refine bq ?_, by repeat (first | (with_reducible first | exact HK.out | apply Kept.alloc | apply Kept.drewN | apply Kept.drew | refine Kept.setCell ?_ (.inr GW359.out) _) | exact HK.out)⟩

-- HAND FROM
open Go.Proofs.YtdimdlifjdbgnaaGreat.Base Go.Proofs.YtdimdlifjdbgnaaGreat.Sq
/-! #### Deed19s -/
def dmarks (k0 : Int) (n : Nat) : List S60 := (List.range n).map fun i : Nat => ⟨k0 + 4 * (i : Int), mtx (wk 1 (k0 + 4 * (i : Int))), wk 2 (k0 + 4 * (i : Int)), wk 3 (k0 + 4 * (i : Int))⟩
theorem dmarks_length (k0 : Int) (n : Nat) : (dmarks k0 n).length = n := by simp [dmarks]
theorem dmarks_set {k0 : Int} {xs : List S60} {i : Nat} (h : i < xs.length) : (dmarks k0 i ++ xs.drop i).set i ⟨k0 + 4 * (i : Int), mtx (wk 1 (k0 + 4 * (i : Int))), wk 2 (k0 + 4 * (i : Int)), wk 3 (k0 + 4 * (i : Int))⟩ = dmarks k0 (i + 1) ++ xs.drop (i + 1) := by
  rw [List.set_append, if_neg (by rw [dmarks_length]; omega), dmarks_length, Nat.sub_self, List.drop_eq_getElem_cons h, List.set_cons_zero]
  simp [dmarks, List.range_succ]
set_option maxHeartbeats 4000000 in
theorem dmark_t (P0 : Nat → Prop) (u : Value) (l : List S60) (k0 : Int) (w0 w : World) (hB : Below w0.heap.size w0 w) (ho : Kd.R k60 60 w w0.heap.size P0 u l) (h0 : 0 < k0) (h1 : k0 ≤ 1125899906842624) (hn : l.length ≤ 140737488355328) :
    Calls Tryz.prog 14 #[u, .int .i64 k0] w fun e w' => e = .returned (.int .i64 (k0 + 4 * (l.length : Int))) ∧ Mk k60 60 w0 w w' P0 u (dmarks k0 l.length) := by
  obtain ⟨A, c, rfl⟩ := Kd.R_slice ho
  have H := Aside0.mk (show Mk k60 60 w0 w w P0 (.slice A l.length c) l from ⟨Kd.R_mono ho fun k hk => .inl hk, Kept.refl w P0, hB⟩)
  clear hB ho
  go_enter Tryz.func14, Tryz.ntmps14
  go_wp2
  go_loopw [1, 5] (fun v1 v5 wr => ∃ i : Nat, i ≤ l.length ∧ v1 = .int .i64 (k0 + 4 * (i : Int)) ∧ v5 = .int .i64 i ∧ Aside0 (Mk k60 60 w0 w wr P0 (.slice A l.length c) (dmarks k0 i ++ l.drop i))) (fun _ v5 _ => l.length - (intOf v5).toNat)
  case atStart => exact ⟨0, Nat.zero_le _, by simp, rfl, H⟩
  case round =>
    clear H
    obtain ⟨i, hi, rfl, rfl, H⟩ := hrel
    by_cases hlt : i < l.length
    · have hl : (dmarks k0 i ++ l.drop i).length = l.length := by rw [List.length_append, dmarks_length, List.length_drop]; omega
      obtain ⟨go, cap, e0, -⟩ := Kd.R_form H.out.r (by omega)
      injection e0 with e1 e2 e3
      subst e1
      clear e2 e3
      obtain ⟨ys, hys⟩ : ∃ ys, ys = dmarks k0 i ++ l.drop i := ⟨_, rfl⟩
      rw [← hys] at H hl
      have hiy : i < ys.length := by omega
      obtain ⟨X, hX⟩ : ∃ X, X = ys[i] := ⟨_, rfl⟩
      have H := Aside0.mk (show Mk k60 60 w0 w wr P0 (.slice (some ⟨go, 0, none⟩) l.length c) (ys.set i X) from by rw [hX, List.set_getElem_self]; exact H.out)
      have HYS := Aside0.mk hys
      clear hys hX
      obtain ⟨K0, e0⟩ : ∃ K0, k0 + 4 * (i : Int) = K0 := ⟨_, rfl⟩
      obtain ⟨k, hk⟩ := mark_get (wk 1 K0) (by rw [wk_eq (by omega) (by omega) _ (by decide)]; omega) (by rw [wk_eq (by omega) (by omega) _ (by decide)]; omega)
      have KT := Aside0.mk (fun w' => laws_markText.calls k (wrap64 (K0 + 1)) (mtx (wk 1 K0)) w' hk)
      have EK := Aside0.mk e0
      rw [e0]
      clear hk e0
      go_wp2_with (first | (go_at_call 39; (with_reducible refine (KT.out _).mono ?_); rintro e w10 ⟨rfl, hb⟩; replace H := Aside0.mk (H.out.up hb); clear hb) | ((with_reducible refine gate_store (t := 3) (p := 16) rfl ?_); refine mst_ (fun x : S60 => [.int .i64 x.f0, .string x.f1, .int .i64 x.f2, .int .i64 x.f3]) z60 k60_openM (fun _ _ _ x => k60_mkM _ _ _ x) i 0 (.int .i64 (K0)) ⟨K0, X.f1, X.f2, X.f3⟩ H.out hiy (by decide) rfl rfl rfl ?_ ?h2; (case h2 => rintro ⟨old, hc⟩ hf; simp only [show k60.sz = 4 from rfl, Nat.add_zero, wk] at hc hf ⊢; (first | (go_simp; done) | (go_simp; rfl))); clear H; intro w10 h; have H := Aside0.mk h; clear h) | ((with_reducible refine gate_store (t := 9) (p := 24) rfl ?_); refine mst_ (fun x : S60 => [.int .i64 x.f0, .string x.f1, .int .i64 x.f2, .int .i64 x.f3]) z60 k60_openM (fun _ _ _ x => k60_mkM _ _ _ x) i 1 (.string (mtx (wk 1 K0))) ⟨K0, mtx (wk 1 K0), X.f2, X.f3⟩ H.out hiy (by decide) rfl rfl rfl ?_ ?h2; (case h2 => rintro ⟨old, hc⟩ hf; simp only [show k60.sz = 4 from rfl, Nat.add_zero, wk] at hc hf ⊢; (first | (go_simp; done) | (go_simp; rfl))); clear H; intro w10 h; have H := Aside0.mk h; clear h) | ((with_reducible refine gate_store (t := 3) (p := 31) rfl ?_); refine mst_ (fun x : S60 => [.int .i64 x.f0, .string x.f1, .int .i64 x.f2, .int .i64 x.f3]) z60 k60_openM (fun _ _ _ x => k60_mkM _ _ _ x) i 2 (.int .i64 (wk 2 K0)) ⟨K0, mtx (wk 1 K0), wk 2 K0, X.f3⟩ H.out hiy (by decide) rfl rfl rfl ?_ ?h2; (case h2 => rintro ⟨old, hc⟩ hf; simp only [show k60.sz = 4 from rfl, Nat.add_zero, wk] at hc hf ⊢; (first | (go_simp; done) | (go_simp; rfl))); clear H; intro w10 h; have H := Aside0.mk h; clear h) | ((with_reducible refine gate_store (t := 3) (p := 38) rfl ?_); refine mst_ (fun x : S60 => [.int .i64 x.f0, .string x.f1, .int .i64 x.f2, .int .i64 x.f3]) z60 k60_openM (fun _ _ _ x => k60_mkM _ _ _ x) i 3 (.int .i64 (wk 3 K0)) ⟨K0, mtx (wk 1 K0), wk 2 K0, wk 3 K0⟩ H.out hiy (by decide) rfl rfl rfl ?_ ?h2; (case h2 => rintro ⟨old, hc⟩ hf; simp only [show k60.sz = 4 from rfl, Nat.add_zero, wk] at hc hf ⊢; (first | (go_simp; done) | (go_simp; rfl))); clear H; intro w10 h; have H := Aside0.mk h; clear h))
      go_roundw
      case measure => simp [intOf]; omega
      case rel =>
        have e0 := EK.out
        have hys := HYS.out
        have he := wk_eq (k := K0) (by omega) (by omega) 4 (by decide)
        refine ⟨i + 1, by omega, (show Value.int .i64 (wk 4 K0) = Value.int .i64 _ by rw [he]; congr 1; omega), by go_num, ⟨?_⟩⟩
        have h := H.out
        subst e0
        rw [hys, dmarks_set hlt] at h
        exact h
    · obtain rfl : i = l.length := by omega
      go_wp2
      go_ret
      exact ⟨rfl, by have h := H.out; simpa using h⟩
def laws_markDeed19S.f (_ : Nat) (l0 : List S60) (a1 : Int) : Option (Int × List S60) := if 0 < a1 ∧ a1 ≤ 1125899906842624 ∧ l0.length ≤ 140737488355328 then some (a1 + 4 * (l0.length : Int), dmarks a1 l0.length) else none
theorem laws_markDeed19S.calls (k : Nat) (P0_ : Nat → Prop) (u9000_ : Value) (l0 : List (S60)) (a1 : Int) (r1 : Int) (r2 : List (S60)) (w0 w : World) (hB : Below w0.heap.size w0 w) (ho0 : Kd.R k60 60 w w0.heap.size P0_ u9000_ l0) (h : laws_markDeed19S.f k l0 a1 = some (r1, r2)) :
    Calls Tryz.prog 14 #[u9000_, .int .i64 a1] w fun e w' => e = .returned (.int .i64 r1) ∧ Kd.R k60 60 w' w0.heap.size (fun k_ => (P0_ k_ ∨ w.heap.size ≤ k_)) u9000_ r2 ∧ Below w0.heap.size w0 w' ∧ Kept w w' (fun k_ => P0_ k_) := by
  unfold laws_markDeed19S.f at h
  split at h
  · rename_i c
    cases h
    exact (dmark_t P0_ u9000_ l0 a1 w0 w hB ho0 c.1 c.2.1 c.2.2).mono fun e w' h => ⟨h.1, h.2.r, h.2.b, h.2.k⟩
  · cases h
theorem markDeed19_ev (xs : List S60) (k0 : Int) (h0 : 0 < k0) (h1 : k0 ≤ 1125899906842624) (hn : xs.length ≤ 140737488355328) : Ev (fun k => laws_markDeed19S.f k xs k0) (k0 + 4 * (xs.length : Int), dmarks k0 xs.length) := by
  simp only [laws_markDeed19S.f, if_pos (And.intro h0 (And.intro h1 hn))]
  exact ev_now _
-- HAND TO

/-! ### laws_markBoolS: function 15 -/
def laws_markBoolS.l0 : Nat → List Bool → Int → Int → Option (Int × List Bool)
 | 0, _, _, _ => none
 | k + 1, x0, x1, x5 => if x5 < (x0.length : Int) then (if 0 ≤ x5 then (laws_markBoolS.l0 k (x0.set (x5 : Int).toNat ((Int.tmod x1 3) == 0)) (wrap64 (x1 + 1)) (wrap64 (x5 + 1))) else (none)) else (some (x1, x0))
def laws_markBoolS.f (k : Nat) (l0 : List Bool) (a1 : Int) : Option (Int × List Bool) := laws_markBoolS.l0 k l0 a1 0
set_option maxHeartbeats 8000000 in
set_option maxRecDepth 100000 in
theorem laws_markBoolS.calls (k : Nat) (P0_ : Nat → Prop) (u9000_ : Value) (l0 : List Bool) (a1 : Int) (r1 : Int) (r2 : List Bool) (w0 w : World) (hB : Below w0.heap.size w0 w) (ho0 : Kd.R Kd.bool 4 w w0.heap.size P0_ u9000_ l0) (h : laws_markBoolS.f k l0 a1 = some (r1, r2)) :
  Calls Tryz.prog 15 #[u9000_, .int .i64 a1] w fun e w' => e = .returned (.int .i64 r1) ∧ Kd.R Kd.bool 4 w' w0.heap.size (fun k_ => (P0_ k_ ∨ w.heap.size ≤ k_)) u9000_ r2 ∧ Below w0.heap.size w0 w' ∧ Kept w w' (fun k_ => P0_ k_) := by
 have HO0 := Aside0.mk (show Kd.R Kd.bool 4 w w0.heap.size (fun k_ => (P0_ k_ ∨ w.heap.size ≤ k_)) u9000_ l0 from Kd.R_mono ho0 (fun k_ hk => (.inl hk)))
 have HK := Aside0.mk (Kept.refl w (fun k_ => P0_ k_))
 have HW0 := Aside0.mk hB.size
 have HB := Aside0.mk hB
 clear hB
 have H : (laws_markBoolS.l0 k l0 a1 0) = some (r1, r2) := h
 clear h
 have H' := Aside0.mk H
 clear H
 go_enter Tryz.func15, Tryz.ntmps15
 go_wp2
 go_loopg [1, 5] k (fun kq v1 v5 w' => ∃ (x0_1 : List Bool) (x1_1 : Int) (x5_1 : Int), v1 = .int .i64 x1_1 ∧ v5 = .int .i64 x5_1 ∧ Aside0 (laws_markBoolS.l0 kq x0_1 x1_1 x5_1 = some (r1, r2)) ∧ Aside0 (kq ≤ k) ∧ Aside0 (Kd.R Kd.bool 4 w' w0.heap.size (fun k_ => (P0_ k_ ∨ w.heap.size ≤ k_)) u9000_ x0_1) ∧ Aside0 (Kept w w' (fun k_ => P0_ k_)) ∧ Aside0 (Below w0.heap.size w0 w'))
 case atStart => exact ⟨(l0), (a1), (0), (by first | rfl | (simp; done) | (simp [*]; done)), (by first | rfl | (simp; done) | (simp [*]; done)), H', ⟨Nat.le_refl _⟩, ⟨rl HO0.out⟩, ⟨by repeat (first | (with_reducible first | exact HK.out | apply Kept.alloc | apply Kept.drewN | apply Kept.drew) | exact HK.out)⟩, ⟨bl HB.out⟩⟩
 case round =>
  clear H'
  try clear c1
  try clear p2
  obtain ⟨x0_1, x1_1, x5_1, rfl, rfl, HA, HK1, HO_0, HK, HB⟩ := hrel
  cases gk with
  | zero => exact absurd HA.out (by simp [laws_markBoolS.l0])
  | succ k1 =>
   have H := HA.out
   clear HA
   simp only [laws_markBoolS.l0] at H
   by_cases c3 : x5_1 < (x0_1.length : Int)
   ·
    rw [if_pos c3] at H
    have c3b0 : decide (x5_1 < (x0_1.length : Int)) = true := decide_eq_true c3
    clear c3
    by_cases c4 : 0 ≤ x5_1
    ·
     rw [if_pos c4] at H
     have c4b0 : decide (0 ≤ x5_1) = true := decide_eq_true c4
     clear c4
     obtain ⟨y366, hy366⟩ : ∃ y_ : List Bool, y_ = (x0_1.set (x5_1 : Int).toNat ((Int.tmod x1_1 3) == 0)) := ⟨_, rfl⟩
     replace H : (laws_markBoolS.l0 k1 y366 (wrap64 (x1_1 + 1)) (wrap64 (x5_1 + 1))) = some (r1, r2) := by first | (rw [hy366]; with_reducible exact H) | (have H2_ := (Option.bind_some _ _).symm.trans H; rw [hy366]; with_reducible exact H2_) | (have H2_ := (Option.bind_some _ _).symm.trans H; with_reducible exact H2_) | with_reducible exact H | (rw [hy366]; exact H) | exact H
     have Ny366 := Aside0.mk hy366
     clear hy366
     have H' := Aside0.mk H
     clear H
     obtain ⟨Ao6, co6, eo6⟩ := Kd.R_slice HO_0.out
     subst eo6
     have p5 : 0 ≤ (x5_1 : Int) := of_decide_eq_true (by first | (with_reducible assumption) | assumption)
     have q5 : (x5_1 : Int) < ((x0_1.length : Int) : Int) := of_decide_eq_true (by first | (with_reducible assumption) | assumption)
     obtain ⟨go5, co5, eo5, gb5, gl5, cl5, HG5⟩ := Kd.R_form HO_0.out (by omega)
     (first | cases eo5 | (injection eo5 with ea_ en_ ec_; (first | subst ea_ | (injection ea_ with ea_; subst ea_)); subst ec_; clear en_))
     have GB5 := Aside0.mk gb5
     have GG5 := Aside0.mk HG5
     clear gb5 gl5 HG5
     have HMgo5 := Aside0.mk (show (P0_ go5 ∨ w.heap.size ≤ go5) from (HO_0.out.1 _ rfl))
     obtain ⟨hx5_0, hf5_0⟩ := Kd.R_celln false HO_0.out (x5_1 : Int) p5 q5
     replace p5 := eq_true p5
     replace q5 := eq_true q5
     have HP7 := Kd.R_putg HO_0.out (x5_1 : Int) ((Int.tmod x1_1 3) == 0)
     go_wp2_with (first | ((with_reducible refine gate_store (t := 4) (p := 17) rfl ?_); refine store_event (t := 4) (p := 17) (v := ?vo_w8) (w1 := (wr.setCell ⟨go5, (x5_1 : Int).toNat, none⟩ (.bool ((Int.tmod x1_1 3) == 0)))) ?hg ?ho ?hn ?hr ?_; (case ho => rfl); (case hg => rfl); (case hn => rfl); (case hr => first | (go_simp; done) | (go_simp; rfl)); intro w8 hw; have hg : wr.grownBy w8 (some go5) := (by rw [hw]; exact HP7.2); have hp_ : Kd.R Kd.bool 4 w8 w0.heap.size (fun k_ => (P0_ k_ ∨ w.heap.size ≤ k_)) (.slice (some ⟨go5, 0, none⟩) x0_1.length co6) y366 := (by rw [hw, Ny366.out]; exact HP7.1); clear HP7; replace HB := Aside0.mk ((by rw [hw]; exact below_set (HB.out) GB5.out : Below w0.heap.size w0 w8)); replace HK := Aside0.mk (Kept.of_grown (S := (fun k_ => P0_ k_)) hg (by repeat (first | (with_reducible first | exact HK.out | apply Kept.alloc | apply Kept.drewN | apply Kept.drew) | exact HK.out)) (fun k_ e_ => (HO_0.out.1 k_ e_))); replace HO_0 := Aside0.mk (hp_); clear hg hw hp_))
     go_roundg k1
     case measure => have := HK1.out; omega
     case rel => exact ⟨(y366), (wrap64 (x1_1 + 1)), (wrap64 (x5_1 + 1)), (by first | rfl | (simp; done) | (simp [*]; done)), (by first | rfl | (simp; done) | (simp [*]; done)), H', ⟨by have := HK1.out; omega⟩, ⟨rl HO_0.out⟩, ⟨by repeat (first | (with_reducible first | exact HK.out | apply Kept.alloc | apply Kept.drewN | apply Kept.drew) | exact HK.out)⟩, ⟨bl HB.out⟩⟩
    ·
     rw [if_neg c4] at H
     exact absurd H (by simp)
   ·
    rw [if_neg c3] at H
    have c3b0 : decide (x5_1 < (x0_1.length : Int)) = false := decide_eq_false c3
    clear c3
    simp only [Option.some.injEq, Prod.mk.injEq] at H
    obtain ⟨rfl, rfl⟩ := H
    obtain ⟨Ao9, co9, eo9⟩ := Kd.R_slice HO_0.out
    subst eo9
    go_wp2
    go_ret
    exact ⟨by first | rfl | (simp [errW_none, errW_some] <;> rfl) | (simp [*, errW_none, errW_some] <;> rfl), by (repeat apply rl1); exact HO_0.out, bl HB.out, by repeat (first | (with_reducible first | exact HK.out | apply Kept.alloc | apply Kept.drewN | apply Kept.drew) | exact HK.out)⟩

/- laws_heldTaskS: told with its mark -/

/- laws_heldCarryS: told with its mark -/

/- laws_heldDefectS: told with its mark -/

/-! ### laws_heldFleet: function 16 -/
def laws_heldFleet.f (k : Nat) (l0_0 : List (S86)) (l0_1 : List (S88)) (l0_2 : List (S90)) (a0_3 : Int) (a0_4 : Int) (a0_5 : Int) (a1 : Int) : Option (Int) := (laws_heldTaskS.f k l0_0 a1).bind fun t368 => (if t368 < 0 then (some (-1)) else ((laws_heldCarryS.f k l0_1 t368).bind fun t369 => (if t369 < 0 then (some (-1)) else ((laws_heldDefectS.f k l0_2 t369).bind fun t370 => (if t370 < 0 then (some (-1)) else (some t370))))))
set_option maxHeartbeats 8000000 in
set_option maxRecDepth 100000 in
theorem laws_heldFleet.calls (k : Nat) (A0_0 : Option Addr) (c0_0 : Nat) (l0_0 : List (S86)) (A0_1 : Option Addr) (c0_1 : Nat) (l0_1 : List (S88)) (A0_2 : Option Addr) (c0_2 : Nat) (l0_2 : List (S90)) (a0_3 : Int) (a0_4 : Int) (a0_5 : Int) (a1 : Int) (r : Int) (w : World) (hr0_0 : Kd.C k86 w A0_0 l0_0.length l0_0) (hc0_0 : l0_0.length ≤ c0_0) (hr0_1 : Kd.C k88 w A0_1 l0_1.length l0_1) (hc0_1 : l0_1.length ≤ c0_1) (hr0_2 : Kd.C k90 w A0_2 l0_2.length l0_2) (hc0_2 : l0_2.length ≤ c0_2) (h : laws_heldFleet.f k l0_0 l0_1 l0_2 a0_3 a0_4 a0_5 a1 = some r) :
  Calls Tryz.prog 16 #[.agg #[.slice A0_0 l0_0.length c0_0, .slice A0_1 l0_1.length c0_1, .slice A0_2 l0_2.length c0_2, .int .i64 a0_3, .int .i64 a0_4, .int .i64 a0_5], .int .i64 a1] w fun e w' => e = .returned (.int .i64 r) ∧ Below w.heap.size w w' := by
 have hu37 := Tryz.underlying37
 have HR0_0 := Aside0.mk hr0_0
 have HC0_0 := Aside0.mk hc0_0
 clear hr0_0 hc0_0
 have HR0_1 := Aside0.mk hr0_1
 have HC0_1 := Aside0.mk hc0_1
 clear hr0_1 hc0_1
 have HR0_2 := Aside0.mk hr0_2
 have HC0_2 := Aside0.mk hc0_2
 clear hr0_2 hc0_2
 have HB := Aside0.mk (Below.refl w.heap.size w)
 have H : ((laws_heldTaskS.f k l0_0 a1).bind fun t368 => (if t368 < 0 then (some (-1)) else ((laws_heldCarryS.f k l0_1 t368).bind fun t369 => (if t369 < 0 then (some (-1)) else ((laws_heldDefectS.f k l0_2 t369).bind fun t370 => (if t370 < 0 then (some (-1)) else (some t370))))))) = some r := h
 clear h
 replace H := Option.bind_eq_some_iff.mp H
 obtain ⟨t368, A30, H⟩ := H
 replace H : (if t368 < 0 then (some (-1)) else ((laws_heldCarryS.f k l0_1 t368).bind fun t369 => (if t369 < 0 then (some (-1)) else ((laws_heldDefectS.f k l0_2 t369).bind fun t370 => (if t370 < 0 then (some (-1)) else (some t370)))))) = some r := H
 have A3 := Aside0.mk A30
 clear A30
 have HC4 := Aside0.mk H
 clear H
 go_enter Tryz.func16, Tryz.ntmps16
 go_upto_if 10 with (first | ((with_reducible refine gate_dst (N := 2) rfl ?_); refine box_event ?hg (N := 2) ?hd (cs := #[.slice A0_0 l0_0.length c0_0, .slice A0_1 l0_1.length c0_1, .slice A0_2 l0_2.length c0_2, .int .i64 a0_3, .int .i64 a0_4, .int .i64 a0_5]) (t := 37) ?hr ?_; (case hd => rfl); (case hg => rfl); (case hr => first | (go_simp; done) | (go_simp; rfl)); intro gb367 hg w5 hbox hb; have BK367 := Aside0.mk (hbox); have GW367 := Aside0.mk ((by rw [hg]; exact (below_size (bl HB.out)) : w.heap.size ≤ gb367)); have GE367 := GW367; replace HB := Aside0.mk (below_step (bl HB.out) hb); clear hb hbox hg; obtain ⟨hcz6_0, hcz6_1, hcz6_2, hcz6_3, hcz6_4, hcz6_5⟩ := ck6 BK367.out; obtain ⟨hfz6_0, hfz6_1, hfz6_2, hfz6_3, hfz6_4, hfz6_5⟩ := fz6 BK367.out) | ((with_reducible refine gate_callee (f := 40) rfl ?_); refine goesL_ (some 8) rfl rfl Tryz.func40 (by kernel_rfl) rfl #[.slice A0_0 l0_0.length c0_0, .int .i64 a1] rfl (by (try simp only [am_]); first | done | rfl) ?_; (with_reducible refine (laws_heldTaskS.calls k _ _ l0_0 a1 t368 _ ?side1 ?side2 A3.out).mono ?_); (case side1 => exact rc (Kd.C_below HR0_0.out HB.out)); (case side2 => exact HC0_0.out); rintro e w7 ⟨rfl, hb⟩; refine ⟨_, rfl, ?_⟩; replace BK367 := Aside0.mk (blk_below (bk BK367.out) hb); replace HB := Aside0.mk (below_step (by repeat with_reducible first | exact bl HB.out | refine below_set ?_ GE367.out | refine bq ?_) hb); (try clear hb); (try clear hb2); (try clear hk); (try clear hi)))
 have H := HC4.out
 clear HC4
 by_cases c8 : t368 < 0
 ·
  rw [if_pos c8] at H
  have c8b0 : decide (t368 < 0) = true := decide_eq_true c8
  clear c8
  (first | rw [c8b0] | (simp only [i64_w, i32_w]; rw [c8b0]) | skip)
  obtain rfl := Option.some.inj H
  go_wp2
  go_ret
  exact ⟨by first | rfl | (simp [errW_none, errW_some] <;> rfl) | (simp [*, errW_none, errW_some] <;> rfl), by repeat with_reducible first | exact bl HB.out | refine below_set ?_ GE367.out | refine bq ?_⟩
 ·
  rw [if_neg c8] at H
  have c8b0 : decide (t368 < 0) = false := decide_eq_false c8
  clear c8
  (first | rw [c8b0] | (simp only [i64_w, i32_w]; rw [c8b0]) | skip)
  replace H := Option.bind_eq_some_iff.mp H
  obtain ⟨t369, A90, H⟩ := H
  replace H : (if t369 < 0 then (some (-1)) else ((laws_heldDefectS.f k l0_2 t369).bind fun t370 => (if t370 < 0 then (some (-1)) else (some t370)))) = some r := H
  have A9 := Aside0.mk A90
  clear A90
  have HC10 := Aside0.mk H
  clear H
  obtain ⟨hcz11_0, hcz11_1, hcz11_2, hcz11_3, hcz11_4, hcz11_5⟩ := ck6 BK367.out
  obtain ⟨hfz11_0, hfz11_1, hfz11_2, hfz11_3, hfz11_4, hfz11_5⟩ := fz6 BK367.out
  go_upto_if 16 with (first | ((with_reducible refine gate_callee (f := 41) rfl ?_); refine goesL_ (some 14) rfl rfl Tryz.func41 (by kernel_rfl) rfl #[.slice A0_1 l0_1.length c0_1, .int .i64 t368] rfl (by (try simp only [am_]); first | done | rfl) ?_; (with_reducible refine (laws_heldCarryS.calls k _ _ l0_1 t368 t369 _ ?side1 ?side2 A9.out).mono ?_); (case side1 => exact rc (Kd.C_below HR0_1.out HB.out)); (case side2 => exact HC0_1.out); rintro e w12 ⟨rfl, hb⟩; refine ⟨_, rfl, ?_⟩; replace BK367 := Aside0.mk (blk_below (bk BK367.out) hb); replace HB := Aside0.mk (below_step (by repeat with_reducible first | exact bl HB.out | refine below_set ?_ GE367.out | refine bq ?_) hb); (try clear hb); (try clear hb2); (try clear hk); (try clear hi)))
  have H := HC10.out
  clear HC10
  by_cases c13 : t369 < 0
  ·
   rw [if_pos c13] at H
   have c13b0 : decide (t369 < 0) = true := decide_eq_true c13
   clear c13
   (first | rw [c13b0] | (simp only [i64_w, i32_w]; rw [c13b0]) | skip)
   obtain rfl := Option.some.inj H
   go_wp2
   go_ret
   exact ⟨by first | rfl | (simp [errW_none, errW_some] <;> rfl) | (simp [*, errW_none, errW_some] <;> rfl), by repeat with_reducible first | exact bl HB.out | refine below_set ?_ GE367.out | refine bq ?_⟩
  ·
   rw [if_neg c13] at H
   have c13b0 : decide (t369 < 0) = false := decide_eq_false c13
   clear c13
   (first | rw [c13b0] | (simp only [i64_w, i32_w]; rw [c13b0]) | skip)
   replace H := Option.bind_eq_some_iff.mp H
   obtain ⟨t370, A140, H⟩ := H
   replace H : (if t370 < 0 then (some (-1)) else (some t370)) = some r := H
   have A14 := Aside0.mk A140
   clear A140
   have HC15 := Aside0.mk H
   clear H
   obtain ⟨hcz16_0, hcz16_1, hcz16_2, hcz16_3, hcz16_4, hcz16_5⟩ := ck6 BK367.out
   obtain ⟨hfz16_0, hfz16_1, hfz16_2, hfz16_3, hfz16_4, hfz16_5⟩ := fz6 BK367.out
   go_upto_if 22 with (first | ((with_reducible refine gate_callee (f := 42) rfl ?_); refine goesL_ (some 20) rfl rfl Tryz.func42 (by kernel_rfl) rfl #[.slice A0_2 l0_2.length c0_2, .int .i64 t369] rfl (by (try simp only [am_]); first | done | rfl) ?_; (with_reducible refine (laws_heldDefectS.calls k _ _ l0_2 t369 t370 _ ?side1 ?side2 A14.out).mono ?_); (case side1 => exact rc (Kd.C_below HR0_2.out HB.out)); (case side2 => exact HC0_2.out); rintro e w17 ⟨rfl, hb⟩; refine ⟨_, rfl, ?_⟩; replace BK367 := Aside0.mk (blk_below (bk BK367.out) hb); replace HB := Aside0.mk (below_step (by repeat with_reducible first | exact bl HB.out | refine below_set ?_ GE367.out | refine bq ?_) hb); (try clear hb); (try clear hb2); (try clear hk); (try clear hi)))
   have H := HC15.out
   clear HC15
   by_cases c18 : t370 < 0
   ·
    rw [if_pos c18] at H
    have c18b0 : decide (t370 < 0) = true := decide_eq_true c18
    clear c18
    (first | rw [c18b0] | (simp only [i64_w, i32_w]; rw [c18b0]) | skip)
    obtain rfl := Option.some.inj H
    go_wp2
    go_ret
    exact ⟨by first | rfl | (simp [errW_none, errW_some] <;> rfl) | (simp [*, errW_none, errW_some] <;> rfl), by repeat with_reducible first | exact bl HB.out | refine below_set ?_ GE367.out | refine bq ?_⟩
   ·
    rw [if_neg c18] at H
    have c18b0 : decide (t370 < 0) = false := decide_eq_false c18
    clear c18
    (first | rw [c18b0] | (simp only [i64_w, i32_w]; rw [c18b0]) | skip)
    obtain rfl := Option.some.inj H
    go_wp2
    go_ret
    exact ⟨by first | rfl | (simp [errW_none, errW_some] <;> rfl) | (simp [*, errW_none, errW_some] <;> rfl), by repeat with_reducible first | exact bl HB.out | refine below_set ?_ GE367.out | refine bq ?_⟩

/-! ### laws_heldBoolS: function 17 -/
def laws_heldBoolS.l0 : Nat → List Bool → Int → Int → Option (Int)
 | 0, _, _, _ => none
 | k + 1, x0, x1, x5 => if x5 < (x0.length : Int) then (if 0 ≤ x5 then (if ((rdOf false x0 x5) != ((Int.tmod x1 3) == 0)) = true then (some (-1)) else (laws_heldBoolS.l0 k x0 (wrap64 (x1 + 1)) (wrap64 (x5 + 1)))) else (none)) else (some x1)
def laws_heldBoolS.f (k : Nat) (l0 : List Bool) (a1 : Int) : Option (Int) := laws_heldBoolS.l0 k l0 a1 0
set_option maxHeartbeats 8000000 in
set_option maxRecDepth 100000 in
theorem laws_heldBoolS.calls (k : Nat) (A0 : Option Addr) (c0 : Nat) (l0 : List Bool) (a1 : Int) (r : Int) (w : World) (hr0 : Kd.C Kd.bool w A0 l0.length l0) (hc0 : l0.length ≤ c0) (h : laws_heldBoolS.f k l0 a1 = some r) :
  Calls Tryz.prog 17 #[.slice A0 l0.length c0, .int .i64 a1] w fun e w' => e = .returned (.int .i64 r) ∧ Drawn0 w w' := by
 have HR0 := Aside0.mk hr0
 have HC0 := Aside0.mk hc0
 clear hr0 hc0
 have H : (laws_heldBoolS.l0 k l0 a1 0) = some r := h
 clear h
 have H' := Aside0.mk H
 clear H
 go_enter Tryz.func17, Tryz.ntmps17
 go_wp2
 go_loopg [1, 5] k (fun kq v1 v5 w' => ∃ (x1_1 : Int) (x5_1 : Int), v1 = .int .i64 x1_1 ∧ v5 = .int .i64 x5_1 ∧ Aside0 (laws_heldBoolS.l0 kq l0 x1_1 x5_1 = some r) ∧ Aside0 (kq ≤ k) ∧ Drawn0 w w')
 case atStart => exact ⟨(a1), (0), (by first | rfl | (simp; done) | (simp [*]; done)), (by first | rfl | (simp; done) | (simp [*]; done)), H', ⟨Nat.le_refl _⟩, by repeat (first | exact Drawn0.refl _ | apply Drawn0.step)⟩
 case round =>
  clear H'
  try clear c1
  try clear p2
  obtain ⟨x1_1, x5_1, rfl, rfl, HA, HK1, ⟨m1, rfl⟩⟩ := hrel
  cases gk with
  | zero => exact absurd HA.out (by simp [laws_heldBoolS.l0])
  | succ k1 =>
   have H := HA.out
   clear HA
   simp only [laws_heldBoolS.l0] at H
   by_cases c3 : x5_1 < (l0.length : Int)
   ·
    rw [if_pos c3] at H
    have c3b0 : decide (x5_1 < (l0.length : Int)) = true := decide_eq_true c3
    clear c3
    by_cases c4 : 0 ≤ x5_1
    ·
     rw [if_pos c4] at H
     have c4b0 : decide (0 ≤ x5_1) = true := decide_eq_true c4
     clear c4
     by_cases c5 : ((rdOf false l0 x5_1) != ((Int.tmod x1_1 3) == 0)) = true
     ·
      rw [if_pos c5] at H
      have c5b0 : ((rdOf false l0 x5_1) != ((Int.tmod x1_1 3) == 0)) = true := c5
      (try (have c5b1 : decide ((rdOf false l0 x5_1) = ((Int.tmod x1_1 3) == 0)) = false := by simpa using c5))
      (try (have c5b2 : ((rdOf false l0 x5_1) == ((Int.tmod x1_1 3) == 0)) = false := by simpa using c5))
      (try (have c5b3 : ¬ ((rdOf false l0 x5_1) = ((Int.tmod x1_1 3) == 0)) := by simpa using c5))
      clear c5
      obtain rfl := Option.some.inj H
      have p371 : 0 ≤ (x5_1 : Int) := of_decide_eq_true (by first | (with_reducible assumption) | assumption)
      have q371 : x5_1 < (l0.length : Int) := of_decide_eq_true (by first | (with_reducible assumption) | assumption)
      obtain ⟨ad371, e371, hx371_0⟩ := Kd.at_bool HR0.out x5_1 p371 q371
      cases e371
      replace p371 := eq_true p371
      replace q371 := eq_true q371
      go_wp2
      go_ret
      exact ⟨by first | rfl | (simp; done) | (simp [*]; done), by repeat (first | exact Drawn0.refl _ | apply Drawn0.step)⟩
     ·
      rw [if_neg c5] at H
      have c5b0 : ((rdOf false l0 x5_1) != ((Int.tmod x1_1 3) == 0)) = false := by simpa using c5
      (try (have c5b1 : decide ((rdOf false l0 x5_1) = ((Int.tmod x1_1 3) == 0)) = true := by simpa using c5))
      (try (have c5b2 : ((rdOf false l0 x5_1) == ((Int.tmod x1_1 3) == 0)) = true := by simpa using c5))
      clear c5
      have H' := Aside0.mk H
      clear H
      have p371 : 0 ≤ (x5_1 : Int) := of_decide_eq_true (by first | (with_reducible assumption) | assumption)
      have q371 : x5_1 < (l0.length : Int) := of_decide_eq_true (by first | (with_reducible assumption) | assumption)
      obtain ⟨ad371, e371, hx371_0⟩ := Kd.at_bool HR0.out x5_1 p371 q371
      cases e371
      replace p371 := eq_true p371
      replace q371 := eq_true q371
      go_wp2
      go_roundg k1
      case measure => have := HK1.out; omega
      case rel => exact ⟨(wrap64 (x1_1 + 1)), (wrap64 (x5_1 + 1)), (by first | rfl | (simp; done) | (simp [*]; done)), (by first | rfl | (simp; done) | (simp [*]; done)), H', ⟨by have := HK1.out; omega⟩, by repeat (first | exact Drawn0.refl _ | apply Drawn0.step)⟩
    ·
     rw [if_neg c4] at H
     exact absurd H (by simp)
   ·
    rw [if_neg c3] at H
    have c3b0 : decide (x5_1 < (l0.length : Int)) = false := decide_eq_false c3
    clear c3
    obtain rfl := Option.some.inj H
    go_wp2
    go_ret
    exact ⟨by first | rfl | (simp; done) | (simp [*]; done), by repeat (first | exact Drawn0.refl _ | apply Drawn0.step)⟩

end Go.Proofs.YtdimdlifjdbgnaaGreat.PFnExactRunWork
