import Derived.Test.YtdimdlifjdbgnaaGreatPFnExactRunWorkx13
namespace Go.Proofs.YtdimdlifjdbgnaaGreat.PFnExactRunWork
open Go.RowKit Go.Proofs.YtdimdlifjdbgnaaGreatW.PrintWords Go.Proofs.YtdimdlifjdbgnaaGreatW.PrintLast Go.Proofs.YtdimdlifjdbgnaaGreatW.PrintMore Go.Proofs.YtdimdlifjdbgnaaGreat.Sq
attribute [local go_sem] max2_int min2_int max_two min_two max_three min_three max_four min_four
set_option linter.unusedVariables false
set_option linter.unusedSimpArgs false

-- HAND FROM
open Go.Proofs.YtdimdlifjdbgnaaGreat.Base Go.Proofs.YtdimdlifjdbgnaaGreat.Sq
set_option maxRecDepth 100000 in
theorem compareBytes_t (a b : ByteArray) (w : World) : Calls Tryz.prog 93 #[.string a, .string b] w fun e w' => e = .returned (.int .i64 (Lib.compareBytes a.data.toList b.data.toList)) ∧ w' = w := by
  go_enter Tryz.func93, Tryz.ntmps93
  go_wp2
  rw [run_callFunc_extern Tryz.func103 (by kernel_rfl) (by kernel_rfl) (by kernel_rfl) (e := Extern.BytealgCompare.compare) (by kernel_rfl), Lib.run_compareString]
  simp only [Result.andThen]
  rw [Oper.upon_value]
  go_wp2
  go_ret
  exact ⟨rfl, rfl⟩
theorem compare_t (a b : ByteArray) (w : World) : Calls Tryz.prog 75 #[.string a, .string b] w fun e w' => e = .returned (.int .i64 (Lib.compareBytes a.data.toList b.data.toList)) ∧ w' = w := by
  have K := Aside0.mk (compareBytes_t a b)
  go_enter Tryz.func75, Tryz.ntmps75
  go_wp2_with (go_at_call 93; (with_reducible refine (K.out _).mono ?_); rintro e w' ⟨rfl, rfl⟩)
  go_ret
  exact ⟨rfl, rfl⟩
theorem isnan_t (a : Int) (w : World) : Calls Tryz.prog 104 #[.int .i64 a] w fun e w' => e = .returned (.bool false) ∧ w' = w := by
  go_enter Tryz.func104, Tryz.ntmps104
  go_wp2
  go_ret
  exact ⟨by simp, rfl⟩
theorem cmpi_t (a b : Int) (w : World) : Calls Tryz.prog 96 #[.int .i64 a, .int .i64 b] w fun e w' => e = .returned (.int .i64 (cmpI a b)) ∧ w' = w := by
  have K1 := Aside0.mk (isnan_t a)
  have K2 := Aside0.mk (isnan_t b)
  unfold cmpI
  by_cases h1 : a < b
  · rw [if_pos h1]
    go_enter Tryz.func96, Tryz.ntmps96
    go_wp2_with (go_at_call 104; first | ((with_reducible refine (K1.out _).mono ?_); rintro e w' ⟨rfl, rfl⟩) | ((with_reducible refine (K2.out _).mono ?_); rintro e w' ⟨rfl, rfl⟩))
    go_ret
    exact ⟨rfl, rfl⟩
  · rw [if_neg h1]
    by_cases h2 : b < a
    · rw [if_pos h2]
      go_enter Tryz.func96, Tryz.ntmps96
      go_wp2_with (go_at_call 104; first | ((with_reducible refine (K1.out _).mono ?_); rintro e w' ⟨rfl, rfl⟩) | ((with_reducible refine (K2.out _).mono ?_); rintro e w' ⟨rfl, rfl⟩))
      go_ret
      exact ⟨rfl, rfl⟩
    · rw [if_neg h2]
      go_enter Tryz.func96, Tryz.ntmps96
      go_wp2_with (go_at_call 104; first | ((with_reducible refine (K1.out _).mono ?_); rintro e w' ⟨rfl, rfl⟩) | ((with_reducible refine (K2.out _).mono ?_); rintro e w' ⟨rfl, rfl⟩))
      go_ret
      exact ⟨rfl, rfl⟩
set_option maxHeartbeats 4000000 in
set_option maxRecDepth 100000 in
theorem byName_t (x : S86) (n : ByteArray) (w : World) : Calls Tryz.prog 74 #[.agg #[.string x.f0, .int .i64 x.f1, .int .i64 x.f2, .int .i64 x.f3, .int .i64 x.f4.f0, .int .i64 x.f4.f1, .int .i64 x.f4.f2], .string n] w fun e w' => e = .returned (.int .i64 (Lib.compareBytes x.f0.data.toList n.data.toList)) ∧ Below w.heap.size w w' := by
  have hu_ := Tryz.underlying86
  have K := Aside0.mk (compare_t x.f0 n)
  go_enter Tryz.func74, Tryz.ntmps74
  go_wp2_with (first | (go_at_call 75; (with_reducible refine (K.out _).mono ?_); rintro e w' ⟨rfl, rfl⟩))
  go_ret
  exact ⟨rfl, below_alloc (Below.refl _ _) _⟩
set_option maxHeartbeats 4000000 in
set_option maxRecDepth 100000 in
theorem byItem_t (x : S90) (n : Int) (w : World) : Calls Tryz.prog 95 #[.agg #[.string x.f0, .int .i64 x.f1, .int .i64 x.f2], .int .i64 n] w fun e w' => e = .returned (.int .i64 (cmpI x.f1 n)) ∧ Below w.heap.size w w' := by
  have hu_ := Tryz.underlying90
  have K := Aside0.mk (cmpi_t x.f1 n)
  go_enter Tryz.func95, Tryz.ntmps95
  go_wp2_with (first | (go_at_call 96; (with_reducible refine (K.out _).mono ?_); rintro e w' ⟨rfl, rfl⟩))
  go_ret
  exact ⟨rfl, below_alloc (Below.refl _ _) _⟩
set_option maxHeartbeats 4000000 in
set_option maxRecDepth 100000 in
theorem bs73 (f : S86 → Int) (tv : Value) (l : List S86) (HQ : Aside0 (∀ x ∈ l, ∀ W, Calls Tryz.prog 74 #[.agg #[.string x.f0, .int .i64 x.f1, .int .i64 x.f2, .int .i64 x.f3, .int .i64 x.f4.f0, .int .i64 x.f4.f1, .int .i64 x.f4.f2], tv] W fun e w' => e = .returned (.int .i64 (f x)) ∧ Below W.heap.size W w')) (m : Nat) (hm : m ≤ l.length) (HM : Aside0 ((∀ j, ∀ h : j < l.length, j < m → f l[j] < 0) ∧ ∀ j, ∀ h : j < l.length, m ≤ j → ¬ f l[j] < 0)) (A : Option Addr) (c : Nat) (w : World) (hr : Kd.C k86 w A l.length l) (hc : l.length ≤ c) (hl : l.length ≤ 140737488355328) :
    Calls Tryz.prog 73 #[.slice A l.length c, tv, .func (.func 74) #[] #[]] w fun e w' => e = .returned (.tuple #[.int .i64 m, .bool (bsHit f l m)]) ∧ Below w.heap.size w w' := by
  have hu_ := Tryz.underlying86
  have HR := Aside0.mk hr
  clear hr
  go_enter Tryz.func73, Tryz.ntmps73
  go_wp2
  go_loopw [9, 10] (fun v9 v10 wr => ∃ i j : Nat, i ≤ m ∧ m ≤ j ∧ j ≤ l.length ∧ v9 = .int .i64 i ∧ v10 = .int .i64 j ∧ Aside0 (Below w.heap.size w wr)) (fun v9 v10 _ => (intOf v10).toNat - (intOf v9).toNat)
  case atStart => exact ⟨0, l.length, Nat.zero_le _, hm, Nat.le_refl _, rfl, rfl, ⟨Below.refl _ _⟩⟩
  case round =>
    obtain ⟨i, j, hi, hj, hjl, rfl, rfl, HB⟩ := hrel
    by_cases hlt : i < j
    · obtain ⟨k, hk⟩ : ∃ k : Nat, k = (i + j) / 2 := ⟨_, rfl⟩
      have hkl : k < l.length := by omega
      obtain ⟨ad, e0, hx0, hx1, hx2, hx3, hx4, hx5, hx6⟩ := at_T86 (Kd.C_below HR.out HB.out) (k : Int) (by omega) (by omega)
      cases e0
      simp only [Int.toNat_natCast] at hx0 hx1 hx2 hx3 hx4 hx5 hx6
      have HC := Aside0.mk (HQ.out _ (List.getElem_mem hkl) wr)
      rw [← rd_at86 hkl] at HC
      obtain ⟨F, hF⟩ : ∃ F, F = f (rd_T86 l (k : Int)) := ⟨_, rfl⟩
      have HE := Aside0.mk hF
      rw [← hF] at HC
      clear hF
      by_cases hb : F < 0
      · have HK := Aside0.mk hk
        subst hk
        rw [show (((i + j) / 2 : Nat) : Int) = ((i : Int) + (j : Int)) / 2 by omega] at HC
        go_wp2_with (first | (go_at_call 74; (with_reducible refine HC.out.mono ?_); rintro e w' ⟨rfl, hb5⟩))
        go_roundw
        case rel =>
          refine ⟨(i + j) / 2 + 1, j, ?_, hj, hjl, by go_num, rfl, ⟨below_step HB.out hb5⟩⟩
          rcases Nat.lt_or_ge ((i + j) / 2) m with h | h
          · omega
          · have := HM.out.2 _ hkl h; rw [← rd_at86 hkl, ← HE.out] at this; omega
        case measure => simp [intOf]; omega
      · have HK := Aside0.mk hk
        subst hk
        rw [show (((i + j) / 2 : Nat) : Int) = ((i : Int) + (j : Int)) / 2 by omega] at HC
        go_wp2_with (first | (go_at_call 74; (with_reducible refine HC.out.mono ?_); rintro e w' ⟨rfl, hb5⟩))
        go_roundw
        case rel =>
          refine ⟨i, (i + j) / 2, hi, ?_, by omega, rfl, by go_num, ⟨below_step HB.out hb5⟩⟩
          rcases Nat.lt_or_ge ((i + j) / 2) m with h | h
          · have := HM.out.1 _ hkl h; rw [← rd_at86 hkl, ← HE.out] at this; omega
          · omega
        case measure => simp [intOf]; omega
    · obtain rfl : i = m := by omega
      obtain rfl : j = i := by omega
      by_cases hlt : j < l.length
      · obtain ⟨ad, e0, hx0, hx1, hx2, hx3, hx4, hx5, hx6⟩ := at_T86 (Kd.C_below HR.out HB.out) (j : Int) (by omega) (by omega)
        cases e0
        simp only [Int.toNat_natCast] at hx0 hx1 hx2 hx3 hx4 hx5 hx6
        have HC := Aside0.mk (HQ.out _ (List.getElem_mem hlt) wr)
        have HE := Aside0.mk (show bsHit f l j = (f (rd_T86 l (j : Int)) == 0) by unfold bsHit; rw [List.getElem?_eq_getElem hlt, rd_at86 hlt])
        rw [← rd_at86 hlt] at HC
        go_wp2_with (first | (go_at_call 74; (with_reducible refine HC.out.mono ?_); rintro e w' ⟨rfl, hb5⟩))
        go_ret2
        exact ⟨by rw [HE.out]; rfl, below_step HB.out hb5⟩
      · have HE := Aside0.mk (show bsHit f l j = false by unfold bsHit; rw [List.getElem?_eq_none (by omega)])
        go_wp2
        go_ret2
        exact ⟨by rw [HE.out]; rfl, HB.out⟩

set_option maxHeartbeats 4000000 in
set_option maxRecDepth 100000 in
theorem bs94 (f : S90 → Int) (tv : Value) (l : List S90) (HQ : Aside0 (∀ x ∈ l, ∀ W, Calls Tryz.prog 95 #[.agg #[.string x.f0, .int .i64 x.f1, .int .i64 x.f2], tv] W fun e w' => e = .returned (.int .i64 (f x)) ∧ Below W.heap.size W w')) (m : Nat) (hm : m ≤ l.length) (HM : Aside0 ((∀ j, ∀ h : j < l.length, j < m → f l[j] < 0) ∧ ∀ j, ∀ h : j < l.length, m ≤ j → ¬ f l[j] < 0)) (A : Option Addr) (c : Nat) (w : World) (hr : Kd.C k90 w A l.length l) (hc : l.length ≤ c) (hl : l.length ≤ 140737488355328) :
    Calls Tryz.prog 94 #[.slice A l.length c, tv, .func (.func 95) #[] #[]] w fun e w' => e = .returned (.tuple #[.int .i64 m, .bool (bsHit f l m)]) ∧ Below w.heap.size w w' := by
  have hu_ := Tryz.underlying90
  have HR := Aside0.mk hr
  clear hr
  go_enter Tryz.func94, Tryz.ntmps94
  go_wp2
  go_loopw [9, 10] (fun v9 v10 wr => ∃ i j : Nat, i ≤ m ∧ m ≤ j ∧ j ≤ l.length ∧ v9 = .int .i64 i ∧ v10 = .int .i64 j ∧ Aside0 (Below w.heap.size w wr)) (fun v9 v10 _ => (intOf v10).toNat - (intOf v9).toNat)
  case atStart => exact ⟨0, l.length, Nat.zero_le _, hm, Nat.le_refl _, rfl, rfl, ⟨Below.refl _ _⟩⟩
  case round =>
    obtain ⟨i, j, hi, hj, hjl, rfl, rfl, HB⟩ := hrel
    by_cases hlt : i < j
    · obtain ⟨k, hk⟩ : ∃ k : Nat, k = (i + j) / 2 := ⟨_, rfl⟩
      have hkl : k < l.length := by omega
      obtain ⟨ad, e0, hx0, hx1, hx2⟩ := at_T90 (Kd.C_below HR.out HB.out) (k : Int) (by omega) (by omega)
      cases e0
      simp only [Int.toNat_natCast] at hx0 hx1 hx2
      have HC := Aside0.mk (HQ.out _ (List.getElem_mem hkl) wr)
      rw [← rd_at90 hkl] at HC
      obtain ⟨F, hF⟩ : ∃ F, F = f (rd_T90 l (k : Int)) := ⟨_, rfl⟩
      have HE := Aside0.mk hF
      rw [← hF] at HC
      clear hF
      by_cases hb : F < 0
      · have HK := Aside0.mk hk
        subst hk
        rw [show (((i + j) / 2 : Nat) : Int) = ((i : Int) + (j : Int)) / 2 by omega] at HC
        go_wp2_with (first | (go_at_call 95; (with_reducible refine HC.out.mono ?_); rintro e w' ⟨rfl, hb5⟩))
        go_roundw
        case rel =>
          refine ⟨(i + j) / 2 + 1, j, ?_, hj, hjl, by go_num, rfl, ⟨below_step HB.out hb5⟩⟩
          rcases Nat.lt_or_ge ((i + j) / 2) m with h | h
          · omega
          · have := HM.out.2 _ hkl h; rw [← rd_at90 hkl, ← HE.out] at this; omega
        case measure => simp [intOf]; omega
      · have HK := Aside0.mk hk
        subst hk
        rw [show (((i + j) / 2 : Nat) : Int) = ((i : Int) + (j : Int)) / 2 by omega] at HC
        go_wp2_with (first | (go_at_call 95; (with_reducible refine HC.out.mono ?_); rintro e w' ⟨rfl, hb5⟩))
        go_roundw
        case rel =>
          refine ⟨i, (i + j) / 2, hi, ?_, by omega, rfl, by go_num, ⟨below_step HB.out hb5⟩⟩
          rcases Nat.lt_or_ge ((i + j) / 2) m with h | h
          · have := HM.out.1 _ hkl h; rw [← rd_at90 hkl, ← HE.out] at this; omega
          · omega
        case measure => simp [intOf]; omega
    · obtain rfl : i = m := by omega
      obtain rfl : j = i := by omega
      by_cases hlt : j < l.length
      · obtain ⟨ad, e0, hx0, hx1, hx2⟩ := at_T90 (Kd.C_below HR.out HB.out) (j : Int) (by omega) (by omega)
        cases e0
        simp only [Int.toNat_natCast] at hx0 hx1 hx2
        have HC := Aside0.mk (HQ.out _ (List.getElem_mem hlt) wr)
        have HE := Aside0.mk (show bsHit f l j = (f (rd_T90 l (j : Int)) == 0) by unfold bsHit; rw [List.getElem?_eq_getElem hlt, rd_at90 hlt])
        rw [← rd_at90 hlt] at HC
        go_wp2_with (first | (go_at_call 95; (with_reducible refine HC.out.mono ?_); rintro e w' ⟨rfl, hb5⟩))
        go_ret2
        exact ⟨by rw [HE.out]; rfl, below_step HB.out hb5⟩
      · have HE := Aside0.mk (show bsHit f l j = false by unfold bsHit; rw [List.getElem?_eq_none (by omega)])
        go_wp2
        go_ret2
        exact ⟨by rw [HE.out]; rfl, HB.out⟩

theorem eBsD : Ent Tryz.prog 94 := fun a w => enters_ Tryz.func94 rfl rfl a w
set_option maxHeartbeats 8000000 in
set_option maxRecDepth 100000 in
theorem find_t (w0 : World) (g : Nat) (v0 u1 v2 : Value) (l2 : List S90) (p q r d0 : Int) (d1 : ByteArray) (d2 d3 : Int) (w : World) (hb : w.heap[g]? = some (.cells #[v0, u1, v2, .int .i64 p, .int .i64 q, .int .i64 r] 37 (0, 0))) (hg : w0.heap.size ≤ g) (hbase : Below w0.heap.size w0 w)
    (h2 : Kd.R k90 90 w w0.heap.size (fun _ => True) v2 l2) (hz : d1.size ≤ 140737488355328) (hn : l2.length ≤ 20) (hp : l2.Pairwise (fun a b => cmpD d2 b < 0 → cmpD d2 a < 0)) :
    Calls Tryz.prog 76 #[.pointer (some ⟨g, 0, none⟩), .agg #[.int .i64 d0, .string d1, .int .i64 d2, .int .i64 d3]] w fun e w' =>
      e = .returned (.bool (!bsHit (cmpD d2) l2 (cutAt (cmpD d2) l2) && (nameB d1 && (inB d2 1 1000000 && decide (l2.length < 20))))) ∧ Only w w' g [90] ∧ Below w0.heap.size w0 w' ∧
      ((!bsHit (cmpD d2) l2 (cutAt (cmpD d2) l2) && (nameB d1 && (inB d2 1 1000000 && decide (l2.length < 20)))) = true → ∃ v, w'.heap[g]? = some (.cells #[v0, u1, v, .int .i64 p, .int .i64 q, .int .i64 r] 37 (0, 0)) ∧ Kd.R k90 90 w' w0.heap.size (fun _ => True) v (l2.take (cutAt (cmpD d2) l2) ++ ⟨d1, d2, r⟩ :: l2.drop (cutAt (cmpD d2) l2))) := by
  have hu1 := Tryz.underlying37
  have hu2 := Tryz.underlying60
  have hu3 := Tryz.underlying90
  have hu4 := Tryz.underlying34
  obtain ⟨A, c, rfl, hc, hC⟩ := Kd.R_reads h2
  obtain ⟨b1, E1⟩ : ∃ b, bsHit (cmpD d2) l2 (cutAt (cmpD d2) l2) = b := ⟨_, rfl⟩
  obtain ⟨b2, E2⟩ : ∃ b, nameB d1 = b := ⟨_, rfl⟩
  obtain ⟨b3, E3⟩ : ∃ b, inB d2 1 1000000 = b := ⟨_, rfl⟩
  obtain ⟨m, hm⟩ : ∃ m, cutAt (cmpD d2) l2 = m := ⟨_, rfl⟩
  have hml : m ≤ l2.length := hm ▸ cutAt_le _ _
  have KB := Aside0.mk (fun w' (h : Below w.heap.size w w') => bs94 (cmpD d2) (.int .i64 d2) l2 ⟨fun x _ W => byItem_t x d2 W⟩ (cutAt (cmpD d2) l2) (cutAt_le _ _) ⟨fun j hj h1 => cutAt_below _ _ j hj h1, fun j hj h1 => cutAt_above _ _ hp j hj h1⟩ A c w' (Kd.C_below hC h) hc (by omega))
  have KN := Aside0.mk (fun w' => kb_ (name_t d1 hz w') E2)
  have KI := Aside0.mk (fun w' => kb_ (in_t d2 1 1000000 w') E3)
  rw [E1, hm] at KB
  rw [E1, E2, E3, hm]
  have HBX := Aside0.mk (blk_new w (.cells #[.int .i64 d0, .string d1, .int .i64 d2, .int .i64 d3] 60 (0, 0)))
  have HBW := Aside0.mk (below_alloc (Below.refl w.heap.size w) (.cells #[.int .i64 d0, .string d1, .int .i64 d2, .int .i64 d3] 60 (0, 0)))
  have HR := Aside0.mk h2
  have HG := Aside0.mk hb
  have HBB := Aside0.mk hbase
  have hgs := blk_lt hb
  clear h2 hC hb E1 E2 E3 hm hp hbase
  go_enter Tryz.func76, Tryz.ntmps76
  go_upto_region 1 with (fail)
  refine world_ (fun W => W.heap[w.heap.size]? = some (.cells #[.int .i64 d0, .string d1, .int .i64 d2, .int .i64 d3] 60 (0, 0)) ∧ Below w.heap.size w W) ⟨HBX.out, HBW.out⟩ ?_
  clear HBX HBW
  rintro W ⟨HBX, HBW⟩
  replace HBX := Aside0.mk HBX
  replace HBW := Aside0.mk HBW
  have L := Aside0.mk (fun w' (h : Up W w') => (⟨ck (blk_below HG.out (below_step HBW.out h)) 2 rfl, ck (blk_below HBX.out h) 2 rfl⟩ : w'.cell? ⟨g, 2, none⟩ = some (.slice A l2.length c) ∧ w'.cell? ⟨w.heap.size, 2, none⟩ = some (.int .i64 d2)))
  have K1 := Aside0.mk (fun w' (h : Up W w') => KB.out w' (below_step HBW.out h))
  refine rg_ (by kernel_rfl) (by kernel_rfl) ?_
  (repeat (first | refine qn_ ?_ | refine qc_ eBsD K1.out ?_ | refine ql_ L.out ?_))
  refine qd_ ?_
  intro W2 hb2
  have HB2 := Aside0.mk (below_step HBW.out hb2)
  have HX2 := Aside0.mk (blk_below HBX.out hb2)
  clear L K1 KB HBX HBW hb2
  have hq1 := ck HX2.out 1 rfl
  have hq2 := ck HX2.out 2 rfl
  have hf2 := ck (blk_below HG.out HB2.out) 2 rfl
  cases b1 with
  | true =>
    go_wp2
    go_ret
    exact ⟨rfl, Only.of_below HB2.out g _, below_step HBB.out HB2.out, fun h => absurd h (by simp)⟩
  | false =>
  cases b2 with
  | false =>
    go_wp2_with (first | (go_at_call 69; (with_reducible refine (KN.out _).mono ?_); rintro e w5 ⟨rfl, hb5⟩))
    go_ret
    exact ⟨rfl, Only.of_below (below_step HB2.out hb5) g _, below_step HBB.out (below_step HB2.out hb5), fun h => absurd h (by simp)⟩
  | true =>
  cases b3 with
  | false =>
    go_wp2_with (first | (go_at_call 69; (with_reducible refine (KN.out _).mono ?_); rintro e w5 ⟨rfl, hb5⟩; have hq2' := bc hb5 hq2) | (go_at_call 70; (with_reducible refine (KI.out _).mono ?_); rintro e w6 ⟨rfl, hb6⟩))
    go_ret
    exact ⟨rfl, Only.of_below (below_step (below_step HB2.out hb5) hb6) g _, below_step HBB.out (below_step (below_step HB2.out hb5) hb6), fun h => absurd h (by simp)⟩
  | true =>
  by_cases hlt : l2.length < 20
  · go_upto_region 4 with (first | (go_at_call 69; (with_reducible refine (KN.out _).mono ?_); rintro e w5 ⟨rfl, hb5⟩; have hq2' := bc hb5 hq2; have hf2' := bc hb5 hf2) | (go_at_call 70; (with_reducible refine (KI.out _).mono ?_); rintro e w6 ⟨rfl, hb6⟩; have hf2'' := bc hb6 hf2'))
    clear hf2'' hf2' hq2' hf2 hq1 hq2
    refine world_ (fun W => W.heap[w.heap.size]? = some (.cells #[.int .i64 d0, .string d1, .int .i64 d2, .int .i64 d3] 60 (0, 0)) ∧ Below w.heap.size w W) ⟨blk_below (blk_below HX2.out hb5) hb6, below_step (below_step HB2.out hb5) hb6⟩ ?_
    clear hb5 hb6 HX2 HB2 KN KI
    rintro W4 ⟨HX, HB⟩
    replace HX := Aside0.mk HX
    replace HB := Aside0.mk HB
    have L := Aside0.mk (fun w' (h : Up W4 w') => (⟨ck (blk_below HG.out (below_step HB.out h)) 2 rfl, ck (blk_below HG.out (below_step HB.out h)) 5 rfl, ck (blk_below HX.out h) 1 rfl, ck (blk_below HX.out h) 2 rfl⟩ : w'.cell? ⟨g, 2, none⟩ = some (.slice A l2.length c) ∧ w'.cell? ⟨g, 5, none⟩ = some (.int .i64 r) ∧ w'.cell? ⟨w.heap.size, 1, none⟩ = some (.string d1) ∧ w'.cell? ⟨w.heap.size, 2, none⟩ = some (.int .i64 d2)))
    refine start_ (n := 21) (S := Up W4) (ds := [17, 20]) (Sq.M 0 21) (by kernel_rfl) rfl rfl (below_drew (Below.refl _ _)) (fun hS => ?_)
    generalize W4.drew = W5 at hS ⊢
    refine ra_ 0 38 (Sq.M 1 21) ?_
    refine ra_ 1 39 (Sq.M 2 21) ?_
    refine ra_ 2 40 (Sq.M 3 21) ?_
    refine ra_ 3 41 (Sq.M 4 21) ?_
    refine rt_ L.out hS 4 42 (Sq.M 5 21) ?_
    refine ra_ 5 43 (Sq.M 6 21) ?_
    refine ra_ 6 44 (Sq.M 7 21) ?_
    refine rt_ L.out hS 7 45 (Sq.M 8 21) ?_
    refine ra_ 8 46 (Sq.M 9 21) ?_
    refine rt_ L.out hS 9 47 (Sq.M 10 21) ?_
    refine ra_ 10 48 (Sq.M 11 21) ?_
    refine ra_ 11 49 (Sq.M 12 21) ?_
    refine ra_ 12 50 (Sq.M 13 21) ?_
    refine ra_ 13 51 (Sq.M 14 21) ?_
    refine rt_ L.out hS 14 52 (Sq.M 15 21) ?_
    refine ra_ 15 53 (Sq.M 16 21) ?_
    refine one_ (i := 16) (N := some 54) (Sq.M 17 21) rfl rfl (by kernel_rfl) (by decide) (fun K hK => ?_)
    refine Kd.R_lit_step k90 (w0 := w0) w0.heap.size 90 ?hg (N := 54) ?hd (xs := [(⟨d1, d2, r⟩ : S90)]) (inner := [.string d1, .int .i64 d2, .int .i64 r]) (ok := fun k => W4.heap.size ≤ k) (okp := fun _ => False) ?hr ?hp (fun _ hk => hk.elim) hS.size (below_step (below_step HBB.out HB.out) hS) (Nat.le_trans (below_step HBB.out HB.out).size hS.size) (by simp) ?_; (case hd => rfl); (case hg => rfl); (case hr => first | (go_simp; done) | (go_simp; rfl)); (case hp => exact (Reps.c3 (show Kd.M k90 _ _ _ (⟨d1, d2, r⟩ : S90) [.string d1, .int .i64 d2, .int .i64 r] from (k90_mkM _ _ _ (⟨d1, d2, r⟩ : S90))) (Reps.none _ _)))
    intro v1 w1 hR1 hb1 hg1 hfr
    have hS1 : Up W4 w1 := hS.grown hg1 hS.size (fun k hk => by cases hk)
    refine hK.out _ _ hS1 (fun hS2 => ?_)
    clear hK K hS2 hfr hS hg1 L W5
    refine norm_ (a' := ?_) ?_ ?_
    rotate_left
    · (show Act.put _ (some 54) _ = _; simp only [sp_]; rfl)
    have hgW : W4.heap[g]? = some (.cells #[v0, u1, .slice A l2.length c, .int .i64 p, .int .i64 q, .int .i64 r] 37 (0, 0)) := blk_below HG.out HB.out
    have hI := impl_Defect_97.calls _ _ l2 (m : Int) (fun k => W4.heap.size ≤ k) v1 [⟨d1, d2, r⟩] (l2.take m ++ ⟨d1, d2, r⟩ :: l2.drop m) w0 w1 hb1 (Kd.R_below (Kd.R_bound (Kd.R_below HR.out HB.out)) hS1) (fun k h h' => absurd h.2.2.1 (Nat.not_lt.2 h')) hR1 (fun k h h' => absurd h'.2.2.1 (Nat.not_lt.2 h)) (by unfold impl_Defect_97.f; rw [if_pos (by omega), if_pos (by omega), if_pos (by simp), if_pos (by omega)]; simp)
    have HI := Aside0.mk hI
    have HS1 := Aside0.mk hS1
    have HGW := Aside0.mk hgW
    clear hI hR1 hb1 hS1 hgW
    refine last_ (i := 17) (N := some 55) (Sq.M 18 21) rfl rfl (by kernel_rfl) (by decide) (fun K hK => ?_)
    refine goes_ Tryz.func97 rfl rfl #[.slice A l2.length c, .int .i64 m, v1] (by rfl) rfl rfl (by (try simp only [am_]); first | done | rfl) ?_
    (with_reducible refine HI.out.mono ?_)
    rintro e w6 ⟨v6, rfl, hR6, hB6, hK6⟩
    refine ⟨_, rfl, ?_⟩
    refine hK.out _ _ ?_
    clear hK K HI
    obtain ⟨A6, c6, e6⟩ := Kd.R_slice hR6
    obtain ⟨n6, hn6⟩ : ∃ n, n = (l2.take m ++ ⟨d1, d2, r⟩ :: l2.drop m).length := ⟨_, rfl⟩
    rw [← hn6] at e6
    subst e6
    clear hn6
    refine norm_ (a' := ?_) ?_ ?_
    rotate_left
    · (show Act.put _ (some 55) _ = _; simp only [sp_]; rfl)
    refine ra_ 18 56 (Sq.M 19 21) ?_
    refine ra_ 19 57 (Sq.M 20 21) ?_
    refine last_ (i := 20) (N := none) (Sq.M 21 21) rfl rfl (by kernel_rfl) (by decide) (fun K hK => ?_)
    have hG6 := blk_kept (blk_below HGW.out HS1.out) hK6 (fun h => by
      rcases h with h | h
      · obtain ⟨_, _, _, t, ht, cs, hcs⟩ := h
        rw [HGW.out] at hcs
        injection hcs with hcs
        injection hcs with _ hcs
        have : t = 90 := by simpa [show (k90).E = [] from rfl] using ht
        rw [this] at hcs
        exact absurd hcs (by decide)
      · exact absurd (blk_lt HGW.out) (Nat.not_lt.2 h))
    have hf0 := ck hG6 2 rfl
    have hz0 := blk_frozen hG6 2
    have HB6 := Aside0.mk hB6
    have HK6 := Aside0.mk hK6
    have HR6 := Aside0.mk hR6
    have HG6 := Aside0.mk hG6
    clear hB6 hK6 hR6 hG6
    refine skip_ (w1 := ?_) (by rfl) rfl ?_ ?_
    rotate_left
    · go_simp
      rfl
    refine hK.out _ _ ?_
    clear hK K
    refine done_ (by kernel_rfl) ?_
    have HS6 := Aside0.mk (blk_put (cs' := #[v0, u1, .slice A6 n6 c6, .int .i64 p, .int .i64 q, .int .i64 r]) HG6.out 2 (.slice A6 n6 c6) rfl)
    go_wp2
    go_ret
    refine ⟨by rw [decide_eq_true hlt]; rfl, Only.at (Only.of_kept (below_step HB.out HS1.out) HK6.out (fun k hk hlt => ?_)) _ _, below_set HB6.out hg, fun _ => ⟨_, HS6.out, Kd.R_mono (Kd.R_set HR6.out HG6.out (by decide) 2 _) (fun _ _ => trivial)⟩⟩
    rcases hk with hk | hk
    · obtain ⟨_, _, _, t, ht, cs, hcs⟩ := hk
      exact ⟨t, by rcases List.mem_cons.1 ht with rfl | ht
                   · simp
                   · exact absurd ht (by simp [show (k90).E = [] from rfl]), cs, blk_below hcs HS1.out⟩
    · have := HB.out.size; omega
  · go_wp2_with (first | (go_at_call 69; (with_reducible refine (KN.out _).mono ?_); rintro e w5 ⟨rfl, hb5⟩; have hq2' := bc hb5 hq2; have hf2' := bc hb5 hf2) | (go_at_call 70; (with_reducible refine (KI.out _).mono ?_); rintro e w6 ⟨rfl, hb6⟩; have hf2'' := bc hb6 hf2'))
    go_ret
    exact ⟨by rw [decide_eq_false hlt]; rfl, Only.of_below (below_step (below_step HB2.out hb5) hb6) g _, below_step HBB.out (below_step (below_step HB2.out hb5) hb6), fun h => absurd h (by simp [hlt])⟩
/-! ### (*Fleet).do (by hand) -/
theorem eBsT : Ent Tryz.prog 73 := fun a w => enters_ Tryz.func73 rfl rfl a w
set_option maxHeartbeats 16000000 in
set_option maxRecDepth 100000 in
theorem do_t (w0 : World) (g : Nat) (u0 u1 u2 : Value) (l0 : List S86) (l1 : List S88) (l2 : List S90) (p q r d0 : Int) (d1 : ByteArray) (d2 d3 : Int) (w : World) (hb : w.heap[g]? = some (.cells #[u0, u1, u2, .int .i64 p, .int .i64 q, .int .i64 r] 37 (0, 0))) (hg : w0.heap.size ≤ g) (hbase : Below w0.heap.size w0 w)
    (h0 : Kd.R k86 86 w w0.heap.size (fun _ => True) u0 l0) (h1 : Kd.R k88 88 w w0.heap.size (fun _ => True) u1 l1) (h2 : Kd.R k90 90 w w0.heap.size (fun _ => True) u2 l2) (hz : d1.size ≤ 140737488355328) (hsz : FleetSz l0 l1 l2) (hok : fleetB l0 l1 l2 p q r = true) :
    Calls Tryz.prog 55 #[.pointer (some ⟨g, 0, none⟩), .agg #[.int .i64 d0, .string d1, .int .i64 d2, .int .i64 d3]] w fun e w' =>
      e = .returned (.bool (doF l0 l1 l2 p q r d0 d1 d2 d3).isSome) ∧ Only w w' g [86, 90] ∧ Below w0.heap.size w0 w' ∧
      ∀ ts ds p' q' r', doF l0 l1 l2 p q r d0 d1 d2 d3 = some (ts, ds, p', q', r') → ∃ v0 v2, w'.heap[g]? = some (.cells #[v0, u1, v2, .int .i64 p', .int .i64 q', .int .i64 r'] 37 (0, 0)) ∧ Kd.R k86 86 w' w0.heap.size (fun _ => True) v0 ts ∧ Kd.R k88 88 w' w0.heap.size (fun _ => True) u1 l1 ∧ Kd.R k90 90 w' w0.heap.size (fun _ => True) v2 ds := by
  have hu1 := Tryz.underlying37
  have hu2 := Tryz.underlying60
  have hu3 := Tryz.underlying90
  have hu4 := Tryz.underlying34
  have hu5 := Tryz.underlying32
  have hu6 := Tryz.underlying86
  have hu7 := Tryz.underlying35
  have HP := Aside0.mk (fleetP_of hok)
  have hclk := clockB_in (fleetP_of hok).now
  obtain ⟨A0, c0, rfl, hc0, hC0⟩ := Kd.R_reads h0
  obtain ⟨A1, c1, rfl, hc1, hC1⟩ := Kd.R_reads h1
  obtain ⟨A2, c2, rfl, hc2, hC2⟩ := Kd.R_reads h2
  have HBX := Aside0.mk (blk_new w (.cells #[.int .i64 d0, .string d1, .int .i64 d2, .int .i64 d3] 60 (0, 0)))
  have HBW := Aside0.mk (below_alloc (Below.refl w.heap.size w) (.cells #[.int .i64 d0, .string d1, .int .i64 d2, .int .i64 d3] 60 (0, 0)))
  have HC0 := Aside0.mk hC0
  have HC1 := Aside0.mk hC1
  have HC2 := Aside0.mk hC2
  have HR0 := Aside0.mk h0
  have HR1 := Aside0.mk h1
  have HR2 := Aside0.mk h2
  have HG := Aside0.mk hb
  have HBB := Aside0.mk hbase
  have HOK := Aside0.mk hok
  have HSZ := Aside0.mk hsz
  have hgs := blk_lt hb
  have hn2 := (fleetP_of hok).dn
  have hn0 := (fleetP_of hok).tn
  clear h0 h1 h2 hC0 hC1 hC2 hb hbase hok hsz
  by_cases e1 : d0 = 1
  · subst e1
    obtain ⟨x, hx⟩ : ∃ x, (releaseF l0 l1 l2 p q r).1 = x := ⟨_, rfl⟩
    have KR := Aside0.mk (fun w' (h : Below w.heap.size w w') => release_t g A0 c0 l0 A1 c1 l1 A2 c2 l2 p q r w' (blk_below HG.out h) (Kd.C_below HC0.out h) hc0 (Kd.C_below HC1.out h) hc1 (Kd.C_below HC2.out h) hc2 HSZ.out HOK.out)
    rw [hx] at KR
    have HD := Aside0.mk (show doF l0 l1 l2 p q r 1 d1 d2 d3 = if (decide (x = 0) && inB d3 1 100) = true then some (l0, l2, p + d3, q + 1, r) else none by unfold doF; rw [if_pos rfl, hx])
    obtain ⟨b, E⟩ : ∃ b, inB d3 1 100 = b := ⟨_, rfl⟩
    have KI := Aside0.mk (fun w' => kb_ (in_t d3 1 100 w') E)
    have HE := Aside0.mk E
    clear hx E
    go_enter Tryz.func55, Tryz.ntmps55
    go_upto_region 4 with (first | (go_at_call 72; (with_reducible refine (KR.out _ HBW.out).mono ?_); rintro e w5 ⟨rfl, hb5⟩))
    refine world_ (fun W => W.heap[w.heap.size]? = some (.cells #[.int .i64 1, .string d1, .int .i64 d2, .int .i64 d3] 60 (0, 0)) ∧ Below w.heap.size w W) ⟨blk_below HBX.out hb5, below_step HBW.out hb5⟩ ?_
    clear hb5 HBX HBW KR
    rintro W4 ⟨HX, HB⟩
    replace HX := Aside0.mk HX
    replace HB := Aside0.mk HB
    have L := Aside0.mk (fun w' (h : Up W4 w') => (⟨ck (blk_below HG.out (below_step HB.out h)) 3 rfl, ck (blk_below HG.out (below_step HB.out h)) 4 rfl, ck (blk_below HX.out h) 3 rfl⟩ : w'.cell? ⟨g, 3, none⟩ = some (.int .i64 p) ∧ w'.cell? ⟨g, 4, none⟩ = some (.int .i64 q) ∧ w'.cell? ⟨w.heap.size, 3, none⟩ = some (.int .i64 d3)))
    refine start_ (n := 24) (S := Up W4) (ds := [19, 23]) (Sq.M 0 24) (by kernel_rfl) rfl rfl (below_drew (Below.refl _ _)) (fun hS => ?_)
    generalize W4.drew = W5 at hS ⊢
    refine ra_ 0 19 (Sq.M 1 24) ?_
    refine ra_ 1 20 (Sq.M 2 24) ?_
    refine ra_ 2 21 (Sq.M 3 24) ?_
    refine ra_ 3 22 (Sq.M 4 24) ?_
    refine ra_ 4 23 (Sq.M 5 24) ?_
    refine ra_ 5 24 (Sq.M 6 24) ?_
    refine rt_ L.out hS 6 25 (Sq.M 7 24) ?_
    refine ra_ 7 26 (Sq.M 8 24) ?_
    refine rt_ L.out hS 8 27 (Sq.M 9 24) ?_
    refine ra_ 9 28 (Sq.M 10 24) ?_
    refine ra_ 10 29 (Sq.M 11 24) ?_
    refine ra_ 11 30 (Sq.M 12 24) ?_
    refine ra_ 12 31 (Sq.M 13 24) ?_
    refine ra_ 13 32 (Sq.M 14 24) ?_
    refine rt_ L.out hS 14 33 (Sq.M 15 24) ?_
    refine ra_ 15 34 (Sq.M 16 24) ?_
    refine ra_ 16 35 (Sq.M 17 24) ?_
    refine ra_ 17 36 (Sq.M 18 24) ?_
    refine ra_ 18 37 (Sq.M 19 24) ?_
    refine last_ (i := 19) (N := none) (Sq.M 20 24) rfl rfl (by kernel_rfl) (by decide) (fun K hK => ?_)
    have hG5 := blk_below HG.out (below_step HB.out hS)
    have hf3 := ck hG5 3 rfl
    have hz3 := blk_frozen hG5 3
    refine skip_ (w1 := ?_) (by rfl) rfl ?_ ?_
    rotate_left
    · go_simp
      rfl
    refine hK.out _ _ ?_
    clear hK K
    have hG6 := blk_put (cs' := #[.slice A0 l0.length c0, .slice A1 l1.length c1, .slice A2 l2.length c2, .int .i64 (wrap64 (p + d3)), .int .i64 q, .int .i64 r]) hG5 3 (.int .i64 (wrap64 (p + d3))) rfl
    clear hf3 hz3
    refine ra_ 20 38 (Sq.M 21 24) ?_
    refine ra_ 21 39 (Sq.M 22 24) ?_
    refine ra_ 22 40 (Sq.M 23 24) ?_
    refine last_ (i := 23) (N := none) (Sq.M 24 24) rfl rfl (by kernel_rfl) (by decide) (fun K hK => ?_)
    have hf4 := ck hG6 4 rfl
    have hz4 := blk_frozen hG6 4
    refine skip_ (w1 := ?_) (by rfl) rfl ?_ ?_
    rotate_left
    · go_simp
      rfl
    refine hK.out _ _ ?_
    clear hK K hf4 hz4
    refine done_ (by kernel_rfl) ?_
    have hG7 := blk_put (cs' := #[.slice A0 l0.length c0, .slice A1 l1.length c1, .slice A2 l2.length c2, .int .i64 (wrap64 (p + d3)), .int .i64 (wrap64 (q + 1)), .int .i64 r]) hG6 4 (.int .i64 (wrap64 (q + 1))) rfl
    have HF := Aside0.mk (And.intro hG7 (And.intro (blk_far (p := ⟨g, 4, none⟩) (blk_far (p := ⟨g, 3, none⟩) (blk_below HX.out hS) (Nat.ne_of_gt hgs) (.int .i64 (wrap64 (p + d3)))) (Nat.ne_of_gt hgs) (.int .i64 (wrap64 (q + 1)))) (And.intro (Only.at (Only.at (Only.of_below (below_step HB.out hS) g []) 3 (.int .i64 (wrap64 (p + d3)))) 4 (.int .i64 (wrap64 (q + 1)))) (below_set (below_set (below_step HBB.out (below_step HB.out hS)) hg) hg : Below w0.heap.size w0 ((W5.setCell ⟨g, 3, none⟩ (.int .i64 (wrap64 (p + d3)))).setCell ⟨g, 4, none⟩ (.int .i64 (wrap64 (q + 1))))))))
    clear hG5 hG6 hG7 hS HX HB L
    generalize (W5.setCell ⟨g, 3, none⟩ (.int .i64 (wrap64 (p + d3)))).setCell ⟨g, 4, none⟩ (.int .i64 (wrap64 (q + 1))) = W7 at HF ⊢
    have hx3 := ck HF.out.2.1 3 rfl
    by_cases hx0 : x = 0
    · subst hx0
      go_wp2_with (first | (go_at_call 70; (with_reducible refine (KI.out _).mono ?_); rintro e w5 ⟨rfl, hb5⟩))
      go_ret
      obtain ⟨f1, f2, f3, f4⟩ := HF.out
      refine ⟨by rw [HD.out, HE.out]; cases b <;> rfl, (f3.mono (by simp)).below hb5, below_step f4 hb5, fun ts ds p' q' r' h => ?_⟩
      rw [HD.out, HE.out] at h
      cases b with
      | false => simp at h
      | true =>
        simp only [decide_true, Bool.and_self, if_true, Option.some.injEq, Prod.mk.injEq] at h
        obtain ⟨rfl, rfl, rfl, rfl, rfl⟩ := h
        have hd := inB_iff.1 HE.out
        rw [w64 (n := p + d3) (by omega) (by omega), w64 (n := q + 1) (by omega) (by omega)] at f1
        exact ⟨_, _, blk_below f1 hb5, Kd.R_below (R_only HR0.out f3 HG.out (by decide)) hb5, Kd.R_below (R_only HR1.out f3 HG.out (by decide)) hb5, Kd.R_below (R_only HR2.out f3 HG.out (by decide)) hb5⟩
    · go_wp2
      go_ret
      obtain ⟨f1, f2, f3, f4⟩ := HF.out
      have hd : decide (x = 0) = false := decide_eq_false hx0
      exact ⟨by rw [HD.out, hd]; rfl, f3.mono (by simp), f4, fun ts ds p' q' r' h => by rw [HD.out, hd] at h; simp at h⟩
  by_cases e2 : d0 = 2
  · subst e2
    clear e1
    obtain ⟨b1, E1⟩ : ∃ b, bsHit (cmpT d1) l0 (cutAt (cmpT d1) l0) = b := ⟨_, rfl⟩
    obtain ⟨m, hm⟩ : ∃ m, cutAt (cmpT d1) l0 = m := ⟨_, rfl⟩
    have KB := Aside0.mk (fun w' (h : Below w.heap.size w w') => bs73 (cmpT d1) (.string d1) l0 ⟨fun x _ W => byName_t x d1 W⟩ (cutAt (cmpT d1) l0) (cutAt_le _ _) ⟨fun j hj h1 => cutAt_below _ _ j hj h1, fun j hj h1 => cutAt_above _ _ (tasks_part HP.out d1) j hj h1⟩ A0 c0 w' (Kd.C_below HC0.out h) hc0 (by omega))
    rw [E1, hm] at KB
    have HD := Aside0.mk (show doF l0 l1 l2 p q r 2 d1 d2 d3 = if b1 = true then some (workT l0 d1 p q r, l2, p, q, r) else none by unfold doF; rw [if_neg (by decide), if_pos rfl, E1])
    have HT := Aside0.mk (show workT l0 d1 p q r = l0.set m ⟨(rd_T86 l0 (m : Int)).f0, (rd_T86 l0 (m : Int)).f1, (rd_T86 l0 (m : Int)).f2, (rd_T86 l0 (m : Int)).f3, ⟨p, q, r⟩⟩ by unfold workT; rw [hm])
    have HM := Aside0.mk (show b1 = true → m < l0.length from fun h => by obtain ⟨h2, _⟩ := bsHit_at (E1.trans h); rwa [hm] at h2)
    clear E1 hm
    go_enter Tryz.func55, Tryz.ntmps55
    go_upto_region 7 with (fail)
    refine world_ (fun W => W.heap[w.heap.size]? = some (.cells #[.int .i64 2, .string d1, .int .i64 d2, .int .i64 d3] 60 (0, 0)) ∧ Below w.heap.size w W) ⟨HBX.out, HBW.out⟩ ?_
    clear HBX HBW
    rintro W ⟨HBX, HBW⟩
    replace HBX := Aside0.mk HBX
    replace HBW := Aside0.mk HBW
    have L := Aside0.mk (fun w' (h : Up W w') => (⟨ck (blk_below HG.out (below_step HBW.out h)) 0 rfl, ck (blk_below HBX.out h) 1 rfl⟩ : w'.cell? ⟨g, 0, none⟩ = some (.slice A0 l0.length c0) ∧ w'.cell? ⟨w.heap.size, 1, none⟩ = some (.string d1)))
    have K1 := Aside0.mk (fun w' (h : Up W w') => KB.out w' (below_step HBW.out h))
    refine rg_ (by kernel_rfl) (by kernel_rfl) ?_
    (repeat (first | refine qn_ ?_ | refine qc_ eBsT K1.out ?_ | refine ql_ L.out ?_))
    refine qd_ ?_
    intro W2 hb2
    have HB2 := Aside0.mk (below_step HBW.out hb2)
    clear L K1 KB HBX HBW hb2 W
    cases b1 with
    | false =>
      go_wp2
      go_ret
      exact ⟨by rw [HD.out]; rfl, Only.of_below HB2.out g _, below_step HBB.out HB2.out, fun ts ds p' q' r' h => by rw [HD.out] at h; simp at h⟩
    | true =>
      have hm := HM.out rfl
      have HD2 := Aside0.mk (show doF l0 l1 l2 p q r 2 d1 d2 d3 = some (workT l0 d1 p q r, l2, p, q, r) from HD.out.trans (if_pos rfl))
      clear HD HM
      obtain ⟨ga, ca, ea, hga, hgl, cells, hcells⟩ := Kd.R_form HR0.out (by omega)
      injection ea with ea1 _ ea2
      subst ea1
      subst ea2
      go_upto_region 9 with (fail)
      have HR := Aside0.mk (Kd.R_below HR0.out HB2.out)
      have L := Aside0.mk (fun w' (h : Up W2 w') => (⟨ck (blk_below HG.out (below_step HB2.out h)) 0 rfl, ck (blk_below HG.out (below_step HB2.out h)) 3 rfl, ck (blk_below HG.out (below_step HB2.out h)) 4 rfl, ck (blk_below HG.out (below_step HB2.out h)) 5 rfl⟩ : w'.cell? ⟨g, 0, none⟩ = some (.slice (some ⟨ga, 0, none⟩) l0.length c0) ∧ w'.cell? ⟨g, 3, none⟩ = some (.int .i64 p) ∧ w'.cell? ⟨g, 4, none⟩ = some (.int .i64 q) ∧ w'.cell? ⟨g, 5, none⟩ = some (.int .i64 r)))
      refine start_ (n := 12) (S := Up W2) (ds := [11]) (Sq.M 0 12) (by kernel_rfl) rfl rfl (below_drew (Below.refl _ _)) (fun hS => ?_)
      generalize W2.drew = W5 at hS ⊢
      refine ra_ 0 61 (Sq.M 1 12) ?_
      refine ra_ 1 62 (Sq.M 2 12) ?_
      refine ra_ 2 63 (Sq.M 3 12) ?_
      refine rt_ L.out hS 3 64 (Sq.M 4 12) ?_
      refine ra_ 4 65 (Sq.M 5 12) ?_
      refine ra_ 5 66 (Sq.M 6 12) ?_
      refine ra_ 6 67 (Sq.M 7 12) ?_
      refine ra_ 7 68 (Sq.M 8 12) ?_
      refine rt_ L.out hS 8 69 (Sq.M 9 12) ?_
      refine ra_ 9 70 (Sq.M 10 12) ?_
      refine ra_ 10 71 (Sq.M 11 12) ?_
      refine last_ (i := 11) (N := none) (Sq.M 12 12) rfl rfl (by kernel_rfl) (by decide) (fun K hK => ?_)
      have hR5 := Kd.R_below HR.out hS
      obtain ⟨ce, hcl, hM, hcc, hfr⟩ := Kd.R_elem hR5 z86 (m : Int) (by omega) (by omega)
      obtain rfl := k86_openM hM
      have HP5 := Kd.R_seg hR5 (m : Int) (by omega) (by omega) (seg := [.int .i64 p, .int .i64 q, .int .i64 r]) (j := 4) hcl hcc (show 7 ≤ 7 from by decide) (x' := (⟨(rd_T86 l0 (m : Int)).f0, (rd_T86 l0 (m : Int)).f1, (rd_T86 l0 (m : Int)).f2, (rd_T86 l0 (m : Int)).f3, (⟨p, q, r⟩ : S35)⟩ : S86)) (k86_mkM _ _ _ (⟨(rd_T86 l0 (m : Int)).f0, (rd_T86 l0 (m : Int)).f1, (rd_T86 l0 (m : Int)).f2, (rd_T86 l0 (m : Int)).f3, (⟨p, q, r⟩ : S35)⟩ : S86)) (fun _ hk => hk)
      have hx4 := hcc 4 _ rfl
      have hx5 := hcc 5 _ rfl
      have hx6 := hcc 6 _ rfl
      have hf4 := hfr 4
      have hf5 := hfr 5
      have hf6 := hfr 6
      simp only [show (k86).sz = 7 from rfl, Int.toNat_natCast] at hx4 hx5 hx6 hf4 hf5 hf6 HP5
      clear hcl hM hcc hfr hR5
      refine skip_ (w1 := ?_) (by rfl) rfl ?_ ?_
      rotate_left
      · go_simp
        rfl
      refine hK.out _ _ ?_
      clear hK K hx4 hx5 hx6 hf4 hf5 hf6
      refine done_ (by kernel_rfl) ?_
      have HF := Aside0.mk (show (((W5.setCell ⟨ga, m * 7 + 4, none⟩ (.int .i64 p)).setCell ⟨ga, m * 7 + 4 + 1, none⟩ (.int .i64 q)).setCell ⟨ga, m * 7 + 4 + 2, none⟩ (.int .i64 r)).heap[g]? = some (.cells #[.slice (some ⟨ga, 0, none⟩) l0.length c0, .slice A1 l1.length c1, .slice A2 l2.length c2, .int .i64 p, .int .i64 q, .int .i64 r] 37 (0, 0)) ∧ Kd.R k86 86 (((W5.setCell ⟨ga, m * 7 + 4, none⟩ (.int .i64 p)).setCell ⟨ga, m * 7 + 4 + 1, none⟩ (.int .i64 q)).setCell ⟨ga, m * 7 + 4 + 2, none⟩ (.int .i64 r)) w0.heap.size (fun _ => True) (.slice (some ⟨ga, 0, none⟩) l0.length c0) (workT l0 d1 p q r) ∧ Only w (((W5.setCell ⟨ga, m * 7 + 4, none⟩ (.int .i64 p)).setCell ⟨ga, m * 7 + 4 + 1, none⟩ (.int .i64 q)).setCell ⟨ga, m * 7 + 4 + 2, none⟩ (.int .i64 r)) g [86] ∧ Below w0.heap.size w0 (((W5.setCell ⟨ga, m * 7 + 4, none⟩ (.int .i64 p)).setCell ⟨ga, m * 7 + 4 + 1, none⟩ (.int .i64 q)).setCell ⟨ga, m * 7 + 4 + 2, none⟩ (.int .i64 r)) from
        ⟨blk_grown (blk_below HG.out (below_step HB2.out hS)) HP5.2 (fun e => by injection e with e; subst e; have h := HG.out; rw [hcells] at h; injection h with h; injection h with _ h; exact absurd h (by decide)), by rw [HT.out]; exact HP5.1, Only.set (Only.set (Only.set (Only.of_below (below_step HB2.out hS) g _) hcells (by simp) _ _) hcells (by simp) _ _) hcells (by simp) _ _, below_set (below_set (below_set (below_step HBB.out (below_step HB2.out hS)) hga) hga) hga⟩)
      clear HP5 hS HR L
      generalize (((W5.setCell ⟨ga, m * 7 + 4, none⟩ (.int .i64 p)).setCell ⟨ga, m * 7 + 4 + 1, none⟩ (.int .i64 q)).setCell ⟨ga, m * 7 + 4 + 2, none⟩ (.int .i64 r)) = W7 at HF ⊢
      go_wp2
      go_ret
      obtain ⟨f1, f2, f3, f4⟩ := HF.out
      refine ⟨by rw [HD2.out]; rfl, f3.mono (by simp), f4, fun ts ds p' q' r' h => ?_⟩
      rw [HD2.out] at h
      simp only [Option.some.injEq, Prod.mk.injEq] at h
      obtain ⟨rfl, rfl, rfl, rfl, rfl⟩ := h
      exact ⟨_, _, f1, f2, R_only HR1.out f3 HG.out (by decide), R_only HR2.out f3 HG.out (by decide)⟩
  by_cases e3 : d0 = 3
  · subst e3
    clear e1 e2
    obtain ⟨B, E⟩ : ∃ b, (!bsHit (cmpD d2) l2 (cutAt (cmpD d2) l2) && (nameB d1 && (inB d2 1 1000000 && decide (l2.length < 20)))) = b := ⟨_, rfl⟩
    have KF := Aside0.mk (find_t w0 g (.slice A0 l0.length c0) (.slice A1 l1.length c1) (.slice A2 l2.length c2) l2 p q r 3 d1 d2 d3 _ (blk_below HG.out HBW.out) hg (below_step HBB.out HBW.out) (Kd.R_below HR2.out HBW.out) hz hn2 (defects_part HP.out d2))
    have HD := Aside0.mk (show doF l0 l1 l2 p q r 3 d1 d2 d3 = if B = true then some (l0, l2.take (cutAt (cmpD d2) l2) ++ ⟨d1, d2, r⟩ :: l2.drop (cutAt (cmpD d2) l2), p, q, r) else none by unfold doF; rw [if_neg (by decide), if_neg (by decide), if_pos rfl, E])
    rw [E] at KF
    clear E
    go_enter Tryz.func55, Tryz.ntmps55
    go_wp2_with (first | (go_at_call 76; (with_reducible refine KF.out.mono ?_); rintro e w5 ⟨rfl, hO, hB, hI⟩))
    go_ret
    refine ⟨by rw [HD.out]; cases B <;> rfl, Only.then_below HBW.out (hO.mono (by simp)), hB, fun ts ds p' q' r' h => ?_⟩
    rw [HD.out] at h
    cases B with
    | false => simp at h
    | true =>
      simp only [if_true, Option.some.injEq, Prod.mk.injEq] at h
      obtain ⟨rfl, rfl, rfl, rfl, rfl⟩ := h
      obtain ⟨v, hv, hR⟩ := hI rfl
      exact ⟨_, v, hv, R_only (Kd.R_below HR0.out HBW.out) hO (blk_below HG.out HBW.out) (by decide), R_only (Kd.R_below HR1.out HBW.out) hO (blk_below HG.out HBW.out) (by decide), hR⟩
  by_cases e4 : d0 = 4
  · subst e4
    clear e1 e2 e3
    have hmf : ∀ (fn : Fn) (first cap : Array Value) (w : World), (Instr.makeFunc fn first cap).run Tryz.prog w = .ok (.func fn first cap) w := fun _ _ _ _ => rfl
    have hG1 := blk_below HG.out HBW.out
    have hf0 := ck hG1 2 rfl
    have KD := Aside0.mk (slices_DeleteFunc_do_1.calls _ (.slice A2 l2.length c2) l2 4 d1 d2 d3 (l2.filter (fun x => !(x.f1 == d2))) w0 _ HBX.out (below_step HBB.out HBW.out) (Kd.R_bound (Kd.R_below HR2.out HBW.out)) (by unfold slices_DeleteFunc_do_1.f; rw [if_pos (by omega)]))
    obtain ⟨b1, E1⟩ : ∃ b, bsHit (cmpD d2) l2 (cutAt (cmpD d2) l2) = b := ⟨_, rfl⟩
    have HD := Aside0.mk (show doF l0 l1 l2 p q r 4 d1 d2 d3 = if b1 = true then some (l0, l2.eraseIdx (cutAt (cmpD d2) l2), p, q, r) else none by unfold doF; rw [if_neg (by decide), if_neg (by decide), if_neg (by decide), if_pos rfl, E1])
    have HL := Aside0.mk (show (b1 = true → l2.filter (fun x => !(x.f1 == d2)) = l2.eraseIdx (cutAt (cmpD d2) l2) ∧ (l2.filter (fun x => !(x.f1 == d2))).length < l2.length) ∧ (b1 = false → (l2.filter (fun x => !(x.f1 == d2))).length = l2.length) from by
      refine ⟨fun h => ?_, fun h => ?_⟩
      · obtain ⟨hm, hz⟩ := bsHit_at (E1.trans h)
        have e := strike_hit HP.out.dsort d2 _ hm ((cmpI_zero _ _).1 hz)
        exact ⟨e, by rw [e, List.length_eraseIdx]; split <;> omega⟩
      · rw [filter_all (fun x hx => by simpa using strike_none (defects_part HP.out d2) HP.out.dsort (E1.trans h) x hx)])
    clear E1
    go_enter Tryz.func55, Tryz.ntmps55
    go_upto_region 16 with (first | (go_at_call 77; (with_reducible refine KD.out.mono ?_); rintro e w5 ⟨v5, rfl, hR5, hB5, hK5⟩; obtain ⟨A5, c5, e5⟩ := Kd.R_slice hR5; obtain ⟨n5, hn5⟩ : ∃ n, n = (l2.filter (fun x => !(x.f1 == d2))).length := ⟨_, rfl⟩; rw [← hn5] at e5; subst e5; have HN5 := Aside0.mk hn5; clear hn5; have HK5 := Aside0.mk hK5; have HR5 := Aside0.mk hR5; have HB5 := Aside0.mk hB5; clear hK5 hR5 hB5; have HG5 := Aside0.mk (blk_kept (blk_below HG.out HBW.out) HK5.out (fun h => by
      obtain ⟨_, _, _, t, ht, cs, hcs⟩ := h
      rw [blk_below HG.out HBW.out] at hcs
      injection hcs with hcs
      injection hcs with _ hcs
      have : t = 90 := by simpa [show (k90).E = [] from rfl] using ht
      rw [this] at hcs
      exact absurd hcs (by decide))); have hf5 := ck HG5.out 2 rfl; have hz5 := blk_frozen HG5.out 2))
    have HF := Aside0.mk (show (w5.setCell ⟨g, 2, none⟩ (.slice A5 n5 c5)).heap[g]? = some (.cells #[.slice A0 l0.length c0, .slice A1 l1.length c1, .slice A5 n5 c5, .int .i64 p, .int .i64 q, .int .i64 r] 37 (0, 0)) ∧ Kd.R k90 90 (w5.setCell ⟨g, 2, none⟩ (.slice A5 n5 c5)) w0.heap.size (fun _ => True) (.slice A5 n5 c5) (l2.filter (fun x => !(x.f1 == d2))) ∧ Only w (w5.setCell ⟨g, 2, none⟩ (.slice A5 n5 c5)) g [90] ∧ Below w0.heap.size w0 (w5.setCell ⟨g, 2, none⟩ (.slice A5 n5 c5)) from
      ⟨blk_put HG5.out 2 _ rfl, Kd.R_mono (Kd.R_set HR5.out HG5.out (by decide) 2 _) (fun _ _ => trivial), Only.at (Only.of_kept HBW.out HK5.out (fun k hk _ => by
        obtain ⟨_, _, _, t, ht, cs, hcs⟩ := hk
        exact ⟨t, by rcases List.mem_cons.1 ht with rfl | ht
                     · simp
                     · exact absurd ht (by simp [show (k90).E = [] from rfl]), cs, hcs⟩)) _ _, below_set HB5.out hg⟩)
    clear hf5 hz5 HK5 HR5 HB5 HG5
    generalize w5.setCell ⟨g, 2, none⟩ (.slice A5 n5 c5) = W7 at HF ⊢
    have hf7 := ck HF.out.1 2 rfl
    cases b1 with
    | true =>
      have hlt : n5 < l2.length := by rw [HN5.out]; exact (HL.out.1 rfl).2
      have HD2 := Aside0.mk (show doF l0 l1 l2 p q r 4 d1 d2 d3 = some (l0, l2.filter (fun x => !(x.f1 == d2)), p, q, r) from by rw [(HL.out.1 rfl).1]; exact HD.out.trans (if_pos rfl))
      clear HD HL HN5
      go_wp2
      go_ret
      obtain ⟨f1, f2, f3, f4⟩ := HF.out
      refine ⟨by rw [HD2.out]; rfl, f3.mono (by simp), f4, fun ts ds p' q' r' h => ?_⟩
      rw [HD2.out] at h
      simp only [Option.some.injEq, Prod.mk.injEq] at h
      obtain ⟨rfl, rfl, rfl, rfl, rfl⟩ := h
      exact ⟨_, _, f1, R_only HR0.out f3 HG.out (by decide), R_only HR1.out f3 HG.out (by decide), f2⟩
    | false =>
      have hlt : ¬ n5 < l2.length := by rw [HN5.out, HL.out.2 rfl]; omega
      have HD2 := Aside0.mk (show doF l0 l1 l2 p q r 4 d1 d2 d3 = none from HD.out.trans (if_neg (by simp)))
      clear HD HL HN5
      go_wp2
      go_ret
      obtain ⟨f1, f2, f3, f4⟩ := HF.out
      exact ⟨by rw [HD2.out]; rfl, f3.mono (by simp), f4, fun ts ds p' q' r' h => by rw [HD2.out] at h; cases h⟩
  by_cases e5 : d0 = 5
  · subst e5
    clear e1 e2 e3 e4
    have HD := Aside0.mk (show doF l0 l1 l2 p q r 5 d1 d2 d3 = if inB d3 1 100 = true then some (l0, l2, p, q, r + d3) else none by unfold doF; rw [if_neg (by decide), if_neg (by decide), if_neg (by decide), if_neg (by decide), if_pos rfl])
    obtain ⟨b, E⟩ : ∃ b, inB d3 1 100 = b := ⟨_, rfl⟩
    have KI := Aside0.mk (fun w' => kb_ (in_t d3 1 100 w') E)
    have HE := Aside0.mk E
    clear E
    go_enter Tryz.func55, Tryz.ntmps55
    go_upto_region 18 with (fail)
    refine world_ (fun W => W.heap[w.heap.size]? = some (.cells #[.int .i64 5, .string d1, .int .i64 d2, .int .i64 d3] 60 (0, 0)) ∧ Below w.heap.size w W) ⟨HBX.out, HBW.out⟩ ?_
    clear HBX HBW
    rintro W4 ⟨HX, HB⟩
    replace HX := Aside0.mk HX
    replace HB := Aside0.mk HB
    have L := Aside0.mk (fun w' (h : Up W4 w') => (⟨ck (blk_below HG.out (below_step HB.out h)) 5 rfl, ck (blk_below HX.out h) 3 rfl⟩ : w'.cell? ⟨g, 5, none⟩ = some (.int .i64 r) ∧ w'.cell? ⟨w.heap.size, 3, none⟩ = some (.int .i64 d3)))
    refine start_ (n := 12) (S := Up W4) (ds := [11]) (Sq.M 0 12) (by kernel_rfl) rfl rfl (below_drew (Below.refl _ _)) (fun hS => ?_)
    generalize W4.drew = W5 at hS ⊢
    refine ra_ 0 103 (Sq.M 1 12) ?_
    refine ra_ 1 104 (Sq.M 2 12) ?_
    refine ra_ 2 105 (Sq.M 3 12) ?_
    refine ra_ 3 106 (Sq.M 4 12) ?_
    refine rt_ L.out hS 4 107 (Sq.M 5 12) ?_
    refine ra_ 5 108 (Sq.M 6 12) ?_
    refine rt_ L.out hS 6 109 (Sq.M 7 12) ?_
    refine ra_ 7 110 (Sq.M 8 12) ?_
    refine ra_ 8 111 (Sq.M 9 12) ?_
    refine ra_ 9 112 (Sq.M 10 12) ?_
    refine ra_ 10 113 (Sq.M 11 12) ?_
    refine last_ (i := 11) (N := none) (Sq.M 12 12) rfl rfl (by kernel_rfl) (by decide) (fun K hK => ?_)
    have hG5 := blk_below HG.out (below_step HB.out hS)
    have hf3 := ck hG5 5 rfl
    have hz3 := blk_frozen hG5 5
    refine skip_ (w1 := ?_) (by rfl) rfl ?_ ?_
    rotate_left
    · go_simp
      rfl
    refine hK.out _ _ ?_
    clear hK K hf3 hz3
    refine done_ (by kernel_rfl) ?_
    have HF := Aside0.mk (And.intro (blk_put (cs' := #[.slice A0 l0.length c0, .slice A1 l1.length c1, .slice A2 l2.length c2, .int .i64 p, .int .i64 q, .int .i64 (wrap64 (r + d3))]) hG5 5 (.int .i64 (wrap64 (r + d3))) rfl) (And.intro (blk_far (p := ⟨g, 5, none⟩) (blk_below HX.out hS) (Nat.ne_of_gt hgs) (.int .i64 (wrap64 (r + d3)))) (And.intro (Only.at (Only.of_below (below_step HB.out hS) g []) 5 (.int .i64 (wrap64 (r + d3)))) (below_set (below_step HBB.out (below_step HB.out hS)) hg : Below w0.heap.size w0 (W5.setCell ⟨g, 5, none⟩ (.int .i64 (wrap64 (r + d3))))))))
    clear hG5 hS HX HB L
    generalize W5.setCell ⟨g, 5, none⟩ (.int .i64 (wrap64 (r + d3))) = W7 at HF ⊢
    have hx3 := ck HF.out.2.1 3 rfl
    go_wp2_with (first | (go_at_call 70; (with_reducible refine (KI.out _).mono ?_); rintro e w5 ⟨rfl, hb5⟩))
    go_ret
    obtain ⟨f1, f2, f3, f4⟩ := HF.out
    refine ⟨by rw [HD.out, HE.out]; cases b <;> rfl, (f3.mono (by simp)).below hb5, below_step f4 hb5, fun ts ds p' q' r' h => ?_⟩
    rw [HD.out, HE.out] at h
    cases b with
    | false => simp at h
    | true =>
      simp only [if_true, Option.some.injEq, Prod.mk.injEq] at h
      obtain ⟨rfl, rfl, rfl, rfl, rfl⟩ := h
      have hd := inB_iff.1 HE.out
      rw [w64 (n := r + d3) (by omega) (by omega)] at f1
      exact ⟨_, _, blk_below f1 hb5, Kd.R_below (R_only HR0.out f3 HG.out (by decide)) hb5, Kd.R_below (R_only HR1.out f3 HG.out (by decide)) hb5, Kd.R_below (R_only HR2.out f3 HG.out (by decide)) hb5⟩
  have HD := Aside0.mk (show doF l0 l1 l2 p q r d0 d1 d2 d3 = none by unfold doF; rw [if_neg e1, if_neg e2, if_neg e3, if_neg e4, if_neg e5])
  have f1 : (d0 == 1) = false := by simpa using e1
  have f2 : (d0 == 2) = false := by simpa using e2
  have f3 : (d0 == 3) = false := by simpa using e3
  have f4 : (d0 == 4) = false := by simpa using e4
  have f5 : (d0 == 5) = false := by simpa using e5
  clear e1 e2 e3 e4 e5
  go_enter Tryz.func55, Tryz.ntmps55
  go_wp2
  go_ret
  exact ⟨by rw [HD.out]; rfl, Only.of_below HBW.out g _, below_step HBB.out HBW.out, fun ts ds p' q' r' h => by rw [HD.out] at h; cases h⟩
-- HAND TO

-- HAND FROM
open Go.Proofs.YtdimdlifjdbgnaaGreat.Base Go.Proofs.YtdimdlifjdbgnaaGreat.Sq
theorem clone_is (l0 : List S86) (l1 : List S88) (l2 : List S90) (p q r : Int) (h : fleetCopyB l0 l1 l2 = true) : impl_cloneFleet.f l0 l1 l2 p q r = some (l0, l1, l2, p, q, r) := by
  unfold fleetCopyB at h
  simp only [Bool.and_eq_true, decide_eq_true_eq] at h
  simp [impl_cloneFleet.f, impl_Task.f, impl_Carry.f, impl_Defect_53.f, h.1, h.2.1, h.2.2]
set_option maxHeartbeats 16000000 in
set_option maxRecDepth 100000 in
theorem dowork_t (A0 : Option Addr) (c0 : Nat) (l0 : List S86) (A1 : Option Addr) (c1 : Nat) (l1 : List S88) (A2 : Option Addr) (c2 : Nat) (l2 : List S90) (p q r d0 : Int) (d1 : ByteArray) (d2 d3 : Int) (w : World)
    (hr0 : Kd.C k86 w A0 l0.length l0) (hc0 : l0.length ≤ c0) (hr1 : Kd.C k88 w A1 l1.length l1) (hc1 : l1.length ≤ c1) (hr2 : Kd.C k90 w A2 l2.length l2) (hc2 : l2.length ≤ c2) (hz : FleetSz l0 l1 l2) (hy : fleetCopyB l0 l1 l2 = true) (hd : d1.size ≤ 140737488355328) :
    Calls Tryz.prog 30 #[.agg #[.slice A0 l0.length c0, .slice A1 l1.length c1, .slice A2 l2.length c2, .int .i64 p, .int .i64 q, .int .i64 r], .agg #[.int .i64 d0, .string d1, .int .i64 d2, .int .i64 d3]] w fun e w' =>
      ∃ v0 v1 v2 : Value, e = .returned (.tuple #[.agg #[v0, v1, v2, .int .i64 (workF l0 l1 l2 p q r d0 d1 d2 d3).2.2.2.1, .int .i64 (workF l0 l1 l2 p q r d0 d1 d2 d3).2.2.2.2.1, .int .i64 (workF l0 l1 l2 p q r d0 d1 d2 d3).2.2.2.2.2.1], .bool (workF l0 l1 l2 p q r d0 d1 d2 d3).2.2.2.2.2.2]) ∧
        Kd.R k86 86 w' w.heap.size (fun _ => True) v0 (workF l0 l1 l2 p q r d0 d1 d2 d3).1 ∧ Kd.R k88 88 w' w.heap.size (fun _ => True) v1 (workF l0 l1 l2 p q r d0 d1 d2 d3).2.1 ∧ Kd.R k90 90 w' w.heap.size (fun _ => True) v2 (workF l0 l1 l2 p q r d0 d1 d2 d3).2.2.1 ∧ Below w.heap.size w w' := by
  have hu1 := Tryz.underlying37
  have hu2 := Tryz.underlying60
  have hu3 := Tryz.underlying35
  have HC0 := Aside0.mk hr0
  have HC1 := Aside0.mk hr1
  have HC2 := Aside0.mk hr2
  have HZ := Aside0.mk hz
  have n1 := below_alloc (Below.refl w.heap.size w) (.cells #[.slice A0 l0.length c0, .slice A1 l1.length c1, .slice A2 l2.length c2, .int .i64 p, .int .i64 q, .int .i64 r] 37 (0, 0))
  have n2 := below_alloc n1 (.cells #[.int .i64 d0, .string d1, .int .i64 d2, .int .i64 d3] 60 (0, 0))
  have n3 := below_alloc n2 (.cells #[.slice none 0 0, .slice none 0 0, .slice none 0 0, .int .i64 0, .int .i64 0, .int .i64 0] 37 (0, 0))
  have m1 := blk_alloc (blk_alloc (blk_new w (.cells #[.slice A0 l0.length c0, .slice A1 l1.length c1, .slice A2 l2.length c2, .int .i64 p, .int .i64 q, .int .i64 r] 37 (0, 0))) (.cells #[.int .i64 d0, .string d1, .int .i64 d2, .int .i64 d3] 60 (0, 0))) (.cells #[.slice none 0 0, .slice none 0 0, .slice none 0 0, .int .i64 0, .int .i64 0, .int .i64 0] 37 (0, 0))
  have m2 := blk_alloc (blk_new (w.alloc (.cells #[.slice A0 l0.length c0, .slice A1 l1.length c1, .slice A2 l2.length c2, .int .i64 p, .int .i64 q, .int .i64 r] 37 (0, 0))) (.cells #[.int .i64 d0, .string d1, .int .i64 d2, .int .i64 d3] 60 (0, 0))) (.cells #[.slice none 0 0, .slice none 0 0, .slice none 0 0, .int .i64 0, .int .i64 0, .int .i64 0] 37 (0, 0))
  have m3 := blk_new ((w.alloc (.cells #[.slice A0 l0.length c0, .slice A1 l1.length c1, .slice A2 l2.length c2, .int .i64 p, .int .i64 q, .int .i64 r] 37 (0, 0))).alloc (.cells #[.int .i64 d0, .string d1, .int .i64 d2, .int .i64 d3] 60 (0, 0))) (.cells #[.slice none 0 0, .slice none 0 0, .slice none 0 0, .int .i64 0, .int .i64 0, .int .i64 0] 37 (0, 0))
  rw [World.size_alloc] at m2
  rw [World.size_alloc, World.size_alloc] at m3
  have HF := Aside0.mk (And.intro m1 (And.intro m2 (And.intro m3 n3)))
  have KC := Aside0.mk (fun w' (h : Below w.heap.size w w') => impl_cloneFleet.calls A0 c0 l0 A1 c1 l1 A2 c2 l2 p q r _ _ _ _ _ _ w' (Kd.C_below hr0 h) hc0 (Kd.C_below hr1 h) hc1 (Kd.C_below hr2 h) hc2 (clone_is l0 l1 l2 p q r hy))
  have KO := Aside0.mk (fun w' (h : Below w.heap.size w w') => impl_FleetOk.go A0 c0 l0 A1 c1 l1 A2 c2 l2 p q r w' (Kd.C_below hr0 h) hc0 (Kd.C_below hr1 h) hc1 (Kd.C_below hr2 h) hc2 hz)
  clear hr0 hr1 hr2 hy n1 n2 n3 m1 m2 m3 hz
  go_enter Tryz.func30, Tryz.ntmps30
  go_upto_region 1 with (fail)
  refine world_ (fun W => W.heap[w.heap.size]? = some (.cells #[.slice A0 l0.length c0, .slice A1 l1.length c1, .slice A2 l2.length c2, .int .i64 p, .int .i64 q, .int .i64 r] 37 (0, 0)) ∧ W.heap[w.heap.size + 1]? = some (.cells #[.int .i64 d0, .string d1, .int .i64 d2, .int .i64 d3] 60 (0, 0)) ∧ W.heap[w.heap.size + 1 + 1]? = some (.cells #[.slice none 0 0, .slice none 0 0, .slice none 0 0, .int .i64 0, .int .i64 0, .int .i64 0] 37 (0, 0)) ∧ Below w.heap.size w W) HF.out ?_
  clear HF
  rintro W ⟨BF, BD, BR, HB⟩
  replace BF := Aside0.mk BF
  replace BD := Aside0.mk BD
  replace BR := Aside0.mk BR
  replace HB := Aside0.mk HB
  obtain ⟨f0, f1, f2, f3, f4, f5⟩ := ck6 BF.out
  go_upto_region 2 with (first | (go_at_call 29; (with_reducible refine (KC.out _ HB.out).mono ?_); rintro e w5 ⟨v0, v1, v2, rfl, hR0, hR1, hR2, hb5⟩; obtain ⟨B0, b0, rfl⟩ := Kd.R_slice hR0; obtain ⟨B1, b1, rfl⟩ := Kd.R_slice hR1; obtain ⟨B2, b2, rfl⟩ := Kd.R_slice hR2; clear f0 f1 f2 f3 f4 f5))
  have hn := blk_new w5 (.cells #[.slice B0 l0.length b0, .slice B1 l1.length b1, .slice B2 l2.length b2, .int .i64 p, .int .i64 q, .int .i64 r] 37 (0, 0))
  have hm := below_alloc (Below.refl w5.heap.size w5) (.cells #[.slice B0 l0.length b0, .slice B1 l1.length b1, .slice B2 l2.length b2, .int .i64 p, .int .i64 q, .int .i64 r] 37 (0, 0))
  have hs0 := blk_lt (blk_below BF.out hb5)
  have hs1 := blk_lt (blk_below BD.out hb5)
  have hs2 := blk_lt (blk_below BR.out hb5)
  have HF := Aside0.mk (And.intro (blk_below (blk_below BF.out hb5) hm) (And.intro (blk_below (blk_below BD.out hb5) hm) (And.intro (blk_below (blk_below BR.out hb5) hm) (And.intro hn (And.intro (Kd.R_lower (Kd.R_below hR0 hm) HB.out.size) (And.intro (Kd.R_lower (Kd.R_below hR1 hm) HB.out.size) (And.intro (Kd.R_lower (Kd.R_below hR2 hm) HB.out.size) (And.intro (below_step (below_step HB.out hb5) hm) (And.intro hs0 (And.intro hs1 hs2))))))))))
  clear hn hm hs0 hs1 hs2 hR0 hR1 hR2 HB hb5 BF BD BR
  generalize w5.heap.size = g at HF ⊢
  refine world_ (fun W => W.heap[w.heap.size]? = some (.cells #[.slice A0 l0.length c0, .slice A1 l1.length c1, .slice A2 l2.length c2, .int .i64 p, .int .i64 q, .int .i64 r] 37 (0, 0)) ∧ W.heap[w.heap.size + 1]? = some (.cells #[.int .i64 d0, .string d1, .int .i64 d2, .int .i64 d3] 60 (0, 0)) ∧ W.heap[w.heap.size + 1 + 1]? = some (.cells #[.slice none 0 0, .slice none 0 0, .slice none 0 0, .int .i64 0, .int .i64 0, .int .i64 0] 37 (0, 0)) ∧ W.heap[g]? = some (.cells #[.slice B0 l0.length b0, .slice B1 l1.length b1, .slice B2 l2.length b2, .int .i64 p, .int .i64 q, .int .i64 r] 37 (0, 0)) ∧ Kd.R k86 86 W w.heap.size (fun _ => True) (.slice B0 l0.length b0) l0 ∧ Kd.R k88 88 W w.heap.size (fun _ => True) (.slice B1 l1.length b1) l1 ∧ Kd.R k90 90 W w.heap.size (fun _ => True) (.slice B2 l2.length b2) l2 ∧ Below w.heap.size w W ∧ w.heap.size < g ∧ w.heap.size + 1 < g ∧ w.heap.size + 1 + 1 < g) HF.out ?_
  clear HF
  rintro W6 ⟨BF, BD, BR, BG, HR0, HR1, HR2, HB, g0, g1, g2⟩
  replace BF := Aside0.mk BF
  replace BD := Aside0.mk BD
  replace BR := Aside0.mk BR
  replace BG := Aside0.mk BG
  replace HR0 := Aside0.mk HR0
  replace HR1 := Aside0.mk HR1
  replace HR2 := Aside0.mk HR2
  replace HB := Aside0.mk HB
  obtain ⟨f0, f1, f2, f3, f4, f5⟩ := ck6 BF.out
  have KD := Aside0.mk (fun (hok : fleetB l0 l1 l2 p q r = true) w' (h : Below W6.heap.size W6 w') => do_t w g (.slice B0 l0.length b0) (.slice B1 l1.length b1) (.slice B2 l2.length b2) l0 l1 l2 p q r d0 d1 d2 d3 w' (blk_below BG.out h) (Nat.le_of_lt g0) (below_step HB.out h) (Kd.R_below HR0.out h) (Kd.R_below HR1.out h) (Kd.R_below HR2.out h) hd HZ.out hok)
  by_cases hw : (workF l0 l1 l2 p q r d0 d1 d2 d3).2.2.2.2.2.2 = true
  · obtain ⟨hok, ts, ds, p', q', r', hD, hcl, hW⟩ := workF_true hw
    have KD := Aside0.mk (KD.out hok)
    have KK := Aside0.mk (fun w' => kb_ (clock_t p' q' r' w') hcl)
    rw [hok] at KO
    rw [hD] at KD
    have HW := Aside0.mk hW
    clear hW hcl hD hok hw
    go_upto_region 4 with (first | (go_at_call 54; (with_reducible refine (KO.out _ HB.out).mono ?_); rintro e w7 ⟨rfl, hb7⟩; clear f0 f1 f2 f3 f4 f5; obtain ⟨x0, x1, x2, x3⟩ := ck4 (blk_below BD.out hb7)) | (go_at_call 55; (with_reducible refine (KD.out _ hb7).mono ?_); rintro e w8 ⟨rfl, hO, hB8, hI⟩; obtain ⟨v0, v2, hG8, hR0, hR1, hR2⟩ := hI _ _ _ _ _ rfl; obtain ⟨f3', f4', f5'⟩ := (ck6 hG8).2.2.2) | (go_at_call 56; (with_reducible refine (KK.out _).mono ?_); rintro e w9 ⟨rfl, hb9⟩))
    have HF := Aside0.mk (And.intro (blk_below (blk_only (blk_below BR.out hb7) hO (Nat.ne_of_lt g2) (by decide)) hb9) (And.intro (blk_below hG8 hb9) (And.intro (Kd.R_below hR0 hb9) (And.intro (Kd.R_below hR1 hb9) (And.intro (Kd.R_below hR2 hb9) (below_step hB8 hb9))))))
    obtain ⟨Y0, y0, rfl⟩ := Kd.R_slice hR0
    obtain ⟨Y2, y2, rfl⟩ := Kd.R_slice hR2
    clear hI hO hG8 hR0 hR1 hR2 hB8 hb9 hb7 f3' f4' f5' x0 x1 x2 x3 KO KD KK BF BD BR BG HR0 HR1 HR2 HB
    obtain ⟨BR5, hG, hR0, hR1, hR2, hB⟩ := HF.out
    clear HF
    have HG := Aside0.mk hG
    have BR6 := Aside0.mk BR5
    have HB := Aside0.mk hB
    have HR := Aside0.mk (And.intro hR0 (And.intro hR1 hR2))
    obtain ⟨f0, f1, f2, f3, f4, f5⟩ := ck6 hG
    clear hG hB hR0 hR1 hR2
    go_wp2_with (first | ((with_reducible refine gate_store (t := 37) (p := 4) rfl ?_); refine stm_ 37 4 (.tmp 25) (w.heap.size + 1 + 1) 0 #[.slice Y0 ts.length y0, .slice B1 l1.length b1, .slice Y2 ds.length y2, .int .i64 p', .int .i64 q', .int .i64 r'] #[.slice none 0 0, .slice none 0 0, .slice none 0 0, .int .i64 0, .int .i64 0, .int .i64 0] #[.slice Y0 ts.length y0, .slice B1 l1.length b1, .slice Y2 ds.length y2, .int .i64 p', .int .i64 q', .int .i64 r'] 37 ?e1 ?e2 ?e3 ?e4 ?e5 ?e6 ?e7 ?e8 ?e9 ?e10 ?_; (case e1 => rfl); (case e2 => rfl); (case e3 => rfl); (case e4 => rfl); (case e5 => rfl); (case e6 => exact BR5); (case e7 => kernel_rfl); (case e8 => exact Nat.le_of_ble_eq_true rfl); (case e9 => kernel_rfl); (case e10 => kernel_rfl); intro w6 hn6 hg6))
    refine bodyPost_ret (results_ct rfl _ _ (w.heap.size + 1 + 1) 37 #[.slice Y0 ts.length y0, .slice B1 l1.length b1, .slice Y2 ds.length y2, .int .i64 p', .int .i64 q', .int .i64 r'] (0, 0) _ rfl hn6 Tryz.underlying37 rfl (by kernel_rfl)) rfl ?_
    rw [HW.out]
    exact ⟨_, _, _, rfl, r_put HR.out.1 BR6.out (by decide) hg6, r_put HR.out.2.1 BR6.out (by decide) hg6, r_put HR.out.2.2 BR6.out (by decide) hg6, b_put HB.out hg6 (by omega)⟩
  · obtain ⟨hW, hE⟩ := workF_false hw
    have HW := Aside0.mk hW
    clear hW hw
    refine Or.elim hE (fun h => ?c1) (fun h => Or.elim h (fun h => ?c2) (fun h => ?c3))
    case' c1 =>
      rw [h] at KO
      clear hE h KD
      go_upto_region 3 with (first | (go_at_call 54; (with_reducible refine (KO.out _ HB.out).mono ?_); rintro e w7 ⟨rfl, hb7⟩; clear f0 f1 f2 f3 f4 f5; obtain ⟨x0, x1, x2, x3⟩ := ck4 (blk_below BD.out hb7)))
      refine world_ (fun W => W.heap[w.heap.size]? = some (.cells #[.slice A0 l0.length c0, .slice A1 l1.length c1, .slice A2 l2.length c2, .int .i64 p, .int .i64 q, .int .i64 r] 37 (0, 0)) ∧ W.heap[w.heap.size + 1 + 1]? = some (.cells #[.slice none 0 0, .slice none 0 0, .slice none 0 0, .int .i64 0, .int .i64 0, .int .i64 0] 37 (0, 0)) ∧ Below w.heap.size w W) ⟨blk_below BF.out hb7, blk_below BR.out hb7, below_step HB.out hb7⟩ ?_
      clear hb7
    case' c2 =>
      have KD := Aside0.mk (KD.out h.1)
      rw [h.1] at KO
      rw [h.2] at KD
      clear hE h
      go_upto_region 3 with (first | (go_at_call 54; (with_reducible refine (KO.out _ HB.out).mono ?_); rintro e w7 ⟨rfl, hb7⟩; clear f0 f1 f2 f3 f4 f5; obtain ⟨x0, x1, x2, x3⟩ := ck4 (blk_below BD.out hb7)) | (go_at_call 55; (with_reducible refine (KD.out _ hb7).mono ?_); rintro e w8 ⟨rfl, hO, hB8, hI⟩))
      refine world_ (fun W => W.heap[w.heap.size]? = some (.cells #[.slice A0 l0.length c0, .slice A1 l1.length c1, .slice A2 l2.length c2, .int .i64 p, .int .i64 q, .int .i64 r] 37 (0, 0)) ∧ W.heap[w.heap.size + 1 + 1]? = some (.cells #[.slice none 0 0, .slice none 0 0, .slice none 0 0, .int .i64 0, .int .i64 0, .int .i64 0] 37 (0, 0)) ∧ Below w.heap.size w W) ⟨blk_only (blk_below BF.out hb7) hO (Nat.ne_of_lt g0) (by decide), blk_only (blk_below BR.out hb7) hO (Nat.ne_of_lt g2) (by decide), hB8⟩ ?_
      clear hb7 hO hB8 hI
    case' c3 =>
      obtain ⟨hok, ts, ds, p', q', r', hD, hcl⟩ := h
      have KD := Aside0.mk (KD.out hok)
      have KK := Aside0.mk (fun w' => kb_ (clock_t p' q' r' w') hcl)
      rw [hok] at KO
      rw [hD] at KD
      clear hE hok hD hcl
      go_upto_region 3 with (first | (go_at_call 54; (with_reducible refine (KO.out _ HB.out).mono ?_); rintro e w7 ⟨rfl, hb7⟩; clear f0 f1 f2 f3 f4 f5; obtain ⟨x0, x1, x2, x3⟩ := ck4 (blk_below BD.out hb7)) | (go_at_call 55; (with_reducible refine (KD.out _ hb7).mono ?_); rintro e w8 ⟨rfl, hO, hB8, hI⟩; obtain ⟨v0, v2, hG8, hR0, hR1, hR2⟩ := hI _ _ _ _ _ rfl; obtain ⟨f3', f4', f5'⟩ := (ck6 hG8).2.2.2) | (go_at_call 56; (with_reducible refine (KK.out _).mono ?_); rintro e w9 ⟨rfl, hb9⟩))
      refine world_ (fun W => W.heap[w.heap.size]? = some (.cells #[.slice A0 l0.length c0, .slice A1 l1.length c1, .slice A2 l2.length c2, .int .i64 p, .int .i64 q, .int .i64 r] 37 (0, 0)) ∧ W.heap[w.heap.size + 1 + 1]? = some (.cells #[.slice none 0 0, .slice none 0 0, .slice none 0 0, .int .i64 0, .int .i64 0, .int .i64 0] 37 (0, 0)) ∧ Below w.heap.size w W) ⟨blk_below (blk_only (blk_below BF.out hb7) hO (Nat.ne_of_lt g0) (by decide)) hb9, blk_below (blk_only (blk_below BR.out hb7) hO (Nat.ne_of_lt g2) (by decide)) hb9, below_step hB8 hb9⟩ ?_
      clear hb7 hO hB8 hI hG8 hR0 hR1 hR2 hb9
    all_goals
      clear KO BF BD BR BG HR0 HR1 HR2 HB
      rintro W ⟨BF, BR, HB⟩
      replace BF := Aside0.mk BF
      replace BR := Aside0.mk BR
      replace HB := Aside0.mk HB
      obtain ⟨z0, z1, z2, z3, z4, z5⟩ := ck6 BF.out
      go_wp2_with (first | (go_at_call 29; (with_reducible refine (KC.out _ HB.out).mono ?_); rintro e w5 ⟨v0, v1, v2, rfl, hR0, hR1, hR2, hb5⟩; obtain ⟨Y0, y0, rfl⟩ := Kd.R_slice hR0; obtain ⟨Y1, y1, rfl⟩ := Kd.R_slice hR1; obtain ⟨Y2, y2, rfl⟩ := Kd.R_slice hR2; have BR5 := blk_below BR.out hb5) | ((with_reducible refine gate_store (t := 37) (p := 4) rfl ?_); refine stm_ 37 4 (.tmp 24) (w.heap.size + 1 + 1) 0 #[.slice Y0 l0.length y0, .slice Y1 l1.length y1, .slice Y2 l2.length y2, .int .i64 p, .int .i64 q, .int .i64 r] #[.slice none 0 0, .slice none 0 0, .slice none 0 0, .int .i64 0, .int .i64 0, .int .i64 0] #[.slice Y0 l0.length y0, .slice Y1 l1.length y1, .slice Y2 l2.length y2, .int .i64 p, .int .i64 q, .int .i64 r] 37 ?e1 ?e2 ?e3 ?e4 ?e5 ?e6 ?e7 ?e8 ?e9 ?e10 ?_; (case e1 => rfl); (case e2 => rfl); (case e3 => rfl); (case e4 => rfl); (case e5 => rfl); (case e6 => exact BR5); (case e7 => kernel_rfl); (case e8 => exact Nat.le_of_ble_eq_true rfl); (case e9 => kernel_rfl); (case e10 => kernel_rfl); intro w6 hn6 hg6))
      refine bodyPost_ret (results_ct rfl _ _ (w.heap.size + 1 + 1) 37 #[.slice Y0 l0.length y0, .slice Y1 l1.length y1, .slice Y2 l2.length y2, .int .i64 p, .int .i64 q, .int .i64 r] (0, 0) _ rfl hn6 Tryz.underlying37 rfl (by kernel_rfl)) rfl ?_
      rw [HW.out]
      exact ⟨_, _, _, rfl, Kd.R_lower (r_put hR0 BR5 (by decide) hg6) HB.out.size, Kd.R_lower (r_put hR1 BR5 (by decide) hg6) HB.out.size, Kd.R_lower (r_put hR2 BR5 (by decide) hg6) HB.out.size, b_put (below_step HB.out hb5) hg6 (by omega)⟩
-- HAND TO

end Go.Proofs.YtdimdlifjdbgnaaGreat.PFnExactRunWork
