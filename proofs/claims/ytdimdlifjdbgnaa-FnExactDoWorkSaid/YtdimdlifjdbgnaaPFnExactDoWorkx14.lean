import Derived.Test.YtdimdlifjdbgnaaPFnExactDoWorkx13
namespace Go.Proofs.Ytdimdlifjdbgnaa.PFnExactDoWork
open Go.RowKit Go.Proofs.YtdimdlifjdbgnaaW.PrintWords Go.Proofs.YtdimdlifjdbgnaaW.PrintLast Go.Proofs.YtdimdlifjdbgnaaW.PrintMore Go.Proofs.Ytdimdlifjdbgnaa.Sq
attribute [local go_sem] max2_int min2_int max_two min_two max_three min_three max_four min_four
set_option linter.unusedVariables false
set_option linter.unusedSimpArgs false

-- HAND FROM
open Go.Proofs.Ytdimdlifjdbgnaa.Base Go.Proofs.Ytdimdlifjdbgnaa.Sq
/-! ### spec.DoWork (by hand) -/
theorem copy_is (l0 : List S44) (l1 : List S84) (l2 : List S57) (p q r : Int) (h : fleetCopyB l0 l1 l2 = true) : spec_l19Copy.f l0 l1 l2 p q r = some (l0, l1, l2, p, q, r) := by
  unfold fleetCopyB at h
  simp only [Bool.and_eq_true, decide_eq_true_eq] at h
  simp [spec_l19Copy.f, h.1, h.2.1, h.2.2]
theorem workF_bad {ts : List S44} {cs : List S84} {ds : List S57} {p q r d0 : Int} {d1 : ByteArray} {d2 d3 : Int} (h : fleetB ts cs ds p q r = false) : workF ts cs ds p q r d0 d1 d2 d3 = (ts, cs, ds, p, q, r, false) := by unfold workF; rw [if_neg (by rw [h]; simp)]
set_option maxHeartbeats 16000000 in
set_option maxRecDepth 100000 in
theorem sdowork_t (A0 : Option Addr) (c0 : Nat) (l0 : List S44) (A1 : Option Addr) (c1 : Nat) (l1 : List S84) (A2 : Option Addr) (c2 : Nat) (l2 : List S57) (p q r d0 : Int) (d1 : ByteArray) (d2 d3 : Int) (w : World)
    (hr0 : Kd.C k44 w A0 l0.length l0) (hc0 : l0.length ≤ c0) (hr1 : Kd.C k84 w A1 l1.length l1) (hc1 : l1.length ≤ c1) (hr2 : Kd.C k57 w A2 l2.length l2) (hc2 : l2.length ≤ c2) (hz : FleetSz l0 l1 l2) (hy : fleetCopyB l0 l1 l2 = true) (hd : d1.size ≤ 140737488355328) :
    Calls Try.prog 20 #[.agg #[.slice A0 l0.length c0, .slice A1 l1.length c1, .slice A2 l2.length c2, .int .i64 p, .int .i64 q, .int .i64 r], .agg #[.int .i64 d0, .string d1, .int .i64 d2, .int .i64 d3]] w fun e w' =>
      ∃ v0 v1 v2 : Value, e = .returned (.tuple #[.agg #[v0, v1, v2, .int .i64 (workF l0 l1 l2 p q r d0 d1 d2 d3).2.2.2.1, .int .i64 (workF l0 l1 l2 p q r d0 d1 d2 d3).2.2.2.2.1, .int .i64 (workF l0 l1 l2 p q r d0 d1 d2 d3).2.2.2.2.2.1], .bool (workF l0 l1 l2 p q r d0 d1 d2 d3).2.2.2.2.2.2]) ∧
        Kd.R k44 44 w' w.heap.size (fun _ => True) v0 (workF l0 l1 l2 p q r d0 d1 d2 d3).1 ∧ Kd.R k84 84 w' w.heap.size (fun _ => True) v1 (workF l0 l1 l2 p q r d0 d1 d2 d3).2.1 ∧ Kd.R k57 57 w' w.heap.size (fun _ => True) v2 (workF l0 l1 l2 p q r d0 d1 d2 d3).2.2.1 ∧ Below w.heap.size w w' := by
  have hu1 := Try.underlying30
  have hu2 := Try.underlying42
  have n1 := below_alloc (Below.refl w.heap.size w) (.cells #[.slice A0 l0.length c0, .slice A1 l1.length c1, .slice A2 l2.length c2, .int .i64 p, .int .i64 q, .int .i64 r] 30 (0, 0))
  have n2 := below_alloc n1 (.cells #[.int .i64 d0, .string d1, .int .i64 d2, .int .i64 d3] 42 (0, 0))
  have n3 := below_alloc n2 (.cells #[.slice none 0 0, .slice none 0 0, .slice none 0 0, .int .i64 0, .int .i64 0, .int .i64 0] 30 (0, 0))
  have m1 := blk_alloc (blk_alloc (blk_new w (.cells #[.slice A0 l0.length c0, .slice A1 l1.length c1, .slice A2 l2.length c2, .int .i64 p, .int .i64 q, .int .i64 r] 30 (0, 0))) (.cells #[.int .i64 d0, .string d1, .int .i64 d2, .int .i64 d3] 42 (0, 0))) (.cells #[.slice none 0 0, .slice none 0 0, .slice none 0 0, .int .i64 0, .int .i64 0, .int .i64 0] 30 (0, 0))
  have m2 := blk_alloc (blk_new (w.alloc (.cells #[.slice A0 l0.length c0, .slice A1 l1.length c1, .slice A2 l2.length c2, .int .i64 p, .int .i64 q, .int .i64 r] 30 (0, 0))) (.cells #[.int .i64 d0, .string d1, .int .i64 d2, .int .i64 d3] 42 (0, 0))) (.cells #[.slice none 0 0, .slice none 0 0, .slice none 0 0, .int .i64 0, .int .i64 0, .int .i64 0] 30 (0, 0))
  have m3 := blk_new ((w.alloc (.cells #[.slice A0 l0.length c0, .slice A1 l1.length c1, .slice A2 l2.length c2, .int .i64 p, .int .i64 q, .int .i64 r] 30 (0, 0))).alloc (.cells #[.int .i64 d0, .string d1, .int .i64 d2, .int .i64 d3] 42 (0, 0))) (.cells #[.slice none 0 0, .slice none 0 0, .slice none 0 0, .int .i64 0, .int .i64 0, .int .i64 0] 30 (0, 0))
  rw [World.size_alloc] at m2
  rw [World.size_alloc, World.size_alloc] at m3
  have HF := Aside0.mk (And.intro m1 (And.intro m2 (And.intro m3 n3)))
  have KC := Aside0.mk (fun w' (h : Below w.heap.size w w') => spec_l19Copy.calls A0 c0 l0 A1 c1 l1 A2 c2 l2 p q r _ _ _ _ _ _ w' (Kd.C_below hr0 h) hc0 (Kd.C_below hr1 h) hc1 (Kd.C_below hr2 h) hc2 (copy_is l0 l1 l2 p q r hy))
  obtain ⟨fb, hfb⟩ : ∃ b, fleetB l0 l1 l2 p q r = b := ⟨_, rfl⟩
  have KO := Aside0.mk (fun w' (h : Below w.heap.size w w') => kb_ (spec_FleetOk.go A0 c0 l0 A1 c1 l1 A2 c2 l2 p q r w' (Kd.C_below hr0 h) hc0 (Kd.C_below hr1 h) hc1 (Kd.C_below hr2 h) hc2 hz) hfb)
  clear hr0 hr1 hr2 hy n1 n2 n3 m1 m2 m3
  go_enter Try.func20, Try.ntmps20
  go_upto_region 1 with (fail)
  refine world_ (fun W => W.heap[w.heap.size]? = some (.cells #[.slice A0 l0.length c0, .slice A1 l1.length c1, .slice A2 l2.length c2, .int .i64 p, .int .i64 q, .int .i64 r] 30 (0, 0)) ∧ W.heap[w.heap.size + 1]? = some (.cells #[.int .i64 d0, .string d1, .int .i64 d2, .int .i64 d3] 42 (0, 0)) ∧ W.heap[w.heap.size + 1 + 1]? = some (.cells #[.slice none 0 0, .slice none 0 0, .slice none 0 0, .int .i64 0, .int .i64 0, .int .i64 0] 30 (0, 0)) ∧ Below w.heap.size w W) HF.out ?_
  clear HF
  rintro W ⟨BF, BD, BR, HB⟩
  replace BF := Aside0.mk BF
  replace BD := Aside0.mk BD
  replace BR := Aside0.mk BR
  replace HB := Aside0.mk HB
  obtain ⟨f0, f1, f2, f3, f4, f5⟩ := ck6 BF.out
  cases fb with
  | false =>
    have HW := Aside0.mk (workF_bad (d0 := d0) (d1 := d1) (d2 := d2) (d3 := d3) hfb)
    clear hfb
    go_upto_region 2 with (first | (go_at_call 46; (with_reducible refine (KO.out _ HB.out).mono ?_); rintro e w7 ⟨rfl, hb7⟩))
    clear f0 f1 f2 f3 f4 f5
    refine world_ (fun W => W.heap[w.heap.size]? = some (.cells #[.slice A0 l0.length c0, .slice A1 l1.length c1, .slice A2 l2.length c2, .int .i64 p, .int .i64 q, .int .i64 r] 30 (0, 0)) ∧ W.heap[w.heap.size + 1 + 1]? = some (.cells #[.slice none 0 0, .slice none 0 0, .slice none 0 0, .int .i64 0, .int .i64 0, .int .i64 0] 30 (0, 0)) ∧ Below w.heap.size w W) ⟨blk_below BF.out hb7, blk_below BR.out hb7, below_step HB.out hb7⟩ ?_
    clear BF BD BR HB hb7 KO
    rintro W ⟨BF, BR, HB⟩
    replace BF := Aside0.mk BF
    replace BR := Aside0.mk BR
    replace HB := Aside0.mk HB
    obtain ⟨z0, z1, z2, z3, z4, z5⟩ := ck6 BF.out
    go_wp2_with (first | (go_at_call 47; (with_reducible refine (KC.out _ HB.out).mono ?_); rintro e w5 ⟨v0, v1, v2, rfl, hR0, hR1, hR2, hb5⟩; obtain ⟨Y0, y0, rfl⟩ := Kd.R_slice hR0; obtain ⟨Y1, y1, rfl⟩ := Kd.R_slice hR1; obtain ⟨Y2, y2, rfl⟩ := Kd.R_slice hR2; have BR5 := blk_below BR.out hb5) | ((with_reducible refine gate_store (t := 30) (p := 4) rfl ?_); refine stm_ 30 4 (.tmp 12) (w.heap.size + 1 + 1) 0 #[.slice Y0 l0.length y0, .slice Y1 l1.length y1, .slice Y2 l2.length y2, .int .i64 p, .int .i64 q, .int .i64 r] #[.slice none 0 0, .slice none 0 0, .slice none 0 0, .int .i64 0, .int .i64 0, .int .i64 0] #[.slice Y0 l0.length y0, .slice Y1 l1.length y1, .slice Y2 l2.length y2, .int .i64 p, .int .i64 q, .int .i64 r] 30 ?e1 ?e2 ?e3 ?e4 ?e5 ?e6 ?e7 ?e8 ?e9 ?e10 ?_; (case e1 => rfl); (case e2 => rfl); (case e3 => rfl); (case e4 => rfl); (case e5 => rfl); (case e6 => exact BR5); (case e7 => kernel_rfl); (case e8 => exact Nat.le_of_ble_eq_true rfl); (case e9 => kernel_rfl); (case e10 => kernel_rfl); intro w6 hn6 hg6))
    refine bodyPost_ret (results_ct rfl _ _ (w.heap.size + 1 + 1) 30 #[.slice Y0 l0.length y0, .slice Y1 l1.length y1, .slice Y2 l2.length y2, .int .i64 p, .int .i64 q, .int .i64 r] (0, 0) _ rfl hn6 Try.underlying30 rfl (by kernel_rfl)) rfl ?_
    rw [HW.out]
    exact ⟨_, _, _, rfl, Kd.R_lower (r_put hR0 BR5 (by decide) hg6) HB.out.size, Kd.R_lower (r_put hR1 BR5 (by decide) hg6) HB.out.size, Kd.R_lower (r_put hR2 BR5 (by decide) hg6) HB.out.size, b_put (below_step HB.out hb5) hg6 (by omega)⟩
  | true =>
    obtain ⟨⟨ts2, cs2, ds2, p2, q2, r2, ok⟩, hO⟩ : ∃ o, workF l0 l1 l2 p q r d0 d1 d2 d3 = o := ⟨_, rfl⟩
    have HO := Aside0.mk hO
    clear hO
    go_upto_region 3 with (first | (go_at_call 46; (with_reducible refine (KO.out _ HB.out).mono ?_); rintro e w7 ⟨rfl, hb7⟩))
    clear f0 f1 f2 f3 f4 f5
    refine world_ (fun W => W.heap[w.heap.size]? = some (.cells #[.slice A0 l0.length c0, .slice A1 l1.length c1, .slice A2 l2.length c2, .int .i64 p, .int .i64 q, .int .i64 r] 30 (0, 0)) ∧ W.heap[w.heap.size + 1]? = some (.cells #[.int .i64 d0, .string d1, .int .i64 d2, .int .i64 d3] 42 (0, 0)) ∧ W.heap[w.heap.size + 1 + 1]? = some (.cells #[.slice none 0 0, .slice none 0 0, .slice none 0 0, .int .i64 0, .int .i64 0, .int .i64 0] 30 (0, 0)) ∧ Below w.heap.size w W) ⟨blk_below BF.out hb7, blk_below BD.out hb7, blk_below BR.out hb7, below_step HB.out hb7⟩ ?_
    clear BF BD BR HB hb7 KO
    clear W
    rintro W ⟨BF, BD, BR, HB⟩
    replace BF := Aside0.mk BF
    replace BD := Aside0.mk BD
    replace BR := Aside0.mk BR
    replace HB := Aside0.mk HB
    have L := Aside0.mk (fun w' (h : Up W w') => And.intro (ck6 (blk_below BF.out h)) (ck4 (blk_below BD.out h)))
    refine start_ (n := 10) (S := Up W) (ds := []) (Sq.M 0 10) (by kernel_rfl) rfl rfl (below_drew (Below.refl _ _)) (fun hS => ?_)
    generalize W.drew = W1 at hS ⊢
    refine rt_ L.out hS 0 14 (Sq.M 1 10) ?_
    refine rt_ L.out hS 2 16 (mn_ 10 5) ?_
    refine join_ (σ := Nat × (Option Addr × Nat) × (Option Addr × Nat) × (Option Addr × Nat) × (Option Addr × Nat × Nat) × (Option Addr × Nat × Nat) × (Option Addr × Nat × Nat) × Int × Int × Int) 2 (Sq.M 8 10) (fun s => [(15, .agg #[.slice s.2.1.1 l0.length s.2.1.2, .slice s.2.2.1.1 l1.length s.2.2.1.2, .slice s.2.2.2.1.1 l2.length s.2.2.2.1.2, .int .i64 p, .int .i64 q, .int .i64 r]), (17, .tuple #[.agg #[.slice s.2.2.2.2.1.1 s.2.2.2.2.1.2.1 s.2.2.2.2.1.2.2, .slice s.2.2.2.2.2.1.1 s.2.2.2.2.2.1.2.1 s.2.2.2.2.2.1.2.2, .slice s.2.2.2.2.2.2.1.1 s.2.2.2.2.2.2.1.2.1 s.2.2.2.2.2.2.1.2.2, .int .i64 s.2.2.2.2.2.2.2.1, .int .i64 s.2.2.2.2.2.2.2.2.1, .int .i64 s.2.2.2.2.2.2.2.2.2], .bool ok]), (13, .tuple #[.agg #[.slice s.2.2.2.2.1.1 s.2.2.2.2.1.2.1 s.2.2.2.2.1.2.2, .slice s.2.2.2.2.2.1.1 s.2.2.2.2.2.1.2.1 s.2.2.2.2.2.1.2.2, .slice s.2.2.2.2.2.2.1.1 s.2.2.2.2.2.2.1.2.1 s.2.2.2.2.2.2.1.2.2, .int .i64 s.2.2.2.2.2.2.2.1, .int .i64 s.2.2.2.2.2.2.2.2.1, .int .i64 s.2.2.2.2.2.2.2.2.2], .bool ok]), (18, .agg #[.slice s.2.2.2.2.1.1 s.2.2.2.2.1.2.1 s.2.2.2.2.1.2.2, .slice s.2.2.2.2.2.1.1 s.2.2.2.2.2.1.2.1 s.2.2.2.2.2.1.2.2, .slice s.2.2.2.2.2.2.1.1 s.2.2.2.2.2.2.1.2.1 s.2.2.2.2.2.2.1.2.2, .int .i64 s.2.2.2.2.2.2.2.1, .int .i64 s.2.2.2.2.2.2.2.2.1, .int .i64 s.2.2.2.2.2.2.2.2.2]), (19, .bool ok), (6, .pointer (some ⟨s.1, 0, none⟩))]) (fun s w' => Up W w' ∧ w'.heap[s.1]? = some (.cells #[.slice none 0 0, .slice none 0 0, .slice none 0 0, .int .i64 0, .int .i64 0, .int .i64 0] 30 (0, 0)) ∧ W.heap.size ≤ s.1 ∧ (ok = true → s.2.2.2.2.2.2.2.1 = p2 ∧ s.2.2.2.2.2.2.2.2.1 = q2 ∧ s.2.2.2.2.2.2.2.2.2 = r2 ∧ Kd.R k44 44 w' W.heap.size (fun _ => True) (.slice s.2.2.2.2.1.1 s.2.2.2.2.1.2.1 s.2.2.2.2.1.2.2) ts2 ∧ Kd.R k84 84 w' W.heap.size (fun _ => True) (.slice s.2.2.2.2.2.1.1 s.2.2.2.2.2.1.2.1 s.2.2.2.2.2.1.2.2) cs2 ∧ Kd.R k57 57 w' W.heap.size (fun _ => True) (.slice s.2.2.2.2.2.2.1.1 s.2.2.2.2.2.2.1.2.1 s.2.2.2.2.2.2.1.2.2) ds2)) ?_ ?_
    rotate_left
    · intro hCont
      refine two_ (i := 1) (j := 7) (Ni := some 15) (Nj := some 6) (Sq.M 3 10) (mn_ 10 133) rfl rfl rfl rfl (by kernel_rfl) (by decide) (by decide) (fun K hK => ?_) (fun K hK => ?_)
      · refine goes_ Try.func47 rfl rfl #[.agg #[.slice A0 l0.length c0, .slice A1 l1.length c1, .slice A2 l2.length c2, .int .i64 p, .int .i64 q, .int .i64 r]] (by rfl) rfl rfl (by (try simp only [am_]); first | done | rfl) ?_
        (with_reducible refine (KC.out _ (below_step HB.out hS)).mono ?_)
        rintro e w5 ⟨v0, v1, v2, rfl, hR0, hR1, hR2, hb5⟩
        obtain ⟨Y0, y0, rfl⟩ := Kd.R_slice hR0
        obtain ⟨Y1, y1, rfl⟩ := Kd.R_slice hR1
        obtain ⟨Y2, y2, rfl⟩ := Kd.R_slice hR2
        refine ⟨_, rfl, ?_⟩
        refine hK.out _ _ (below_step hS hb5) (fun hS2 => ?_)
        clear hK K
        have hL0 := Kd.R_lower hR0 hS.size
        have hL1 := Kd.R_lower hR1 hS.size
        have hL2 := Kd.R_lower hR2 hS.size
        clear hR0 hR1 hR2
        refine norm_ (a' := ?_) ?_ ?_
        rotate_left
        · (show Act.put _ (some 15) _ = _; simp only [sp_]; rfl)
        refine two_ (i := 3) (j := 7) (Ni := some 17) (Nj := some 6) (Sq.M 4 10) (mn_ 10 135) rfl rfl rfl rfl (by kernel_rfl) (by decide) (by decide) (fun K hK => ?_) (fun K hK => ?_)
        · refine goes_ Try.func48 rfl rfl #[.agg #[.slice Y0 l0.length y0, .slice Y1 l1.length y1, .slice Y2 l2.length y2, .int .i64 p, .int .i64 q, .int .i64 r], .agg #[.int .i64 d0, .string d1, .int .i64 d2, .int .i64 d3]] (by rfl) rfl rfl (by (try simp only [am_]); first | done | rfl) ?_
          (with_reducible refine (sdo_t W Y0 y0 l0 Y1 y1 l1 Y2 y2 l2 p q r d0 d1 d2 d3 _ hS2 hL0 hL1 hL2 hd hz hfb).mono ?_)
          rintro e w8 ⟨V0, m0, n0, V1, m1, n1, V2, m2, n2, P, Q, R, rfl, hb8, ho8, hr8⟩
          rw [HO.out]
          rw [HO.out] at hr8
          dsimp only at hr8
          refine ⟨_, rfl, ?_⟩
          refine hK.out _ _ hb8 (fun hS3 => ?_)
          clear hK K
          refine norm_ (a' := ?_) ?_ ?_
          rotate_left
          · (show Act.put _ (some 17) _ = _; simp only [sp_]; rfl)
          refine ra_ 4 13 (Sq.M 5 10) ?_
          refine ra_ 5 18 (Sq.M 6 10) ?_
          refine ra_ 6 19 (Sq.M 7 10) ?_
          refine one_ (i := 7) (N := some 6) (Sq.M 8 10) rfl rfl (by kernel_rfl) (by decide) (fun K hK => ?_)
          refine box_step ?hg (N := 6) ?hd (cs := #[.slice none 0 0, .slice none 0 0, .slice none 0 0, .int .i64 0, .int .i64 0, .int .i64 0]) (t := 30) ?hr ?_; (case hd => rfl); (case hg => rfl); (case hr => first | (go_simp; done) | (go_simp; rfl))
          intro gb hg w6 hbox hb6
          refine hK.out _ _ (below_step hS3 hb6) (fun hS4 => ?_)
          clear hK K
          refine norm_ (a' := ?_) ?_ ?_
          rotate_left
          · (show Act.put _ (some 6) _ = _; simp only [sp_]; rfl)
          exact norm_ (by simp only [putAll, sp_]) (hCont (gb, (Y0, y0), (Y1, y1), (Y2, y2), (V0, m0, n0), (V1, m1, n1), (V2, m2, n2), P, Q, R) _ ⟨hS4, hbox, by rw [hg]; exact hS3.size, fun h => ⟨(hr8 h).1, (hr8 h).2.1, (hr8 h).2.2.1, Kd.R_below (hr8 h).2.2.2.1 hb6, Kd.R_below (hr8 h).2.2.2.2.1 hb6, Kd.R_below (hr8 h).2.2.2.2.2 hb6⟩⟩)
        · refine box_step ?hg (N := 6) ?hd (cs := #[.slice none 0 0, .slice none 0 0, .slice none 0 0, .int .i64 0, .int .i64 0, .int .i64 0]) (t := 30) ?hr ?_; (case hd => rfl); (case hg => rfl); (case hr => first | (go_simp; done) | (go_simp; rfl))
          intro gb hg w6 hbox hb6
          refine hK.out _ _ (below_step hS2 hb6) (fun hS3 => ?_)
          clear hK K
          refine norm_ (a' := ?_) ?_ ?_
          rotate_left
          · (show Act.put _ (some 6) _ = _; simp only [sp_]; rfl)
          replace hL0 := Kd.R_below hL0 hb6
          replace hL1 := Kd.R_below hL1 hb6
          replace hL2 := Kd.R_below hL2 hb6
          refine one_ (i := 3) (N := some 17) (mn_ 10 143) rfl rfl (by kernel_rfl) (by decide) (fun K hK => ?_)
          refine goes_ Try.func48 rfl rfl #[.agg #[.slice Y0 l0.length y0, .slice Y1 l1.length y1, .slice Y2 l2.length y2, .int .i64 p, .int .i64 q, .int .i64 r], .agg #[.int .i64 d0, .string d1, .int .i64 d2, .int .i64 d3]] (by rfl) rfl rfl (by (try simp only [am_]); first | done | rfl) ?_
          (with_reducible refine (sdo_t W Y0 y0 l0 Y1 y1 l1 Y2 y2 l2 p q r d0 d1 d2 d3 _ hS3 hL0 hL1 hL2 hd hz hfb).mono ?_)
          rintro e w8 ⟨V0, m0, n0, V1, m1, n1, V2, m2, n2, P, Q, R, rfl, hb8, ho8, hr8⟩
          rw [HO.out]
          rw [HO.out] at hr8
          dsimp only at hr8
          refine ⟨_, rfl, ?_⟩
          refine hK.out _ _ hb8 (fun hS4 => ?_)
          clear hK K
          refine norm_ (a' := ?_) ?_ ?_
          rotate_left
          · (show Act.put _ (some 17) _ = _; simp only [sp_]; rfl)
          refine ra_ 4 13 (mn_ 10 159) ?_
          refine ra_ 5 18 (mn_ 10 191) ?_
          refine ra_ 6 19 (Sq.M 8 10) ?_
          exact norm_ (by simp only [putAll, sp_]) (hCont (gb, (Y0, y0), (Y1, y1), (Y2, y2), (V0, m0, n0), (V1, m1, n1), (V2, m2, n2), P, Q, R) _ ⟨hS4, blk_only hbox ho8 (Nat.ne_of_lt (blk_lt hbox)) (by decide), by rw [hg]; exact hS2.size, hr8⟩)
      · refine box_step ?hg (N := 6) ?hd (cs := #[.slice none 0 0, .slice none 0 0, .slice none 0 0, .int .i64 0, .int .i64 0, .int .i64 0]) (t := 30) ?hr ?_; (case hd => rfl); (case hg => rfl); (case hr => first | (go_simp; done) | (go_simp; rfl))
        intro gb hg w6 hbox hb6
        refine hK.out _ _ (below_step hS hb6) (fun hS2 => ?_)
        clear hK K
        refine norm_ (a' := ?_) ?_ ?_
        rotate_left
        · (show Act.put _ (some 6) _ = _; simp only [sp_]; rfl)
        refine one_ (i := 1) (N := some 15) (mn_ 10 135) rfl rfl (by kernel_rfl) (by decide) (fun K hK => ?_)
        refine goes_ Try.func47 rfl rfl #[.agg #[.slice A0 l0.length c0, .slice A1 l1.length c1, .slice A2 l2.length c2, .int .i64 p, .int .i64 q, .int .i64 r]] (by rfl) rfl rfl (by (try simp only [am_]); first | done | rfl) ?_
        (with_reducible refine (KC.out _ (below_step HB.out hS2)).mono ?_)
        rintro e w5 ⟨v0, v1, v2, rfl, hR0, hR1, hR2, hb5⟩
        obtain ⟨Y0, y0, rfl⟩ := Kd.R_slice hR0
        obtain ⟨Y1, y1, rfl⟩ := Kd.R_slice hR1
        obtain ⟨Y2, y2, rfl⟩ := Kd.R_slice hR2
        refine ⟨_, rfl, ?_⟩
        refine hK.out _ _ (below_step hS2 hb5) (fun hS3 => ?_)
        clear hK K
        have hL0 := Kd.R_lower hR0 hS2.size
        have hL1 := Kd.R_lower hR1 hS2.size
        have hL2 := Kd.R_lower hR2 hS2.size
        clear hR0 hR1 hR2
        refine norm_ (a' := ?_) ?_ ?_
        rotate_left
        · (show Act.put _ (some 15) _ = _; simp only [sp_]; rfl)
        refine one_ (i := 3) (N := some 17) (mn_ 10 143) rfl rfl (by kernel_rfl) (by decide) (fun K hK => ?_)
        refine goes_ Try.func48 rfl rfl #[.agg #[.slice Y0 l0.length y0, .slice Y1 l1.length y1, .slice Y2 l2.length y2, .int .i64 p, .int .i64 q, .int .i64 r], .agg #[.int .i64 d0, .string d1, .int .i64 d2, .int .i64 d3]] (by rfl) rfl rfl (by (try simp only [am_]); first | done | rfl) ?_
        (with_reducible refine (sdo_t W Y0 y0 l0 Y1 y1 l1 Y2 y2 l2 p q r d0 d1 d2 d3 _ hS3 hL0 hL1 hL2 hd hz hfb).mono ?_)
        rintro e w8 ⟨V0, m0, n0, V1, m1, n1, V2, m2, n2, P, Q, R, rfl, hb8, ho8, hr8⟩
        rw [HO.out]
        rw [HO.out] at hr8
        dsimp only at hr8
        refine ⟨_, rfl, ?_⟩
        refine hK.out _ _ hb8 (fun hS4 => ?_)
        clear hK K
        refine norm_ (a' := ?_) ?_ ?_
        rotate_left
        · (show Act.put _ (some 17) _ = _; simp only [sp_]; rfl)
        refine ra_ 4 13 (mn_ 10 159) ?_
        refine ra_ 5 18 (mn_ 10 191) ?_
        refine ra_ 6 19 (Sq.M 8 10) ?_
        exact norm_ (by simp only [putAll, sp_]) (hCont (gb, (Y0, y0), (Y1, y1), (Y2, y2), (V0, m0, n0), (V1, m1, n1), (V2, m2, n2), P, Q, R) _ ⟨hS4, blk_only (blk_below hbox hb5) ho8 (Nat.ne_of_lt (blk_lt (blk_below hbox hb5))) (by decide), by rw [hg]; exact hS.size, hr8⟩)
    rintro ⟨gx, ⟨Y0, y0⟩, ⟨Y1, y1⟩, ⟨Y2, y2⟩, ⟨V0, m0, n0⟩, ⟨V1, m1, n1⟩, ⟨V2, m2, n2⟩, P, Q, R⟩ w7 ⟨hS4, hbx, hgx, hr8⟩
    dsimp only at hbx hgx hr8
    refine norm_ (a' := ?_) ?_ ?_
    rotate_left
    · (simp only [putAll, sp_]; rfl)
    refine one_ (i := 8) (N := none) (Sq.M 9 10) rfl rfl (by kernel_rfl) (by decide) (fun K hK => ?_)
    refine sts_ 30 6 (.tmp 18) gx 0 #[.slice V0 m0 n0, .slice V1 m1 n1, .slice V2 m2 n2, .int .i64 P, .int .i64 Q, .int .i64 R] #[.slice none 0 0, .slice none 0 0, .slice none 0 0, .int .i64 0, .int .i64 0, .int .i64 0] #[.slice V0 m0 n0, .slice V1 m1 n1, .slice V2 m2 n2, .int .i64 P, .int .i64 Q, .int .i64 R] 30 (by rfl) rfl rfl rfl rfl hbx (by kernel_rfl) (Nat.le_of_ble_eq_true rfl) (by kernel_rfl) (by kernel_rfl) ?_
    intro w8 hbx8 hg8
    have hS8 := b_put hS4 hg8 hgx
    refine hK.out _ _ hS8 (fun hS9 => ?_)
    clear hK K hS9
    refine ra_ 9 7 (Sq.M 10 10) ?_
    refine done_ (by kernel_rfl) ?_
    cases ok with
    | false =>
      have HW := Aside0.mk (show workF l0 l1 l2 p q r d0 d1 d2 d3 = (l0, l1, l2, p, q, r, false) from (workF_false (by rw [HO.out]; simp)).1)
      clear HO hr8 hfb
      go_upto_region 5 with (fail)
      refine world_ (fun W => W.heap[w.heap.size]? = some (.cells #[.slice A0 l0.length c0, .slice A1 l1.length c1, .slice A2 l2.length c2, .int .i64 p, .int .i64 q, .int .i64 r] 30 (0, 0)) ∧ W.heap[w.heap.size + 1 + 1]? = some (.cells #[.slice none 0 0, .slice none 0 0, .slice none 0 0, .int .i64 0, .int .i64 0, .int .i64 0] 30 (0, 0)) ∧ Below w.heap.size w W) ⟨blk_below BF.out hS8, blk_below BR.out hS8, below_step HB.out hS8⟩ ?_
      clear BF BD BR HB hS8 hbx8 hg8 hbx hS4 L hS hgx
      rintro W ⟨BF, BR, HB⟩
      replace BF := Aside0.mk BF
      replace BR := Aside0.mk BR
      replace HB := Aside0.mk HB
      obtain ⟨z0, z1, z2, z3, z4, z5⟩ := ck6 BF.out
      go_wp2_with (first | (go_at_call 47; (with_reducible refine (KC.out _ HB.out).mono ?_); rintro e w5 ⟨v0, v1, v2, rfl, hR0, hR1, hR2, hb5⟩; obtain ⟨Y0, y0, rfl⟩ := Kd.R_slice hR0; obtain ⟨Y1, y1, rfl⟩ := Kd.R_slice hR1; obtain ⟨Y2, y2, rfl⟩ := Kd.R_slice hR2; have BR5 := blk_below BR.out hb5) | ((with_reducible refine gate_store (t := 30) (p := 4) rfl ?_); refine stm_ 30 4 (.tmp 23) (w.heap.size + 1 + 1) 0 #[.slice Y0 l0.length y0, .slice Y1 l1.length y1, .slice Y2 l2.length y2, .int .i64 p, .int .i64 q, .int .i64 r] #[.slice none 0 0, .slice none 0 0, .slice none 0 0, .int .i64 0, .int .i64 0, .int .i64 0] #[.slice Y0 l0.length y0, .slice Y1 l1.length y1, .slice Y2 l2.length y2, .int .i64 p, .int .i64 q, .int .i64 r] 30 ?e1 ?e2 ?e3 ?e4 ?e5 ?e6 ?e7 ?e8 ?e9 ?e10 ?_; (case e1 => rfl); (case e2 => rfl); (case e3 => rfl); (case e4 => rfl); (case e5 => rfl); (case e6 => exact BR5); (case e7 => kernel_rfl); (case e8 => exact Nat.le_of_ble_eq_true rfl); (case e9 => kernel_rfl); (case e10 => kernel_rfl); intro w6 hn6 hg6))
      refine bodyPost_ret (results_ct rfl _ _ (w.heap.size + 1 + 1) 30 #[.slice Y0 l0.length y0, .slice Y1 l1.length y1, .slice Y2 l2.length y2, .int .i64 p, .int .i64 q, .int .i64 r] (0, 0) _ rfl hn6 Try.underlying30 rfl (by kernel_rfl)) rfl ?_
      rw [HW.out]
      exact ⟨_, _, _, rfl, Kd.R_lower (r_put hR0 BR5 (by decide) hg6) HB.out.size, Kd.R_lower (r_put hR1 BR5 (by decide) hg6) HB.out.size, Kd.R_lower (r_put hR2 BR5 (by decide) hg6) HB.out.size, b_put (below_step HB.out hb5) hg6 (by omega)⟩
    | true =>
      obtain ⟨rfl, rfl, rfl, hr0, hr1, hr2⟩ := hr8 rfl
      have HR := Aside0.mk (And.intro (r_put hr0 hbx (by decide) hg8) (And.intro (r_put hr1 hbx (by decide) hg8) (r_put hr2 hbx (by decide) hg8)))
      have BRk := blk_below BR.out hS8
      have BR6 := Aside0.mk BRk
      have HB6 := Aside0.mk (below_step HB.out hS8)
      have HBW := HB.out.size
      obtain ⟨z0, z1, z2, z3, z4, z5⟩ := ck6 hbx8
      clear hr8 hr0 hr1 hr2 hbx hbx8 hg8 hS8 hS4 hS L hfb BF BD BR HB hgx
      go_wp2_with (first | ((with_reducible refine gate_store (t := 30) (p := 4) rfl ?_); refine stm_ 30 4 (.tmp 24) (w.heap.size + 1 + 1) 0 #[.slice V0 m0 n0, .slice V1 m1 n1, .slice V2 m2 n2, .int .i64 P, .int .i64 Q, .int .i64 R] #[.slice none 0 0, .slice none 0 0, .slice none 0 0, .int .i64 0, .int .i64 0, .int .i64 0] #[.slice V0 m0 n0, .slice V1 m1 n1, .slice V2 m2 n2, .int .i64 P, .int .i64 Q, .int .i64 R] 30 ?e1 ?e2 ?e3 ?e4 ?e5 ?e6 ?e7 ?e8 ?e9 ?e10 ?_; (case e1 => rfl); (case e2 => rfl); (case e3 => rfl); (case e4 => rfl); (case e5 => rfl); (case e6 => exact BRk); (case e7 => kernel_rfl); (case e8 => exact Nat.le_of_ble_eq_true rfl); (case e9 => kernel_rfl); (case e10 => kernel_rfl); intro w6 hn6 hg6))
      refine bodyPost_ret (results_ct rfl _ _ (w.heap.size + 1 + 1) 30 #[.slice V0 m0 n0, .slice V1 m1 n1, .slice V2 m2 n2, .int .i64 P, .int .i64 Q, .int .i64 R] (0, 0) _ rfl hn6 Try.underlying30 rfl (by kernel_rfl)) rfl ?_
      rw [HO.out]
      exact ⟨_, _, _, rfl, Kd.R_lower (r_put HR.out.1 BR6.out (by decide) hg6) HBW, Kd.R_lower (r_put HR.out.2.1 BR6.out (by decide) hg6) HBW, Kd.R_lower (r_put HR.out.2.2 BR6.out (by decide) hg6) HBW, b_put HB6.out hg6 (by omega)⟩
-- HAND TO

/-! ### laws_toClock: function 52 -/
def laws_toClock.f (a0_0 : Int) (a0_1 : Int) (a0_2 : Int) : Option (Int × Int × Int) := some (a0_0, a0_1, a0_2)
set_option maxHeartbeats 8000000 in
set_option maxRecDepth 100000 in
theorem laws_toClock.calls (a0_0 : Int) (a0_1 : Int) (a0_2 : Int) (r1 : Int) (r2 : Int) (r3 : Int) (w : World) (h : laws_toClock.f a0_0 a0_1 a0_2 = some (r1, r2, r3)) :
  Calls Try.prog 52 #[.agg #[.int .i64 a0_0, .int .i64 a0_1, .int .i64 a0_2]] w fun e w' => e = .returned (.agg #[.int .i64 r1, .int .i64 r2, .int .i64 r3]) ∧ Below w.heap.size w w' := by
 have hu61 := Try.underlying61
 have hu28 := Try.underlying28
 have HB := Aside0.mk (Below.refl w.heap.size w)
 have H : (some (a0_0, a0_1, a0_2)) = some (r1, r2, r3) := h
 clear h
 simp only [Option.some.injEq, Prod.mk.injEq] at H
 obtain ⟨rfl, rfl, rfl⟩ := H
 go_enter Try.func52, Try.ntmps52
 go_wp2_with (first | ((with_reducible refine gate_dst (N := 1) rfl ?_); refine box_event ?hg (N := 1) ?hd (cs := #[.int .i64 a0_0, .int .i64 a0_1, .int .i64 a0_2]) (t := 61) ?hr ?_; (case hd => rfl); (case hg => rfl); (case hr => first | (go_simp; done) | (go_simp; rfl)); intro gb253 hg w2 hbox hb; have BK253 := Aside0.mk (hbox); have GW253 := Aside0.mk ((by rw [hg]; exact (below_size (bl HB.out)) : w.heap.size ≤ gb253)); have GE253 := GW253; replace HB := Aside0.mk (below_step (bl HB.out) hb); clear hb hbox hg) | ((with_reducible refine gate_dst (N := 2) rfl ?_); refine box_event ?hg (N := 2) ?hd (cs := #[.int .i64 0, .int .i64 0, .int .i64 0]) (t := 28) ?hr ?_; (case hd => rfl); (case hg => rfl); (case hr => first | (go_simp; done) | (go_simp; rfl)); intro gb254 hg w3 hbox hb; have BK254 := Aside0.mk (hbox); have GW254 := Aside0.mk ((by rw [hg]; exact (below_size (by repeat with_reducible first | exact bl HB.out | refine below_set ?_ GE253.out | refine bq ?_)) : w.heap.size ≤ gb254)); have GE254 := GW254; replace HB := Aside0.mk (below_step (by repeat with_reducible first | exact bl HB.out | refine below_set ?_ GE253.out | refine bq ?_) hb); have NB253_254 := nb_ hg BK253.out; have NB254_253 := Aside0.mk NB253_254.out.symm; replace BK253 := Aside0.mk (blk_below (bk BK253.out) hb); clear hb hbox hg) | ((with_reducible refine gate_dst (N := 3) rfl ?_); refine box_event ?hg (N := 3) ?hd (cs := #[.int .i64 0, .int .i64 0, .int .i64 0]) (t := 28) ?hr ?_; (case hd => rfl); (case hg => rfl); (case hr => first | (go_simp; done) | (go_simp; rfl)); intro gb255 hg w4 hbox hb; have BK255 := Aside0.mk (hbox); have GW255 := Aside0.mk ((by rw [hg]; exact (below_size (by repeat with_reducible first | exact bl HB.out | refine below_set ?_ GE253.out | refine below_set ?_ GE254.out | refine bq ?_)) : w.heap.size ≤ gb255)); have GE255 := GW255; replace HB := Aside0.mk (below_step (by repeat with_reducible first | exact bl HB.out | refine below_set ?_ GE253.out | refine below_set ?_ GE254.out | refine bq ?_) hb); have NB253_255 := nb_ hg BK253.out; have NB255_253 := Aside0.mk NB253_255.out.symm; replace BK253 := Aside0.mk (blk_below (bk BK253.out) hb); have NB254_255 := nb_ hg BK254.out; have NB255_254 := Aside0.mk NB254_255.out.symm; replace BK254 := Aside0.mk (blk_below (bk BK254.out) hb); clear hb hbox hg; have hnb5 := NB253_254.out; have hnc5 := NB254_253.out; have hnb6 := NB253_255.out; have hnc6 := NB255_253.out; obtain ⟨hcz7_0, hcz7_1, hcz7_2⟩ := ck3 BK253.out; obtain ⟨hfz7_0, hfz7_1, hfz7_2⟩ := fz3 BK253.out; have hnb8 := NB255_254.out; have hnc8 := NB254_255.out; obtain ⟨hcz9_0, hcz9_1, hcz9_2⟩ := ck3 BK255.out; obtain ⟨hfz9_0, hfz9_1, hfz9_2⟩ := fz3 BK255.out; obtain ⟨hcz10_0, hcz10_1, hcz10_2⟩ := ck3 BK254.out; obtain ⟨hfz10_0, hfz10_1, hfz10_2⟩ := fz3 BK254.out))
 refine bodyPost_ret (results_cell_row rfl _ _ gb254 28 #[.int .i64 a0_0, .int .i64 a0_1, .int .i64 a0_2] (0, 0) _ rfl (by (repeat refine bk1 ?_); refine blk_put (cs := #[.int .i64 a0_0, .int .i64 a0_1, .int .i64 0]) ?_ 2 _ rfl; (repeat refine bk1 ?_); refine blk_put (cs := #[.int .i64 a0_0, .int .i64 0, .int .i64 0]) ?_ 1 _ rfl; (repeat refine bk1 ?_); refine blk_put (cs := #[.int .i64 0, .int .i64 0, .int .i64 0]) ?_ 0 _ rfl; (repeat refine bk1 ?_); refine blk_far ?_ NB254_255.out _; (repeat refine bk1 ?_); refine blk_far ?_ NB254_255.out _; (repeat refine bk1 ?_); refine blk_far ?_ NB254_255.out _; (repeat refine bk1 ?_); exact BK254.out) Try.underlying28 rfl (by kernel_rfl)) rfl ?_
 exact ⟨by first | rfl | (simp [errW_none, errW_some] <;> rfl) | (simp [*, errW_none, errW_some] <;> rfl), by repeat with_reducible first | exact bl HB.out | refine below_set ?_ GE253.out | refine below_set ?_ GE254.out | refine below_set ?_ GE255.out | refine bq ?_⟩

/-! ### laws_toTask: function 97 -/
def laws_toTask.f (a0_0 : ByteArray) (a0_1 : Int) (a0_2 : Int) (a0_3 : Int) (a0_4 : Int) (a0_5 : Int) (a0_6 : Int) : Option (ByteArray × Int × Int × Int × Int × Int × Int) := (laws_toClock.f a0_4 a0_5 a0_6).bind fun bt259 => (some (a0_0, a0_1, a0_2, a0_3, bt259.1, bt259.2.1, bt259.2.2))
set_option maxHeartbeats 8000000 in
set_option maxRecDepth 100000 in
theorem laws_toTask.calls (a0_0 : ByteArray) (a0_1 : Int) (a0_2 : Int) (a0_3 : Int) (a0_4 : Int) (a0_5 : Int) (a0_6 : Int) (r1 : ByteArray) (r2 : Int) (r3 : Int) (r4 : Int) (r5 : Int) (r6 : Int) (r7 : Int) (w : World) (h : laws_toTask.f a0_0 a0_1 a0_2 a0_3 a0_4 a0_5 a0_6 = some (r1, r2, r3, r4, r5, r6, r7)) :
  Calls Try.prog 97 #[.agg #[.string a0_0, .int .i64 a0_1, .int .i64 a0_2, .int .i64 a0_3, .int .i64 a0_4, .int .i64 a0_5, .int .i64 a0_6]] w fun e w' => e = .returned (.agg #[.string r1, .int .i64 r2, .int .i64 r3, .int .i64 r4, .int .i64 r5, .int .i64 r6, .int .i64 r7]) ∧ Below w.heap.size w w' := by
 have hu134 := Try.underlying134
 have hu44 := Try.underlying44
 have hu61 := Try.underlying61
 have hu28 := Try.underlying28
 have HB := Aside0.mk (Below.refl w.heap.size w)
 have H : ((laws_toClock.f a0_4 a0_5 a0_6).bind fun bt259 => (some (a0_0, a0_1, a0_2, a0_3, bt259.1, bt259.2.1, bt259.2.2))) = some (r1, r2, r3, r4, r5, r6, r7) := h
 clear h
 replace H := Option.bind_eq_some_iff.mp H
 obtain ⟨⟨t259, t260, t261⟩, A20, H⟩ := H
 replace H : (some (a0_0, a0_1, a0_2, a0_3, t259, t260, t261)) = some (r1, r2, r3, r4, r5, r6, r7) := H
 have A2 := Aside0.mk A20
 clear A20
 simp only [Option.some.injEq, Prod.mk.injEq] at H
 obtain ⟨rfl, rfl, rfl, rfl, rfl, rfl, rfl⟩ := H
 go_enter Try.func97, Try.ntmps97
 go_wp2_with (first | ((with_reducible refine gate_dst (N := 1) rfl ?_); refine box_event ?hg (N := 1) ?hd (cs := #[.string a0_0, .int .i64 a0_1, .int .i64 a0_2, .int .i64 a0_3, .int .i64 a0_4, .int .i64 a0_5, .int .i64 a0_6]) (t := 134) ?hr ?_; (case hd => rfl); (case hg => rfl); (case hr => first | (go_simp; done) | (go_simp; rfl)); intro gb256 hg w3 hbox hb; have BK256 := Aside0.mk (hbox); have GW256 := Aside0.mk ((by rw [hg]; exact (below_size (bl HB.out)) : w.heap.size ≤ gb256)); have GE256 := GW256; replace HB := Aside0.mk (below_step (bl HB.out) hb); clear hb hbox hg) | ((with_reducible refine gate_dst (N := 2) rfl ?_); refine box_event ?hg (N := 2) ?hd (cs := #[.string (⟨#[]⟩ : ByteArray), .int .i64 0, .int .i64 0, .int .i64 0, .int .i64 0, .int .i64 0, .int .i64 0]) (t := 44) ?hr ?_; (case hd => rfl); (case hg => rfl); (case hr => first | (go_simp; done) | (go_simp; rfl)); intro gb257 hg w4 hbox hb; have BK257 := Aside0.mk (hbox); have GW257 := Aside0.mk ((by rw [hg]; exact (below_size (by repeat with_reducible first | exact bl HB.out | refine below_set ?_ GE256.out | refine bq ?_)) : w.heap.size ≤ gb257)); have GE257 := GW257; replace HB := Aside0.mk (below_step (by repeat with_reducible first | exact bl HB.out | refine below_set ?_ GE256.out | refine bq ?_) hb); have NB256_257 := nb_ hg BK256.out; have NB257_256 := Aside0.mk NB256_257.out.symm; replace BK256 := Aside0.mk (blk_below (bk BK256.out) hb); clear hb hbox hg) | ((with_reducible refine gate_dst (N := 3) rfl ?_); refine box_event ?hg (N := 3) ?hd (cs := #[.string (⟨#[]⟩ : ByteArray), .int .i64 0, .int .i64 0, .int .i64 0, .int .i64 0, .int .i64 0, .int .i64 0]) (t := 44) ?hr ?_; (case hd => rfl); (case hg => rfl); (case hr => first | (go_simp; done) | (go_simp; rfl)); intro gb258 hg w5 hbox hb; have BK258 := Aside0.mk (hbox); have GW258 := Aside0.mk ((by rw [hg]; exact (below_size (by repeat with_reducible first | exact bl HB.out | refine below_set ?_ GE256.out | refine below_set ?_ GE257.out | refine bq ?_)) : w.heap.size ≤ gb258)); have GE258 := GW258; replace HB := Aside0.mk (below_step (by repeat with_reducible first | exact bl HB.out | refine below_set ?_ GE256.out | refine below_set ?_ GE257.out | refine bq ?_) hb); have NB256_258 := nb_ hg BK256.out; have NB258_256 := Aside0.mk NB256_258.out.symm; replace BK256 := Aside0.mk (blk_below (bk BK256.out) hb); have NB257_258 := nb_ hg BK257.out; have NB258_257 := Aside0.mk NB257_258.out.symm; replace BK257 := Aside0.mk (blk_below (g := gb257) (o := .cells #[.string (⟨#[]⟩ : ByteArray), .int .i64 0, .int .i64 0, .int .i64 0, .int .i64 0, .int .i64 0, .int .i64 0] 44 (0, 0)) (bk BK257.out) hb); clear hb hbox hg; have hnb6 := NB256_257.out; have hnc6 := NB257_256.out; have hnb7 := NB256_258.out; have hnc7 := NB258_256.out; obtain ⟨hcz8_0, hcz8_1, hcz8_2, hcz8_3, hcz8_4, hcz8_5, hcz8_6⟩ := ck7 BK256.out; obtain ⟨hfz8_0, hfz8_1, hfz8_2, hfz8_3, hfz8_4, hfz8_5, hfz8_6⟩ := fz7 BK256.out; have hnb9 := NB258_257.out; have hnc9 := NB257_258.out; obtain ⟨hcz10_0, hcz10_1, hcz10_2, hcz10_3, hcz10_4, hcz10_5, hcz10_6⟩ := ck7 BK258.out; obtain ⟨hfz10_0, hfz10_1, hfz10_2, hfz10_3, hfz10_4, hfz10_5, hfz10_6⟩ := fz7 BK258.out) | ((with_reducible refine gate_callee (f := 52) rfl ?_); refine goesL_ (some 18) rfl rfl Try.func52 (by kernel_rfl) rfl #[.agg #[.int .i64 a0_4, .int .i64 a0_5, .int .i64 a0_6]] rfl (by (try simp only [am_]); first | done | rfl) ?_; (with_reducible refine (laws_toClock.calls a0_4 a0_5 a0_6 t259 t260 t261 _ A2.out).mono ?_); rintro e w11 ⟨rfl, hb⟩; refine ⟨_, rfl, ?_⟩; replace BK256 := Aside0.mk (blk_below (g := gb256) (o := .cells #[.string a0_0, .int .i64 a0_1, .int .i64 a0_2, .int .i64 a0_3, .int .i64 a0_4, .int .i64 a0_5, .int .i64 a0_6] 134 (0, 0)) (by (repeat refine bk1 ?_); refine blk_far ?_ NB256_258.out _; (repeat refine bk1 ?_); refine blk_far ?_ NB256_258.out _; (repeat refine bk1 ?_); refine blk_far ?_ NB256_258.out _; (repeat refine bk1 ?_); refine blk_far ?_ NB256_258.out _; (repeat refine bk1 ?_); exact BK256.out) hb); replace BK257 := Aside0.mk (blk_below (g := gb257) (o := .cells #[.string (⟨#[]⟩ : ByteArray), .int .i64 0, .int .i64 0, .int .i64 0, .int .i64 0, .int .i64 0, .int .i64 0] 44 (0, 0)) (by (repeat refine bk1 ?_); refine blk_far ?_ NB257_258.out _; (repeat refine bk1 ?_); refine blk_far ?_ NB257_258.out _; (repeat refine bk1 ?_); refine blk_far ?_ NB257_258.out _; (repeat refine bk1 ?_); refine blk_far ?_ NB257_258.out _; (repeat refine bk1 ?_); exact BK257.out) hb); replace BK258 := Aside0.mk (blk_below (g := gb258) (o := .cells #[.string a0_0, .int .i64 a0_1, .int .i64 a0_2, .int .i64 a0_3, .int .i64 0, .int .i64 0, .int .i64 0] 44 (0, 0)) (by (repeat refine bk1 ?_); refine blk_put (cs := #[.string a0_0, .int .i64 a0_1, .int .i64 a0_2, .int .i64 0, .int .i64 0, .int .i64 0, .int .i64 0]) ?_ 3 _ rfl; (repeat refine bk1 ?_); refine blk_put (cs := #[.string a0_0, .int .i64 a0_1, .int .i64 0, .int .i64 0, .int .i64 0, .int .i64 0, .int .i64 0]) ?_ 2 _ rfl; (repeat refine bk1 ?_); refine blk_put (cs := #[.string a0_0, .int .i64 0, .int .i64 0, .int .i64 0, .int .i64 0, .int .i64 0, .int .i64 0]) ?_ 1 _ rfl; (repeat refine bk1 ?_); refine blk_put (cs := #[.string (⟨#[]⟩ : ByteArray), .int .i64 0, .int .i64 0, .int .i64 0, .int .i64 0, .int .i64 0, .int .i64 0]) ?_ 0 _ rfl; (repeat refine bk1 ?_); exact BK258.out) hb); replace HB := Aside0.mk (below_step (by repeat with_reducible first | exact bl HB.out | refine below_set ?_ GE256.out | refine below_set ?_ GE257.out | refine below_set ?_ GE258.out | refine bq ?_) hb); (try clear hb); (try clear hb2); (try clear hk); (try clear hi); obtain ⟨hcz12_0, hcz12_1, hcz12_2, hcz12_3, hcz12_4, hcz12_5, hcz12_6⟩ := ck7 BK258.out; obtain ⟨hfz12_0, hfz12_1, hfz12_2, hfz12_3, hfz12_4, hfz12_5, hfz12_6⟩ := fz7 BK258.out; obtain ⟨hcz13_0, hcz13_1, hcz13_2, hcz13_3, hcz13_4, hcz13_5, hcz13_6⟩ := ck7 BK257.out; obtain ⟨hfz13_0, hfz13_1, hfz13_2, hfz13_3, hfz13_4, hfz13_5, hfz13_6⟩ := fz7 BK257.out))
 refine bodyPost_ret (results_cell_row rfl _ _ gb257 44 #[.string a0_0, .int .i64 a0_1, .int .i64 a0_2, .int .i64 a0_3, .int .i64 t259, .int .i64 t260, .int .i64 t261] (0, 0) _ rfl (by (repeat refine bk1 ?_); refine blk_put (cs := #[.string a0_0, .int .i64 a0_1, .int .i64 a0_2, .int .i64 a0_3, .int .i64 t259, .int .i64 t260, .int .i64 0]) ?_ 6 _ rfl; (repeat refine bk1 ?_); refine blk_put (cs := #[.string a0_0, .int .i64 a0_1, .int .i64 a0_2, .int .i64 a0_3, .int .i64 t259, .int .i64 0, .int .i64 0]) ?_ 5 _ rfl; (repeat refine bk1 ?_); refine blk_put (cs := #[.string a0_0, .int .i64 a0_1, .int .i64 a0_2, .int .i64 a0_3, .int .i64 0, .int .i64 0, .int .i64 0]) ?_ 4 _ rfl; (repeat refine bk1 ?_); refine blk_put (cs := #[.string a0_0, .int .i64 a0_1, .int .i64 a0_2, .int .i64 0, .int .i64 0, .int .i64 0, .int .i64 0]) ?_ 3 _ rfl; (repeat refine bk1 ?_); refine blk_put (cs := #[.string a0_0, .int .i64 a0_1, .int .i64 0, .int .i64 0, .int .i64 0, .int .i64 0, .int .i64 0]) ?_ 2 _ rfl; (repeat refine bk1 ?_); refine blk_put (cs := #[.string a0_0, .int .i64 0, .int .i64 0, .int .i64 0, .int .i64 0, .int .i64 0, .int .i64 0]) ?_ 1 _ rfl; (repeat refine bk1 ?_); refine blk_put (cs := #[.string (⟨#[]⟩ : ByteArray), .int .i64 0, .int .i64 0, .int .i64 0, .int .i64 0, .int .i64 0, .int .i64 0]) ?_ 0 _ rfl; (repeat refine bk1 ?_); refine blk_far ?_ NB257_258.out _; (repeat refine bk1 ?_); refine blk_far ?_ NB257_258.out _; (repeat refine bk1 ?_); refine blk_far ?_ NB257_258.out _; (repeat refine bk1 ?_); exact BK257.out) Try.underlying44 rfl (by kernel_rfl)) rfl ?_
 exact ⟨by first | rfl | (simp [errW_none, errW_some] <;> rfl) | (simp [*, errW_none, errW_some] <;> rfl), by repeat with_reducible first | exact bl HB.out | refine below_set ?_ GE256.out | refine below_set ?_ GE257.out | refine below_set ?_ GE258.out | refine bq ?_⟩

/-! ### laws_toTaskS: function 49 -/
def laws_toTaskS.l0 : Nat → List (S134) → List (S44) → Int → Option ((List (S44)))
 | 0, _, _, _ => none
 | k + 1, x0, x3, x4 => if x4 < (x0.length : Int) then (if 0 ≤ x4 then ((laws_toTask.f ((rd_T134 x0 x4).f0) ((rd_T134 x0 x4).f1) ((rd_T134 x0 x4).f2) ((rd_T134 x0 x4).f3) ((rd_T134 x0 x4).f4.f0) ((rd_T134 x0 x4).f4.f1) ((rd_T134 x0 x4).f4.f2)).bind fun bt266 => (if x4 < (x3.length : Int) then (laws_toTaskS.l0 k x0 (x3.set (x4 : Int).toNat (⟨bt266.1, bt266.2.1, bt266.2.2.1, bt266.2.2.2.1, (⟨bt266.2.2.2.2.1, bt266.2.2.2.2.2.1, bt266.2.2.2.2.2.2⟩ : S28)⟩ : S44)) (wrap64 (x4 + 1))) else (none))) else (none)) else (some x3)
def laws_toTaskS.f (k : Nat) (l0 : List (S134)) : Option ((List (S44))) := if 0 ≤ (l0.length : Int) then (if ((l0.length : Int) : Int).toNat ≤ 4398046511104 then (laws_toTaskS.l0 k l0 (List.replicate ((l0.length : Int) : Int).toNat z44) 0) else (none)) else (none)
set_option maxHeartbeats 8000000 in
set_option maxRecDepth 100000 in
theorem laws_toTaskS.calls (k : Nat) (A0 : Option Addr) (c0 : Nat) (l0 : List (S134)) (r : List (S44)) (w : World) (hr0 : Kd.C k134 w A0 l0.length l0) (hc0 : l0.length ≤ c0) (h : laws_toTaskS.f k l0 = some r) :
  Calls Try.prog 49 #[.slice A0 l0.length c0] w fun e w' => ∃ v0_ : Value, e = .returned (v0_) ∧ Kd.R k44 44 w' w.heap.size (fun _ => True) v0_ r ∧ Below w.heap.size w w' := by
 have hu134 := Try.underlying134
 have hu44 := Try.underlying44
 have HR0 := Aside0.mk hr0
 have HC0 := Aside0.mk hc0
 clear hr0 hc0
 have HB := Aside0.mk (Below.refl w.heap.size w)
 have H : (if 0 ≤ (l0.length : Int) then (if ((l0.length : Int) : Int).toNat ≤ 4398046511104 then (laws_toTaskS.l0 k l0 (List.replicate ((l0.length : Int) : Int).toNat z44) 0) else (none)) else (none)) = some r := h
 clear h
 by_cases c2 : 0 ≤ (l0.length : Int)
 ·
  rw [if_pos c2] at H
  have c2b0 := eq_true c2
  have c2b1 : decide (0 ≤ (l0.length : Int)) = true := decide_eq_true c2
  clear c2
  by_cases c3 : ((l0.length : Int) : Int).toNat ≤ 4398046511104
  ·
   rw [if_pos c3] at H
   have c3b0 := eq_true c3
   have c3b1 : decide (((l0.length : Int) : Int).toNat ≤ 4398046511104) = true := decide_eq_true c3
   clear c3
   obtain ⟨y262, hy262⟩ : ∃ y_ : List (S44), y_ = (List.replicate ((l0.length : Int) : Int).toNat z44) := ⟨_, rfl⟩
   replace H : (laws_toTaskS.l0 k l0 y262 0) = some r := by first | (rw [hy262]; with_reducible exact H) | (have H2_ := (Option.bind_some _ _).symm.trans H; rw [hy262]; with_reducible exact H2_) | (have H2_ := (Option.bind_some _ _).symm.trans H; with_reducible exact H2_) | with_reducible exact H | (rw [hy262]; exact H) | exact H
   have Ny262 := Aside0.mk hy262
   clear hy262
   have H' := Aside0.mk H
   clear H
   go_enter Try.func49, Try.ntmps49
   go_wp2_with (first | ((with_reducible refine gate_dst (N := 7) rfl ?_); refine Kd.R_make k44 _ 44 rfl (N := 7) rfl 24 _ _ rfl (l0.length : Int) rfl rfl Try.underlying24 (.agg #[(.string ⟨#[]⟩), (.int .i64 0), (.int .i64 0), (.int .i64 0), (.int .i64 0), (.int .i64 0), (.int .i64 0)]) 64 info44 rfl (by decide) (by omega) z44 (ok := fun _ => True) (okp := fun _ => True) (k44_mkM _ _ _ z44 ) (fun _ hk => hk) trivial (of_decide_eq_true (by first | (with_reducible assumption) | assumption)) (Nat.le_trans (Nat.mul_le_mul_right _ (of_decide_eq_true (by first | (with_reducible assumption) | assumption) : (l0.length : Int).toNat ≤ 4398046511104)) (by omega)) (Below.refl _ _) (Nat.le_refl _) ?_; intro v263 w4 ho5 hb hg_ hnew_; clear hg_ hnew_; (first | rw [← Ny262.out] at ho5 | (simp only [Int.reduceToNat] at ho5; rw [← Ny262.out] at ho5)); have HO264 := Aside0.mk (Kd.R_lower ho5 (below_size (bl HB.out))); replace HB := Aside0.mk (below_step (bl HB.out) hb); clear hb ho5))
   go_loopg [4] k (fun kq v4 w' => ∃ (x3_1 : List (S44)) (x4_1 : Int), v4 = .int .i64 x4_1 ∧ Aside0 (laws_toTaskS.l0 kq l0 x3_1 x4_1 = some r) ∧ Aside0 (kq ≤ k) ∧ Aside0 (Kd.R k44 44 w' w.heap.size (fun _ => True) v263 x3_1) ∧ Aside0 (Below w.heap.size w w'))
   case atStart => exact ⟨(y262), (0), (by first | rfl | (simp; done) | (simp [*]; done)), H', ⟨Nat.le_refl _⟩, ⟨rl HO264.out⟩, ⟨bl HB.out⟩⟩
   case round =>
    clear H'
    try clear c2
    try clear c2b0
    try clear c2b1
    try clear p2
    try clear c3
    try clear c3b0
    try clear c3b1
    try clear c4
    obtain ⟨x3_1, x4_1, rfl, HA, HK1, HO_3, HB⟩ := hrel
    cases gk with
    | zero => exact absurd HA.out (by simp [laws_toTaskS.l0])
    | succ k1 =>
     have H := HA.out
     clear HA
     simp only [laws_toTaskS.l0] at H
     by_cases c6 : x4_1 < (l0.length : Int)
     ·
      rw [if_pos c6] at H
      have c6b0 : decide (x4_1 < (l0.length : Int)) = true := decide_eq_true c6
      clear c6
      by_cases c7 : 0 ≤ x4_1
      ·
       rw [if_pos c7] at H
       have c7b0 : decide (0 ≤ x4_1) = true := decide_eq_true c7
       clear c7
       replace H := Option.bind_eq_some_iff.mp H
       obtain ⟨⟨t266, t267, t268, t269, t270, t271, t272⟩, A80, H⟩ := H
       replace H : (if x4_1 < (x3_1.length : Int) then (laws_toTaskS.l0 k1 l0 (x3_1.set (x4_1 : Int).toNat (⟨t266, t267, t268, t269, (⟨t270, t271, t272⟩ : S28)⟩ : S44)) (wrap64 (x4_1 + 1))) else (none)) = some r := H
       have A8 := Aside0.mk A80
       clear A80
       by_cases c9 : x4_1 < (x3_1.length : Int)
       ·
        rw [if_pos c9] at H
        have c9b0 : decide (x4_1 < (x3_1.length : Int)) = true := decide_eq_true c9
        clear c9
        obtain ⟨y273, hy273⟩ : ∃ y_ : List (S44), y_ = (x3_1.set (x4_1 : Int).toNat (⟨t266, t267, t268, t269, (⟨t270, t271, t272⟩ : S28)⟩ : S44)) := ⟨_, rfl⟩
        replace H : (laws_toTaskS.l0 k1 l0 y273 (wrap64 (x4_1 + 1))) = some r := by first | (rw [hy273]; with_reducible exact H) | (have H2_ := (Option.bind_some _ _).symm.trans H; rw [hy273]; with_reducible exact H2_) | (have H2_ := (Option.bind_some _ _).symm.trans H; with_reducible exact H2_) | with_reducible exact H | (rw [hy273]; exact H) | exact H
        have Ny273 := Aside0.mk hy273
        clear hy273
        have H' := Aside0.mk H
        clear H
        have p265 : 0 ≤ (x4_1 : Int) := of_decide_eq_true (by first | (with_reducible assumption) | assumption)
        have q265 : x4_1 < (l0.length : Int) := of_decide_eq_true (by first | (with_reducible assumption) | assumption)
        obtain ⟨ad265, e265, hx265_0, hx265_1, hx265_2, hx265_3, hx265_4, hx265_5, hx265_6⟩ := at_T134 HR0.out x4_1 p265 q265
        cases e265
        replace hx265_0 := bc HB.out hx265_0
        replace hx265_1 := bc HB.out hx265_1
        replace hx265_2 := bc HB.out hx265_2
        replace hx265_3 := bc HB.out hx265_3
        replace hx265_4 := bc HB.out hx265_4
        replace hx265_5 := bc HB.out hx265_5
        replace hx265_6 := bc HB.out hx265_6
        replace p265 := eq_true p265
        replace q265 := eq_true q265
        go_wp2_with (first | ((with_reducible refine gate_callee (f := 97) rfl ?_); refine goesL_ (some 20) rfl rfl Try.func97 (by kernel_rfl) rfl #[.agg #[.string ((rd_T134 l0 x4_1).f0), .int .i64 ((rd_T134 l0 x4_1).f1), .int .i64 ((rd_T134 l0 x4_1).f2), .int .i64 ((rd_T134 l0 x4_1).f3), .int .i64 ((rd_T134 l0 x4_1).f4.f0), .int .i64 ((rd_T134 l0 x4_1).f4.f1), .int .i64 ((rd_T134 l0 x4_1).f4.f2)]] rfl (by (try simp only [am_]); first | done | rfl) ?_; (with_reducible refine (laws_toTask.calls ((rd_T134 l0 x4_1).f0) ((rd_T134 l0 x4_1).f1) ((rd_T134 l0 x4_1).f2) ((rd_T134 l0 x4_1).f3) ((rd_T134 l0 x4_1).f4.f0) ((rd_T134 l0 x4_1).f4.f1) ((rd_T134 l0 x4_1).f4.f2) t266 t267 t268 t269 t270 t271 t272 _ A8.out).mono ?_); rintro e w11 ⟨rfl, hb⟩; refine ⟨_, rfl, ?_⟩; replace HO_3 := Aside0.mk (Kd.R_below (rl HO_3.out) hb); replace HB := Aside0.mk (below_step (bl HB.out) hb); (try clear hb); (try clear hb2); (try clear hk); (try clear hi); have p10 : 0 ≤ (x4_1 : Int) := of_decide_eq_true (by first | (with_reducible assumption) | assumption); have q10 : (x4_1 : Int) < ((x3_1.length : Int) : Int) := of_decide_eq_true (by first | (with_reducible assumption) | assumption); obtain ⟨go10, co10, eo10, gb10, gl10, cl10, HG10⟩ := Kd.R_form HO_3.out (by omega); (first | cases eo10 | (injection eo10 with ea_ en_ ec_; (first | subst ea_ | (injection ea_ with ea_; subst ea_)); subst ec_; clear en_)); have GB10 := Aside0.mk gb10; have GG10 := Aside0.mk HG10; clear gb10 gl10 HG10; obtain ⟨ce10, hcl10, hM10, hcc10, hfr10⟩ := Kd.R_elem HO_3.out z44 (x4_1 : Int) p10 q10; obtain rfl := k44_openM hM10; have hx10_0 : w11.cell? ⟨go10, (x4_1 : Int).toNat * 7, none⟩ = some (.string ((rd_T44 x3_1 x4_1).f0)) := hcc10 0 _ rfl; have hx10_1 : w11.cell? ⟨go10, (x4_1 : Int).toNat * 7 + 1, none⟩ = some (.int .i64 ((rd_T44 x3_1 x4_1).f1)) := hcc10 1 _ rfl; have hx10_2 : w11.cell? ⟨go10, (x4_1 : Int).toNat * 7 + 2, none⟩ = some (.int .i64 ((rd_T44 x3_1 x4_1).f2)) := hcc10 2 _ rfl; have hx10_3 : w11.cell? ⟨go10, (x4_1 : Int).toNat * 7 + 3, none⟩ = some (.int .i64 ((rd_T44 x3_1 x4_1).f3)) := hcc10 3 _ rfl; have hx10_4 : w11.cell? ⟨go10, (x4_1 : Int).toNat * 7 + 4, none⟩ = some (.int .i64 ((rd_T44 x3_1 x4_1).f4.f0)) := hcc10 4 _ rfl; have hx10_5 : w11.cell? ⟨go10, (x4_1 : Int).toNat * 7 + 5, none⟩ = some (.int .i64 ((rd_T44 x3_1 x4_1).f4.f1)) := hcc10 5 _ rfl; have hx10_6 : w11.cell? ⟨go10, (x4_1 : Int).toNat * 7 + 6, none⟩ = some (.int .i64 ((rd_T44 x3_1 x4_1).f4.f2)) := hcc10 6 _ rfl; have hf10_0 : w11.frozen? ⟨go10, (x4_1 : Int).toNat * 7, none⟩ = false := hfr10 0; have hf10_1 : w11.frozen? ⟨go10, (x4_1 : Int).toNat * 7 + 1, none⟩ = false := hfr10 1; have hf10_2 : w11.frozen? ⟨go10, (x4_1 : Int).toNat * 7 + 2, none⟩ = false := hfr10 2; have hf10_3 : w11.frozen? ⟨go10, (x4_1 : Int).toNat * 7 + 3, none⟩ = false := hfr10 3; have hf10_4 : w11.frozen? ⟨go10, (x4_1 : Int).toNat * 7 + 4, none⟩ = false := hfr10 4; have hf10_5 : w11.frozen? ⟨go10, (x4_1 : Int).toNat * 7 + 5, none⟩ = false := hfr10 5; have hf10_6 : w11.frozen? ⟨go10, (x4_1 : Int).toNat * 7 + 6, none⟩ = false := hfr10 6; clear hcl10 hcc10 hfr10; (try clear hM10); replace p10 := eq_true p10; replace q10 := eq_true q10; have HX12 := Aside0.mk (show Kd.R k44 44 w11 w.heap.size (fun _ => True) (.slice (some ⟨go10, 0, none⟩) x3_1.length co10) x3_1 from (rl HO_3.out)); obtain ⟨ce12, hcl12, hM12, hcc12, hfr12⟩ := Kd.R_elem HX12.out z44 (x4_1 : Int) (of_decide_eq_true (by first | (with_reducible assumption) | assumption)) (by have h_ : (x4_1 : Int) < ((x3_1.length : Int) : Int) := of_decide_eq_true (by first | (with_reducible assumption) | assumption); first | exact h_ | (have e_ := (Kd.R_reads' HO_3.out).1; omega) | simpa using h_); obtain rfl := k44_openM hM12; have HP12 := Kd.R_seg HX12.out (x4_1 : Int) (of_decide_eq_true (by first | (with_reducible assumption) | assumption)) (by have h_ : (x4_1 : Int) < ((x3_1.length : Int) : Int) := of_decide_eq_true (by first | (with_reducible assumption) | assumption); first | exact h_ | (have e_ := (Kd.R_reads' HO_3.out).1; omega) | simpa using h_) (seg := [.string t266, .int .i64 t267, .int .i64 t268, .int .i64 t269, .int .i64 t270, .int .i64 t271, .int .i64 t272]) (j := 0) hcl12 hcc12 (show 7 ≤ 7 from by decide) (x' := (⟨t266, t267, t268, t269, (⟨t270, t271, t272⟩ : S28)⟩ : S44)) (k44_mkM _ _ _ (⟨t266, t267, t268, t269, (⟨t270, t271, t272⟩ : S28)⟩ : S44) ) (fun _ hk => hk); have hx12_0 := hcc12 0 _ rfl; (try simp only [show (k44).sz = 7 from rfl, Nat.mul_one, Nat.add_zero] at hx12_0); have hf12_0 := hfr12 0; (try simp only [show (k44).sz = 7 from rfl, Nat.mul_one, Nat.add_zero] at hf12_0); have hx12_1 := hcc12 1 _ rfl; (try simp only [show (k44).sz = 7 from rfl, Nat.mul_one, Nat.add_zero] at hx12_1); have hf12_1 := hfr12 1; (try simp only [show (k44).sz = 7 from rfl, Nat.mul_one, Nat.add_zero] at hf12_1); have hx12_2 := hcc12 2 _ rfl; (try simp only [show (k44).sz = 7 from rfl, Nat.mul_one, Nat.add_zero] at hx12_2); have hf12_2 := hfr12 2; (try simp only [show (k44).sz = 7 from rfl, Nat.mul_one, Nat.add_zero] at hf12_2); have hx12_3 := hcc12 3 _ rfl; (try simp only [show (k44).sz = 7 from rfl, Nat.mul_one, Nat.add_zero] at hx12_3); have hf12_3 := hfr12 3; (try simp only [show (k44).sz = 7 from rfl, Nat.mul_one, Nat.add_zero] at hf12_3); have hx12_4 := hcc12 4 _ rfl; (try simp only [show (k44).sz = 7 from rfl, Nat.mul_one, Nat.add_zero] at hx12_4); have hf12_4 := hfr12 4; (try simp only [show (k44).sz = 7 from rfl, Nat.mul_one, Nat.add_zero] at hf12_4); have hx12_5 := hcc12 5 _ rfl; (try simp only [show (k44).sz = 7 from rfl, Nat.mul_one, Nat.add_zero] at hx12_5); have hf12_5 := hfr12 5; (try simp only [show (k44).sz = 7 from rfl, Nat.mul_one, Nat.add_zero] at hf12_5); have hx12_6 := hcc12 6 _ rfl; (try simp only [show (k44).sz = 7 from rfl, Nat.mul_one, Nat.add_zero] at hx12_6); have hf12_6 := hfr12 6; (try simp only [show (k44).sz = 7 from rfl, Nat.mul_one, Nat.add_zero] at hf12_6); clear hcl12 hcc12 hfr12; (try clear hM12)) | ((with_reducible refine gate_store (t := 44) (p := 21) rfl ?_); refine store_event (t := 44) (p := 21) (v := ?vo_w13) (w1 := (((((((w11.setCell ⟨go10, (x4_1 : Int).toNat * 7, none⟩ (.string t266)).setCell ⟨go10, (x4_1 : Int).toNat * 7 + 1, none⟩ (.int .i64 t267)).setCell ⟨go10, (x4_1 : Int).toNat * 7 + 2, none⟩ (.int .i64 t268)).setCell ⟨go10, (x4_1 : Int).toNat * 7 + 3, none⟩ (.int .i64 t269)).setCell ⟨go10, (x4_1 : Int).toNat * 7 + 4, none⟩ (.int .i64 t270)).setCell ⟨go10, (x4_1 : Int).toNat * 7 + 5, none⟩ (.int .i64 t271)).setCell ⟨go10, (x4_1 : Int).toNat * 7 + 6, none⟩ (.int .i64 t272))) ?hg ?ho ?hn ?hr ?_; (case ho => rfl); (case hg => rfl); (case hn => rfl); (case hr => first | (go_simp; done) | (go_simp; rfl)); intro w13 hw; have hg : w11.grownBy w13 (some go10) := (by rw [hw]; exact HP12.2); have hp_ : Kd.R k44 44 w13 w.heap.size (fun _ => True) (.slice (some ⟨go10, 0, none⟩) x3_1.length co10) y273 := (by rw [hw, Ny273.out]; exact HP12.1); clear HP12; replace HO_3 := Aside0.mk (hp_); replace HB := Aside0.mk ((by rw [hw]; exact below_set (below_set (below_set (below_set (below_set (below_set (below_set (HB.out) GB10.out) GB10.out) GB10.out) GB10.out) GB10.out) GB10.out) GB10.out : Below w.heap.size w w13)); clear hg hw hp_))
        go_roundg k1
        case measure => have := HK1.out; omega
        case rel => exact ⟨(y273), (wrap64 (x4_1 + 1)), (by first | rfl | (simp; done) | (simp [*]; done)), H', ⟨by have := HK1.out; omega⟩, ⟨rl HO_3.out⟩, ⟨bl HB.out⟩⟩
       ·
        rw [if_neg c9] at H
        exact absurd H (by simp)
      ·
       rw [if_neg c7] at H
       exact absurd H (by simp)
     ·
      rw [if_neg c6] at H
      have c6b0 : decide (x4_1 < (l0.length : Int)) = false := decide_eq_false c6
      clear c6
      obtain rfl := Option.some.inj H
      go_wp2
      go_ret
      exact ⟨_, by first | rfl | (simp [errW_none, errW_some] <;> rfl) | (simp [*, errW_none, errW_some] <;> rfl), by (repeat apply rl1); exact HO_3.out, bl HB.out⟩
  ·
   rw [if_neg c3] at H
   exact absurd H (by simp)
 ·
  rw [if_neg c2] at H
  exact absurd H (by simp)

/-! ### laws_toCarry: function 98 -/
def laws_toCarry.f (a0_0 : ByteArray) (a0_1 : Int) (a0_2 : Int) : Option (ByteArray × Int × Int) := some (a0_0, a0_1, a0_2)
set_option maxHeartbeats 8000000 in
set_option maxRecDepth 100000 in
theorem laws_toCarry.calls (a0_0 : ByteArray) (a0_1 : Int) (a0_2 : Int) (r1 : ByteArray) (r2 : Int) (r3 : Int) (w : World) (h : laws_toCarry.f a0_0 a0_1 a0_2 = some (r1, r2, r3)) :
  Calls Try.prog 98 #[.agg #[.string a0_0, .int .i64 a0_1, .int .i64 a0_2]] w fun e w' => e = .returned (.agg #[.string r1, .int .i64 r2, .int .i64 r3]) ∧ Below w.heap.size w w' := by
 have hu136 := Try.underlying136
 have hu84 := Try.underlying84
 have HB := Aside0.mk (Below.refl w.heap.size w)
 have H : (some (a0_0, a0_1, a0_2)) = some (r1, r2, r3) := h
 clear h
 simp only [Option.some.injEq, Prod.mk.injEq] at H
 obtain ⟨rfl, rfl, rfl⟩ := H
 go_enter Try.func98, Try.ntmps98
 go_wp2_with (first | ((with_reducible refine gate_dst (N := 1) rfl ?_); refine box_event ?hg (N := 1) ?hd (cs := #[.string a0_0, .int .i64 a0_1, .int .i64 a0_2]) (t := 136) ?hr ?_; (case hd => rfl); (case hg => rfl); (case hr => first | (go_simp; done) | (go_simp; rfl)); intro gb274 hg w2 hbox hb; have BK274 := Aside0.mk (hbox); have GW274 := Aside0.mk ((by rw [hg]; exact (below_size (bl HB.out)) : w.heap.size ≤ gb274)); have GE274 := GW274; replace HB := Aside0.mk (below_step (bl HB.out) hb); clear hb hbox hg) | ((with_reducible refine gate_dst (N := 2) rfl ?_); refine box_event ?hg (N := 2) ?hd (cs := #[.string (⟨#[]⟩ : ByteArray), .int .i64 0, .int .i64 0]) (t := 84) ?hr ?_; (case hd => rfl); (case hg => rfl); (case hr => first | (go_simp; done) | (go_simp; rfl)); intro gb275 hg w3 hbox hb; have BK275 := Aside0.mk (hbox); have GW275 := Aside0.mk ((by rw [hg]; exact (below_size (by repeat with_reducible first | exact bl HB.out | refine below_set ?_ GE274.out | refine bq ?_)) : w.heap.size ≤ gb275)); have GE275 := GW275; replace HB := Aside0.mk (below_step (by repeat with_reducible first | exact bl HB.out | refine below_set ?_ GE274.out | refine bq ?_) hb); have NB274_275 := nb_ hg BK274.out; have NB275_274 := Aside0.mk NB274_275.out.symm; replace BK274 := Aside0.mk (blk_below (bk BK274.out) hb); clear hb hbox hg) | ((with_reducible refine gate_dst (N := 3) rfl ?_); refine box_event ?hg (N := 3) ?hd (cs := #[.string (⟨#[]⟩ : ByteArray), .int .i64 0, .int .i64 0]) (t := 84) ?hr ?_; (case hd => rfl); (case hg => rfl); (case hr => first | (go_simp; done) | (go_simp; rfl)); intro gb276 hg w4 hbox hb; have BK276 := Aside0.mk (hbox); have GW276 := Aside0.mk ((by rw [hg]; exact (below_size (by repeat with_reducible first | exact bl HB.out | refine below_set ?_ GE274.out | refine below_set ?_ GE275.out | refine bq ?_)) : w.heap.size ≤ gb276)); have GE276 := GW276; replace HB := Aside0.mk (below_step (by repeat with_reducible first | exact bl HB.out | refine below_set ?_ GE274.out | refine below_set ?_ GE275.out | refine bq ?_) hb); have NB274_276 := nb_ hg BK274.out; have NB276_274 := Aside0.mk NB274_276.out.symm; replace BK274 := Aside0.mk (blk_below (bk BK274.out) hb); have NB275_276 := nb_ hg BK275.out; have NB276_275 := Aside0.mk NB275_276.out.symm; replace BK275 := Aside0.mk (blk_below (g := gb275) (o := .cells #[.string (⟨#[]⟩ : ByteArray), .int .i64 0, .int .i64 0] 84 (0, 0)) (bk BK275.out) hb); clear hb hbox hg; have hnb5 := NB274_275.out; have hnc5 := NB275_274.out; have hnb6 := NB274_276.out; have hnc6 := NB276_274.out; obtain ⟨hcz7_0, hcz7_1, hcz7_2⟩ := ck3 BK274.out; obtain ⟨hfz7_0, hfz7_1, hfz7_2⟩ := fz3 BK274.out; have hnb8 := NB276_275.out; have hnc8 := NB275_276.out; obtain ⟨hcz9_0, hcz9_1, hcz9_2⟩ := ck3 BK276.out; obtain ⟨hfz9_0, hfz9_1, hfz9_2⟩ := fz3 BK276.out; obtain ⟨hcz10_0, hcz10_1, hcz10_2⟩ := ck3 BK275.out; obtain ⟨hfz10_0, hfz10_1, hfz10_2⟩ := fz3 BK275.out))
 refine bodyPost_ret (results_cell_row rfl _ _ gb275 84 #[.string a0_0, .int .i64 a0_1, .int .i64 a0_2] (0, 0) _ rfl (by (repeat refine bk1 ?_); refine blk_put (cs := #[.string a0_0, .int .i64 a0_1, .int .i64 0]) ?_ 2 _ rfl; (repeat refine bk1 ?_); refine blk_put (cs := #[.string a0_0, .int .i64 0, .int .i64 0]) ?_ 1 _ rfl; (repeat refine bk1 ?_); refine blk_put (cs := #[.string (⟨#[]⟩ : ByteArray), .int .i64 0, .int .i64 0]) ?_ 0 _ rfl; (repeat refine bk1 ?_); refine blk_far ?_ NB275_276.out _; (repeat refine bk1 ?_); refine blk_far ?_ NB275_276.out _; (repeat refine bk1 ?_); refine blk_far ?_ NB275_276.out _; (repeat refine bk1 ?_); exact BK275.out) Try.underlying84 rfl (by kernel_rfl)) rfl ?_
 exact ⟨by first | rfl | (simp [errW_none, errW_some] <;> rfl) | (simp [*, errW_none, errW_some] <;> rfl), by repeat with_reducible first | exact bl HB.out | refine below_set ?_ GE274.out | refine below_set ?_ GE275.out | refine below_set ?_ GE276.out | refine bq ?_⟩

/-! ### laws_toCarryS: function 50 -/
def laws_toCarryS.l0 : Nat → List (S136) → List (S84) → Int → Option ((List (S84)))
 | 0, _, _, _ => none
 | k + 1, x0, x3, x4 => if x4 < (x0.length : Int) then (if 0 ≤ x4 then ((laws_toCarry.f ((rd_T136 x0 x4).f0) ((rd_T136 x0 x4).f1) ((rd_T136 x0 x4).f2)).bind fun bt281 => (if x4 < (x3.length : Int) then (laws_toCarryS.l0 k x0 (x3.set (x4 : Int).toNat (⟨bt281.1, bt281.2.1, bt281.2.2⟩ : S84)) (wrap64 (x4 + 1))) else (none))) else (none)) else (some x3)
def laws_toCarryS.f (k : Nat) (l0 : List (S136)) : Option ((List (S84))) := if 0 ≤ (l0.length : Int) then (if ((l0.length : Int) : Int).toNat ≤ 8796093022208 then (laws_toCarryS.l0 k l0 (List.replicate ((l0.length : Int) : Int).toNat z84) 0) else (none)) else (none)
set_option maxHeartbeats 8000000 in
set_option maxRecDepth 100000 in
theorem laws_toCarryS.calls (k : Nat) (A0 : Option Addr) (c0 : Nat) (l0 : List (S136)) (r : List (S84)) (w : World) (hr0 : Kd.C k136 w A0 l0.length l0) (hc0 : l0.length ≤ c0) (h : laws_toCarryS.f k l0 = some r) :
  Calls Try.prog 50 #[.slice A0 l0.length c0] w fun e w' => ∃ v0_ : Value, e = .returned (v0_) ∧ Kd.R k84 84 w' w.heap.size (fun _ => True) v0_ r ∧ Below w.heap.size w w' := by
 have hu136 := Try.underlying136
 have hu84 := Try.underlying84
 have HR0 := Aside0.mk hr0
 have HC0 := Aside0.mk hc0
 clear hr0 hc0
 have HB := Aside0.mk (Below.refl w.heap.size w)
 have H : (if 0 ≤ (l0.length : Int) then (if ((l0.length : Int) : Int).toNat ≤ 8796093022208 then (laws_toCarryS.l0 k l0 (List.replicate ((l0.length : Int) : Int).toNat z84) 0) else (none)) else (none)) = some r := h
 clear h
 by_cases c2 : 0 ≤ (l0.length : Int)
 ·
  rw [if_pos c2] at H
  have c2b0 := eq_true c2
  have c2b1 : decide (0 ≤ (l0.length : Int)) = true := decide_eq_true c2
  clear c2
  by_cases c3 : ((l0.length : Int) : Int).toNat ≤ 8796093022208
  ·
   rw [if_pos c3] at H
   have c3b0 := eq_true c3
   have c3b1 : decide (((l0.length : Int) : Int).toNat ≤ 8796093022208) = true := decide_eq_true c3
   clear c3
   obtain ⟨y277, hy277⟩ : ∃ y_ : List (S84), y_ = (List.replicate ((l0.length : Int) : Int).toNat z84) := ⟨_, rfl⟩
   replace H : (laws_toCarryS.l0 k l0 y277 0) = some r := by first | (rw [hy277]; with_reducible exact H) | (have H2_ := (Option.bind_some _ _).symm.trans H; rw [hy277]; with_reducible exact H2_) | (have H2_ := (Option.bind_some _ _).symm.trans H; with_reducible exact H2_) | with_reducible exact H | (rw [hy277]; exact H) | exact H
   have Ny277 := Aside0.mk hy277
   clear hy277
   have H' := Aside0.mk H
   clear H
   go_enter Try.func50, Try.ntmps50
   go_wp2_with (first | ((with_reducible refine gate_dst (N := 7) rfl ?_); refine Kd.R_make k84 _ 84 rfl (N := 7) rfl 25 _ _ rfl (l0.length : Int) rfl rfl Try.underlying25 (.agg #[(.string ⟨#[]⟩), (.int .i64 0), (.int .i64 0)]) 32 info84 rfl (by decide) (by omega) z84 (ok := fun _ => True) (okp := fun _ => True) (k84_mkM _ _ _ z84 ) (fun _ hk => hk) trivial (of_decide_eq_true (by first | (with_reducible assumption) | assumption)) (Nat.le_trans (Nat.mul_le_mul_right _ (of_decide_eq_true (by first | (with_reducible assumption) | assumption) : (l0.length : Int).toNat ≤ 8796093022208)) (by omega)) (Below.refl _ _) (Nat.le_refl _) ?_; intro v278 w4 ho5 hb hg_ hnew_; clear hg_ hnew_; (first | rw [← Ny277.out] at ho5 | (simp only [Int.reduceToNat] at ho5; rw [← Ny277.out] at ho5)); have HO279 := Aside0.mk (Kd.R_lower ho5 (below_size (bl HB.out))); replace HB := Aside0.mk (below_step (bl HB.out) hb); clear hb ho5))
   go_loopg [4] k (fun kq v4 w' => ∃ (x3_1 : List (S84)) (x4_1 : Int), v4 = .int .i64 x4_1 ∧ Aside0 (laws_toCarryS.l0 kq l0 x3_1 x4_1 = some r) ∧ Aside0 (kq ≤ k) ∧ Aside0 (Kd.R k84 84 w' w.heap.size (fun _ => True) v278 x3_1) ∧ Aside0 (Below w.heap.size w w'))
   case atStart => exact ⟨(y277), (0), (by first | rfl | (simp; done) | (simp [*]; done)), H', ⟨Nat.le_refl _⟩, ⟨rl HO279.out⟩, ⟨bl HB.out⟩⟩
   case round =>
    clear H'
    try clear c2
    try clear c2b0
    try clear c2b1
    try clear p2
    try clear c3
    try clear c3b0
    try clear c3b1
    try clear c5
    obtain ⟨x3_1, x4_1, rfl, HA, HK1, HO_3, HB⟩ := hrel
    cases gk with
    | zero => exact absurd HA.out (by simp [laws_toCarryS.l0])
    | succ k1 =>
     have H := HA.out
     clear HA
     simp only [laws_toCarryS.l0] at H
     by_cases c6 : x4_1 < (l0.length : Int)
     ·
      rw [if_pos c6] at H
      have c6b0 : decide (x4_1 < (l0.length : Int)) = true := decide_eq_true c6
      clear c6
      by_cases c7 : 0 ≤ x4_1
      ·
       rw [if_pos c7] at H
       have c7b0 : decide (0 ≤ x4_1) = true := decide_eq_true c7
       clear c7
       replace H := Option.bind_eq_some_iff.mp H
       obtain ⟨⟨t281, t282, t283⟩, A80, H⟩ := H
       replace H : (if x4_1 < (x3_1.length : Int) then (laws_toCarryS.l0 k1 l0 (x3_1.set (x4_1 : Int).toNat (⟨t281, t282, t283⟩ : S84)) (wrap64 (x4_1 + 1))) else (none)) = some r := H
       have A8 := Aside0.mk A80
       clear A80
       by_cases c9 : x4_1 < (x3_1.length : Int)
       ·
        rw [if_pos c9] at H
        have c9b0 : decide (x4_1 < (x3_1.length : Int)) = true := decide_eq_true c9
        clear c9
        obtain ⟨y284, hy284⟩ : ∃ y_ : List (S84), y_ = (x3_1.set (x4_1 : Int).toNat (⟨t281, t282, t283⟩ : S84)) := ⟨_, rfl⟩
        replace H : (laws_toCarryS.l0 k1 l0 y284 (wrap64 (x4_1 + 1))) = some r := by first | (rw [hy284]; with_reducible exact H) | (have H2_ := (Option.bind_some _ _).symm.trans H; rw [hy284]; with_reducible exact H2_) | (have H2_ := (Option.bind_some _ _).symm.trans H; with_reducible exact H2_) | with_reducible exact H | (rw [hy284]; exact H) | exact H
        have Ny284 := Aside0.mk hy284
        clear hy284
        have H' := Aside0.mk H
        clear H
        have p280 : 0 ≤ (x4_1 : Int) := of_decide_eq_true (by first | (with_reducible assumption) | assumption)
        have q280 : x4_1 < (l0.length : Int) := of_decide_eq_true (by first | (with_reducible assumption) | assumption)
        obtain ⟨ad280, e280, hx280_0, hx280_1, hx280_2⟩ := at_T136 HR0.out x4_1 p280 q280
        cases e280
        replace hx280_0 := bc HB.out hx280_0
        replace hx280_1 := bc HB.out hx280_1
        replace hx280_2 := bc HB.out hx280_2
        replace p280 := eq_true p280
        replace q280 := eq_true q280
        go_wp2_with (first | ((with_reducible refine gate_callee (f := 98) rfl ?_); refine goesL_ (some 20) rfl rfl Try.func98 (by kernel_rfl) rfl #[.agg #[.string ((rd_T136 l0 x4_1).f0), .int .i64 ((rd_T136 l0 x4_1).f1), .int .i64 ((rd_T136 l0 x4_1).f2)]] rfl (by (try simp only [am_]); first | done | rfl) ?_; (with_reducible refine (laws_toCarry.calls ((rd_T136 l0 x4_1).f0) ((rd_T136 l0 x4_1).f1) ((rd_T136 l0 x4_1).f2) t281 t282 t283 _ A8.out).mono ?_); rintro e w11 ⟨rfl, hb⟩; refine ⟨_, rfl, ?_⟩; replace HO_3 := Aside0.mk (Kd.R_below (rl HO_3.out) hb); replace HB := Aside0.mk (below_step (bl HB.out) hb); (try clear hb); (try clear hb2); (try clear hk); (try clear hi); have p10 : 0 ≤ (x4_1 : Int) := of_decide_eq_true (by first | (with_reducible assumption) | assumption); have q10 : (x4_1 : Int) < ((x3_1.length : Int) : Int) := of_decide_eq_true (by first | (with_reducible assumption) | assumption); obtain ⟨go10, co10, eo10, gb10, gl10, cl10, HG10⟩ := Kd.R_form HO_3.out (by omega); (first | cases eo10 | (injection eo10 with ea_ en_ ec_; (first | subst ea_ | (injection ea_ with ea_; subst ea_)); subst ec_; clear en_)); have GB10 := Aside0.mk gb10; have GG10 := Aside0.mk HG10; clear gb10 gl10 HG10; obtain ⟨ce10, hcl10, hM10, hcc10, hfr10⟩ := Kd.R_elem HO_3.out z84 (x4_1 : Int) p10 q10; obtain rfl := k84_openM hM10; have hx10_0 : w11.cell? ⟨go10, (x4_1 : Int).toNat * 3, none⟩ = some (.string ((rd_T84 x3_1 x4_1).f0)) := hcc10 0 _ rfl; have hx10_1 : w11.cell? ⟨go10, (x4_1 : Int).toNat * 3 + 1, none⟩ = some (.int .i64 ((rd_T84 x3_1 x4_1).f1)) := hcc10 1 _ rfl; have hx10_2 : w11.cell? ⟨go10, (x4_1 : Int).toNat * 3 + 2, none⟩ = some (.int .i64 ((rd_T84 x3_1 x4_1).f2)) := hcc10 2 _ rfl; have hf10_0 : w11.frozen? ⟨go10, (x4_1 : Int).toNat * 3, none⟩ = false := hfr10 0; have hf10_1 : w11.frozen? ⟨go10, (x4_1 : Int).toNat * 3 + 1, none⟩ = false := hfr10 1; have hf10_2 : w11.frozen? ⟨go10, (x4_1 : Int).toNat * 3 + 2, none⟩ = false := hfr10 2; clear hcl10 hcc10 hfr10; (try clear hM10); replace p10 := eq_true p10; replace q10 := eq_true q10; have HX12 := Aside0.mk (show Kd.R k84 84 w11 w.heap.size (fun _ => True) (.slice (some ⟨go10, 0, none⟩) x3_1.length co10) x3_1 from (rl HO_3.out)); obtain ⟨ce12, hcl12, hM12, hcc12, hfr12⟩ := Kd.R_elem HX12.out z84 (x4_1 : Int) (of_decide_eq_true (by first | (with_reducible assumption) | assumption)) (by have h_ : (x4_1 : Int) < ((x3_1.length : Int) : Int) := of_decide_eq_true (by first | (with_reducible assumption) | assumption); first | exact h_ | (have e_ := (Kd.R_reads' HO_3.out).1; omega) | simpa using h_); obtain rfl := k84_openM hM12; have HP12 := Kd.R_seg HX12.out (x4_1 : Int) (of_decide_eq_true (by first | (with_reducible assumption) | assumption)) (by have h_ : (x4_1 : Int) < ((x3_1.length : Int) : Int) := of_decide_eq_true (by first | (with_reducible assumption) | assumption); first | exact h_ | (have e_ := (Kd.R_reads' HO_3.out).1; omega) | simpa using h_) (seg := [.string t281, .int .i64 t282, .int .i64 t283]) (j := 0) hcl12 hcc12 (show 3 ≤ 3 from by decide) (x' := (⟨t281, t282, t283⟩ : S84)) (k84_mkM _ _ _ (⟨t281, t282, t283⟩ : S84) ) (fun _ hk => hk); have hx12_0 := hcc12 0 _ rfl; (try simp only [show (k84).sz = 3 from rfl, Nat.mul_one, Nat.add_zero] at hx12_0); have hf12_0 := hfr12 0; (try simp only [show (k84).sz = 3 from rfl, Nat.mul_one, Nat.add_zero] at hf12_0); have hx12_1 := hcc12 1 _ rfl; (try simp only [show (k84).sz = 3 from rfl, Nat.mul_one, Nat.add_zero] at hx12_1); have hf12_1 := hfr12 1; (try simp only [show (k84).sz = 3 from rfl, Nat.mul_one, Nat.add_zero] at hf12_1); have hx12_2 := hcc12 2 _ rfl; (try simp only [show (k84).sz = 3 from rfl, Nat.mul_one, Nat.add_zero] at hx12_2); have hf12_2 := hfr12 2; (try simp only [show (k84).sz = 3 from rfl, Nat.mul_one, Nat.add_zero] at hf12_2); clear hcl12 hcc12 hfr12; (try clear hM12)) | ((with_reducible refine gate_store (t := 84) (p := 21) rfl ?_); refine store_event (t := 84) (p := 21) (v := ?vo_w13) (w1 := (((w11.setCell ⟨go10, (x4_1 : Int).toNat * 3, none⟩ (.string t281)).setCell ⟨go10, (x4_1 : Int).toNat * 3 + 1, none⟩ (.int .i64 t282)).setCell ⟨go10, (x4_1 : Int).toNat * 3 + 2, none⟩ (.int .i64 t283))) ?hg ?ho ?hn ?hr ?_; (case ho => rfl); (case hg => rfl); (case hn => rfl); (case hr => first | (go_simp; done) | (go_simp; rfl)); intro w13 hw; have hg : w11.grownBy w13 (some go10) := (by rw [hw]; exact HP12.2); have hp_ : Kd.R k84 84 w13 w.heap.size (fun _ => True) (.slice (some ⟨go10, 0, none⟩) x3_1.length co10) y284 := (by rw [hw, Ny284.out]; exact HP12.1); clear HP12; replace HO_3 := Aside0.mk (hp_); replace HB := Aside0.mk ((by rw [hw]; exact below_set (below_set (below_set (HB.out) GB10.out) GB10.out) GB10.out : Below w.heap.size w w13)); clear hg hw hp_))
        go_roundg k1
        case measure => have := HK1.out; omega
        case rel => exact ⟨(y284), (wrap64 (x4_1 + 1)), (by first | rfl | (simp; done) | (simp [*]; done)), H', ⟨by have := HK1.out; omega⟩, ⟨rl HO_3.out⟩, ⟨bl HB.out⟩⟩
       ·
        rw [if_neg c9] at H
        exact absurd H (by simp)
      ·
       rw [if_neg c7] at H
       exact absurd H (by simp)
     ·
      rw [if_neg c6] at H
      have c6b0 : decide (x4_1 < (l0.length : Int)) = false := decide_eq_false c6
      clear c6
      obtain rfl := Option.some.inj H
      go_wp2
      go_ret
      exact ⟨_, by first | rfl | (simp [errW_none, errW_some] <;> rfl) | (simp [*, errW_none, errW_some] <;> rfl), by (repeat apply rl1); exact HO_3.out, bl HB.out⟩
  ·
   rw [if_neg c3] at H
   exact absurd H (by simp)
 ·
  rw [if_neg c2] at H
  exact absurd H (by simp)

/-! ### laws_toDefect: function 99 -/
def laws_toDefect.f (a0_0 : ByteArray) (a0_1 : Int) (a0_2 : Int) : Option (ByteArray × Int × Int) := some (a0_0, a0_1, a0_2)
set_option maxHeartbeats 8000000 in
set_option maxRecDepth 100000 in
theorem laws_toDefect.calls (a0_0 : ByteArray) (a0_1 : Int) (a0_2 : Int) (r1 : ByteArray) (r2 : Int) (r3 : Int) (w : World) (h : laws_toDefect.f a0_0 a0_1 a0_2 = some (r1, r2, r3)) :
  Calls Try.prog 99 #[.agg #[.string a0_0, .int .i64 a0_1, .int .i64 a0_2]] w fun e w' => e = .returned (.agg #[.string r1, .int .i64 r2, .int .i64 r3]) ∧ Below w.heap.size w w' := by
 have hu138 := Try.underlying138
 have hu57 := Try.underlying57
 have HB := Aside0.mk (Below.refl w.heap.size w)
 have H : (some (a0_0, a0_1, a0_2)) = some (r1, r2, r3) := h
 clear h
 simp only [Option.some.injEq, Prod.mk.injEq] at H
 obtain ⟨rfl, rfl, rfl⟩ := H
 go_enter Try.func99, Try.ntmps99
 go_wp2_with (first | ((with_reducible refine gate_dst (N := 1) rfl ?_); refine box_event ?hg (N := 1) ?hd (cs := #[.string a0_0, .int .i64 a0_1, .int .i64 a0_2]) (t := 138) ?hr ?_; (case hd => rfl); (case hg => rfl); (case hr => first | (go_simp; done) | (go_simp; rfl)); intro gb285 hg w2 hbox hb; have BK285 := Aside0.mk (hbox); have GW285 := Aside0.mk ((by rw [hg]; exact (below_size (bl HB.out)) : w.heap.size ≤ gb285)); have GE285 := GW285; replace HB := Aside0.mk (below_step (bl HB.out) hb); clear hb hbox hg) | ((with_reducible refine gate_dst (N := 2) rfl ?_); refine box_event ?hg (N := 2) ?hd (cs := #[.string (⟨#[]⟩ : ByteArray), .int .i64 0, .int .i64 0]) (t := 57) ?hr ?_; (case hd => rfl); (case hg => rfl); (case hr => first | (go_simp; done) | (go_simp; rfl)); intro gb286 hg w3 hbox hb; have BK286 := Aside0.mk (hbox); have GW286 := Aside0.mk ((by rw [hg]; exact (below_size (by repeat with_reducible first | exact bl HB.out | refine below_set ?_ GE285.out | refine bq ?_)) : w.heap.size ≤ gb286)); have GE286 := GW286; replace HB := Aside0.mk (below_step (by repeat with_reducible first | exact bl HB.out | refine below_set ?_ GE285.out | refine bq ?_) hb); have NB285_286 := nb_ hg BK285.out; have NB286_285 := Aside0.mk NB285_286.out.symm; replace BK285 := Aside0.mk (blk_below (bk BK285.out) hb); clear hb hbox hg) | ((with_reducible refine gate_dst (N := 3) rfl ?_); refine box_event ?hg (N := 3) ?hd (cs := #[.string (⟨#[]⟩ : ByteArray), .int .i64 0, .int .i64 0]) (t := 57) ?hr ?_; (case hd => rfl); (case hg => rfl); (case hr => first | (go_simp; done) | (go_simp; rfl)); intro gb287 hg w4 hbox hb; have BK287 := Aside0.mk (hbox); have GW287 := Aside0.mk ((by rw [hg]; exact (below_size (by repeat with_reducible first | exact bl HB.out | refine below_set ?_ GE285.out | refine below_set ?_ GE286.out | refine bq ?_)) : w.heap.size ≤ gb287)); have GE287 := GW287; replace HB := Aside0.mk (below_step (by repeat with_reducible first | exact bl HB.out | refine below_set ?_ GE285.out | refine below_set ?_ GE286.out | refine bq ?_) hb); have NB285_287 := nb_ hg BK285.out; have NB287_285 := Aside0.mk NB285_287.out.symm; replace BK285 := Aside0.mk (blk_below (bk BK285.out) hb); have NB286_287 := nb_ hg BK286.out; have NB287_286 := Aside0.mk NB286_287.out.symm; replace BK286 := Aside0.mk (blk_below (g := gb286) (o := .cells #[.string (⟨#[]⟩ : ByteArray), .int .i64 0, .int .i64 0] 57 (0, 0)) (bk BK286.out) hb); clear hb hbox hg; have hnb5 := NB285_286.out; have hnc5 := NB286_285.out; have hnb6 := NB285_287.out; have hnc6 := NB287_285.out; obtain ⟨hcz7_0, hcz7_1, hcz7_2⟩ := ck3 BK285.out; obtain ⟨hfz7_0, hfz7_1, hfz7_2⟩ := fz3 BK285.out; have hnb8 := NB287_286.out; have hnc8 := NB286_287.out; obtain ⟨hcz9_0, hcz9_1, hcz9_2⟩ := ck3 BK287.out; obtain ⟨hfz9_0, hfz9_1, hfz9_2⟩ := fz3 BK287.out; obtain ⟨hcz10_0, hcz10_1, hcz10_2⟩ := ck3 BK286.out; obtain ⟨hfz10_0, hfz10_1, hfz10_2⟩ := fz3 BK286.out))
 refine bodyPost_ret (results_cell_row rfl _ _ gb286 57 #[.string a0_0, .int .i64 a0_1, .int .i64 a0_2] (0, 0) _ rfl (by (repeat refine bk1 ?_); refine blk_put (cs := #[.string a0_0, .int .i64 a0_1, .int .i64 0]) ?_ 2 _ rfl; (repeat refine bk1 ?_); refine blk_put (cs := #[.string a0_0, .int .i64 0, .int .i64 0]) ?_ 1 _ rfl; (repeat refine bk1 ?_); refine blk_put (cs := #[.string (⟨#[]⟩ : ByteArray), .int .i64 0, .int .i64 0]) ?_ 0 _ rfl; (repeat refine bk1 ?_); refine blk_far ?_ NB286_287.out _; (repeat refine bk1 ?_); refine blk_far ?_ NB286_287.out _; (repeat refine bk1 ?_); refine blk_far ?_ NB286_287.out _; (repeat refine bk1 ?_); exact BK286.out) Try.underlying57 rfl (by kernel_rfl)) rfl ?_
 exact ⟨by first | rfl | (simp [errW_none, errW_some] <;> rfl) | (simp [*, errW_none, errW_some] <;> rfl), by repeat with_reducible first | exact bl HB.out | refine below_set ?_ GE285.out | refine below_set ?_ GE286.out | refine below_set ?_ GE287.out | refine bq ?_⟩

/-! ### laws_toDefectS: function 51 -/
def laws_toDefectS.l0 : Nat → List (S138) → List (S57) → Int → Option ((List (S57)))
 | 0, _, _, _ => none
 | k + 1, x0, x3, x4 => if x4 < (x0.length : Int) then (if 0 ≤ x4 then ((laws_toDefect.f ((rd_T138 x0 x4).f0) ((rd_T138 x0 x4).f1) ((rd_T138 x0 x4).f2)).bind fun bt292 => (if x4 < (x3.length : Int) then (laws_toDefectS.l0 k x0 (x3.set (x4 : Int).toNat (⟨bt292.1, bt292.2.1, bt292.2.2⟩ : S57)) (wrap64 (x4 + 1))) else (none))) else (none)) else (some x3)
def laws_toDefectS.f (k : Nat) (l0 : List (S138)) : Option ((List (S57))) := if 0 ≤ (l0.length : Int) then (if ((l0.length : Int) : Int).toNat ≤ 8796093022208 then (laws_toDefectS.l0 k l0 (List.replicate ((l0.length : Int) : Int).toNat z57) 0) else (none)) else (none)
set_option maxHeartbeats 8000000 in
set_option maxRecDepth 100000 in
theorem laws_toDefectS.calls (k : Nat) (A0 : Option Addr) (c0 : Nat) (l0 : List (S138)) (r : List (S57)) (w : World) (hr0 : Kd.C k138 w A0 l0.length l0) (hc0 : l0.length ≤ c0) (h : laws_toDefectS.f k l0 = some r) :
  Calls Try.prog 51 #[.slice A0 l0.length c0] w fun e w' => ∃ v0_ : Value, e = .returned (v0_) ∧ Kd.R k57 57 w' w.heap.size (fun _ => True) v0_ r ∧ Below w.heap.size w w' := by
 have hu138 := Try.underlying138
 have hu57 := Try.underlying57
 have HR0 := Aside0.mk hr0
 have HC0 := Aside0.mk hc0
 clear hr0 hc0
 have HB := Aside0.mk (Below.refl w.heap.size w)
 have H : (if 0 ≤ (l0.length : Int) then (if ((l0.length : Int) : Int).toNat ≤ 8796093022208 then (laws_toDefectS.l0 k l0 (List.replicate ((l0.length : Int) : Int).toNat z57) 0) else (none)) else (none)) = some r := h
 clear h
 by_cases c2 : 0 ≤ (l0.length : Int)
 ·
  rw [if_pos c2] at H
  have c2b0 := eq_true c2
  have c2b1 : decide (0 ≤ (l0.length : Int)) = true := decide_eq_true c2
  clear c2
  by_cases c3 : ((l0.length : Int) : Int).toNat ≤ 8796093022208
  ·
   rw [if_pos c3] at H
   have c3b0 := eq_true c3
   have c3b1 : decide (((l0.length : Int) : Int).toNat ≤ 8796093022208) = true := decide_eq_true c3
   clear c3
   obtain ⟨y288, hy288⟩ : ∃ y_ : List (S57), y_ = (List.replicate ((l0.length : Int) : Int).toNat z57) := ⟨_, rfl⟩
   replace H : (laws_toDefectS.l0 k l0 y288 0) = some r := by first | (rw [hy288]; with_reducible exact H) | (have H2_ := (Option.bind_some _ _).symm.trans H; rw [hy288]; with_reducible exact H2_) | (have H2_ := (Option.bind_some _ _).symm.trans H; with_reducible exact H2_) | with_reducible exact H | (rw [hy288]; exact H) | exact H
   have Ny288 := Aside0.mk hy288
   clear hy288
   have H' := Aside0.mk H
   clear H
   go_enter Try.func51, Try.ntmps51
   go_wp2_with (first | ((with_reducible refine gate_dst (N := 7) rfl ?_); refine Kd.R_make k57 _ 57 rfl (N := 7) rfl 26 _ _ rfl (l0.length : Int) rfl rfl Try.underlying26 (.agg #[(.string ⟨#[]⟩), (.int .i64 0), (.int .i64 0)]) 32 info57 rfl (by decide) (by omega) z57 (ok := fun _ => True) (okp := fun _ => True) (k57_mkM _ _ _ z57 ) (fun _ hk => hk) trivial (of_decide_eq_true (by first | (with_reducible assumption) | assumption)) (Nat.le_trans (Nat.mul_le_mul_right _ (of_decide_eq_true (by first | (with_reducible assumption) | assumption) : (l0.length : Int).toNat ≤ 8796093022208)) (by omega)) (Below.refl _ _) (Nat.le_refl _) ?_; intro v289 w4 ho5 hb hg_ hnew_; clear hg_ hnew_; (first | rw [← Ny288.out] at ho5 | (simp only [Int.reduceToNat] at ho5; rw [← Ny288.out] at ho5)); have HO290 := Aside0.mk (Kd.R_lower ho5 (below_size (bl HB.out))); replace HB := Aside0.mk (below_step (bl HB.out) hb); clear hb ho5))
   go_loopg [4] k (fun kq v4 w' => ∃ (x3_1 : List (S57)) (x4_1 : Int), v4 = .int .i64 x4_1 ∧ Aside0 (laws_toDefectS.l0 kq l0 x3_1 x4_1 = some r) ∧ Aside0 (kq ≤ k) ∧ Aside0 (Kd.R k57 57 w' w.heap.size (fun _ => True) v289 x3_1) ∧ Aside0 (Below w.heap.size w w'))
   case atStart => exact ⟨(y288), (0), (by first | rfl | (simp; done) | (simp [*]; done)), H', ⟨Nat.le_refl _⟩, ⟨rl HO290.out⟩, ⟨bl HB.out⟩⟩
   case round =>
    clear H'
    try clear c2
    try clear c2b0
    try clear c2b1
    try clear p2
    try clear c3
    try clear c3b0
    try clear c3b1
    try clear c5
    obtain ⟨x3_1, x4_1, rfl, HA, HK1, HO_3, HB⟩ := hrel
    cases gk with
    | zero => exact absurd HA.out (by simp [laws_toDefectS.l0])
    | succ k1 =>
     have H := HA.out
     clear HA
     simp only [laws_toDefectS.l0] at H
     by_cases c6 : x4_1 < (l0.length : Int)
     ·
      rw [if_pos c6] at H
      have c6b0 : decide (x4_1 < (l0.length : Int)) = true := decide_eq_true c6
      clear c6
      by_cases c7 : 0 ≤ x4_1
      ·
       rw [if_pos c7] at H
       have c7b0 : decide (0 ≤ x4_1) = true := decide_eq_true c7
       clear c7
       replace H := Option.bind_eq_some_iff.mp H
       obtain ⟨⟨t292, t293, t294⟩, A80, H⟩ := H
       replace H : (if x4_1 < (x3_1.length : Int) then (laws_toDefectS.l0 k1 l0 (x3_1.set (x4_1 : Int).toNat (⟨t292, t293, t294⟩ : S57)) (wrap64 (x4_1 + 1))) else (none)) = some r := H
       have A8 := Aside0.mk A80
       clear A80
       by_cases c9 : x4_1 < (x3_1.length : Int)
       ·
        rw [if_pos c9] at H
        have c9b0 : decide (x4_1 < (x3_1.length : Int)) = true := decide_eq_true c9
        clear c9
        obtain ⟨y295, hy295⟩ : ∃ y_ : List (S57), y_ = (x3_1.set (x4_1 : Int).toNat (⟨t292, t293, t294⟩ : S57)) := ⟨_, rfl⟩
        replace H : (laws_toDefectS.l0 k1 l0 y295 (wrap64 (x4_1 + 1))) = some r := by first | (rw [hy295]; with_reducible exact H) | (have H2_ := (Option.bind_some _ _).symm.trans H; rw [hy295]; with_reducible exact H2_) | (have H2_ := (Option.bind_some _ _).symm.trans H; with_reducible exact H2_) | with_reducible exact H | (rw [hy295]; exact H) | exact H
        have Ny295 := Aside0.mk hy295
        clear hy295
        have H' := Aside0.mk H
        clear H
        have p291 : 0 ≤ (x4_1 : Int) := of_decide_eq_true (by first | (with_reducible assumption) | assumption)
        have q291 : x4_1 < (l0.length : Int) := of_decide_eq_true (by first | (with_reducible assumption) | assumption)
        obtain ⟨ad291, e291, hx291_0, hx291_1, hx291_2⟩ := at_T138 HR0.out x4_1 p291 q291
        cases e291
        replace hx291_0 := bc HB.out hx291_0
        replace hx291_1 := bc HB.out hx291_1
        replace hx291_2 := bc HB.out hx291_2
        replace p291 := eq_true p291
        replace q291 := eq_true q291
        go_wp2_with (first | ((with_reducible refine gate_callee (f := 99) rfl ?_); refine goesL_ (some 20) rfl rfl Try.func99 (by kernel_rfl) rfl #[.agg #[.string ((rd_T138 l0 x4_1).f0), .int .i64 ((rd_T138 l0 x4_1).f1), .int .i64 ((rd_T138 l0 x4_1).f2)]] rfl (by (try simp only [am_]); first | done | rfl) ?_; (with_reducible refine (laws_toDefect.calls ((rd_T138 l0 x4_1).f0) ((rd_T138 l0 x4_1).f1) ((rd_T138 l0 x4_1).f2) t292 t293 t294 _ A8.out).mono ?_); rintro e w11 ⟨rfl, hb⟩; refine ⟨_, rfl, ?_⟩; replace HO_3 := Aside0.mk (Kd.R_below (rl HO_3.out) hb); replace HB := Aside0.mk (below_step (bl HB.out) hb); (try clear hb); (try clear hb2); (try clear hk); (try clear hi); have p10 : 0 ≤ (x4_1 : Int) := of_decide_eq_true (by first | (with_reducible assumption) | assumption); have q10 : (x4_1 : Int) < ((x3_1.length : Int) : Int) := of_decide_eq_true (by first | (with_reducible assumption) | assumption); obtain ⟨go10, co10, eo10, gb10, gl10, cl10, HG10⟩ := Kd.R_form HO_3.out (by omega); (first | cases eo10 | (injection eo10 with ea_ en_ ec_; (first | subst ea_ | (injection ea_ with ea_; subst ea_)); subst ec_; clear en_)); have GB10 := Aside0.mk gb10; have GG10 := Aside0.mk HG10; clear gb10 gl10 HG10; obtain ⟨ce10, hcl10, hM10, hcc10, hfr10⟩ := Kd.R_elem HO_3.out z57 (x4_1 : Int) p10 q10; obtain rfl := k57_openM hM10; have hx10_0 : w11.cell? ⟨go10, (x4_1 : Int).toNat * 3, none⟩ = some (.string ((rd_T57 x3_1 x4_1).f0)) := hcc10 0 _ rfl; have hx10_1 : w11.cell? ⟨go10, (x4_1 : Int).toNat * 3 + 1, none⟩ = some (.int .i64 ((rd_T57 x3_1 x4_1).f1)) := hcc10 1 _ rfl; have hx10_2 : w11.cell? ⟨go10, (x4_1 : Int).toNat * 3 + 2, none⟩ = some (.int .i64 ((rd_T57 x3_1 x4_1).f2)) := hcc10 2 _ rfl; have hf10_0 : w11.frozen? ⟨go10, (x4_1 : Int).toNat * 3, none⟩ = false := hfr10 0; have hf10_1 : w11.frozen? ⟨go10, (x4_1 : Int).toNat * 3 + 1, none⟩ = false := hfr10 1; have hf10_2 : w11.frozen? ⟨go10, (x4_1 : Int).toNat * 3 + 2, none⟩ = false := hfr10 2; clear hcl10 hcc10 hfr10; (try clear hM10); replace p10 := eq_true p10; replace q10 := eq_true q10; have HX12 := Aside0.mk (show Kd.R k57 57 w11 w.heap.size (fun _ => True) (.slice (some ⟨go10, 0, none⟩) x3_1.length co10) x3_1 from (rl HO_3.out)); obtain ⟨ce12, hcl12, hM12, hcc12, hfr12⟩ := Kd.R_elem HX12.out z57 (x4_1 : Int) (of_decide_eq_true (by first | (with_reducible assumption) | assumption)) (by have h_ : (x4_1 : Int) < ((x3_1.length : Int) : Int) := of_decide_eq_true (by first | (with_reducible assumption) | assumption); first | exact h_ | (have e_ := (Kd.R_reads' HO_3.out).1; omega) | simpa using h_); obtain rfl := k57_openM hM12; have HP12 := Kd.R_seg HX12.out (x4_1 : Int) (of_decide_eq_true (by first | (with_reducible assumption) | assumption)) (by have h_ : (x4_1 : Int) < ((x3_1.length : Int) : Int) := of_decide_eq_true (by first | (with_reducible assumption) | assumption); first | exact h_ | (have e_ := (Kd.R_reads' HO_3.out).1; omega) | simpa using h_) (seg := [.string t292, .int .i64 t293, .int .i64 t294]) (j := 0) hcl12 hcc12 (show 3 ≤ 3 from by decide) (x' := (⟨t292, t293, t294⟩ : S57)) (k57_mkM _ _ _ (⟨t292, t293, t294⟩ : S57) ) (fun _ hk => hk); have hx12_0 := hcc12 0 _ rfl; (try simp only [show (k57).sz = 3 from rfl, Nat.mul_one, Nat.add_zero] at hx12_0); have hf12_0 := hfr12 0; (try simp only [show (k57).sz = 3 from rfl, Nat.mul_one, Nat.add_zero] at hf12_0); have hx12_1 := hcc12 1 _ rfl; (try simp only [show (k57).sz = 3 from rfl, Nat.mul_one, Nat.add_zero] at hx12_1); have hf12_1 := hfr12 1; (try simp only [show (k57).sz = 3 from rfl, Nat.mul_one, Nat.add_zero] at hf12_1); have hx12_2 := hcc12 2 _ rfl; (try simp only [show (k57).sz = 3 from rfl, Nat.mul_one, Nat.add_zero] at hx12_2); have hf12_2 := hfr12 2; (try simp only [show (k57).sz = 3 from rfl, Nat.mul_one, Nat.add_zero] at hf12_2); clear hcl12 hcc12 hfr12; (try clear hM12)) | ((with_reducible refine gate_store (t := 57) (p := 21) rfl ?_); refine store_event (t := 57) (p := 21) (v := ?vo_w13) (w1 := (((w11.setCell ⟨go10, (x4_1 : Int).toNat * 3, none⟩ (.string t292)).setCell ⟨go10, (x4_1 : Int).toNat * 3 + 1, none⟩ (.int .i64 t293)).setCell ⟨go10, (x4_1 : Int).toNat * 3 + 2, none⟩ (.int .i64 t294))) ?hg ?ho ?hn ?hr ?_; (case ho => rfl); (case hg => rfl); (case hn => rfl); (case hr => first | (go_simp; done) | (go_simp; rfl)); intro w13 hw; have hg : w11.grownBy w13 (some go10) := (by rw [hw]; exact HP12.2); have hp_ : Kd.R k57 57 w13 w.heap.size (fun _ => True) (.slice (some ⟨go10, 0, none⟩) x3_1.length co10) y295 := (by rw [hw, Ny295.out]; exact HP12.1); clear HP12; replace HO_3 := Aside0.mk (hp_); replace HB := Aside0.mk ((by rw [hw]; exact below_set (below_set (below_set (HB.out) GB10.out) GB10.out) GB10.out : Below w.heap.size w w13)); clear hg hw hp_))
        go_roundg k1
        case measure => have := HK1.out; omega
        case rel => exact ⟨(y295), (wrap64 (x4_1 + 1)), (by first | rfl | (simp; done) | (simp [*]; done)), H', ⟨by have := HK1.out; omega⟩, ⟨rl HO_3.out⟩, ⟨bl HB.out⟩⟩
       ·
        rw [if_neg c9] at H
        exact absurd H (by simp)
      ·
       rw [if_neg c7] at H
       exact absurd H (by simp)
     ·
      rw [if_neg c6] at H
      have c6b0 : decide (x4_1 < (l0.length : Int)) = false := decide_eq_false c6
      clear c6
      obtain rfl := Option.some.inj H
      go_wp2
      go_ret
      exact ⟨_, by first | rfl | (simp [errW_none, errW_some] <;> rfl) | (simp [*, errW_none, errW_some] <;> rfl), by (repeat apply rl1); exact HO_3.out, bl HB.out⟩
  ·
   rw [if_neg c3] at H
   exact absurd H (by simp)
 ·
  rw [if_neg c2] at H
  exact absurd H (by simp)

/-! ### laws_toFleet: function 21 -/
def laws_toFleet.f (k : Nat) (l0_0 : List (S134)) (l0_1 : List (S136)) (l0_2 : List (S138)) (a0_3 : Int) (a0_4 : Int) (a0_5 : Int) : Option ((List (S44)) × (List (S84)) × (List (S57)) × Int × Int × Int) := (laws_toTaskS.f k l0_0).bind fun t299 => ((laws_toCarryS.f k l0_1).bind fun t302 => ((laws_toDefectS.f k l0_2).bind fun t305 => ((laws_toClock.f a0_3 a0_4 a0_5).bind fun bt308 => (some (t299, t302, t305, bt308.1, bt308.2.1, bt308.2.2)))))
set_option maxHeartbeats 8000000 in
set_option maxRecDepth 100000 in
theorem laws_toFleet.calls (k : Nat) (A0_0 : Option Addr) (c0_0 : Nat) (l0_0 : List (S134)) (A0_1 : Option Addr) (c0_1 : Nat) (l0_1 : List (S136)) (A0_2 : Option Addr) (c0_2 : Nat) (l0_2 : List (S138)) (a0_3 : Int) (a0_4 : Int) (a0_5 : Int) (r1 : List (S44)) (r2 : List (S84)) (r3 : List (S57)) (r4 : Int) (r5 : Int) (r6 : Int) (w : World) (hr0_0 : Kd.C k134 w A0_0 l0_0.length l0_0) (hc0_0 : l0_0.length ≤ c0_0) (hr0_1 : Kd.C k136 w A0_1 l0_1.length l0_1) (hc0_1 : l0_1.length ≤ c0_1) (hr0_2 : Kd.C k138 w A0_2 l0_2.length l0_2) (hc0_2 : l0_2.length ≤ c0_2) (h : laws_toFleet.f k l0_0 l0_1 l0_2 a0_3 a0_4 a0_5 = some (r1, r2, r3, r4, r5, r6)) :
  Calls Try.prog 21 #[.agg #[.slice A0_0 l0_0.length c0_0, .slice A0_1 l0_1.length c0_1, .slice A0_2 l0_2.length c0_2, .int .i64 a0_3, .int .i64 a0_4, .int .i64 a0_5]] w fun e w' => ∃ v0_ v1_ v2_ : Value, e = .returned (.agg #[v0_, v1_, v2_, .int .i64 r4, .int .i64 r5, .int .i64 r6]) ∧ Kd.R k44 44 w' w.heap.size (fun _ => True) v0_ r1 ∧ Kd.R k84 84 w' w.heap.size (fun _ => True) v1_ r2 ∧ Kd.R k57 57 w' w.heap.size (fun _ => True) v2_ r3 ∧ Below w.heap.size w w' := by
 have hu63 := Try.underlying63
 have hu30 := Try.underlying30
 have hu61 := Try.underlying61
 have hu28 := Try.underlying28
 have HR0_0 := Aside0.mk hr0_0
 have HC0_0 := Aside0.mk hc0_0
 clear hr0_0 hc0_0
 have HR0_1 := Aside0.mk hr0_1
 have HC0_1 := Aside0.mk hc0_1
 clear hr0_1 hc0_1
 have HR0_2 := Aside0.mk hr0_2
 have HC0_2 := Aside0.mk hc0_2
 clear hr0_2 hc0_2
 have HB := Aside0.mk (Below.refl w.heap.size w)
 have H : ((laws_toTaskS.f k l0_0).bind fun t299 => ((laws_toCarryS.f k l0_1).bind fun t302 => ((laws_toDefectS.f k l0_2).bind fun t305 => ((laws_toClock.f a0_3 a0_4 a0_5).bind fun bt308 => (some (t299, t302, t305, bt308.1, bt308.2.1, bt308.2.2)))))) = some (r1, r2, r3, r4, r5, r6) := h
 clear h
 replace H := Option.bind_eq_some_iff.mp H
 obtain ⟨t299, A20, H⟩ := H
 replace H : ((laws_toCarryS.f k l0_1).bind fun t302 => ((laws_toDefectS.f k l0_2).bind fun t305 => ((laws_toClock.f a0_3 a0_4 a0_5).bind fun bt308 => (some (t299, t302, t305, bt308.1, bt308.2.1, bt308.2.2))))) = some (r1, r2, r3, r4, r5, r6) := H
 have A2 := Aside0.mk A20
 clear A20
 replace H := Option.bind_eq_some_iff.mp H
 obtain ⟨t302, A30, H⟩ := H
 replace H : ((laws_toDefectS.f k l0_2).bind fun t305 => ((laws_toClock.f a0_3 a0_4 a0_5).bind fun bt308 => (some (t299, t302, t305, bt308.1, bt308.2.1, bt308.2.2)))) = some (r1, r2, r3, r4, r5, r6) := H
 have A3 := Aside0.mk A30
 clear A30
 replace H := Option.bind_eq_some_iff.mp H
 obtain ⟨t305, A40, H⟩ := H
 replace H : ((laws_toClock.f a0_3 a0_4 a0_5).bind fun bt308 => (some (t299, t302, t305, bt308.1, bt308.2.1, bt308.2.2))) = some (r1, r2, r3, r4, r5, r6) := H
 have A4 := Aside0.mk A40
 clear A40
 replace H := Option.bind_eq_some_iff.mp H
 obtain ⟨⟨t308, t309, t310⟩, A50, H⟩ := H
 replace H : (some (t299, t302, t305, t308, t309, t310)) = some (r1, r2, r3, r4, r5, r6) := H
 have A5 := Aside0.mk A50
 clear A50
 simp only [Option.some.injEq, Prod.mk.injEq] at H
 obtain ⟨rfl, rfl, rfl, rfl, rfl, rfl⟩ := H
 go_enter Try.func21, Try.ntmps21
 go_wp2_with (first | ((with_reducible refine gate_dst (N := 1) rfl ?_); refine box_event ?hg (N := 1) ?hd (cs := #[.slice A0_0 l0_0.length c0_0, .slice A0_1 l0_1.length c0_1, .slice A0_2 l0_2.length c0_2, .int .i64 a0_3, .int .i64 a0_4, .int .i64 a0_5]) (t := 63) ?hr ?_; (case hd => rfl); (case hg => rfl); (case hr => first | (go_simp; done) | (go_simp; rfl)); intro gb296 hg w6 hbox hb; have BK296 := Aside0.mk (hbox); have GW296 := Aside0.mk ((by rw [hg]; exact (below_size (bl HB.out)) : w.heap.size ≤ gb296)); have GE296 := GW296; replace HB := Aside0.mk (below_step (bl HB.out) hb); clear hb hbox hg) | ((with_reducible refine gate_dst (N := 2) rfl ?_); refine box_event ?hg (N := 2) ?hd (cs := #[.slice none 0 0, .slice none 0 0, .slice none 0 0, .int .i64 0, .int .i64 0, .int .i64 0]) (t := 30) ?hr ?_; (case hd => rfl); (case hg => rfl); (case hr => first | (go_simp; done) | (go_simp; rfl)); intro gb297 hg w7 hbox hb; have BK297 := Aside0.mk (hbox); have GW297 := Aside0.mk ((by rw [hg]; exact (below_size (by repeat with_reducible first | exact bl HB.out | refine below_set ?_ GE296.out | refine bq ?_)) : w.heap.size ≤ gb297)); have GE297 := GW297; replace HB := Aside0.mk (below_step (by repeat with_reducible first | exact bl HB.out | refine below_set ?_ GE296.out | refine bq ?_) hb); have NB296_297 := nb_ hg BK296.out; have NB297_296 := Aside0.mk NB296_297.out.symm; replace BK296 := Aside0.mk (blk_below (bk BK296.out) hb); clear hb hbox hg) | ((with_reducible refine gate_dst (N := 3) rfl ?_); refine box_event ?hg (N := 3) ?hd (cs := #[.slice none 0 0, .slice none 0 0, .slice none 0 0, .int .i64 0, .int .i64 0, .int .i64 0]) (t := 30) ?hr ?_; (case hd => rfl); (case hg => rfl); (case hr => first | (go_simp; done) | (go_simp; rfl)); intro gb298 hg w8 hbox hb; have BK298 := Aside0.mk (hbox); have GW298 := Aside0.mk ((by rw [hg]; exact (below_size (by repeat with_reducible first | exact bl HB.out | refine below_set ?_ GE296.out | refine below_set ?_ GE297.out | refine bq ?_)) : w.heap.size ≤ gb298)); have GE298 := GW298; replace HB := Aside0.mk (below_step (by repeat with_reducible first | exact bl HB.out | refine below_set ?_ GE296.out | refine below_set ?_ GE297.out | refine bq ?_) hb); have NB296_298 := nb_ hg BK296.out; have NB298_296 := Aside0.mk NB296_298.out.symm; replace BK296 := Aside0.mk (blk_below (bk BK296.out) hb); have NB297_298 := nb_ hg BK297.out; have NB298_297 := Aside0.mk NB297_298.out.symm; replace BK297 := Aside0.mk (blk_below (bk BK297.out) hb); clear hb hbox hg; have hnb9 := NB296_297.out; have hnc9 := NB297_296.out; have hnb10 := NB296_298.out; have hnc10 := NB298_296.out; obtain ⟨hcz11_0, hcz11_1, hcz11_2, hcz11_3, hcz11_4, hcz11_5⟩ := ck6 BK296.out; obtain ⟨hfz11_0, hfz11_1, hfz11_2, hfz11_3, hfz11_4, hfz11_5⟩ := fz6 BK296.out) | ((with_reducible refine gate_callee (f := 49) rfl ?_); refine goesL_ (some 6) rfl rfl Try.func49 (by kernel_rfl) rfl #[.slice A0_0 l0_0.length c0_0] rfl (by (try simp only [am_]); first | done | rfl) ?_; (with_reducible refine (laws_toTaskS.calls k _ _ l0_0 t299 _ ?side1 ?side2 A2.out).mono ?_); (case side1 => exact rc (Kd.C_below HR0_0.out HB.out)); (case side2 => exact HC0_0.out); rintro e w12 ⟨v300, rfl, ho0, hb⟩; refine ⟨_, rfl, ?_⟩; have HO301 := Aside0.mk (Kd.R_lower ho0 (below_size (by repeat with_reducible first | exact bl HB.out | refine below_set ?_ GE296.out | refine below_set ?_ GE297.out | refine below_set ?_ GE298.out | refine bq ?_))); replace BK296 := Aside0.mk (blk_below (bk BK296.out) hb); replace BK297 := Aside0.mk (blk_below (bk BK297.out) hb); replace BK298 := Aside0.mk (blk_below (bk BK298.out) hb); replace HB := Aside0.mk (below_step (by repeat with_reducible first | exact bl HB.out | refine below_set ?_ GE296.out | refine below_set ?_ GE297.out | refine below_set ?_ GE298.out | refine bq ?_) hb); (try clear hb); (try clear hb2); (try clear hk); (try clear hi); (try clear ho0); obtain ⟨Ao13, co13, eo13⟩ := Kd.R_slice HO301.out; subst eo13; have hnb14 := NB298_297.out; have hnc14 := NB297_298.out; obtain ⟨hcz15_0, hcz15_1, hcz15_2, hcz15_3, hcz15_4, hcz15_5⟩ := ck6 BK298.out; obtain ⟨hfz15_0, hfz15_1, hfz15_2, hfz15_3, hfz15_4, hfz15_5⟩ := fz6 BK298.out; obtain ⟨hcz16_0, hcz16_1, hcz16_2, hcz16_3, hcz16_4, hcz16_5⟩ := ck6 BK296.out; obtain ⟨hfz16_0, hfz16_1, hfz16_2, hfz16_3, hfz16_4, hfz16_5⟩ := fz6 BK296.out) | ((with_reducible refine gate_callee (f := 50) rfl ?_); refine goesL_ (some 10) rfl rfl Try.func50 (by kernel_rfl) rfl #[.slice A0_1 l0_1.length c0_1] rfl (by (try simp only [am_]); first | done | rfl) ?_; (with_reducible refine (laws_toCarryS.calls k _ _ l0_1 t302 _ ?side1 ?side2 A3.out).mono ?_); (case side1 => exact Kd.C_below HR0_1.out (by repeat with_reducible first | exact bl HB.out | refine below_set ?_ GE296.out | refine below_set ?_ GE297.out | refine below_set ?_ GE298.out | refine bq ?_)); (case side2 => exact HC0_1.out); rintro e w17 ⟨v303, rfl, ho0, hb⟩; refine ⟨_, rfl, ?_⟩; replace HO301 := Aside0.mk (Kd.R_below (by (repeat apply rl1); exact (Kd.R_mono (Kd.R_far (p := ⟨gb298, 0, none⟩) (Kd.R_types HO301.out BK298.out (by decide)) (fun _ hk => hk.2) (.slice Ao13 t299.length co13)) (fun _ h_ => h_.1))) hb); have HO304 := Aside0.mk (Kd.R_lower ho0 (below_size (by repeat with_reducible first | exact bl HB.out | refine below_set ?_ GE296.out | refine below_set ?_ GE297.out | refine below_set ?_ GE298.out | refine bq ?_))); replace BK296 := Aside0.mk (blk_below (g := gb296) (o := .cells #[.slice A0_0 l0_0.length c0_0, .slice A0_1 l0_1.length c0_1, .slice A0_2 l0_2.length c0_2, .int .i64 a0_3, .int .i64 a0_4, .int .i64 a0_5] 63 (0, 0)) (by (repeat refine bk1 ?_); refine blk_far ?_ NB296_298.out _; (repeat refine bk1 ?_); exact BK296.out) hb); replace BK297 := Aside0.mk (blk_below (g := gb297) (o := .cells #[.slice none 0 0, .slice none 0 0, .slice none 0 0, .int .i64 0, .int .i64 0, .int .i64 0] 30 (0, 0)) (by (repeat refine bk1 ?_); refine blk_far ?_ NB297_298.out _; (repeat refine bk1 ?_); exact BK297.out) hb); replace BK298 := Aside0.mk (blk_below (g := gb298) (o := .cells #[.slice Ao13 t299.length co13, .slice none 0 0, .slice none 0 0, .int .i64 0, .int .i64 0, .int .i64 0] 30 (0, 0)) (by (repeat refine bk1 ?_); refine blk_put (cs := #[.slice none 0 0, .slice none 0 0, .slice none 0 0, .int .i64 0, .int .i64 0, .int .i64 0]) ?_ 0 _ rfl; (repeat refine bk1 ?_); exact BK298.out) hb); replace HB := Aside0.mk (below_step (by repeat with_reducible first | exact bl HB.out | refine below_set ?_ GE296.out | refine below_set ?_ GE297.out | refine below_set ?_ GE298.out | refine bq ?_) hb); (try clear hb); (try clear hb2); (try clear hk); (try clear hi); (try clear ho0); obtain ⟨Ao18, co18, eo18⟩ := Kd.R_slice HO304.out; subst eo18; obtain ⟨hcz19_0, hcz19_1, hcz19_2, hcz19_3, hcz19_4, hcz19_5⟩ := ck6 BK298.out; obtain ⟨hfz19_0, hfz19_1, hfz19_2, hfz19_3, hfz19_4, hfz19_5⟩ := fz6 BK298.out; obtain ⟨hcz20_0, hcz20_1, hcz20_2, hcz20_3, hcz20_4, hcz20_5⟩ := ck6 BK296.out; obtain ⟨hfz20_0, hfz20_1, hfz20_2, hfz20_3, hfz20_4, hfz20_5⟩ := fz6 BK296.out) | ((with_reducible refine gate_callee (f := 51) rfl ?_); refine goesL_ (some 14) rfl rfl Try.func51 (by kernel_rfl) rfl #[.slice A0_2 l0_2.length c0_2] rfl (by (try simp only [am_]); first | done | rfl) ?_; (with_reducible refine (laws_toDefectS.calls k _ _ l0_2 t305 _ ?side1 ?side2 A4.out).mono ?_); (case side1 => exact Kd.C_below HR0_2.out (by repeat with_reducible first | exact bl HB.out | refine below_set ?_ GE296.out | refine below_set ?_ GE297.out | refine below_set ?_ GE298.out | refine bq ?_)); (case side2 => exact HC0_2.out); rintro e w21 ⟨v306, rfl, ho0, hb⟩; refine ⟨_, rfl, ?_⟩; replace HO301 := Aside0.mk (Kd.R_below (by (repeat apply rl1); exact (Kd.R_mono (Kd.R_far (p := ⟨gb298, 1, none⟩) (Kd.R_types HO301.out BK298.out (by decide)) (fun _ hk => hk.2) (.slice Ao18 t302.length co18)) (fun _ h_ => h_.1))) hb); replace HO304 := Aside0.mk (Kd.R_below (by (repeat apply rl1); exact (Kd.R_mono (Kd.R_far (p := ⟨gb298, 1, none⟩) (Kd.R_types HO304.out BK298.out (by decide)) (fun _ hk => hk.2) (.slice Ao18 t302.length co18)) (fun _ h_ => h_.1))) hb); have HO307 := Aside0.mk (Kd.R_lower ho0 (below_size (by repeat with_reducible first | exact bl HB.out | refine below_set ?_ GE296.out | refine below_set ?_ GE297.out | refine below_set ?_ GE298.out | refine bq ?_))); replace BK296 := Aside0.mk (blk_below (g := gb296) (o := .cells #[.slice A0_0 l0_0.length c0_0, .slice A0_1 l0_1.length c0_1, .slice A0_2 l0_2.length c0_2, .int .i64 a0_3, .int .i64 a0_4, .int .i64 a0_5] 63 (0, 0)) (by (repeat refine bk1 ?_); refine blk_far ?_ NB296_298.out _; (repeat refine bk1 ?_); exact BK296.out) hb); replace BK297 := Aside0.mk (blk_below (g := gb297) (o := .cells #[.slice none 0 0, .slice none 0 0, .slice none 0 0, .int .i64 0, .int .i64 0, .int .i64 0] 30 (0, 0)) (by (repeat refine bk1 ?_); refine blk_far ?_ NB297_298.out _; (repeat refine bk1 ?_); exact BK297.out) hb); replace BK298 := Aside0.mk (blk_below (g := gb298) (o := .cells #[.slice Ao13 t299.length co13, .slice Ao18 t302.length co18, .slice none 0 0, .int .i64 0, .int .i64 0, .int .i64 0] 30 (0, 0)) (by (repeat refine bk1 ?_); refine blk_put (cs := #[.slice Ao13 t299.length co13, .slice none 0 0, .slice none 0 0, .int .i64 0, .int .i64 0, .int .i64 0]) ?_ 1 _ rfl; (repeat refine bk1 ?_); exact BK298.out) hb); replace HB := Aside0.mk (below_step (by repeat with_reducible first | exact bl HB.out | refine below_set ?_ GE296.out | refine below_set ?_ GE297.out | refine below_set ?_ GE298.out | refine bq ?_) hb); (try clear hb); (try clear hb2); (try clear hk); (try clear hi); (try clear ho0); obtain ⟨Ao22, co22, eo22⟩ := Kd.R_slice HO307.out; subst eo22; obtain ⟨hcz23_0, hcz23_1, hcz23_2, hcz23_3, hcz23_4, hcz23_5⟩ := ck6 BK298.out; obtain ⟨hfz23_0, hfz23_1, hfz23_2, hfz23_3, hfz23_4, hfz23_5⟩ := fz6 BK298.out; obtain ⟨hcz24_0, hcz24_1, hcz24_2, hcz24_3, hcz24_4, hcz24_5⟩ := ck6 BK296.out; obtain ⟨hfz24_0, hfz24_1, hfz24_2, hfz24_3, hfz24_4, hfz24_5⟩ := fz6 BK296.out) | ((with_reducible refine gate_callee (f := 52) rfl ?_); refine goesL_ (some 18) rfl rfl Try.func52 (by kernel_rfl) rfl #[.agg #[.int .i64 a0_3, .int .i64 a0_4, .int .i64 a0_5]] rfl (by (try simp only [am_]); first | done | rfl) ?_; (with_reducible refine (laws_toClock.calls a0_3 a0_4 a0_5 t308 t309 t310 _ A5.out).mono ?_); rintro e w25 ⟨rfl, hb⟩; refine ⟨_, rfl, ?_⟩; replace HO301 := Aside0.mk (Kd.R_below (by (repeat apply rl1); exact (Kd.R_mono (Kd.R_far (p := ⟨gb298, 2, none⟩) (Kd.R_types HO301.out BK298.out (by decide)) (fun _ hk => hk.2) (.slice Ao22 t305.length co22)) (fun _ h_ => h_.1))) hb); replace HO304 := Aside0.mk (Kd.R_below (by (repeat apply rl1); exact (Kd.R_mono (Kd.R_far (p := ⟨gb298, 2, none⟩) (Kd.R_types HO304.out BK298.out (by decide)) (fun _ hk => hk.2) (.slice Ao22 t305.length co22)) (fun _ h_ => h_.1))) hb); replace HO307 := Aside0.mk (Kd.R_below (by (repeat apply rl1); exact (Kd.R_mono (Kd.R_far (p := ⟨gb298, 2, none⟩) (Kd.R_types HO307.out BK298.out (by decide)) (fun _ hk => hk.2) (.slice Ao22 t305.length co22)) (fun _ h_ => h_.1))) hb); replace BK296 := Aside0.mk (blk_below (g := gb296) (o := .cells #[.slice A0_0 l0_0.length c0_0, .slice A0_1 l0_1.length c0_1, .slice A0_2 l0_2.length c0_2, .int .i64 a0_3, .int .i64 a0_4, .int .i64 a0_5] 63 (0, 0)) (by (repeat refine bk1 ?_); refine blk_far ?_ NB296_298.out _; (repeat refine bk1 ?_); exact BK296.out) hb); replace BK297 := Aside0.mk (blk_below (g := gb297) (o := .cells #[.slice none 0 0, .slice none 0 0, .slice none 0 0, .int .i64 0, .int .i64 0, .int .i64 0] 30 (0, 0)) (by (repeat refine bk1 ?_); refine blk_far ?_ NB297_298.out _; (repeat refine bk1 ?_); exact BK297.out) hb); replace BK298 := Aside0.mk (blk_below (g := gb298) (o := .cells #[.slice Ao13 t299.length co13, .slice Ao18 t302.length co18, .slice Ao22 t305.length co22, .int .i64 0, .int .i64 0, .int .i64 0] 30 (0, 0)) (by (repeat refine bk1 ?_); refine blk_put (cs := #[.slice Ao13 t299.length co13, .slice Ao18 t302.length co18, .slice none 0 0, .int .i64 0, .int .i64 0, .int .i64 0]) ?_ 2 _ rfl; (repeat refine bk1 ?_); exact BK298.out) hb); replace HB := Aside0.mk (below_step (by repeat with_reducible first | exact bl HB.out | refine below_set ?_ GE296.out | refine below_set ?_ GE297.out | refine below_set ?_ GE298.out | refine bq ?_) hb); (try clear hb); (try clear hb2); (try clear hk); (try clear hi); obtain ⟨hcz26_0, hcz26_1, hcz26_2, hcz26_3, hcz26_4, hcz26_5⟩ := ck6 BK298.out; obtain ⟨hfz26_0, hfz26_1, hfz26_2, hfz26_3, hfz26_4, hfz26_5⟩ := fz6 BK298.out; obtain ⟨hcz27_0, hcz27_1, hcz27_2, hcz27_3, hcz27_4, hcz27_5⟩ := ck6 BK297.out; obtain ⟨hfz27_0, hfz27_1, hfz27_2, hfz27_3, hfz27_4, hfz27_5⟩ := fz6 BK297.out))
 refine bodyPost_ret (results_cell_row rfl _ _ gb297 30 #[.slice Ao13 t299.length co13, .slice Ao18 t302.length co18, .slice Ao22 t305.length co22, .int .i64 t308, .int .i64 t309, .int .i64 t310] (0, 0) _ rfl (by (repeat refine bk1 ?_); refine blk_put (cs := #[.slice Ao13 t299.length co13, .slice Ao18 t302.length co18, .slice Ao22 t305.length co22, .int .i64 t308, .int .i64 t309, .int .i64 0]) ?_ 5 _ rfl; (repeat refine bk1 ?_); refine blk_put (cs := #[.slice Ao13 t299.length co13, .slice Ao18 t302.length co18, .slice Ao22 t305.length co22, .int .i64 t308, .int .i64 0, .int .i64 0]) ?_ 4 _ rfl; (repeat refine bk1 ?_); refine blk_put (cs := #[.slice Ao13 t299.length co13, .slice Ao18 t302.length co18, .slice Ao22 t305.length co22, .int .i64 0, .int .i64 0, .int .i64 0]) ?_ 3 _ rfl; (repeat refine bk1 ?_); refine blk_put (cs := #[.slice Ao13 t299.length co13, .slice Ao18 t302.length co18, .slice none 0 0, .int .i64 0, .int .i64 0, .int .i64 0]) ?_ 2 _ rfl; (repeat refine bk1 ?_); refine blk_put (cs := #[.slice Ao13 t299.length co13, .slice none 0 0, .slice none 0 0, .int .i64 0, .int .i64 0, .int .i64 0]) ?_ 1 _ rfl; (repeat refine bk1 ?_); refine blk_put (cs := #[.slice none 0 0, .slice none 0 0, .slice none 0 0, .int .i64 0, .int .i64 0, .int .i64 0]) ?_ 0 _ rfl; (repeat refine bk1 ?_); refine blk_far ?_ NB297_298.out _; (repeat refine bk1 ?_); refine blk_far ?_ NB297_298.out _; (repeat refine bk1 ?_); refine blk_far ?_ NB297_298.out _; (repeat refine bk1 ?_); exact BK297.out) Try.underlying30 rfl (by kernel_rfl)) rfl ?_
 exact ⟨_, _, _, by first | rfl | (simp [errW_none, errW_some] <;> rfl) | (simp [*, errW_none, errW_some] <;> rfl), by (repeat apply rl1); exact Kd.R_mono (Kd.R_far (p := ⟨gb297, 5, none⟩) (Kd.R_far (p := ⟨gb297, 4, none⟩) (Kd.R_far (p := ⟨gb297, 3, none⟩) (Kd.R_far (p := ⟨gb297, 2, none⟩) (Kd.R_far (p := ⟨gb297, 1, none⟩) (Kd.R_far (p := ⟨gb297, 0, none⟩) (Kd.R_far (p := ⟨gb298, 5, none⟩) (Kd.R_far (p := ⟨gb298, 4, none⟩) (Kd.R_far (p := ⟨gb298, 3, none⟩) (Kd.R_types (Kd.R_types HO301.out BK298.out (by decide)) BK297.out (by decide)) (fun _ hk => hk.1.2) (.int .i64 t308)) (fun _ hk => hk.1.2) (.int .i64 t309)) (fun _ hk => hk.1.2) (.int .i64 t310)) (fun _ hk => hk.2) (.slice Ao13 t299.length co13)) (fun _ hk => hk.2) (.slice Ao18 t302.length co18)) (fun _ hk => hk.2) (.slice Ao22 t305.length co22)) (fun _ hk => hk.2) (.int .i64 t308)) (fun _ hk => hk.2) (.int .i64 t309)) (fun _ hk => hk.2) (.int .i64 t310)) (fun _ hk => trivial), by (repeat apply rl1); exact Kd.R_mono (Kd.R_far (p := ⟨gb297, 5, none⟩) (Kd.R_far (p := ⟨gb297, 4, none⟩) (Kd.R_far (p := ⟨gb297, 3, none⟩) (Kd.R_far (p := ⟨gb297, 2, none⟩) (Kd.R_far (p := ⟨gb297, 1, none⟩) (Kd.R_far (p := ⟨gb297, 0, none⟩) (Kd.R_far (p := ⟨gb298, 5, none⟩) (Kd.R_far (p := ⟨gb298, 4, none⟩) (Kd.R_far (p := ⟨gb298, 3, none⟩) (Kd.R_types (Kd.R_types HO304.out BK298.out (by decide)) BK297.out (by decide)) (fun _ hk => hk.1.2) (.int .i64 t308)) (fun _ hk => hk.1.2) (.int .i64 t309)) (fun _ hk => hk.1.2) (.int .i64 t310)) (fun _ hk => hk.2) (.slice Ao13 t299.length co13)) (fun _ hk => hk.2) (.slice Ao18 t302.length co18)) (fun _ hk => hk.2) (.slice Ao22 t305.length co22)) (fun _ hk => hk.2) (.int .i64 t308)) (fun _ hk => hk.2) (.int .i64 t309)) (fun _ hk => hk.2) (.int .i64 t310)) (fun _ hk => trivial), by (repeat apply rl1); exact Kd.R_mono (Kd.R_far (p := ⟨gb297, 5, none⟩) (Kd.R_far (p := ⟨gb297, 4, none⟩) (Kd.R_far (p := ⟨gb297, 3, none⟩) (Kd.R_far (p := ⟨gb297, 2, none⟩) (Kd.R_far (p := ⟨gb297, 1, none⟩) (Kd.R_far (p := ⟨gb297, 0, none⟩) (Kd.R_far (p := ⟨gb298, 5, none⟩) (Kd.R_far (p := ⟨gb298, 4, none⟩) (Kd.R_far (p := ⟨gb298, 3, none⟩) (Kd.R_types (Kd.R_types HO307.out BK298.out (by decide)) BK297.out (by decide)) (fun _ hk => hk.1.2) (.int .i64 t308)) (fun _ hk => hk.1.2) (.int .i64 t309)) (fun _ hk => hk.1.2) (.int .i64 t310)) (fun _ hk => hk.2) (.slice Ao13 t299.length co13)) (fun _ hk => hk.2) (.slice Ao18 t302.length co18)) (fun _ hk => hk.2) (.slice Ao22 t305.length co22)) (fun _ hk => hk.2) (.int .i64 t308)) (fun _ hk => hk.2) (.int .i64 t309)) (fun _ hk => hk.2) (.int .i64 t310)) (fun _ hk => trivial), by repeat with_reducible first | exact bl HB.out | refine below_set ?_ GE296.out | refine below_set ?_ GE297.out | refine below_set ?_ GE298.out | refine bq ?_⟩

/-! ### laws_toDeed19: function 22 -/
def laws_toDeed19.f (a0_0 : Int) (a0_1 : ByteArray) (a0_2 : Int) (a0_3 : Int) : Option (Int × ByteArray × Int × Int) := some (a0_0, a0_1, a0_2, a0_3)
set_option maxHeartbeats 8000000 in
set_option maxRecDepth 100000 in
theorem laws_toDeed19.calls (a0_0 : Int) (a0_1 : ByteArray) (a0_2 : Int) (a0_3 : Int) (r1 : Int) (r2 : ByteArray) (r3 : Int) (r4 : Int) (w : World) (h : laws_toDeed19.f a0_0 a0_1 a0_2 a0_3 = some (r1, r2, r3, r4)) :
  Calls Try.prog 22 #[.agg #[.int .i64 a0_0, .string a0_1, .int .i64 a0_2, .int .i64 a0_3]] w fun e w' => e = .returned (.agg #[.int .i64 r1, .string r2, .int .i64 r3, .int .i64 r4]) ∧ Below w.heap.size w w' := by
 have hu64 := Try.underlying64
 have hu42 := Try.underlying42
 have HB := Aside0.mk (Below.refl w.heap.size w)
 have H : (some (a0_0, a0_1, a0_2, a0_3)) = some (r1, r2, r3, r4) := h
 clear h
 simp only [Option.some.injEq, Prod.mk.injEq] at H
 obtain ⟨rfl, rfl, rfl, rfl⟩ := H
 go_enter Try.func22, Try.ntmps22
 go_wp2_with (first | ((with_reducible refine gate_dst (N := 1) rfl ?_); refine box_event ?hg (N := 1) ?hd (cs := #[.int .i64 a0_0, .string a0_1, .int .i64 a0_2, .int .i64 a0_3]) (t := 64) ?hr ?_; (case hd => rfl); (case hg => rfl); (case hr => first | (go_simp; done) | (go_simp; rfl)); intro gb311 hg w2 hbox hb; have BK311 := Aside0.mk (hbox); have GW311 := Aside0.mk ((by rw [hg]; exact (below_size (bl HB.out)) : w.heap.size ≤ gb311)); have GE311 := GW311; replace HB := Aside0.mk (below_step (bl HB.out) hb); clear hb hbox hg) | ((with_reducible refine gate_dst (N := 2) rfl ?_); refine box_event ?hg (N := 2) ?hd (cs := #[.int .i64 0, .string (⟨#[]⟩ : ByteArray), .int .i64 0, .int .i64 0]) (t := 42) ?hr ?_; (case hd => rfl); (case hg => rfl); (case hr => first | (go_simp; done) | (go_simp; rfl)); intro gb312 hg w3 hbox hb; have BK312 := Aside0.mk (hbox); have GW312 := Aside0.mk ((by rw [hg]; exact (below_size (by repeat with_reducible first | exact bl HB.out | refine below_set ?_ GE311.out | refine bq ?_)) : w.heap.size ≤ gb312)); have GE312 := GW312; replace HB := Aside0.mk (below_step (by repeat with_reducible first | exact bl HB.out | refine below_set ?_ GE311.out | refine bq ?_) hb); have NB311_312 := nb_ hg BK311.out; have NB312_311 := Aside0.mk NB311_312.out.symm; replace BK311 := Aside0.mk (blk_below (bk BK311.out) hb); clear hb hbox hg) | ((with_reducible refine gate_dst (N := 3) rfl ?_); refine box_event ?hg (N := 3) ?hd (cs := #[.int .i64 0, .string (⟨#[]⟩ : ByteArray), .int .i64 0, .int .i64 0]) (t := 42) ?hr ?_; (case hd => rfl); (case hg => rfl); (case hr => first | (go_simp; done) | (go_simp; rfl)); intro gb313 hg w4 hbox hb; have BK313 := Aside0.mk (hbox); have GW313 := Aside0.mk ((by rw [hg]; exact (below_size (by repeat with_reducible first | exact bl HB.out | refine below_set ?_ GE311.out | refine below_set ?_ GE312.out | refine bq ?_)) : w.heap.size ≤ gb313)); have GE313 := GW313; replace HB := Aside0.mk (below_step (by repeat with_reducible first | exact bl HB.out | refine below_set ?_ GE311.out | refine below_set ?_ GE312.out | refine bq ?_) hb); have NB311_313 := nb_ hg BK311.out; have NB313_311 := Aside0.mk NB311_313.out.symm; replace BK311 := Aside0.mk (blk_below (bk BK311.out) hb); have NB312_313 := nb_ hg BK312.out; have NB313_312 := Aside0.mk NB312_313.out.symm; replace BK312 := Aside0.mk (blk_below (g := gb312) (o := .cells #[.int .i64 0, .string (⟨#[]⟩ : ByteArray), .int .i64 0, .int .i64 0] 42 (0, 0)) (bk BK312.out) hb); clear hb hbox hg; have hnb5 := NB311_312.out; have hnc5 := NB312_311.out; have hnb6 := NB311_313.out; have hnc6 := NB313_311.out; obtain ⟨hcz7_0, hcz7_1, hcz7_2, hcz7_3⟩ := ck4 BK311.out; obtain ⟨hfz7_0, hfz7_1, hfz7_2, hfz7_3⟩ := fz4 BK311.out; have hnb8 := NB313_312.out; have hnc8 := NB312_313.out; obtain ⟨hcz9_0, hcz9_1, hcz9_2, hcz9_3⟩ := ck4 BK313.out; obtain ⟨hfz9_0, hfz9_1, hfz9_2, hfz9_3⟩ := fz4 BK313.out; obtain ⟨hcz10_0, hcz10_1, hcz10_2, hcz10_3⟩ := ck4 BK312.out; obtain ⟨hfz10_0, hfz10_1, hfz10_2, hfz10_3⟩ := fz4 BK312.out))
 refine bodyPost_ret (results_cell_row rfl _ _ gb312 42 #[.int .i64 a0_0, .string a0_1, .int .i64 a0_2, .int .i64 a0_3] (0, 0) _ rfl (by (repeat refine bk1 ?_); refine blk_put (cs := #[.int .i64 a0_0, .string a0_1, .int .i64 a0_2, .int .i64 0]) ?_ 3 _ rfl; (repeat refine bk1 ?_); refine blk_put (cs := #[.int .i64 a0_0, .string a0_1, .int .i64 0, .int .i64 0]) ?_ 2 _ rfl; (repeat refine bk1 ?_); refine blk_put (cs := #[.int .i64 a0_0, .string (⟨#[]⟩ : ByteArray), .int .i64 0, .int .i64 0]) ?_ 1 _ rfl; (repeat refine bk1 ?_); refine blk_put (cs := #[.int .i64 0, .string (⟨#[]⟩ : ByteArray), .int .i64 0, .int .i64 0]) ?_ 0 _ rfl; (repeat refine bk1 ?_); refine blk_far ?_ NB312_313.out _; (repeat refine bk1 ?_); refine blk_far ?_ NB312_313.out _; (repeat refine bk1 ?_); refine blk_far ?_ NB312_313.out _; (repeat refine bk1 ?_); refine blk_far ?_ NB312_313.out _; (repeat refine bk1 ?_); exact BK312.out) Try.underlying42 rfl (by kernel_rfl)) rfl ?_
 exact ⟨by first | rfl | (simp [errW_none, errW_some] <;> rfl) | (simp [*, errW_none, errW_some] <;> rfl), by repeat with_reducible first | exact bl HB.out | refine below_set ?_ GE311.out | refine below_set ?_ GE312.out | refine below_set ?_ GE313.out | refine bq ?_⟩

end Go.Proofs.Ytdimdlifjdbgnaa.PFnExactDoWork
