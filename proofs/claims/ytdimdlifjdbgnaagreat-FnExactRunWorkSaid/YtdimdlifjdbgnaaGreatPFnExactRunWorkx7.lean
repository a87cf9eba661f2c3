import Derived.Test.YtdimdlifjdbgnaaGreatPFnExactRunWorkx6
namespace Go.Proofs.YtdimdlifjdbgnaaGreat.PFnExactRunWork
open Go.RowKit Go.Proofs.YtdimdlifjdbgnaaGreatW.PrintWords Go.Proofs.YtdimdlifjdbgnaaGreatW.PrintLast Go.Proofs.YtdimdlifjdbgnaaGreatW.PrintMore Go.Proofs.YtdimdlifjdbgnaaGreat.Sq
attribute [local go_sem] max2_int min2_int max_two min_two max_three min_three max_four min_four
set_option linter.unusedVariables false
set_option linter.unusedSimpArgs false

-- HAND FROM
open Go.Proofs.YtdimdlifjdbgnaaGreat.Base Go.Proofs.YtdimdlifjdbgnaaGreat.Sq
/-! ### spec.DoWork (by hand) -/
theorem copy_is (l0 : List S86) (l1 : List S88) (l2 : List S90) (p q r : Int) (h : fleetCopyB l0 l1 l2 = true) : spec_l19Copy.f l0 l1 l2 p q r = some (l0, l1, l2, p, q, r) := by
  unfold fleetCopyB at h
  simp only [Bool.and_eq_true, decide_eq_true_eq] at h
  simp [spec_l19Copy.f, h.1, h.2.1, h.2.2]
theorem workF_bad {ts : List S86} {cs : List S88} {ds : List S90} {p q r d0 : Int} {d1 : ByteArray} {d2 d3 : Int} (h : fleetB ts cs ds p q r = false) : workF ts cs ds p q r d0 d1 d2 d3 = (ts, cs, ds, p, q, r, false) := by unfold workF; rw [if_neg (by rw [h]; simp)]
set_option maxHeartbeats 16000000 in
set_option maxRecDepth 100000 in
theorem sdowork_t (A0 : Option Addr) (c0 : Nat) (l0 : List S86) (A1 : Option Addr) (c1 : Nat) (l1 : List S88) (A2 : Option Addr) (c2 : Nat) (l2 : List S90) (p q r d0 : Int) (d1 : ByteArray) (d2 d3 : Int) (w : World)
    (hr0 : Kd.C k86 w A0 l0.length l0) (hc0 : l0.length ≤ c0) (hr1 : Kd.C k88 w A1 l1.length l1) (hc1 : l1.length ≤ c1) (hr2 : Kd.C k90 w A2 l2.length l2) (hc2 : l2.length ≤ c2) (hz : FleetSz l0 l1 l2) (hy : fleetCopyB l0 l1 l2 = true) (hd : d1.size ≤ 140737488355328) :
    Calls Tryz.prog 23 #[.agg #[.slice A0 l0.length c0, .slice A1 l1.length c1, .slice A2 l2.length c2, .int .i64 p, .int .i64 q, .int .i64 r], .agg #[.int .i64 d0, .string d1, .int .i64 d2, .int .i64 d3]] w fun e w' =>
      ∃ v0 v1 v2 : Value, e = .returned (.tuple #[.agg #[v0, v1, v2, .int .i64 (workF l0 l1 l2 p q r d0 d1 d2 d3).2.2.2.1, .int .i64 (workF l0 l1 l2 p q r d0 d1 d2 d3).2.2.2.2.1, .int .i64 (workF l0 l1 l2 p q r d0 d1 d2 d3).2.2.2.2.2.1], .bool (workF l0 l1 l2 p q r d0 d1 d2 d3).2.2.2.2.2.2]) ∧
        Kd.R k86 86 w' w.heap.size (fun _ => True) v0 (workF l0 l1 l2 p q r d0 d1 d2 d3).1 ∧ Kd.R k88 88 w' w.heap.size (fun _ => True) v1 (workF l0 l1 l2 p q r d0 d1 d2 d3).2.1 ∧ Kd.R k90 90 w' w.heap.size (fun _ => True) v2 (workF l0 l1 l2 p q r d0 d1 d2 d3).2.2.1 ∧ Below w.heap.size w w' := by
  have hu1 := Tryz.underlying37
  have hu2 := Tryz.underlying60
  have n1 := below_alloc (Below.refl w.heap.size w) (.cells #[.slice A0 l0.length c0, .slice A1 l1.length c1, .slice A2 l2.length c2, .int .i64 p, .int .i64 q, .int .i64 r] 37 (0, 0))
  have n2 := below_alloc n1 (.cells #[.int .i64 d0, .string d1, .int .i64 d2, .int .i64 d3] 60 (0, 0))
  have n3 := below_alloc n2 (.cells #[.slice none 0 0, .slice none 0 0, .slice none 0 0, .int .i64 0, .int .i64 0, .int .i64 0] 37 (0, 0))
  have m1 := blk_alloc (blk_alloc (blk_new w (.cells #[.slice A0 l0.length c0, .slice A1 l1.length c1, .slice A2 l2.length c2, .int .i64 p, .int .i64 q, .int .i64 r] 37 (0, 0))) (.cells #[.int .i64 d0, .string d1, .int .i64 d2, .int .i64 d3] 60 (0, 0))) (.cells #[.slice none 0 0, .slice none 0 0, .slice none 0 0, .int .i64 0, .int .i64 0, .int .i64 0] 37 (0, 0))
  have m2 := blk_alloc (blk_new (w.alloc (.cells #[.slice A0 l0.length c0, .slice A1 l1.length c1, .slice A2 l2.length c2, .int .i64 p, .int .i64 q, .int .i64 r] 37 (0, 0))) (.cells #[.int .i64 d0, .string d1, .int .i64 d2, .int .i64 d3] 60 (0, 0))) (.cells #[.slice none 0 0, .slice none 0 0, .slice none 0 0, .int .i64 0, .int .i64 0, .int .i64 0] 37 (0, 0))
  have m3 := blk_new ((w.alloc (.cells #[.slice A0 l0.length c0, .slice A1 l1.length c1, .slice A2 l2.length c2, .int .i64 p, .int .i64 q, .int .i64 r] 37 (0, 0))).alloc (.cells #[.int .i64 d0, .string d1, .int .i64 d2, .int .i64 d3] 60 (0, 0))) (.cells #[.slice none 0 0, .slice none 0 0, .slice none 0 0, .int .i64 0, .int .i64 0, .int .i64 0] 37 (0, 0))
  rw [World.size_alloc] at m2
  rw [World.size_alloc, World.size_alloc] at m3
  have HF := Aside0.mk (And.intro m1 (And.intro m2 (And.intro m3 n3)))
  have KC := Aside0.mk (fun w' (h : Below w.heap.size w w') => spec_l19Copy.calls A0 c0 l0 A1 c1 l1 A2 c2 l2 p q r _ _ _ _ _ _ w' (Kd.C_below hr0 h) hc0 (Kd.C_below hr1 h) hc1 (Kd.C_below hr2 h) hc2 (copy_is l0 l1 l2 p q r hy))
  obtain ⟨fb, hfb⟩ : ∃ b, fleetB l0 l1 l2 p q r = b := ⟨_, rfl⟩
  have KO := Aside0.mk (fun w' (h : Below w.heap.size w w') => kb_ (spec_FleetOk.go A0 c0 l0 A1 c1 l1 A2 c2 l2 p q r w' (Kd.C_below hr0 h) hc0 (Kd.C_below hr1 h) hc1 (Kd.C_below hr2 h) hc2 hz) hfb)
  clear hr0 hr1 hr2 hy n1 n2 n3 m1 m2 m3
  go_enter Tryz.func23, Tryz.ntmps23
  go_upto_region 1 with (fail)
  refine world_ (fun W => W.heap[w.heap.size]? = some (.cells #[.slice A0 l0.length c0, .slice A1 l1.length c1, .slice A2 l2.length c2, .int .i64 p, .int .i64 q, .int .i64 r] 37 (0, 0)) ∧ W.heap[w.heap.size + 1]? = some (.cells #[.int .i64 d0, .string d1, .int .i64 d2, .int .i64 d3] 60 (0, 0)) ∧ W.heap[w.heap.size + 1 + 1]? = some (.cells #[.slice none 0 0, .slice none 0 0, .slice none 0 0, .int .i64 0, .int .i64 0, .int .i64 0] 37 (0, 0)) ∧ Below w.heap.size w W) HF.out ?_
  clear HF
  rintro W ⟨BF, BD, BR, HB⟩
  replace BF := Aside0.mk BF
  replace BD := Aside0.mk BD
  replace BR := Aside0.mk BR
  replace HB := Aside0.mk HB
  obtain ⟨f0, f1, f2, f3, f4, f5⟩ := ck6 BF.out
  cases fb with
  | false =>
    have HW := Aside0.mk (workF_bad (d0 := d0) (d1 := d1) (d2 := d2) (d3 := d3) hfb)
    clear hfb
    go_upto_region 2 with (first | (go_at_call 46; (with_reducible refine (KO.out _ HB.out).mono ?_); rintro e w7 ⟨rfl, hb7⟩))
    clear f0 f1 f2 f3 f4 f5
    refine world_ (fun W => W.heap[w.heap.size]? = some (.cells #[.slice A0 l0.length c0, .slice A1 l1.length c1, .slice A2 l2.length c2, .int .i64 p, .int .i64 q, .int .i64 r] 37 (0, 0)) ∧ W.heap[w.heap.size + 1 + 1]? = some (.cells #[.slice none 0 0, .slice none 0 0, .slice none 0 0, .int .i64 0, .int .i64 0, .int .i64 0] 37 (0, 0)) ∧ Below w.heap.size w W) ⟨blk_below BF.out hb7, blk_below BR.out hb7, below_step HB.out hb7⟩ ?_
    clear BF BD BR HB hb7 KO
    rintro W ⟨BF, BR, HB⟩
    replace BF := Aside0.mk BF
    replace BR := Aside0.mk BR
    replace HB := Aside0.mk HB
    obtain ⟨z0, z1, z2, z3, z4, z5⟩ := ck6 BF.out
    go_wp2_with (first | (go_at_call 22; (with_reducible refine (KC.out _ HB.out).mono ?_); rintro e w5 ⟨v0, v1, v2, rfl, hR0, hR1, hR2, hb5⟩; obtain ⟨Y0, y0, rfl⟩ := Kd.R_slice hR0; obtain ⟨Y1, y1, rfl⟩ := Kd.R_slice hR1; obtain ⟨Y2, y2, rfl⟩ := Kd.R_slice hR2; have BR5 := blk_below BR.out hb5) | ((with_reducible refine gate_store (t := 37) (p := 4) rfl ?_); refine stm_ 37 4 (.tmp 12) (w.heap.size + 1 + 1) 0 #[.slice Y0 l0.length y0, .slice Y1 l1.length y1, .slice Y2 l2.length y2, .int .i64 p, .int .i64 q, .int .i64 r] #[.slice none 0 0, .slice none 0 0, .slice none 0 0, .int .i64 0, .int .i64 0, .int .i64 0] #[.slice Y0 l0.length y0, .slice Y1 l1.length y1, .slice Y2 l2.length y2, .int .i64 p, .int .i64 q, .int .i64 r] 37 ?e1 ?e2 ?e3 ?e4 ?e5 ?e6 ?e7 ?e8 ?e9 ?e10 ?_; (case e1 => rfl); (case e2 => rfl); (case e3 => rfl); (case e4 => rfl); (case e5 => rfl); (case e6 => exact BR5); (case e7 => kernel_rfl); (case e8 => exact Nat.le_of_ble_eq_true rfl); (case e9 => kernel_rfl); (case e10 => kernel_rfl); intro w6 hn6 hg6))
    refine bodyPost_ret (results_ct rfl _ _ (w.heap.size + 1 + 1) 37 #[.slice Y0 l0.length y0, .slice Y1 l1.length y1, .slice Y2 l2.length y2, .int .i64 p, .int .i64 q, .int .i64 r] (0, 0) _ rfl hn6 Tryz.underlying37 rfl (by kernel_rfl)) rfl ?_
    rw [HW.out]
    exact ⟨_, _, _, rfl, Kd.R_lower (r_put hR0 BR5 (by decide) hg6) HB.out.size, Kd.R_lower (r_put hR1 BR5 (by decide) hg6) HB.out.size, Kd.R_lower (r_put hR2 BR5 (by decide) hg6) HB.out.size, b_put (below_step HB.out hb5) hg6 (by omega)⟩
  | true =>
    obtain ⟨⟨ts2, cs2, ds2, p2, q2, r2, ok⟩, hO⟩ : ∃ o, workF l0 l1 l2 p q r d0 d1 d2 d3 = o := ⟨_, rfl⟩
    have HO := Aside0.mk hO
    clear hO
    go_upto_region 3 with (first | (go_at_call 46; (with_reducible refine (KO.out _ HB.out).mono ?_); rintro e w7 ⟨rfl, hb7⟩))
    clear f0 f1 f2 f3 f4 f5
    refine world_ (fun W => W.heap[w.heap.size]? = some (.cells #[.slice A0 l0.length c0, .slice A1 l1.length c1, .slice A2 l2.length c2, .int .i64 p, .int .i64 q, .int .i64 r] 37 (0, 0)) ∧ W.heap[w.heap.size + 1]? = some (.cells #[.int .i64 d0, .string d1, .int .i64 d2, .int .i64 d3] 60 (0, 0)) ∧ W.heap[w.heap.size + 1 + 1]? = some (.cells #[.slice none 0 0, .slice none 0 0, .slice none 0 0, .int .i64 0, .int .i64 0, .int .i64 0] 37 (0, 0)) ∧ Below w.heap.size w W) ⟨blk_below BF.out hb7, blk_below BD.out hb7, blk_below BR.out hb7, below_step HB.out hb7⟩ ?_
    clear BF BD BR HB hb7 KO
    clear W
    rintro W ⟨BF, BD, BR, HB⟩
    replace BF := Aside0.mk BF
    replace BD := Aside0.mk BD
    replace BR := Aside0.mk BR
    replace HB := Aside0.mk HB
    have L := Aside0.mk (fun w' (h : Up W w') => And.intro (ck6 (blk_below BF.out h)) (ck4 (blk_below BD.out h)))
    refine start_ (n := 10) (S := Up W) (ds := []) (Sq.M 0 10) (by kernel_rfl) rfl rfl (below_drew (Below.refl _ _)) (fun hS => ?_)
    generalize W.drew = W1 at hS ⊢
    refine rt_ L.out hS 0 14 (Sq.M 1 10) ?_
    refine rt_ L.out hS 2 16 (mn_ 10 5) ?_
    refine join_ (σ := Nat × (Option Addr × Nat) × (Option Addr × Nat) × (Option Addr × Nat) × (Option Addr × Nat × Nat) × (Option Addr × Nat × Nat) × (Option Addr × Nat × Nat) × Int × Int × Int) 2 (Sq.M 8 10) (fun s => [(15, .agg #[.slice s.2.1.1 l0.length s.2.1.2, .slice s.2.2.1.1 l1.length s.2.2.1.2, .slice s.2.2.2.1.1 l2.length s.2.2.2.1.2, .int .i64 p, .int .i64 q, .int .i64 r]), (17, .tuple #[.agg #[.slice s.2.2.2.2.1.1 s.2.2.2.2.1.2.1 s.2.2.2.2.1.2.2, .slice s.2.2.2.2.2.1.1 s.2.2.2.2.2.1.2.1 s.2.2.2.2.2.1.2.2, .slice s.2.2.2.2.2.2.1.1 s.2.2.2.2.2.2.1.2.1 s.2.2.2.2.2.2.1.2.2, .int .i64 s.2.2.2.2.2.2.2.1, .int .i64 s.2.2.2.2.2.2.2.2.1, .int .i64 s.2.2.2.2.2.2.2.2.2], .bool ok]), (13, .tuple #[.agg #[.slice s.2.2.2.2.1.1 s.2.2.2.2.1.2.1 s.2.2.2.2.1.2.2, .slice s.2.2.2.2.2.1.1 s.2.2.2.2.2.1.2.1 s.2.2.2.2.2.1.2.2, .slice s.2.2.2.2.2.2.1.1 s.2.2.2.2.2.2.1.2.1 s.2.2.2.2.2.2.1.2.2, .int .i64 s.2.2.2.2.2.2.2.1, .int .i64 s.2.2.2.2.2.2.2.2.1, .int .i64 s.2.2.2.2.2.2.2.2.2], .bool ok]), (18, .agg #[.slice s.2.2.2.2.1.1 s.2.2.2.2.1.2.1 s.2.2.2.2.1.2.2, .slice s.2.2.2.2.2.1.1 s.2.2.2.2.2.1.2.1 s.2.2.2.2.2.1.2.2, .slice s.2.2.2.2.2.2.1.1 s.2.2.2.2.2.2.1.2.1 s.2.2.2.2.2.2.1.2.2, .int .i64 s.2.2.2.2.2.2.2.1, .int .i64 s.2.2.2.2.2.2.2.2.1, .int .i64 s.2.2.2.2.2.2.2.2.2]), (19, .bool ok), (6, .pointer (some ⟨s.1, 0, none⟩))]) (fun s w' => Up W w' ∧ w'.heap[s.1]? = some (.cells #[.slice none 0 0, .slice none 0 0, .slice none 0 0, .int .i64 0, .int .i64 0, .int .i64 0] 37 (0, 0)) ∧ W.heap.size ≤ s.1 ∧ (ok = true → s.2.2.2.2.2.2.2.1 = p2 ∧ s.2.2.2.2.2.2.2.2.1 = q2 ∧ s.2.2.2.2.2.2.2.2.2 = r2 ∧ Kd.R k86 86 w' W.heap.size (fun _ => True) (.slice s.2.2.2.2.1.1 s.2.2.2.2.1.2.1 s.2.2.2.2.1.2.2) ts2 ∧ Kd.R k88 88 w' W.heap.size (fun _ => True) (.slice s.2.2.2.2.2.1.1 s.2.2.2.2.2.1.2.1 s.2.2.2.2.2.1.2.2) cs2 ∧ Kd.R k90 90 w' W.heap.size (fun _ => True) (.slice s.2.2.2.2.2.2.1.1 s.2.2.2.2.2.2.1.2.1 s.2.2.2.2.2.2.1.2.2) ds2)) ?_ ?_
    rotate_left
    · intro hCont
      refine two_ (i := 1) (j := 7) (Ni := some 15) (Nj := some 6) (Sq.M 3 10) (mn_ 10 133) rfl rfl rfl rfl (by kernel_rfl) (by decide) (by decide) (fun K hK => ?_) (fun K hK => ?_)
      · refine goes_ Tryz.func22 rfl rfl #[.agg #[.slice A0 l0.length c0, .slice A1 l1.length c1, .slice A2 l2.length c2, .int .i64 p, .int .i64 q, .int .i64 r]] (by rfl) rfl rfl (by (try simp only [am_]); first | done | rfl) ?_
        (with_reducible refine (KC.out _ (below_step HB.out hS)).mono ?_)
        rintro e w5 ⟨v0, v1, v2, rfl, hR0, hR1, hR2, hb5⟩
        obtain ⟨Y0, y0, rfl⟩ := Kd.R_slice hR0
        obtain ⟨Y1, y1, rfl⟩ := Kd.R_slice hR1
        obtain ⟨Y2, y2, rfl⟩ := Kd.R_slice hR2
        refine ⟨_, rfl, ?_⟩
        refine hK.out _ _ (below_step hS hb5) (fun hS2 => ?_)
        clear hK K
        have hL0 := Kd.R_lower hR0 hS.size
        have hL1 := Kd.R_lower hR1 hS.size
        have hL2 := Kd.R_lower hR2 hS.size
        clear hR0 hR1 hR2
        refine norm_ (a' := ?_) ?_ ?_
        rotate_left
        · (show Act.put _ (some 15) _ = _; simp only [sp_]; rfl)
        refine two_ (i := 3) (j := 7) (Ni := some 17) (Nj := some 6) (Sq.M 4 10) (mn_ 10 135) rfl rfl rfl rfl (by kernel_rfl) (by decide) (by decide) (fun K hK => ?_) (fun K hK => ?_)
        · refine goes_ Tryz.func47 rfl rfl #[.agg #[.slice Y0 l0.length y0, .slice Y1 l1.length y1, .slice Y2 l2.length y2, .int .i64 p, .int .i64 q, .int .i64 r], .agg #[.int .i64 d0, .string d1, .int .i64 d2, .int .i64 d3]] (by rfl) rfl rfl (by (try simp only [am_]); first | done | rfl) ?_
          (with_reducible refine (sdo_t W Y0 y0 l0 Y1 y1 l1 Y2 y2 l2 p q r d0 d1 d2 d3 _ hS2 hL0 hL1 hL2 hd hz hfb).mono ?_)
          rintro e w8 ⟨V0, m0, n0, V1, m1, n1, V2, m2, n2, P, Q, R, rfl, hb8, ho8, hr8⟩
          rw [HO.out]
          rw [HO.out] at hr8
          dsimp only at hr8
          refine ⟨_, rfl, ?_⟩
          refine hK.out _ _ hb8 (fun hS3 => ?_)
          clear hK K
          refine norm_ (a' := ?_) ?_ ?_
          rotate_left
          · (show Act.put _ (some 17) _ = _; simp only [sp_]; rfl)
          refine ra_ 4 13 (Sq.M 5 10) ?_
          refine ra_ 5 18 (Sq.M 6 10) ?_
          refine ra_ 6 19 (Sq.M 7 10) ?_
          refine one_ (i := 7) (N := some 6) (Sq.M 8 10) rfl rfl (by kernel_rfl) (by decide) (fun K hK => ?_)
          refine box_step ?hg (N := 6) ?hd (cs := #[.slice none 0 0, .slice none 0 0, .slice none 0 0, .int .i64 0, .int .i64 0, .int .i64 0]) (t := 37) ?hr ?_; (case hd => rfl); (case hg => rfl); (case hr => first | (go_simp; done) | (go_simp; rfl))
          intro gb hg w6 hbox hb6
          refine hK.out _ _ (below_step hS3 hb6) (fun hS4 => ?_)
          clear hK K
          refine norm_ (a' := ?_) ?_ ?_
          rotate_left
          · (show Act.put _ (some 6) _ = _; simp only [sp_]; rfl)
          exact norm_ (by simp only [putAll, sp_]) (hCont (gb, (Y0, y0), (Y1, y1), (Y2, y2), (V0, m0, n0), (V1, m1, n1), (V2, m2, n2), P, Q, R) _ ⟨hS4, hbox, by rw [hg]; exact hS3.size, fun h => ⟨(hr8 h).1, (hr8 h).2.1, (hr8 h).2.2.1, Kd.R_below (hr8 h).2.2.2.1 hb6, Kd.R_below (hr8 h).2.2.2.2.1 hb6, Kd.R_below (hr8 h).2.2.2.2.2 hb6⟩⟩)
        · refine box_step ?hg (N := 6) ?hd (cs := #[.slice none 0 0, .slice none 0 0, .slice none 0 0, .int .i64 0, .int .i64 0, .int .i64 0]) (t := 37) ?hr ?_; (case hd => rfl); (case hg => rfl); (case hr => first | (go_simp; done) | (go_simp; rfl))
          intro gb hg w6 hbox hb6
          refine hK.out _ _ (below_step hS2 hb6) (fun hS3 => ?_)
          clear hK K
          refine norm_ (a' := ?_) ?_ ?_
          rotate_left
          · (show Act.put _ (some 6) _ = _; simp only [sp_]; rfl)
          replace hL0 := Kd.R_below hL0 hb6
          replace hL1 := Kd.R_below hL1 hb6
          replace hL2 := Kd.R_below hL2 hb6
          refine one_ (i := 3) (N := some 17) (mn_ 10 143) rfl rfl (by kernel_rfl) (by decide) (fun K hK => ?_)
          refine goes_ Tryz.func47 rfl rfl #[.agg #[.slice Y0 l0.length y0, .slice Y1 l1.length y1, .slice Y2 l2.length y2, .int .i64 p, .int .i64 q, .int .i64 r], .agg #[.int .i64 d0, .string d1, .int .i64 d2, .int .i64 d3]] (by rfl) rfl rfl (by (try simp only [am_]); first | done | rfl) ?_
          (with_reducible refine (sdo_t W Y0 y0 l0 Y1 y1 l1 Y2 y2 l2 p q r d0 d1 d2 d3 _ hS3 hL0 hL1 hL2 hd hz hfb).mono ?_)
          rintro e w8 ⟨V0, m0, n0, V1, m1, n1, V2, m2, n2, P, Q, R, rfl, hb8, ho8, hr8⟩
          rw [HO.out]
          rw [HO.out] at hr8
          dsimp only at hr8
          refine ⟨_, rfl, ?_⟩
          refine hK.out _ _ hb8 (fun hS4 => ?_)
          clear hK K
          refine norm_ (a' := ?_) ?_ ?_
          rotate_left
          · (show Act.put _ (some 17) _ = _; simp only [sp_]; rfl)
          refine ra_ 4 13 (mn_ 10 159) ?_
          refine ra_ 5 18 (mn_ 10 191) ?_
          refine ra_ 6 19 (Sq.M 8 10) ?_
          exact norm_ (by simp only [putAll, sp_]) (hCont (gb, (Y0, y0), (Y1, y1), (Y2, y2), (V0, m0, n0), (V1, m1, n1), (V2, m2, n2), P, Q, R) _ ⟨hS4, blk_only hbox ho8 (Nat.ne_of_lt (blk_lt hbox)) (by decide), by rw [hg]; exact hS2.size, hr8⟩)
      · refine box_step ?hg (N := 6) ?hd (cs := #[.slice none 0 0, .slice none 0 0, .slice none 0 0, .int .i64 0, .int .i64 0, .int .i64 0]) (t := 37) ?hr ?_; (case hd => rfl); (case hg => rfl); (case hr => first | (go_simp; done) | (go_simp; rfl))
        intro gb hg w6 hbox hb6
        refine hK.out _ _ (below_step hS hb6) (fun hS2 => ?_)
        clear hK K
        refine norm_ (a' := ?_) ?_ ?_
        rotate_left
        · (show Act.put _ (some 6) _ = _; simp only [sp_]; rfl)
        refine one_ (i := 1) (N := some 15) (mn_ 10 135) rfl rfl (by kernel_rfl) (by decide) (fun K hK => ?_)
        refine goes_ Tryz.func22 rfl rfl #[.agg #[.slice A0 l0.length c0, .slice A1 l1.length c1, .slice A2 l2.length c2, .int .i64 p, .int .i64 q, .int .i64 r]] (by rfl) rfl rfl (by (try simp only [am_]); first | done | rfl) ?_
        (with_reducible refine (KC.out _ (below_step HB.out hS2)).mono ?_)
        rintro e w5 ⟨v0, v1, v2, rfl, hR0, hR1, hR2, hb5⟩
        obtain ⟨Y0, y0, rfl⟩ := Kd.R_slice hR0
        obtain ⟨Y1, y1, rfl⟩ := Kd.R_slice hR1
        obtain ⟨Y2, y2, rfl⟩ := Kd.R_slice hR2
        refine ⟨_, rfl, ?_⟩
        refine hK.out _ _ (below_step hS2 hb5) (fun hS3 => ?_)
        clear hK K
        have hL0 := Kd.R_lower hR0 hS2.size
        have hL1 := Kd.R_lower hR1 hS2.size
        have hL2 := Kd.R_lower hR2 hS2.size
        clear hR0 hR1 hR2
        refine norm_ (a' := ?_) ?_ ?_
        rotate_left
        · (show Act.put _ (some 15) _ = _; simp only [sp_]; rfl)
        refine one_ (i := 3) (N := some 17) (mn_ 10 143) rfl rfl (by kernel_rfl) (by decide) (fun K hK => ?_)
        refine goes_ Tryz.func47 rfl rfl #[.agg #[.slice Y0 l0.length y0, .slice Y1 l1.length y1, .slice Y2 l2.length y2, .int .i64 p, .int .i64 q, .int .i64 r], .agg #[.int .i64 d0, .string d1, .int .i64 d2, .int .i64 d3]] (by rfl) rfl rfl (by (try simp only [am_]); first | done | rfl) ?_
        (with_reducible refine (sdo_t W Y0 y0 l0 Y1 y1 l1 Y2 y2 l2 p q r d0 d1 d2 d3 _ hS3 hL0 hL1 hL2 hd hz hfb).mono ?_)
        rintro e w8 ⟨V0, m0, n0, V1, m1, n1, V2, m2, n2, P, Q, R, rfl, hb8, ho8, hr8⟩
        rw [HO.out]
        rw [HO.out] at hr8
        dsimp only at hr8
        refine ⟨_, rfl, ?_⟩
        refine hK.out _ _ hb8 (fun hS4 => ?_)
        clear hK K
        refine norm_ (a' := ?_) ?_ ?_
        rotate_left
        · (show Act.put _ (some 17) _ = _; simp only [sp_]; rfl)
        refine ra_ 4 13 (mn_ 10 159) ?_
        refine ra_ 5 18 (mn_ 10 191) ?_
        refine ra_ 6 19 (Sq.M 8 10) ?_
        exact norm_ (by simp only [putAll, sp_]) (hCont (gb, (Y0, y0), (Y1, y1), (Y2, y2), (V0, m0, n0), (V1, m1, n1), (V2, m2, n2), P, Q, R) _ ⟨hS4, blk_only (blk_below hbox hb5) ho8 (Nat.ne_of_lt (blk_lt (blk_below hbox hb5))) (by decide), by rw [hg]; exact hS.size, hr8⟩)
    rintro ⟨gx, ⟨Y0, y0⟩, ⟨Y1, y1⟩, ⟨Y2, y2⟩, ⟨V0, m0, n0⟩, ⟨V1, m1, n1⟩, ⟨V2, m2, n2⟩, P, Q, R⟩ w7 ⟨hS4, hbx, hgx, hr8⟩
    dsimp only at hbx hgx hr8
    refine norm_ (a' := ?_) ?_ ?_
    rotate_left
    · (simp only [putAll, sp_]; rfl)
    refine one_ (i := 8) (N := none) (Sq.M 9 10) rfl rfl (by kernel_rfl) (by decide) (fun K hK => ?_)
    refine sts_ 37 6 (.tmp 18) gx 0 #[.slice V0 m0 n0, .slice V1 m1 n1, .slice V2 m2 n2, .int .i64 P, .int .i64 Q, .int .i64 R] #[.slice none 0 0, .slice none 0 0, .slice none 0 0, .int .i64 0, .int .i64 0, .int .i64 0] #[.slice V0 m0 n0, .slice V1 m1 n1, .slice V2 m2 n2, .int .i64 P, .int .i64 Q, .int .i64 R] 37 (by rfl) rfl rfl rfl rfl hbx (by kernel_rfl) (Nat.le_of_ble_eq_true rfl) (by kernel_rfl) (by kernel_rfl) ?_
    intro w8 hbx8 hg8
    have hS8 := b_put hS4 hg8 hgx
    refine hK.out _ _ hS8 (fun hS9 => ?_)
    clear hK K hS9
    refine ra_ 9 7 (Sq.M 10 10) ?_
    refine done_ (by kernel_rfl) ?_
    cases ok with
    | false =>
      have HW := Aside0.mk (show workF l0 l1 l2 p q r d0 d1 d2 d3 = (l0, l1, l2, p, q, r, false) from (workF_false (by rw [HO.out]; simp)).1)
      clear HO hr8 hfb
      go_upto_region 5 with (fail)
      refine world_ (fun W => W.heap[w.heap.size]? = some (.cells #[.slice A0 l0.length c0, .slice A1 l1.length c1, .slice A2 l2.length c2, .int .i64 p, .int .i64 q, .int .i64 r] 37 (0, 0)) ∧ W.heap[w.heap.size + 1 + 1]? = some (.cells #[.slice none 0 0, .slice none 0 0, .slice none 0 0, .int .i64 0, .int .i64 0, .int .i64 0] 37 (0, 0)) ∧ Below w.heap.size w W) ⟨blk_below BF.out hS8, blk_below BR.out hS8, below_step HB.out hS8⟩ ?_
      clear BF BD BR HB hS8 hbx8 hg8 hbx hS4 L hS hgx
      rintro W ⟨BF, BR, HB⟩
      replace BF := Aside0.mk BF
      replace BR := Aside0.mk BR
      replace HB := Aside0.mk HB
      obtain ⟨z0, z1, z2, z3, z4, z5⟩ := ck6 BF.out
      go_wp2_with (first | (go_at_call 22; (with_reducible refine (KC.out _ HB.out).mono ?_); rintro e w5 ⟨v0, v1, v2, rfl, hR0, hR1, hR2, hb5⟩; obtain ⟨Y0, y0, rfl⟩ := Kd.R_slice hR0; obtain ⟨Y1, y1, rfl⟩ := Kd.R_slice hR1; obtain ⟨Y2, y2, rfl⟩ := Kd.R_slice hR2; have BR5 := blk_below BR.out hb5) | ((with_reducible refine gate_store (t := 37) (p := 4) rfl ?_); refine stm_ 37 4 (.tmp 23) (w.heap.size + 1 + 1) 0 #[.slice Y0 l0.length y0, .slice Y1 l1.length y1, .slice Y2 l2.length y2, .int .i64 p, .int .i64 q, .int .i64 r] #[.slice none 0 0, .slice none 0 0, .slice none 0 0, .int .i64 0, .int .i64 0, .int .i64 0] #[.slice Y0 l0.length y0, .slice Y1 l1.length y1, .slice Y2 l2.length y2, .int .i64 p, .int .i64 q, .int .i64 r] 37 ?e1 ?e2 ?e3 ?e4 ?e5 ?e6 ?e7 ?e8 ?e9 ?e10 ?_; (case e1 => rfl); (case e2 => rfl); (case e3 => rfl); (case e4 => rfl); (case e5 => rfl); (case e6 => exact BR5); (case e7 => kernel_rfl); (case e8 => exact Nat.le_of_ble_eq_true rfl); (case e9 => kernel_rfl); (case e10 => kernel_rfl); intro w6 hn6 hg6))
      refine bodyPost_ret (results_ct rfl _ _ (w.heap.size + 1 + 1) 37 #[.slice Y0 l0.length y0, .slice Y1 l1.length y1, .slice Y2 l2.length y2, .int .i64 p, .int .i64 q, .int .i64 r] (0, 0) _ rfl hn6 Tryz.underlying37 rfl (by kernel_rfl)) rfl ?_
      rw [HW.out]
      exact ⟨_, _, _, rfl, Kd.R_lower (r_put hR0 BR5 (by decide) hg6) HB.out.size, Kd.R_lower (r_put hR1 BR5 (by decide) hg6) HB.out.size, Kd.R_lower (r_put hR2 BR5 (by decide) hg6) HB.out.size, b_put (below_step HB.out hb5) hg6 (by omega)⟩
    | true =>
      obtain ⟨rfl, rfl, rfl, hr0, hr1, hr2⟩ := hr8 rfl
      have HR := Aside0.mk (And.intro (r_put hr0 hbx (by decide) hg8) (And.intro (r_put hr1 hbx (by decide) hg8) (r_put hr2 hbx (by decide) hg8)))
      have BRk := blk_below BR.out hS8
      have BR6 := Aside0.mk BRk
      have HB6 := Aside0.mk (below_step HB.out hS8)
      have HBW := HB.out.size
      obtain ⟨z0, z1, z2, z3, z4, z5⟩ := ck6 hbx8
      clear hr8 hr0 hr1 hr2 hbx hbx8 hg8 hS8 hS4 hS L hfb BF BD BR HB hgx
      go_wp2_with (first | ((with_reducible refine gate_store (t := 37) (p := 4) rfl ?_); refine stm_ 37 4 (.tmp 24) (w.heap.size + 1 + 1) 0 #[.slice V0 m0 n0, .slice V1 m1 n1, .slice V2 m2 n2, .int .i64 P, .int .i64 Q, .int .i64 R] #[.slice none 0 0, .slice none 0 0, .slice none 0 0, .int .i64 0, .int .i64 0, .int .i64 0] #[.slice V0 m0 n0, .slice V1 m1 n1, .slice V2 m2 n2, .int .i64 P, .int .i64 Q, .int .i64 R] 37 ?e1 ?e2 ?e3 ?e4 ?e5 ?e6 ?e7 ?e8 ?e9 ?e10 ?_; (case e1 => rfl); (case e2 => rfl); (case e3 => rfl); (case e4 => rfl); (case e5 => rfl); (case e6 => exact BRk); (case e7 => kernel_rfl); (case e8 => exact Nat.le_of_ble_eq_true rfl); (case e9 => kernel_rfl); (case e10 => kernel_rfl); intro w6 hn6 hg6))
      refine bodyPost_ret (results_ct rfl _ _ (w.heap.size + 1 + 1) 37 #[.slice V0 m0 n0, .slice V1 m1 n1, .slice V2 m2 n2, .int .i64 P, .int .i64 Q, .int .i64 R] (0, 0) _ rfl hn6 Tryz.underlying37 rfl (by kernel_rfl)) rfl ?_
      rw [HO.out]
      exact ⟨_, _, _, rfl, Kd.R_lower (r_put HR.out.1 BR6.out (by decide) hg6) HBW, Kd.R_lower (r_put HR.out.2.1 BR6.out (by decide) hg6) HBW, Kd.R_lower (r_put HR.out.2.2 BR6.out (by decide) hg6) HBW, b_put HB6.out hg6 (by omega)⟩
-- HAND TO

-- HAND FROM
open Go.Proofs.YtdimdlifjdbgnaaGreat.Base Go.Proofs.YtdimdlifjdbgnaaGreat.Sq
abbrev Dd := S60
theorem rd_atD {l : List Dd} {i : Nat} (h : i < l.length) : rd_T60 l (i : Int) = l[i] := by simp [rd_T60, List.getD_eq_getElem?_getD, h]
def Good (ts : List Tk) (cs : List Cr) (ds : List Df) : Prop := fleetSzB ts cs ds = true ∧ fleetCopyB ts cs ds = true
theorem copy_iff {ts : List Tk} {cs : List Cr} {ds : List Df} : fleetCopyB ts cs ds = true ↔ ts.length < 2199023255552 ∧ cs.length < 4398046511104 ∧ ds.length < 4398046511104 := by
  unfold fleetCopyB; simp only [Bool.and_eq_true, decide_eq_true_eq]
theorem mem_set_of {α : Type} {l : List α} {k : Nat} {a x : α} (h : x ∈ l.set k a) : x = a ∨ x ∈ l := by
  rcases List.mem_or_eq_of_mem_set h with h | h
  · exact .inr h
  · exact .inl h
theorem doF_shape {ts : List Tk} {cs : List Cr} {ds : List Df} {p q r d0 : Int} {d1 : ByteArray} {d2 d3 : Int} {ts' : List Tk} {ds' : List Df} {p' q' r' : Int} (h : doF ts cs ds p q r d0 d1 d2 d3 = some (ts', ds', p', q', r')) :
    (ts' = ts ∨ (ts' = workT ts d1 p q r ∧ cutAt (cmpT d1) ts < ts.length)) ∧ (ds' = ds ∨ (∃ k, ds' = ds.take k ++ ⟨d1, d2, r⟩ :: ds.drop k ∧ ds.length < 20) ∨ ∃ k, ds' = ds.eraseIdx k) := by
  unfold doF at h
  by_cases e1 : d0 = 1
  · rw [if_pos e1] at h
    split at h
    · simp only [Option.some.injEq, Prod.mk.injEq] at h
      exact ⟨.inl h.1.symm, .inl h.2.1.symm⟩
    · cases h
  rw [if_neg e1] at h
  by_cases e2 : d0 = 2
  · rw [if_pos e2] at h
    split at h
    · rename_i hb
      simp only [Option.some.injEq, Prod.mk.injEq] at h
      obtain ⟨hm, _⟩ := bsHit_at hb
      exact ⟨.inr ⟨h.1.symm, hm⟩, .inl h.2.1.symm⟩
    · cases h
  rw [if_neg e2] at h
  by_cases e3 : d0 = 3
  · rw [if_pos e3] at h
    split at h
    · rename_i hb
      simp only [Option.some.injEq, Prod.mk.injEq] at h
      simp only [Bool.and_eq_true, decide_eq_true_eq] at hb
      exact ⟨.inl h.1.symm, .inr (.inl ⟨_, h.2.1.symm, hb.2.2.2⟩)⟩
    · cases h
  rw [if_neg e3] at h
  by_cases e4 : d0 = 4
  · rw [if_pos e4] at h
    split at h
    · simp only [Option.some.injEq, Prod.mk.injEq] at h
      exact ⟨.inl h.1.symm, .inr (.inr ⟨_, h.2.1.symm⟩)⟩
    · cases h
  rw [if_neg e4] at h
  split at h
  · split at h
    · simp only [Option.some.injEq, Prod.mk.injEq] at h
      exact ⟨.inl h.1.symm, .inl h.2.1.symm⟩
    · cases h
  · cases h
theorem doF_good {ts : List Tk} {cs : List Cr} {ds : List Df} {p q r d0 : Int} {d1 : ByteArray} {d2 d3 : Int} {ts' : List Tk} {ds' : List Df} {p' q' r' : Int} (hg : Good ts cs ds) (hs : d1.size ≤ 140737488355328) (h : doF ts cs ds p q r d0 d1 d2 d3 = some (ts', ds', p', q', r')) : Good ts' cs ds' := by
  obtain ⟨h1, h2⟩ := doF_shape h
  have z := fleetSz_of.1 hg.1
  have y := copy_iff.1 hg.2
  have T : (∀ x ∈ ts', x.f0.size ≤ 140737488355328) ∧ ts'.length = ts.length := by
    rcases h1 with rfl | ⟨rfl, hm⟩
    · exact ⟨z.t, rfl⟩
    · refine ⟨fun x hx => ?_, by unfold workT; rw [List.length_set]⟩
      rcases mem_set_of hx with rfl | hx
      · show (rd_T86 ts _).f0.size ≤ _
        rw [rd_at86 hm]
        exact z.t _ (List.getElem_mem hm)
      · exact z.t x hx
  have D : (∀ x ∈ ds', x.f0.size ≤ 140737488355328) ∧ ds'.length ≤ max ds.length 20 := by
    rcases h2 with rfl | ⟨k, rfl, hk⟩ | ⟨k, rfl⟩
    · exact ⟨z.d, Nat.le_max_left _ _⟩
    · refine ⟨fun x hx => ?_, ?_⟩
      · rcases List.mem_append.1 hx with hx | hx
        · exact z.d x (List.mem_of_mem_take hx)
        · rcases List.mem_cons.1 hx with rfl | hx
          · exact hs
          · exact z.d x (List.mem_of_mem_drop hx)
      · simp only [List.length_append, List.length_take, List.length_cons, List.length_drop]; omega
    · refine ⟨fun x hx => z.d x (List.mem_of_mem_eraseIdx hx), ?_⟩
      have := List.length_eraseIdx_le ds k
      omega
  exact ⟨fleetSz_of.2 ⟨T.1, z.c, D.1, by rw [T.2]; exact z.tn, z.cn, by have := z.dn; omega⟩, copy_iff.2 ⟨by omega, y.2.1, by omega⟩⟩
theorem workF_good {ts : List Tk} {cs : List Cr} {ds : List Df} {p q r d0 : Int} {d1 : ByteArray} {d2 d3 : Int} (hg : Good ts cs ds) (hs : d1.size ≤ 140737488355328) : (workF ts cs ds p q r d0 d1 d2 d3).2.1 = cs ∧ Good (workF ts cs ds p q r d0 d1 d2 d3).1 cs (workF ts cs ds p q r d0 d1 d2 d3).2.2.1 := by
  by_cases h : (workF ts cs ds p q r d0 d1 d2 d3).2.2.2.2.2.2 = true
  · obtain ⟨_, ts', ds', p', q', r', hD, _, hW⟩ := workF_true h
    rw [hW]
    exact ⟨rfl, doF_good hg hs hD⟩
  · rw [(workF_false h).1]
    exact ⟨rfl, hg⟩
def runF : List Dd → List Tk → List Cr → List Df → Int → Int → Int → List Bool → List Tk × List Cr × List Df × Int × Int × Int × List Bool
  | [], ts, cs, ds, p, q, r, told => (ts, cs, ds, p, q, r, told)
  | d :: l, ts, cs, ds, p, q, r, told => runF l (workF ts cs ds p q r d.f0 d.f1 d.f2 d.f3).1 (workF ts cs ds p q r d.f0 d.f1 d.f2 d.f3).2.1 (workF ts cs ds p q r d.f0 d.f1 d.f2 d.f3).2.2.1 (workF ts cs ds p q r d.f0 d.f1 d.f2 d.f3).2.2.2.1 (workF ts cs ds p q r d.f0 d.f1 d.f2 d.f3).2.2.2.2.1 (workF ts cs ds p q r d.f0 d.f1 d.f2 d.f3).2.2.2.2.2.1 (told ++ [(workF ts cs ds p q r d.f0 d.f1 d.f2 d.f3).2.2.2.2.2.2])
def runW (ts : List Tk) (cs : List Cr) (ds : List Df) (p q r : Int) (l : List Dd) : List Tk × List Cr × List Df × Int × Int × Int × List Bool := if (l.length : Int) > 100 then (ts, cs, ds, p, q, r, []) else runF l ts cs ds p q r []
/-! ### Fleets in boxes (by hand) -/
/-- The three rows of a fleet, among the blocks P. -/
structure Rw (W : World) (b : Nat) (P : Nat → Prop) (A0 : Option Addr) (n0 c0 : Nat) (l0 : List S86) (A1 : Option Addr) (n1 c1 : Nat) (l1 : List S88) (A2 : Option Addr) (n2 c2 : Nat) (l2 : List S90) : Prop where
  r0 : Kd.R k86 86 W b P (.slice A0 n0 c0) l0
  r1 : Kd.R k88 88 W b P (.slice A1 n1 c1) l1
  r2 : Kd.R k90 90 W b P (.slice A2 n2 c2) l2
/-- A fleet in a box (at g). -/
structure Flp (w W : World) (P : Nat → Prop) (g : Nat) (A0 : Option Addr) (n0 c0 : Nat) (l0 : List S86) (A1 : Option Addr) (n1 c1 : Nat) (l1 : List S88) (A2 : Option Addr) (n2 c2 : Nat) (l2 : List S90) (p q r : Int) : Prop where
  g : W.heap[g]? = some (.cells #[.slice A0 n0 c0, .slice A1 n1 c1, .slice A2 n2 c2, .int .i64 p, .int .i64 q, .int .i64 r] 37 (0, 0))
  r : Rw W w.heap.size P A0 n0 c0 l0 A1 n1 c1 l1 A2 n2 c2 l2
theorem blk_kept {w w' : World} {S : Nat → Prop} {g : Nat} {o : Obj} (h : w.heap[g]? = some o) (k : Kept w w' S) (hn : ¬ S g) : w'.heap[g]? = some o := (k.2 g (blk_lt h) hn).trans h
section
variable {w W W' : World} {P P' S : Nat → Prop} {b g g' : Nat} {A0 : Option Addr} {n0 c0 : Nat} {l0 : List S86} {A1 : Option Addr} {n1 c1 : Nat} {l1 : List S88} {A2 : Option Addr} {n2 c2 : Nat} {l2 : List S90} {B0 : Option Addr} {m0 b0 : Nat} {B1 : Option Addr} {m1 b1 : Nat} {B2 : Option Addr} {m2 b2 : Nat} {p q r : Int}
theorem Rw.up (h : Rw W b P A0 n0 c0 l0 A1 n1 c1 l1 A2 n2 c2 l2) (hb : Below W.heap.size W W') : Rw W' b P A0 n0 c0 l0 A1 n1 c1 l1 A2 n2 c2 l2 := ⟨Kd.R_below h.r0 hb, Kd.R_below h.r1 hb, Kd.R_below h.r2 hb⟩
theorem Rw.kept (h : Rw W b P A0 n0 c0 l0 A1 n1 c1 l1 A2 n2 c2 l2) (k : Kept W W' S) (hn : ∀ i, P i → ¬ S i) : Rw W' b P A0 n0 c0 l0 A1 n1 c1 l1 A2 n2 c2 l2 :=
  ⟨Kd.R_step h.r0 fun i hi hl => k.2 i hl (hn i hi), Kd.R_step h.r1 fun i hi hl => k.2 i hl (hn i hi), Kd.R_step h.r2 fun i hi hl => k.2 i hl (hn i hi)⟩
theorem Rw.rng {b' : Nat} (h : Rw W b (fun _ => True) A0 n0 c0 l0 A1 n1 c1 l1 A2 n2 c2 l2) (hb : b' ≤ b) : Rw W b' (fun k => b ≤ k ∧ k < W.heap.size) A0 n0 c0 l0 A1 n1 c1 l1 A2 n2 c2 l2 :=
  ⟨Kd.R_lower (Kd.R_mono (Kd.R_bound h.r0) fun _ hk => ⟨hk.2.1, hk.2.2.1⟩) hb, Kd.R_lower (Kd.R_mono (Kd.R_bound h.r1) fun _ hk => ⟨hk.2.1, hk.2.2.1⟩) hb, Kd.R_lower (Kd.R_mono (Kd.R_bound h.r2) fun _ hk => ⟨hk.2.1, hk.2.2.1⟩) hb⟩
theorem Rw.to (h : Rw W b P A0 n0 c0 l0 A1 n1 c1 l1 A2 n2 c2 l2) (hp : ∀ k, P k → P' k) : Rw W b P' A0 n0 c0 l0 A1 n1 c1 l1 A2 n2 c2 l2 := ⟨Kd.R_mono h.r0 hp, Kd.R_mono h.r1 hp, Kd.R_mono h.r2 hp⟩
theorem Rw.put (h : Rw W b P A0 n0 c0 l0 A1 n1 c1 l1 A2 n2 c2 l2) {cells : Array Value} (hx : W.heap[g]? = some (.cells cells 37 (0, 0))) (hg : W.grownBy W' (some g)) : Rw W' b P A0 n0 c0 l0 A1 n1 c1 l1 A2 n2 c2 l2 :=
  ⟨r_put h.r0 hx (by decide) hg, r_put h.r1 hx (by decide) hg, r_put h.r2 hx (by decide) hg⟩
theorem Flp.up (h : Flp w W P g A0 n0 c0 l0 A1 n1 c1 l1 A2 n2 c2 l2 p q r) (hb : Below W.heap.size W W') : Flp w W' P g A0 n0 c0 l0 A1 n1 c1 l1 A2 n2 c2 l2 p q r := ⟨blk_below h.g hb, h.r.up hb⟩
theorem Flp.kept (h : Flp w W P g A0 n0 c0 l0 A1 n1 c1 l1 A2 n2 c2 l2 p q r) (k : Kept W W' S) (hn : ∀ i, P i → ¬ S i) (hg : ¬ S g) : Flp w W' P g A0 n0 c0 l0 A1 n1 c1 l1 A2 n2 c2 l2 p q r := ⟨blk_kept h.g k hg, h.r.kept k hn⟩
end
theorem infoB : (Tryz.prog.info? 4).map (fun i => (i.zero, i.size, i.bytes)) = some (some (.bool false), 1, 1) := by kernel_rfl
theorem C_of_R {α : Type} {d : Kd α} {e base n c : Nat} {ok : Nat → Prop} {w : World} {A : Option Addr} {xs : List α} (h : d.R e w base ok (.slice A n c) xs) : xs.length ≤ c ∧ n = xs.length ∧ d.C w A xs.length xs := by
  obtain ⟨A', c', he, hl, hr⟩ := Kd.R_reads h
  injection he with h1 h2 h3
  subst h1; subst h2; subst h3
  exact ⟨hl, rfl, hr⟩
theorem Flp.over {w W W' : World} {P : Nat → Prop} {g : Nat} {A0 : Option Addr} {n0 c0 : Nat} {l0 : List S86} {A1 : Option Addr} {n1 c1 : Nat} {l1 : List S88} {A2 : Option Addr} {n2 c2 : Nat} {l2 : List S90} {p q r : Int} (h : Flp w W P g A0 n0 c0 l0 A1 n1 c1 l1 A2 n2 c2 l2 p q r) {v : Value} {told : List Bool} {ok : Nat → Prop} {b : Nat} (ho : Kd.R Kd.bool 4 W b ok v told) (hg : W.grownBy W' v.ownBlock) : Flp w W' P g A0 n0 c0 l0 A1 n1 c1 l1 A2 n2 c2 l2 p q r :=
  ⟨blk_grown h.g hg (Kd.R_ne ho h.g (by decide)), ⟨Kd.R_over' h.r.r0 (Kd.R_typed ho) (by decide) hg, Kd.R_over' h.r.r1 (Kd.R_typed ho) (by decide) hg, Kd.R_over' h.r.r2 (Kd.R_typed ho) (by decide) hg⟩⟩
theorem runF_cons (d : Dd) (l : List Dd) (ts : List Tk) (cs : List Cr) (ds : List Df) (p q r : Int) (told : List Bool) : runF (d :: l) ts cs ds p q r told = runF l (workF ts cs ds p q r d.f0 d.f1 d.f2 d.f3).1 (workF ts cs ds p q r d.f0 d.f1 d.f2 d.f3).2.1 (workF ts cs ds p q r d.f0 d.f1 d.f2 d.f3).2.2.1 (workF ts cs ds p q r d.f0 d.f1 d.f2 d.f3).2.2.2.1 (workF ts cs ds p q r d.f0 d.f1 d.f2 d.f3).2.2.2.2.1 (workF ts cs ds p q r d.f0 d.f1 d.f2 d.f3).2.2.2.2.2.1 (told ++ [(workF ts cs ds p q r d.f0 d.f1 d.f2 d.f3).2.2.2.2.2.2]) := rfl
/-- What the loop of a RunWork carries: the fleet so far (boxed at g), what was told (v); i deeds are done. -/
def RunI (w : World) (l0 : List S86) (l1 : List S88) (l2 : List S90) (p q r : Int) (xs : List S60) (g i : Nat) (v : Value) (W : World) : Prop :=
  ∃ (B0 : Option Addr) (b0 : Nat) (ts : List S86) (B1 : Option Addr) (b1 : Nat) (cs : List S88) (B2 : Option Addr) (b2 : Nat) (ds : List S90) (p1 q1 r1 : Int) (told : List Bool),
    Flp w W (fun _ => True) g B0 ts.length b0 ts B1 cs.length b1 cs B2 ds.length b2 ds p1 q1 r1 ∧ Kd.R Kd.bool 4 W w.heap.size (fun _ => True) v told ∧ W.heap[w.heap.size + 1]? = some (.cells #[.slice none 0 0, .slice none 0 0, .slice none 0 0, .int .i64 0, .int .i64 0, .int .i64 0] 37 (0, 0)) ∧ Below w.heap.size w W ∧ w.heap.size + 1 < g ∧ Good ts cs ds ∧ told.length = i ∧ runF xs l0 l1 l2 p q r [] = runF (xs.drop i) ts cs ds p1 q1 r1 told
abbrev Runs (f : FuncId) : Prop := ∀ (A0 : Option Addr) (c0 : Nat) (l0 : List S86) (A1 : Option Addr) (c1 : Nat) (l1 : List S88) (A2 : Option Addr) (c2 : Nat) (l2 : List S90) (p q r : Int) (A3 : Option Addr) (c3 : Nat) (xs : List S60) (w : World)
    (_ : Kd.C k86 w A0 l0.length l0) (_ : l0.length ≤ c0) (_ : Kd.C k88 w A1 l1.length l1) (_ : l1.length ≤ c1) (_ : Kd.C k90 w A2 l2.length l2) (_ : l2.length ≤ c2) (_ : Kd.C k60 w A3 xs.length xs) (_ : xs.length ≤ c3) (_ : Good l0 l1 l2) (_ : ∀ x ∈ xs, x.f1.size ≤ 140737488355328) (_ : xs.length ≤ 140737488355328),
    Calls Tryz.prog f #[.agg #[.slice A0 l0.length c0, .slice A1 l1.length c1, .slice A2 l2.length c2, .int .i64 p, .int .i64 q, .int .i64 r], .slice A3 xs.length c3] w fun e w' =>
      ∃ (v0 v1 v2 v3 : Value) (ts : List S86) (cs : List S88) (ds : List S90) (p2 q2 r2 : Int) (told : List Bool), runW l0 l1 l2 p q r xs = (ts, cs, ds, p2, q2, r2, told) ∧ e = .returned (.tuple #[.agg #[v0, v1, v2, .int .i64 p2, .int .i64 q2, .int .i64 r2], v3]) ∧
        Kd.R k86 86 w' w.heap.size (fun _ => True) v0 ts ∧ Kd.R k88 88 w' w.heap.size (fun _ => True) v1 cs ∧ Kd.R k90 90 w' w.heap.size (fun _ => True) v2 ds ∧ Kd.R Kd.bool 4 w' w.heap.size (fun _ => True) v3 told ∧ Below w.heap.size w w'
/-! ### spec.RunWork (by hand) -/
set_option maxHeartbeats 16000000 in
set_option maxRecDepth 100000 in
theorem srun_t : Runs 6 := by
  intro A0 c0 l0 A1 c1 l1 A2 c2 l2 p q r A3 c3 xs w hr0 hc0 hr1 hc1 hr2 hc2 hr3 hc3 hgd hs hxn
  have hu1 := Tryz.underlying37
  have hu2 := Tryz.underlying60
  have HC3 := Aside0.mk hr3
  have HGD := Aside0.mk hgd
  have HXS := Aside0.mk hs
  have n1 := below_alloc (Below.refl w.heap.size w) (.cells #[.slice A0 l0.length c0, .slice A1 l1.length c1, .slice A2 l2.length c2, .int .i64 p, .int .i64 q, .int .i64 r] 37 (0, 0))
  have n2 := below_alloc n1 (.cells #[.slice none 0 0, .slice none 0 0, .slice none 0 0, .int .i64 0, .int .i64 0, .int .i64 0] 37 (0, 0))
  have m1 := blk_alloc (blk_new w (.cells #[.slice A0 l0.length c0, .slice A1 l1.length c1, .slice A2 l2.length c2, .int .i64 p, .int .i64 q, .int .i64 r] 37 (0, 0))) (.cells #[.slice none 0 0, .slice none 0 0, .slice none 0 0, .int .i64 0, .int .i64 0, .int .i64 0] 37 (0, 0))
  have m2 := blk_new (w.alloc (.cells #[.slice A0 l0.length c0, .slice A1 l1.length c1, .slice A2 l2.length c2, .int .i64 p, .int .i64 q, .int .i64 r] 37 (0, 0))) (.cells #[.slice none 0 0, .slice none 0 0, .slice none 0 0, .int .i64 0, .int .i64 0, .int .i64 0] 37 (0, 0))
  rw [World.size_alloc] at m2
  have HF := Aside0.mk (And.intro m1 (And.intro m2 n2))
  have KC := Aside0.mk (fun w' (h : Below w.heap.size w w') => spec_l19Copy.calls A0 c0 l0 A1 c1 l1 A2 c2 l2 p q r _ _ _ _ _ _ w' (Kd.C_below hr0 h) hc0 (Kd.C_below hr1 h) hc1 (Kd.C_below hr2 h) hc2 (copy_is l0 l1 l2 p q r HGD.out.2))
  clear hr0 hr1 hr2 hr3 n1 n2 m1 m2 hgd hs
  go_enter Tryz.func6, Tryz.ntmps6
  go_upto_region 1 with (fail)
  refine world_ (fun W => W.heap[w.heap.size]? = some (.cells #[.slice A0 l0.length c0, .slice A1 l1.length c1, .slice A2 l2.length c2, .int .i64 p, .int .i64 q, .int .i64 r] 37 (0, 0)) ∧ W.heap[w.heap.size + 1]? = some (.cells #[.slice none 0 0, .slice none 0 0, .slice none 0 0, .int .i64 0, .int .i64 0, .int .i64 0] 37 (0, 0)) ∧ Below w.heap.size w W) HF.out ?_
  clear HF
  rintro W ⟨BF, BR, HB⟩
  replace BF := Aside0.mk BF
  replace BR := Aside0.mk BR
  replace HB := Aside0.mk HB
  obtain ⟨f0, f1, f2, f3, f4, f5⟩ := ck6 BF.out
  go_upto_region 2 with (first | (go_at_call 22; (with_reducible refine (KC.out _ HB.out).mono ?_); rintro e w5 ⟨v0, v1, v2, rfl, hR0, hR1, hR2, hb5⟩; obtain ⟨B0, b0, rfl⟩ := Kd.R_slice hR0; obtain ⟨B1, b1, rfl⟩ := Kd.R_slice hR1; obtain ⟨B2, b2, rfl⟩ := Kd.R_slice hR2; clear f0 f1 f2 f3 f4 f5))
  have nw := below_alloc (Below.refl w5.heap.size w5) (.cells #[.slice B0 l0.length b0, .slice B1 l1.length b1, .slice B2 l2.length b2, .int .i64 p, .int .i64 q, .int .i64 r] 37 (0, 0))
  have hz1 := blk_lt (blk_below BR.out hb5)
  have HI := Aside0.mk (show Flp w (w5.alloc (.cells #[.slice B0 l0.length b0, .slice B1 l1.length b1, .slice B2 l2.length b2, .int .i64 p, .int .i64 q, .int .i64 r] 37 (0, 0))) (fun _ => True) w5.heap.size B0 l0.length b0 l0 B1 l1.length b1 l1 B2 l2.length b2 l2 p q r ∧ (w5.alloc (.cells #[.slice B0 l0.length b0, .slice B1 l1.length b1, .slice B2 l2.length b2, .int .i64 p, .int .i64 q, .int .i64 r] 37 (0, 0))).heap[w.heap.size + 1]? = some (.cells #[.slice none 0 0, .slice none 0 0, .slice none 0 0, .int .i64 0, .int .i64 0, .int .i64 0] 37 (0, 0)) ∧ Below w.heap.size w (w5.alloc (.cells #[.slice B0 l0.length b0, .slice B1 l1.length b1, .slice B2 l2.length b2, .int .i64 p, .int .i64 q, .int .i64 r] 37 (0, 0))) ∧ w.heap.size + 1 < w5.heap.size from
    ⟨⟨blk_new w5 _, ⟨Kd.R_lower (Kd.R_below hR0 nw) HB.out.size, Kd.R_lower (Kd.R_below hR1 nw) HB.out.size, Kd.R_lower (Kd.R_below hR2 nw) HB.out.size⟩⟩, blk_below (blk_below BR.out hb5) nw, below_step (below_step HB.out hb5) nw, hz1⟩)
  clear nw hz1 hR0 hR1 hR2 hb5 HB BF BR KC
  generalize w5.heap.size = g at HI ⊢
  generalize w5.alloc _ = W0 at HI ⊢
  go_upto_region 3 with (first | ((with_reducible refine gate_dst (N := 13) rfl ?_); refine Kd.R_lit Kd.bool _ 4 ?hg (N := 13) ?hd (xs := ([] : List Bool)) (inner := []) (ok := fun _ => True) (okp := fun _ => True) ?hr ?hp (fun _ hk => hk) trivial (Below.refl _ _) (Nat.le_refl _) (by simp) ?_; (case hd => rfl); (case hg => rfl); (case hr => first | (go_simp; done) | (go_simp; rfl)); (case hp => exact (Reps.none _ _)); intro v3 w6 ho hb6 hg_ hnew_; clear hg_ hnew_))
  obtain ⟨HF, BR, HB, hgw⟩ := HI.out
  have HF := Aside0.mk (HF.up hb6)
  have HO := Aside0.mk (Kd.R_lower ho HB.size)
  have BR := Aside0.mk (blk_below BR hb6)
  have HB := Aside0.mk (below_step HB hb6)
  clear HI ho hb6
  by_cases hbig : (xs.length : Int) > 100
  · have hW : runW l0 l1 l2 p q r xs = (l0, l1, l2, p, q, r, []) := by unfold runW; rw [if_pos hbig]
    have HW := Aside0.mk hW
    have hnb : decide ((xs.length : Int) ≤ 100) = false := decide_eq_false (by omega)
    clear hW
    go_wp2
    go_loopw [7, 8] (fun v7 v8 wr => v7 = v3 ∧ v8 = .int .i64 0 ∧ wr = w6) (fun _ _ _ => 0)
    case atStart => exact ⟨rfl, rfl, rfl⟩
    case round =>
      obtain ⟨rfl, rfl, rfl⟩ := hrel
      obtain ⟨f0, f1, f2, f3, f4, f5⟩ := ck6 HF.out.g
      go_wp2_with (first | ((with_reducible refine gate_store (t := 37) (p := 4) rfl ?_); refine stm_ 37 4 (.tmp 39) (w.heap.size + 1) 0 #[.slice B0 l0.length b0, .slice B1 l1.length b1, .slice B2 l2.length b2, .int .i64 p, .int .i64 q, .int .i64 r] #[.slice none 0 0, .slice none 0 0, .slice none 0 0, .int .i64 0, .int .i64 0, .int .i64 0] #[.slice B0 l0.length b0, .slice B1 l1.length b1, .slice B2 l2.length b2, .int .i64 p, .int .i64 q, .int .i64 r] 37 ?e1 ?e2 ?e3 ?e4 ?e5 ?e6 ?e7 ?e8 ?e9 ?e10 ?_; (case e1 => rfl); (case e2 => rfl); (case e3 => rfl); (case e4 => rfl); (case e5 => rfl); (case e6 => exact BR.out); (case e7 => kernel_rfl); (case e8 => exact Nat.le_of_ble_eq_true rfl); (case e9 => kernel_rfl); (case e10 => kernel_rfl); intro w6 hn6 hg6))
      refine bodyPost_ret (results_ct rfl _ _ (w.heap.size + 1) 37 #[.slice B0 l0.length b0, .slice B1 l1.length b1, .slice B2 l2.length b2, .int .i64 p, .int .i64 q, .int .i64 r] (0, 0) _ rfl hn6 Tryz.underlying37 rfl (by kernel_rfl)) rfl ?_
      exact ⟨_, _, _, _, _, _, _, _, _, _, _, HW.out, rfl, r_put HF.out.r.r0 BR.out (by decide) hg6, r_put HF.out.r.r1 BR.out (by decide) hg6, r_put HF.out.r.r2 BR.out (by decide) hg6, r_put HO.out BR.out (by decide) hg6, b_put HB.out hg6 (by omega)⟩
  have HNB := Aside0.mk hbig
  have HI := Aside0.mk (show RunI w l0 l1 l2 p q r xs g 0 v3 w6 from ⟨B0, b0, l0, B1, b1, l1, B2, b2, l2, p, q, r, [], HF.out, HO.out, BR.out, HB.out, hgw, HGD.out, rfl, rfl⟩)
  clear HF HO BR HB hgw
  go_wp2
  go_loopw [7, 8] (fun v7 v8 wr => ∃ i : Nat, i ≤ xs.length ∧ v8 = .int .i64 i ∧ Aside0 (RunI w l0 l1 l2 p q r xs g i v7 wr)) (fun _ v8 _ => xs.length - (intOf v8).toNat)
  case atStart => exact ⟨0, Nat.zero_le _, rfl, HI⟩
  case round =>
    clear HI
    obtain ⟨i, hi, rfl, HI⟩ := hrel
    obtain ⟨B0, b0, ts, B1, b1, cs, B2, b2, ds, p1, q1, r1, told, hF, hO, hR, hB, hgw, hgd, hti, hrun⟩ := HI.out
    have HF := Aside0.mk hF
    have HO := Aside0.mk hO
    have BR := Aside0.mk hR
    have HB := Aside0.mk hB
    have HGI := Aside0.mk hgd
    have HRUN := Aside0.mk hrun
    clear hF hO hR hB hgd hrun HI
    by_cases hlt : i < xs.length
    · obtain ⟨ad, e0, hx0, hx1, hx2, hx3⟩ := at_T60 (Kd.C_below HC3.out HB.out) (i : Int) (by omega) (by omega)
      cases e0
      simp only [Int.toNat_natCast] at hx0 hx1 hx2 hx3
      have hdz := HXS.out _ (List.getElem_mem hlt)
      rw [← rd_atD hlt] at hdz
      obtain ⟨⟨d0, d1, d2, d3⟩, hX⟩ : ∃ X, rd_T60 xs (i : Int) = X := ⟨_, rfl⟩
      have HDR := Aside0.mk (show xs.drop i = ⟨d0, d1, d2, d3⟩ :: xs.drop (i + 1) by rw [List.drop_eq_getElem_cons hlt, ← rd_atD hlt, hX])
      rw [hX] at hx0 hx1 hx2 hx3 hdz
      clear hX
      dsimp only at hx0 hx1 hx2 hx3 hdz
      obtain ⟨⟨ts2, cs2, ds2, p2, q2, r2, ok⟩, hO⟩ : ∃ o, workF ts cs ds p1 q1 r1 d0 d1 d2 d3 = o := ⟨_, rfl⟩
      have HG2 := Aside0.mk (show Good ts2 cs2 ds2 by have := workF_good (p := p1) (q := q1) (r := r1) (d0 := d0) (d2 := d2) (d3 := d3) HGI.out hdz; rw [hO] at this; obtain ⟨h1, h2⟩ := this; dsimp only at h1 h2; rw [h1]; exact h2)
      have HSTEP := Aside0.mk (show runF xs l0 l1 l2 p q r [] = runF (xs.drop (i + 1)) ts2 cs2 ds2 p2 q2 r2 (told ++ [ok]) by rw [HRUN.out, HDR.out, runF_cons]; simp only [hO])
      have KW := Aside0.mk (fun w' (h : Below wr.heap.size wr w') => sdowork_t B0 b0 ts B1 b1 cs B2 b2 ds p1 q1 r1 d0 d1 d2 d3 w' (Kd.C_below (C_of_R HF.out.r.r0).2.2 h) (C_of_R HF.out.r.r0).1 (Kd.C_below (C_of_R HF.out.r.r1).2.2 h) (C_of_R HF.out.r.r1).1 (Kd.C_below (C_of_R HF.out.r.r2).2.2 h) (C_of_R HF.out.r.r2).1 (fleetSz_of.1 HGI.out.1) HGI.out.2 hdz)
      simp only [hO] at KW
      clear hO HRUN HDR
      have HX := Aside0.mk (And.intro hx0 (And.intro hx1 (And.intro hx2 hx3)))
      clear hx0 hx1 hx2 hx3
      go_upto_region 6 with (fail)
      have L := Aside0.mk (fun w' (h : Up wr w') => (⟨ck (HF.out.up h).g 0 rfl, ck (HF.out.up h).g 1 rfl, ck (HF.out.up h).g 2 rfl, ck (HF.out.up h).g 3 rfl, ck (HF.out.up h).g 4 rfl, ck (HF.out.up h).g 5 rfl, bc h HX.out.1, bc h HX.out.2.1, bc h HX.out.2.2.1, bc h HX.out.2.2.2⟩ : w'.cell? ⟨g, 0, none⟩ = some (.slice B0 ts.length b0) ∧ w'.cell? ⟨g, 1, none⟩ = some (.slice B1 cs.length b1) ∧ w'.cell? ⟨g, 2, none⟩ = some (.slice B2 ds.length b2) ∧ w'.cell? ⟨g, 3, none⟩ = some (.int .i64 p1) ∧ w'.cell? ⟨g, 4, none⟩ = some (.int .i64 q1) ∧ w'.cell? ⟨g, 5, none⟩ = some (.int .i64 r1) ∧ w'.cell? (ad.add (i * 4)) = some (.int .i64 d0) ∧ w'.cell? ⟨(ad.add (i * 4)).block, (ad.add (i * 4)).off + 1, none⟩ = some (.string d1) ∧ w'.cell? ⟨(ad.add (i * 4)).block, (ad.add (i * 4)).off + 2, none⟩ = some (.int .i64 d2) ∧ w'.cell? ⟨(ad.add (i * 4)).block, (ad.add (i * 4)).off + 3, none⟩ = some (.int .i64 d3)))
      refine start_ (n := 12) (S := Up wr) (ds := []) (Sq.M 0 12) (by kernel_rfl) rfl rfl (below_drew (Below.refl _ _)) (fun hS => ?_)
      generalize wr.drew = W1 at hS ⊢
      refine rt_ L.out hS 0 26 (Sq.M 1 12) ?_
      refine ra_ 1 27 (Sq.M 2 12) ?_
      refine ra_ 2 28 (Sq.M 3 12) ?_
      refine ra_ 3 29 (Sq.M 4 12) ?_
      refine rt_ L.out hS 4 30 (Sq.M 5 12) ?_
      refine join_ (σ := Nat × (Option Addr × Nat) × (Option Addr × Nat) × (Option Addr × Nat)) 2 (Sq.M 10 12) (fun s => [(31, .tuple #[.agg #[.slice s.2.1.1 ts2.length s.2.1.2, .slice s.2.2.1.1 cs2.length s.2.2.1.2, .slice s.2.2.2.1 ds2.length s.2.2.2.2, .int .i64 p2, .int .i64 q2, .int .i64 r2], .bool ok]), (25, .tuple #[.agg #[.slice s.2.1.1 ts2.length s.2.1.2, .slice s.2.2.1.1 cs2.length s.2.2.1.2, .slice s.2.2.2.1 ds2.length s.2.2.2.2, .int .i64 p2, .int .i64 q2, .int .i64 r2], .bool ok]), (32, .agg #[.slice s.2.1.1 ts2.length s.2.1.2, .slice s.2.2.1.1 cs2.length s.2.2.1.2, .slice s.2.2.2.1 ds2.length s.2.2.2.2, .int .i64 p2, .int .i64 q2, .int .i64 r2]), (33, .bool ok), (9, .pointer (some ⟨s.1, 0, none⟩))]) (fun s w' => Up wr w' ∧ w'.heap[s.1]? = some (.cells #[.slice none 0 0, .slice none 0 0, .slice none 0 0, .int .i64 0, .int .i64 0, .int .i64 0] 37 (0, 0)) ∧ wr.heap.size ≤ s.1 ∧ Kd.R k86 86 w' wr.heap.size (fun _ => True) (.slice s.2.1.1 ts2.length s.2.1.2) ts2 ∧ Kd.R k88 88 w' wr.heap.size (fun _ => True) (.slice s.2.2.1.1 cs2.length s.2.2.1.2) cs2 ∧ Kd.R k90 90 w' wr.heap.size (fun _ => True) (.slice s.2.2.2.1 ds2.length s.2.2.2.2) ds2) ?_ ?_
      rotate_left
      · intro hCont
        refine two_ (i := 5) (j := 9) (Ni := some 31) (Nj := some 9) (Sq.M 6 12) (mn_ 12 543) rfl rfl rfl rfl (by kernel_rfl) (by decide) (by decide) (fun K hK => ?_) (fun K hK => ?_)
        · refine goes_ Tryz.func23 rfl rfl #[.agg #[.slice B0 ts.length b0, .slice B1 cs.length b1, .slice B2 ds.length b2, .int .i64 p1, .int .i64 q1, .int .i64 r1], .agg #[.int .i64 d0, .string d1, .int .i64 d2, .int .i64 d3]] (by rfl) rfl rfl (by (try simp only [am_]); first | done | rfl) ?_
          (with_reducible refine (KW.out _ hS).mono ?_)
          rintro e w5 ⟨v0, v1, v2, rfl, hR0, hR1, hR2, hb⟩
          obtain ⟨M0, m0, rfl⟩ := Kd.R_slice hR0
          obtain ⟨M1, m1, rfl⟩ := Kd.R_slice hR1
          obtain ⟨M2, m2, rfl⟩ := Kd.R_slice hR2
          refine ⟨_, rfl, ?_⟩
          refine hK.out _ _ (below_step hS hb) (fun hS2 => ?_)
          clear hK K
          refine norm_ (a' := ?_) ?_ ?_
          rotate_left
          · (show Act.put _ (some 31) _ = _; simp only [sp_]; rfl)
          refine ra_ 6 25 (Sq.M 7 12) ?_
          refine ra_ 7 32 (Sq.M 8 12) ?_
          refine ra_ 8 33 (Sq.M 9 12) ?_
          refine one_ (i := 9) (N := some 9) (Sq.M 10 12) rfl rfl (by kernel_rfl) (by decide) (fun K hK => ?_)
          refine box_step ?hg (N := 9) ?hd (cs := #[.slice none 0 0, .slice none 0 0, .slice none 0 0, .int .i64 0, .int .i64 0, .int .i64 0]) (t := 37) ?hr ?_; (case hd => rfl); (case hg => rfl); (case hr => first | (go_simp; done) | (go_simp; rfl))
          intro gb hg w6 hbox hb6
          refine hK.out _ _ (below_step hS2 hb6) (fun hS3 => ?_)
          clear hK K
          refine norm_ (a' := ?_) ?_ ?_
          rotate_left
          · (show Act.put _ (some 9) _ = _; simp only [sp_]; rfl)
          exact norm_ (by simp only [putAll, sp_]) (hCont (gb, (M0, m0), (M1, m1), (M2, m2)) _ ⟨hS3, hbox, by rw [hg]; exact hS2.size, Kd.R_lower (Kd.R_below hR0 hb6) hS.size, Kd.R_lower (Kd.R_below hR1 hb6) hS.size, Kd.R_lower (Kd.R_below hR2 hb6) hS.size⟩)
        · refine box_step ?hg (N := 9) ?hd (cs := #[.slice none 0 0, .slice none 0 0, .slice none 0 0, .int .i64 0, .int .i64 0, .int .i64 0]) (t := 37) ?hr ?_; (case hd => rfl); (case hg => rfl); (case hr => first | (go_simp; done) | (go_simp; rfl))
          intro gb hg w6 hbox hb6
          refine hK.out _ _ (below_step hS hb6) (fun hS2 => ?_)
          clear hK K
          refine norm_ (a' := ?_) ?_ ?_
          rotate_left
          · (show Act.put _ (some 9) _ = _; simp only [sp_]; rfl)
          refine one_ (i := 5) (N := some 31) (mn_ 12 575) rfl rfl (by kernel_rfl) (by decide) (fun K hK => ?_)
          refine goes_ Tryz.func23 rfl rfl #[.agg #[.slice B0 ts.length b0, .slice B1 cs.length b1, .slice B2 ds.length b2, .int .i64 p1, .int .i64 q1, .int .i64 r1], .agg #[.int .i64 d0, .string d1, .int .i64 d2, .int .i64 d3]] (by rfl) rfl rfl (by (try simp only [am_]); first | done | rfl) ?_
          (with_reducible refine (KW.out _ hS2).mono ?_)
          rintro e w5 ⟨v0, v1, v2, rfl, hR0, hR1, hR2, hb⟩
          obtain ⟨M0, m0, rfl⟩ := Kd.R_slice hR0
          obtain ⟨M1, m1, rfl⟩ := Kd.R_slice hR1
          obtain ⟨M2, m2, rfl⟩ := Kd.R_slice hR2
          refine ⟨_, rfl, ?_⟩
          refine hK.out _ _ (below_step hS2 hb) (fun hS3 => ?_)
          clear hK K
          refine rn_ ?_
          refine ra_ 6 25 (mn_ 12 639) ?_
          refine ra_ 7 32 (mn_ 12 767) ?_
          refine ra_ 8 33 (Sq.M 10 12) ?_
          exact norm_ (by simp only [putAll, sp_]) (hCont (gb, (M0, m0), (M1, m1), (M2, m2)) _ ⟨hS3, blk_below hbox hb, by rw [hg]; exact hS.size, Kd.R_lower hR0 hS2.size, Kd.R_lower hR1 hS2.size, Kd.R_lower hR2 hS2.size⟩)
      rintro ⟨gx, ⟨M0, m0⟩, ⟨M1, m1⟩, ⟨M2, m2⟩⟩ w7 ⟨hS4, hbx, hgx, hR0, hR1, hR2⟩
      dsimp only at hbx hgx hR0 hR1 hR2
      refine norm_ (a' := ?_) ?_ ?_
      rotate_left
      · (simp only [putAll, sp_]; rfl)
      refine one_ (i := 10) (N := none) (Sq.M 11 12) rfl rfl (by kernel_rfl) (by decide) (fun K hK => ?_)
      refine sts_ 37 9 (.tmp 32) gx 0 #[.slice M0 ts2.length m0, .slice M1 cs2.length m1, .slice M2 ds2.length m2, .int .i64 p2, .int .i64 q2, .int .i64 r2] #[.slice none 0 0, .slice none 0 0, .slice none 0 0, .int .i64 0, .int .i64 0, .int .i64 0] #[.slice M0 ts2.length m0, .slice M1 cs2.length m1, .slice M2 ds2.length m2, .int .i64 p2, .int .i64 q2, .int .i64 r2] 37 (by rfl) rfl rfl rfl rfl hbx (by kernel_rfl) (Nat.le_of_ble_eq_true rfl) (by kernel_rfl) (by kernel_rfl) ?_
      intro w8 hbx8 hg8
      have hS8 := b_put hS4 hg8 hgx
      refine hK.out _ _ hS8 (fun hS9 => ?_)
      clear hK K hS9
      refine ra_ 11 10 (Sq.M 12 12) ?_
      refine done_ (by kernel_rfl) ?_
      have hgx2 : g < gx := by have := blk_lt HF.out.g; omega
      have HQ := Aside0.mk (show Flp w w8 (fun _ => True) gx M0 ts2.length m0 ts2 M1 cs2.length m1 cs2 M2 ds2.length m2 ds2 p2 q2 r2 from ⟨hbx8, ⟨Kd.R_lower (r_put hR0 hbx (by decide) hg8) HB.out.size, Kd.R_lower (r_put hR1 hbx (by decide) hg8) HB.out.size, Kd.R_lower (r_put hR2 hbx (by decide) hg8) HB.out.size⟩⟩)
      replace HF := Aside0.mk (HF.out.up hS8)
      replace HO := Aside0.mk (Kd.R_below HO.out hS8)
      replace BR := Aside0.mk (blk_below BR.out hS8)
      replace HB := Aside0.mk (below_step HB.out hS8)
      clear hS8 hbx8 hg8 hbx hR0 hR1 hR2 hS4 hgx hS L KW
      obtain ⟨f0, f1, f2, f3, f4, f5⟩ := ck6 HQ.out.g
      go_upto_region 8 with (first | ((with_reducible refine gate_store (t := 37) (p := 6) rfl ?_); refine stm_ 37 6 (.tmp 34) g 0 #[.slice M0 ts2.length m0, .slice M1 cs2.length m1, .slice M2 ds2.length m2, .int .i64 p2, .int .i64 q2, .int .i64 r2] #[.slice B0 ts.length b0, .slice B1 cs.length b1, .slice B2 ds.length b2, .int .i64 p1, .int .i64 q1, .int .i64 r1] #[.slice M0 ts2.length m0, .slice M1 cs2.length m1, .slice M2 ds2.length m2, .int .i64 p2, .int .i64 q2, .int .i64 r2] 37 ?e1 ?e2 ?e3 ?e4 ?e5 ?e6 ?e7 ?e8 ?e9 ?e10 ?_; (case e1 => rfl); (case e2 => rfl); (case e3 => rfl); (case e4 => rfl); (case e5 => rfl); (case e6 => exact HF.out.g); (case e7 => kernel_rfl); (case e8 => exact Nat.le_of_ble_eq_true rfl); (case e9 => kernel_rfl); (case e10 => kernel_rfl); intro w9 hn9 hg9))
      clear f0 f1 f2 f3 f4 f5
      replace HQ := Aside0.mk (show Flp w w9 (fun _ => True) g M0 ts2.length m0 ts2 M1 cs2.length m1 cs2 M2 ds2.length m2 ds2 p2 q2 r2 from ⟨hn9, HQ.out.r.put HF.out.g hg9⟩)
      replace HO := Aside0.mk (r_put HO.out HF.out.g (by decide) hg9)
      replace BR := Aside0.mk (blk_grown BR.out hg9 (fun e => by injection e; omega))
      replace HB := Aside0.mk (b_put HB.out hg9 (by omega))
      clear hn9 hg9 HF
      go_wp2_with (first | ((with_reducible refine gate_dst (N := 38) rfl ?_); refine Kd.R_append Kd.bool (w0 := w) w.heap.size rfl (.tmp 35) (.tmp 37) 38 4 (.bool false) 1 rfl Tryz.underlying38 infoB rfl (by decide) (by omega) u7 told ok [.bool ok] (fun _ => True) (fun _ => False) rfl rfl ?aP (fun _ hk => hk.elim) ?aF ?aO ?aB ?aS ?aL ?_; (case aP => exact rfl); (case aF => exact fun _ _ => trivial); (case aO => exact HO.out); (case aB => exact HB.out); (case aS => exact HB.out.size); (case aL => omega); intro v8 w3 ho hb hg _))
      go_roundw
      case measure => simp [intOf]; omega
      case rel => exact ⟨i + 1, by omega, by go_num, ⟨M0, m0, ts2, M1, m1, cs2, M2, m2, ds2, p2, q2, r2, told ++ [ok], HQ.out.over HO.out hg, ho, blk_grown BR.out hg (Kd.R_ne HO.out BR.out (by decide)), hb, hgw, HG2.out, by rw [List.length_append, hti]; rfl, HSTEP.out⟩⟩
    · obtain rfl : i = xs.length := by omega
      have hr := HRUN.out
      rw [List.drop_length] at hr
      have HW := Aside0.mk (show runW l0 l1 l2 p q r xs = (ts, cs, ds, p1, q1, r1, told) by unfold runW; rw [if_neg (by have := HNB.out; omega)]; exact hr)
      clear hr HRUN
      obtain ⟨f0, f1, f2, f3, f4, f5⟩ := ck6 HF.out.g
      go_wp2_with (first | ((with_reducible refine gate_store (t := 37) (p := 4) rfl ?_); refine stm_ 37 4 (.tmp 39) (w.heap.size + 1) 0 #[.slice B0 ts.length b0, .slice B1 cs.length b1, .slice B2 ds.length b2, .int .i64 p1, .int .i64 q1, .int .i64 r1] #[.slice none 0 0, .slice none 0 0, .slice none 0 0, .int .i64 0, .int .i64 0, .int .i64 0] #[.slice B0 ts.length b0, .slice B1 cs.length b1, .slice B2 ds.length b2, .int .i64 p1, .int .i64 q1, .int .i64 r1] 37 ?e1 ?e2 ?e3 ?e4 ?e5 ?e6 ?e7 ?e8 ?e9 ?e10 ?_; (case e1 => rfl); (case e2 => rfl); (case e3 => rfl); (case e4 => rfl); (case e5 => rfl); (case e6 => exact BR.out); (case e7 => kernel_rfl); (case e8 => exact Nat.le_of_ble_eq_true rfl); (case e9 => kernel_rfl); (case e10 => kernel_rfl); intro w6 hn6 hg6))
      refine bodyPost_ret (results_ct rfl _ _ (w.heap.size + 1) 37 #[.slice B0 ts.length b0, .slice B1 cs.length b1, .slice B2 ds.length b2, .int .i64 p1, .int .i64 q1, .int .i64 r1] (0, 0) _ rfl hn6 Tryz.underlying37 rfl (by kernel_rfl)) rfl ?_
      exact ⟨_, _, _, _, _, _, _, _, _, _, _, HW.out, rfl, r_put HF.out.r.r0 BR.out (by decide) hg6, r_put HF.out.r.r1 BR.out (by decide) hg6, r_put HF.out.r.r2 BR.out (by decide) hg6, r_put HO.out BR.out (by decide) hg6, b_put HB.out hg6 (by omega)⟩
-- HAND TO

/-! ### laws_toClock: function 27 -/
def laws_toClock.f (a0_0 : Int) (a0_1 : Int) (a0_2 : Int) : Option (Int × Int × Int) := some (a0_0, a0_1, a0_2)
set_option maxHeartbeats 8000000 in
set_option maxRecDepth 100000 in
theorem laws_toClock.calls (a0_0 : Int) (a0_1 : Int) (a0_2 : Int) (r1 : Int) (r2 : Int) (r3 : Int) (w : World) (h : laws_toClock.f a0_0 a0_1 a0_2 = some (r1, r2, r3)) :
  Calls Tryz.prog 27 #[.agg #[.int .i64 a0_0, .int .i64 a0_1, .int .i64 a0_2]] w fun e w' => e = .returned (.agg #[.int .i64 r1, .int .i64 r2, .int .i64 r3]) ∧ Below w.heap.size w w' := by
 have hu26 := Tryz.underlying26
 have hu35 := Tryz.underlying35
 have HB := Aside0.mk (Below.refl w.heap.size w)
 have H : (some (a0_0, a0_1, a0_2)) = some (r1, r2, r3) := h
 clear h
 simp only [Option.some.injEq, Prod.mk.injEq] at H
 obtain ⟨rfl, rfl, rfl⟩ := H
 go_enter Tryz.func27, Tryz.ntmps27
 go_wp2_with (first | ((with_reducible refine gate_dst (N := 1) rfl ?_); refine box_event ?hg (N := 1) ?hd (cs := #[.int .i64 a0_0, .int .i64 a0_1, .int .i64 a0_2]) (t := 26) ?hr ?_; (case hd => rfl); (case hg => rfl); (case hr => first | (go_simp; done) | (go_simp; rfl)); intro gb163 hg w2 hbox hb; have BK163 := Aside0.mk (hbox); have GW163 := Aside0.mk ((by rw [hg]; exact (below_size (bl HB.out)) : w.heap.size ≤ gb163)); have GE163 := GW163; replace HB := Aside0.mk (below_step (bl HB.out) hb); clear hb hbox hg) | ((with_reducible refine gate_dst (N := 2) rfl ?_); refine box_event ?hg (N := 2) ?hd (cs := #[.int .i64 0, .int .i64 0, .int .i64 0]) (t := 35) ?hr ?_; (case hd => rfl); (case hg => rfl); (case hr => first | (go_simp; done) | (go_simp; rfl)); intro gb164 hg w3 hbox hb; have BK164 := Aside0.mk (hbox); have GW164 := Aside0.mk ((by rw [hg]; exact (below_size (by repeat with_reducible first | exact bl HB.out | refine below_set ?_ GE163.out | refine bq ?_)) : w.heap.size ≤ gb164)); have GE164 := GW164; replace HB := Aside0.mk (below_step (by repeat with_reducible first | exact bl HB.out | refine below_set ?_ GE163.out | refine bq ?_) hb); have NB163_164 := nb_ hg BK163.out; have NB164_163 := Aside0.mk NB163_164.out.symm; replace BK163 := Aside0.mk (blk_below (bk BK163.out) hb); clear hb hbox hg) | ((with_reducible refine gate_dst (N := 3) rfl ?_); refine box_event ?hg (N := 3) ?hd (cs := #[.int .i64 0, .int .i64 0, .int .i64 0]) (t := 35) ?hr ?_; (case hd => rfl); (case hg => rfl); (case hr => first | (go_simp; done) | (go_simp; rfl)); intro gb165 hg w4 hbox hb; have BK165 := Aside0.mk (hbox); have GW165 := Aside0.mk ((by rw [hg]; exact (below_size (by repeat with_reducible first | exact bl HB.out | refine below_set ?_ GE163.out | refine below_set ?_ GE164.out | refine bq ?_)) : w.heap.size ≤ gb165)); have GE165 := GW165; replace HB := Aside0.mk (below_step (by repeat with_reducible first | exact bl HB.out | refine below_set ?_ GE163.out | refine below_set ?_ GE164.out | refine bq ?_) hb); have NB163_165 := nb_ hg BK163.out; have NB165_163 := Aside0.mk NB163_165.out.symm; replace BK163 := Aside0.mk (blk_below (bk BK163.out) hb); have NB164_165 := nb_ hg BK164.out; have NB165_164 := Aside0.mk NB164_165.out.symm; replace BK164 := Aside0.mk (blk_below (bk BK164.out) hb); clear hb hbox hg; have hnb5 := NB163_164.out; have hnc5 := NB164_163.out; have hnb6 := NB163_165.out; have hnc6 := NB165_163.out; obtain ⟨hcz7_0, hcz7_1, hcz7_2⟩ := ck3 BK163.out; obtain ⟨hfz7_0, hfz7_1, hfz7_2⟩ := fz3 BK163.out; have hnb8 := NB165_164.out; have hnc8 := NB164_165.out; obtain ⟨hcz9_0, hcz9_1, hcz9_2⟩ := ck3 BK165.out; obtain ⟨hfz9_0, hfz9_1, hfz9_2⟩ := fz3 BK165.out; obtain ⟨hcz10_0, hcz10_1, hcz10_2⟩ := ck3 BK164.out; obtain ⟨hfz10_0, hfz10_1, hfz10_2⟩ := fz3 BK164.out))
 refine bodyPost_ret (results_cell_row rfl _ _ gb164 35 #[.int .i64 a0_0, .int .i64 a0_1, .int .i64 a0_2] (0, 0) _ rfl (by (repeat refine bk1 ?_); refine blk_put (cs := #[.int .i64 a0_0, .int .i64 a0_1, .int .i64 0]) ?_ 2 _ rfl; (repeat refine bk1 ?_); refine blk_put (cs := #[.int .i64 a0_0, .int .i64 0, .int .i64 0]) ?_ 1 _ rfl; (repeat refine bk1 ?_); refine blk_put (cs := #[.int .i64 0, .int .i64 0, .int .i64 0]) ?_ 0 _ rfl; (repeat refine bk1 ?_); refine blk_far ?_ NB164_165.out _; (repeat refine bk1 ?_); refine blk_far ?_ NB164_165.out _; (repeat refine bk1 ?_); refine blk_far ?_ NB164_165.out _; (repeat refine bk1 ?_); exact BK164.out) Tryz.underlying35 rfl (by kernel_rfl)) rfl ?_
 exact ⟨by first | rfl | (simp [errW_none, errW_some] <;> rfl) | (simp [*, errW_none, errW_some] <;> rfl), by repeat with_reducible first | exact bl HB.out | refine below_set ?_ GE163.out | refine below_set ?_ GE164.out | refine below_set ?_ GE165.out | refine bq ?_⟩

/-! ### laws_toTask: function 48 -/
def laws_toTask.f (a0_0 : ByteArray) (a0_1 : Int) (a0_2 : Int) (a0_3 : Int) (a0_4 : Int) (a0_5 : Int) (a0_6 : Int) : Option (ByteArray × Int × Int × Int × Int × Int × Int) := (laws_toClock.f a0_4 a0_5 a0_6).bind fun bt169 => (some (a0_0, a0_1, a0_2, a0_3, bt169.1, bt169.2.1, bt169.2.2))
set_option maxHeartbeats 8000000 in
set_option maxRecDepth 100000 in
theorem laws_toTask.calls (a0_0 : ByteArray) (a0_1 : Int) (a0_2 : Int) (a0_3 : Int) (a0_4 : Int) (a0_5 : Int) (a0_6 : Int) (r1 : ByteArray) (r2 : Int) (r3 : Int) (r4 : Int) (r5 : Int) (r6 : Int) (r7 : Int) (w : World) (h : laws_toTask.f a0_0 a0_1 a0_2 a0_3 a0_4 a0_5 a0_6 = some (r1, r2, r3, r4, r5, r6, r7)) :
  Calls Tryz.prog 48 #[.agg #[.string a0_0, .int .i64 a0_1, .int .i64 a0_2, .int .i64 a0_3, .int .i64 a0_4, .int .i64 a0_5, .int .i64 a0_6]] w fun e w' => e = .returned (.agg #[.string r1, .int .i64 r2, .int .i64 r3, .int .i64 r4, .int .i64 r5, .int .i64 r6, .int .i64 r7]) ∧ Below w.heap.size w w' := by
 have hu77 := Tryz.underlying77
 have hu86 := Tryz.underlying86
 have hu26 := Tryz.underlying26
 have hu35 := Tryz.underlying35
 have HB := Aside0.mk (Below.refl w.heap.size w)
 have H : ((laws_toClock.f a0_4 a0_5 a0_6).bind fun bt169 => (some (a0_0, a0_1, a0_2, a0_3, bt169.1, bt169.2.1, bt169.2.2))) = some (r1, r2, r3, r4, r5, r6, r7) := h
 clear h
 replace H := Option.bind_eq_some_iff.mp H
 obtain ⟨⟨t169, t170, t171⟩, A20, H⟩ := H
 replace H : (some (a0_0, a0_1, a0_2, a0_3, t169, t170, t171)) = some (r1, r2, r3, r4, r5, r6, r7) := H
 have A2 := Aside0.mk A20
 clear A20
 simp only [Option.some.injEq, Prod.mk.injEq] at H
 obtain ⟨rfl, rfl, rfl, rfl, rfl, rfl, rfl⟩ := H
 go_enter Tryz.func48, Tryz.ntmps48
 go_wp2_with (first | ((with_reducible refine gate_dst (N := 1) rfl ?_); refine box_event ?hg (N := 1) ?hd (cs := #[.string a0_0, .int .i64 a0_1, .int .i64 a0_2, .int .i64 a0_3, .int .i64 a0_4, .int .i64 a0_5, .int .i64 a0_6]) (t := 77) ?hr ?_; (case hd => rfl); (case hg => rfl); (case hr => first | (go_simp; done) | (go_simp; rfl)); intro gb166 hg w3 hbox hb; have BK166 := Aside0.mk (hbox); have GW166 := Aside0.mk ((by rw [hg]; exact (below_size (bl HB.out)) : w.heap.size ≤ gb166)); have GE166 := GW166; replace HB := Aside0.mk (below_step (bl HB.out) hb); clear hb hbox hg) | ((with_reducible refine gate_dst (N := 2) rfl ?_); refine box_event ?hg (N := 2) ?hd (cs := #[.string (⟨#[]⟩ : ByteArray), .int .i64 0, .int .i64 0, .int .i64 0, .int .i64 0, .int .i64 0, .int .i64 0]) (t := 86) ?hr ?_; (case hd => rfl); (case hg => rfl); (case hr => first | (go_simp; done) | (go_simp; rfl)); intro gb167 hg w4 hbox hb; have BK167 := Aside0.mk (hbox); have GW167 := Aside0.mk ((by rw [hg]; exact (below_size (by repeat with_reducible first | exact bl HB.out | refine below_set ?_ GE166.out | refine bq ?_)) : w.heap.size ≤ gb167)); have GE167 := GW167; replace HB := Aside0.mk (below_step (by repeat with_reducible first | exact bl HB.out | refine below_set ?_ GE166.out | refine bq ?_) hb); have NB166_167 := nb_ hg BK166.out; have NB167_166 := Aside0.mk NB166_167.out.symm; replace BK166 := Aside0.mk (blk_below (bk BK166.out) hb); clear hb hbox hg) | ((with_reducible refine gate_dst (N := 3) rfl ?_); refine box_event ?hg (N := 3) ?hd (cs := #[.string (⟨#[]⟩ : ByteArray), .int .i64 0, .int .i64 0, .int .i64 0, .int .i64 0, .int .i64 0, .int .i64 0]) (t := 86) ?hr ?_; (case hd => rfl); (case hg => rfl); (case hr => first | (go_simp; done) | (go_simp; rfl)); intro gb168 hg w5 hbox hb; have BK168 := Aside0.mk (hbox); have GW168 := Aside0.mk ((by rw [hg]; exact (below_size (by repeat with_reducible first | exact bl HB.out | refine below_set ?_ GE166.out | refine below_set ?_ GE167.out | refine bq ?_)) : w.heap.size ≤ gb168)); have GE168 := GW168; replace HB := Aside0.mk (below_step (by repeat with_reducible first | exact bl HB.out | refine below_set ?_ GE166.out | refine below_set ?_ GE167.out | refine bq ?_) hb); have NB166_168 := nb_ hg BK166.out; have NB168_166 := Aside0.mk NB166_168.out.symm; replace BK166 := Aside0.mk (blk_below (bk BK166.out) hb); have NB167_168 := nb_ hg BK167.out; have NB168_167 := Aside0.mk NB167_168.out.symm; replace BK167 := Aside0.mk (blk_below (g := gb167) (o := .cells #[.string (⟨#[]⟩ : ByteArray), .int .i64 0, .int .i64 0, .int .i64 0, .int .i64 0, .int .i64 0, .int .i64 0] 86 (0, 0)) (bk BK167.out) hb); clear hb hbox hg; have hnb6 := NB166_167.out; have hnc6 := NB167_166.out; have hnb7 := NB166_168.out; have hnc7 := NB168_166.out; obtain ⟨hcz8_0, hcz8_1, hcz8_2, hcz8_3, hcz8_4, hcz8_5, hcz8_6⟩ := ck7 BK166.out; obtain ⟨hfz8_0, hfz8_1, hfz8_2, hfz8_3, hfz8_4, hfz8_5, hfz8_6⟩ := fz7 BK166.out; have hnb9 := NB168_167.out; have hnc9 := NB167_168.out; obtain ⟨hcz10_0, hcz10_1, hcz10_2, hcz10_3, hcz10_4, hcz10_5, hcz10_6⟩ := ck7 BK168.out; obtain ⟨hfz10_0, hfz10_1, hfz10_2, hfz10_3, hfz10_4, hfz10_5, hfz10_6⟩ := fz7 BK168.out) | ((with_reducible refine gate_callee (f := 27) rfl ?_); refine goesL_ (some 18) rfl rfl Tryz.func27 (by kernel_rfl) rfl #[.agg #[.int .i64 a0_4, .int .i64 a0_5, .int .i64 a0_6]] rfl (by (try simp only [am_]); first | done | rfl) ?_; (with_reducible refine (laws_toClock.calls a0_4 a0_5 a0_6 t169 t170 t171 _ A2.out).mono ?_); rintro e w11 ⟨rfl, hb⟩; refine ⟨_, rfl, ?_⟩; replace BK166 := Aside0.mk (blk_below (g := gb166) (o := .cells #[.string a0_0, .int .i64 a0_1, .int .i64 a0_2, .int .i64 a0_3, .int .i64 a0_4, .int .i64 a0_5, .int .i64 a0_6] 77 (0, 0)) (by (repeat refine bk1 ?_); refine blk_far ?_ NB166_168.out _; (repeat refine bk1 ?_); refine blk_far ?_ NB166_168.out _; (repeat refine bk1 ?_); refine blk_far ?_ NB166_168.out _; (repeat refine bk1 ?_); refine blk_far ?_ NB166_168.out _; (repeat refine bk1 ?_); exact BK166.out) hb); replace BK167 := Aside0.mk (blk_below (g := gb167) (o := .cells #[.string (⟨#[]⟩ : ByteArray), .int .i64 0, .int .i64 0, .int .i64 0, .int .i64 0, .int .i64 0, .int .i64 0] 86 (0, 0)) (by (repeat refine bk1 ?_); refine blk_far ?_ NB167_168.out _; (repeat refine bk1 ?_); refine blk_far ?_ NB167_168.out _; (repeat refine bk1 ?_); refine blk_far ?_ NB167_168.out _; (repeat refine bk1 ?_); refine blk_far ?_ NB167_168.out _; (repeat refine bk1 ?_); exact BK167.out) hb); replace BK168 := Aside0.mk (blk_below (g := gb168) (o := .cells #[.string a0_0, .int .i64 a0_1, .int .i64 a0_2, .int .i64 a0_3, .int .i64 0, .int .i64 0, .int .i64 0] 86 (0, 0)) (by (repeat refine bk1 ?_); refine blk_put (cs := #[.string a0_0, .int .i64 a0_1, .int .i64 a0_2, .int .i64 0, .int .i64 0, .int .i64 0, .int .i64 0]) ?_ 3 _ rfl; (repeat refine bk1 ?_); refine blk_put (cs := #[.string a0_0, .int .i64 a0_1, .int .i64 0, .int .i64 0, .int .i64 0, .int .i64 0, .int .i64 0]) ?_ 2 _ rfl; (repeat refine bk1 ?_); refine blk_put (cs := #[.string a0_0, .int .i64 0, .int .i64 0, .int .i64 0, .int .i64 0, .int .i64 0, .int .i64 0]) ?_ 1 _ rfl; (repeat refine bk1 ?_); refine blk_put (cs := #[.string (⟨#[]⟩ : ByteArray), .int .i64 0, .int .i64 0, .int .i64 0, .int .i64 0, .int .i64 0, .int .i64 0]) ?_ 0 _ rfl; (repeat refine bk1 ?_); exact BK168.out) hb); replace HB := Aside0.mk (below_step (by repeat with_reducible first | exact bl HB.out | refine below_set ?_ GE166.out | refine below_set ?_ GE167.out | refine below_set ?_ GE168.out | refine bq ?_) hb); (try clear hb); (try clear hb2); (try clear hk); (try clear hi); obtain ⟨hcz12_0, hcz12_1, hcz12_2, hcz12_3, hcz12_4, hcz12_5, hcz12_6⟩ := ck7 BK168.out; obtain ⟨hfz12_0, hfz12_1, hfz12_2, hfz12_3, hfz12_4, hfz12_5, hfz12_6⟩ := fz7 BK168.out; obtain ⟨hcz13_0, hcz13_1, hcz13_2, hcz13_3, hcz13_4, hcz13_5, hcz13_6⟩ := ck7 BK167.out; obtain ⟨hfz13_0, hfz13_1, hfz13_2, hfz13_3, hfz13_4, hfz13_5, hfz13_6⟩ := fz7 BK167.out))
 refine bodyPost_ret (results_cell_row rfl _ _ gb167 86 #[.string a0_0, .int .i64 a0_1, .int .i64 a0_2, .int .i64 a0_3, .int .i64 t169, .int .i64 t170, .int .i64 t171] (0, 0) _ rfl (by (repeat refine bk1 ?_); refine blk_put (cs := #[.string a0_0, .int .i64 a0_1, .int .i64 a0_2, .int .i64 a0_3, .int .i64 t169, .int .i64 t170, .int .i64 0]) ?_ 6 _ rfl; (repeat refine bk1 ?_); refine blk_put (cs := #[.string a0_0, .int .i64 a0_1, .int .i64 a0_2, .int .i64 a0_3, .int .i64 t169, .int .i64 0, .int .i64 0]) ?_ 5 _ rfl; (repeat refine bk1 ?_); refine blk_put (cs := #[.string a0_0, .int .i64 a0_1, .int .i64 a0_2, .int .i64 a0_3, .int .i64 0, .int .i64 0, .int .i64 0]) ?_ 4 _ rfl; (repeat refine bk1 ?_); refine blk_put (cs := #[.string a0_0, .int .i64 a0_1, .int .i64 a0_2, .int .i64 0, .int .i64 0, .int .i64 0, .int .i64 0]) ?_ 3 _ rfl; (repeat refine bk1 ?_); refine blk_put (cs := #[.string a0_0, .int .i64 a0_1, .int .i64 0, .int .i64 0, .int .i64 0, .int .i64 0, .int .i64 0]) ?_ 2 _ rfl; (repeat refine bk1 ?_); refine blk_put (cs := #[.string a0_0, .int .i64 0, .int .i64 0, .int .i64 0, .int .i64 0, .int .i64 0, .int .i64 0]) ?_ 1 _ rfl; (repeat refine bk1 ?_); refine blk_put (cs := #[.string (⟨#[]⟩ : ByteArray), .int .i64 0, .int .i64 0, .int .i64 0, .int .i64 0, .int .i64 0, .int .i64 0]) ?_ 0 _ rfl; (repeat refine bk1 ?_); refine blk_far ?_ NB167_168.out _; (repeat refine bk1 ?_); refine blk_far ?_ NB167_168.out _; (repeat refine bk1 ?_); refine blk_far ?_ NB167_168.out _; (repeat refine bk1 ?_); exact BK167.out) Tryz.underlying86 rfl (by kernel_rfl)) rfl ?_
 exact ⟨by first | rfl | (simp [errW_none, errW_some] <;> rfl) | (simp [*, errW_none, errW_some] <;> rfl), by repeat with_reducible first | exact bl HB.out | refine below_set ?_ GE166.out | refine below_set ?_ GE167.out | refine below_set ?_ GE168.out | refine bq ?_⟩

/-! ### laws_toTaskS: function 24 -/
def laws_toTaskS.l0 : Nat → List (S77) → List (S86) → Int → Option ((List (S86)))
 | 0, _, _, _ => none
 | k + 1, x0, x3, x4 => if x4 < (x0.length : Int) then (if 0 ≤ x4 then ((laws_toTask.f ((rd_T77 x0 x4).f0) ((rd_T77 x0 x4).f1) ((rd_T77 x0 x4).f2) ((rd_T77 x0 x4).f3) ((rd_T77 x0 x4).f4.f0) ((rd_T77 x0 x4).f4.f1) ((rd_T77 x0 x4).f4.f2)).bind fun bt176 => (if x4 < (x3.length : Int) then (laws_toTaskS.l0 k x0 (x3.set (x4 : Int).toNat (⟨bt176.1, bt176.2.1, bt176.2.2.1, bt176.2.2.2.1, (⟨bt176.2.2.2.2.1, bt176.2.2.2.2.2.1, bt176.2.2.2.2.2.2⟩ : S35)⟩ : S86)) (wrap64 (x4 + 1))) else (none))) else (none)) else (some x3)
def laws_toTaskS.f (k : Nat) (l0 : List (S77)) : Option ((List (S86))) := if 0 ≤ (l0.length : Int) then (if ((l0.length : Int) : Int).toNat ≤ 4398046511104 then (laws_toTaskS.l0 k l0 (List.replicate ((l0.length : Int) : Int).toNat z86) 0) else (none)) else (none)
set_option maxHeartbeats 8000000 in
set_option maxRecDepth 100000 in
theorem laws_toTaskS.calls (k : Nat) (A0 : Option Addr) (c0 : Nat) (l0 : List (S77)) (r : List (S86)) (w : World) (hr0 : Kd.C k77 w A0 l0.length l0) (hc0 : l0.length ≤ c0) (h : laws_toTaskS.f k l0 = some r) :
  Calls Tryz.prog 24 #[.slice A0 l0.length c0] w fun e w' => ∃ v0_ : Value, e = .returned (v0_) ∧ Kd.R k86 86 w' w.heap.size (fun _ => True) v0_ r ∧ Below w.heap.size w w' := by
 have hu77 := Tryz.underlying77
 have hu86 := Tryz.underlying86
 have HR0 := Aside0.mk hr0
 have HC0 := Aside0.mk hc0
 clear hr0 hc0
 have HB := Aside0.mk (Below.refl w.heap.size w)
 have H : (if 0 ≤ (l0.length : Int) then (if ((l0.length : Int) : Int).toNat ≤ 4398046511104 then (laws_toTaskS.l0 k l0 (List.replicate ((l0.length : Int) : Int).toNat z86) 0) else (none)) else (none)) = some r := h
 clear h
 by_cases c2 : 0 ≤ (l0.length : Int)
 ·
  rw [if_pos c2] at H
  have c2b0 := eq_true c2
  have c2b1 : decide (0 ≤ (l0.length : Int)) = true := decide_eq_true c2
  clear c2
  by_cases c3 : ((l0.length : Int) : Int).toNat ≤ 4398046511104
  ·
   rw [if_pos c3] at H
   have c3b0 := eq_true c3
   have c3b1 : decide (((l0.length : Int) : Int).toNat ≤ 4398046511104) = true := decide_eq_true c3
   clear c3
   obtain ⟨y172, hy172⟩ : ∃ y_ : List (S86), y_ = (List.replicate ((l0.length : Int) : Int).toNat z86) := ⟨_, rfl⟩
   replace H : (laws_toTaskS.l0 k l0 y172 0) = some r := by first | (rw [hy172]; with_reducible exact H) | (have H2_ := (Option.bind_some _ _).symm.trans H; rw [hy172]; with_reducible exact H2_) | (have H2_ := (Option.bind_some _ _).symm.trans H; with_reducible exact H2_) | with_reducible exact H | (rw [hy172]; exact H) | exact H
   have Ny172 := Aside0.mk hy172
   clear hy172
   have H' := Aside0.mk H
   clear H
   go_enter Tryz.func24, Tryz.ntmps24
   go_wp2_with (first | ((with_reducible refine gate_dst (N := 7) rfl ?_); refine Kd.R_make k86 _ 86 rfl (N := 7) rfl 32 _ _ rfl (l0.length : Int) rfl rfl Tryz.underlying32 (.agg #[(.string ⟨#[]⟩), (.int .i64 0), (.int .i64 0), (.int .i64 0), (.int .i64 0), (.int .i64 0), (.int .i64 0)]) 64 info86 rfl (by decide) (by omega) z86 (ok := fun _ => True) (okp := fun _ => True) (k86_mkM _ _ _ z86 ) (fun _ hk => hk) trivial (of_decide_eq_true (by first | (with_reducible assumption) | assumption)) (Nat.le_trans (Nat.mul_le_mul_right _ (of_decide_eq_true (by first | (with_reducible assumption) | assumption) : (l0.length : Int).toNat ≤ 4398046511104)) (by omega)) (Below.refl _ _) (Nat.le_refl _) ?_; intro v173 w4 ho5 hb hg_ hnew_; clear hg_ hnew_; (first | rw [← Ny172.out] at ho5 | (simp only [Int.reduceToNat] at ho5; rw [← Ny172.out] at ho5)); have HO174 := Aside0.mk (Kd.R_lower ho5 (below_size (bl HB.out))); replace HB := Aside0.mk (below_step (bl HB.out) hb); clear hb ho5))
   go_loopg [4] k (fun kq v4 w' => ∃ (x3_1 : List (S86)) (x4_1 : Int), v4 = .int .i64 x4_1 ∧ Aside0 (laws_toTaskS.l0 kq l0 x3_1 x4_1 = some r) ∧ Aside0 (kq ≤ k) ∧ Aside0 (Kd.R k86 86 w' w.heap.size (fun _ => True) v173 x3_1) ∧ Aside0 (Below w.heap.size w w'))
   case atStart => exact ⟨(y172), (0), (by first | rfl | (simp; done) | (simp [*]; done)), H', ⟨Nat.le_refl _⟩, ⟨rl HO174.out⟩, ⟨bl HB.out⟩⟩
   case round =>
    clear H'
    try clear c2
    try clear c2b0
    try clear c2b1
    try clear p2
    try clear c3
    try clear c3b0
    try clear c3b1
    obtain ⟨x3_1, x4_1, rfl, HA, HK1, HO_3, HB⟩ := hrel
    cases gk with
    | zero => exact absurd HA.out (by simp [laws_toTaskS.l0])
    | succ k1 =>
     have H := HA.out
     clear HA
     simp only [laws_toTaskS.l0] at H
     by_cases c6 : x4_1 < (l0.length : Int)
     ·
      rw [if_pos c6] at H
      have c6b0 : decide (x4_1 < (l0.length : Int)) = true := decide_eq_true c6
      clear c6
      by_cases c7 : 0 ≤ x4_1
      ·
       rw [if_pos c7] at H
       have c7b0 : decide (0 ≤ x4_1) = true := decide_eq_true c7
       clear c7
       replace H := Option.bind_eq_some_iff.mp H
       obtain ⟨⟨t176, t177, t178, t179, t180, t181, t182⟩, A80, H⟩ := H
       replace H : (if x4_1 < (x3_1.length : Int) then (laws_toTaskS.l0 k1 l0 (x3_1.set (x4_1 : Int).toNat (⟨t176, t177, t178, t179, (⟨t180, t181, t182⟩ : S35)⟩ : S86)) (wrap64 (x4_1 + 1))) else (none)) = some r := H
       have A8 := Aside0.mk A80
       clear A80
       by_cases c9 : x4_1 < (x3_1.length : Int)
       ·
        rw [if_pos c9] at H
        have c9b0 : decide (x4_1 < (x3_1.length : Int)) = true := decide_eq_true c9
        clear c9
        obtain ⟨y183, hy183⟩ : ∃ y_ : List (S86), y_ = (x3_1.set (x4_1 : Int).toNat (⟨t176, t177, t178, t179, (⟨t180, t181, t182⟩ : S35)⟩ : S86)) := ⟨_, rfl⟩
        replace H : (laws_toTaskS.l0 k1 l0 y183 (wrap64 (x4_1 + 1))) = some r := by first | (rw [hy183]; with_reducible exact H) | (have H2_ := (Option.bind_some _ _).symm.trans H; rw [hy183]; with_reducible exact H2_) | (have H2_ := (Option.bind_some _ _).symm.trans H; with_reducible exact H2_) | with_reducible exact H | (rw [hy183]; exact H) | exact H
        have Ny183 := Aside0.mk hy183
        clear hy183
        have H' := Aside0.mk H
        clear H
        have p175 : 0 ≤ (x4_1 : Int) := of_decide_eq_true (by first | (with_reducible assumption) | assumption)
        have q175 : x4_1 < (l0.length : Int) := of_decide_eq_true (by first | (with_reducible assumption) | assumption)
        obtain ⟨ad175, e175, hx175_0, hx175_1, hx175_2, hx175_3, hx175_4, hx175_5, hx175_6⟩ := at_T77 HR0.out x4_1 p175 q175
        cases e175
        replace hx175_0 := bc HB.out hx175_0
        replace hx175_1 := bc HB.out hx175_1
        replace hx175_2 := bc HB.out hx175_2
        replace hx175_3 := bc HB.out hx175_3
        replace hx175_4 := bc HB.out hx175_4
        replace hx175_5 := bc HB.out hx175_5
        replace hx175_6 := bc HB.out hx175_6
        replace p175 := eq_true p175
        replace q175 := eq_true q175
        go_wp2_with (first | ((with_reducible refine gate_callee (f := 48) rfl ?_); refine goesL_ (some 20) rfl rfl Tryz.func48 (by kernel_rfl) rfl #[.agg #[.string ((rd_T77 l0 x4_1).f0), .int .i64 ((rd_T77 l0 x4_1).f1), .int .i64 ((rd_T77 l0 x4_1).f2), .int .i64 ((rd_T77 l0 x4_1).f3), .int .i64 ((rd_T77 l0 x4_1).f4.f0), .int .i64 ((rd_T77 l0 x4_1).f4.f1), .int .i64 ((rd_T77 l0 x4_1).f4.f2)]] rfl (by (try simp only [am_]); first | done | rfl) ?_; (with_reducible refine (laws_toTask.calls ((rd_T77 l0 x4_1).f0) ((rd_T77 l0 x4_1).f1) ((rd_T77 l0 x4_1).f2) ((rd_T77 l0 x4_1).f3) ((rd_T77 l0 x4_1).f4.f0) ((rd_T77 l0 x4_1).f4.f1) ((rd_T77 l0 x4_1).f4.f2) t176 t177 t178 t179 t180 t181 t182 _ A8.out).mono ?_); rintro e w11 ⟨rfl, hb⟩; refine ⟨_, rfl, ?_⟩; replace HO_3 := Aside0.mk (Kd.R_below (rl HO_3.out) hb); replace HB := Aside0.mk (below_step (bl HB.out) hb); (try clear hb); (try clear hb2); (try clear hk); (try clear hi); have p10 : 0 ≤ (x4_1 : Int) := of_decide_eq_true (by first | (with_reducible assumption) | assumption); have q10 : (x4_1 : Int) < ((x3_1.length : Int) : Int) := of_decide_eq_true (by first | (with_reducible assumption) | assumption); obtain ⟨go10, co10, eo10, gb10, gl10, cl10, HG10⟩ := Kd.R_form HO_3.out (by omega); (first | cases eo10 | (injection eo10 with ea_ en_ ec_; (first | subst ea_ | (injection ea_ with ea_; subst ea_)); subst ec_; clear en_)); have GB10 := Aside0.mk gb10; have GG10 := Aside0.mk HG10; clear gb10 gl10 HG10; obtain ⟨ce10, hcl10, hM10, hcc10, hfr10⟩ := Kd.R_elem HO_3.out z86 (x4_1 : Int) p10 q10; obtain rfl := k86_openM hM10; have hx10_0 : w11.cell? ⟨go10, (x4_1 : Int).toNat * 7, none⟩ = some (.string ((rd_T86 x3_1 x4_1).f0)) := hcc10 0 _ rfl; have hx10_1 : w11.cell? ⟨go10, (x4_1 : Int).toNat * 7 + 1, none⟩ = some (.int .i64 ((rd_T86 x3_1 x4_1).f1)) := hcc10 1 _ rfl; have hx10_2 : w11.cell? ⟨go10, (x4_1 : Int).toNat * 7 + 2, none⟩ = some (.int .i64 ((rd_T86 x3_1 x4_1).f2)) := hcc10 2 _ rfl; have hx10_3 : w11.cell? ⟨go10, (x4_1 : Int).toNat * 7 + 3, none⟩ = some (.int .i64 ((rd_T86 x3_1 x4_1).f3)) := hcc10 3 _ rfl; have hx10_4 : w11.cell? ⟨go10, (x4_1 : Int).toNat * 7 + 4, none⟩ = some (.int .i64 ((rd_T86 x3_1 x4_1).f4.f0)) := hcc10 4 _ rfl; have hx10_5 : w11.cell? ⟨go10, (x4_1 : Int).toNat * 7 + 5, none⟩ = some (.int .i64 ((rd_T86 x3_1 x4_1).f4.f1)) := hcc10 5 _ rfl; have hx10_6 : w11.cell? ⟨go10, (x4_1 : Int).toNat * 7 + 6, none⟩ = some (.int .i64 ((rd_T86 x3_1 x4_1).f4.f2)) := hcc10 6 _ rfl; have hf10_0 : w11.frozen? ⟨go10, (x4_1 : Int).toNat * 7, none⟩ = false := hfr10 0; have hf10_1 : w11.frozen? ⟨go10, (x4_1 : Int).toNat * 7 + 1, none⟩ = false := hfr10 1; have hf10_2 : w11.frozen? ⟨go10, (x4_1 : Int).toNat * 7 + 2, none⟩ = false := hfr10 2; have hf10_3 : w11.frozen? ⟨go10, (x4_1 : Int).toNat * 7 + 3, none⟩ = false := hfr10 3; have hf10_4 : w11.frozen? ⟨go10, (x4_1 : Int).toNat * 7 + 4, none⟩ = false := hfr10 4; have hf10_5 : w11.frozen? ⟨go10, (x4_1 : Int).toNat * 7 + 5, none⟩ = false := hfr10 5; have hf10_6 : w11.frozen? ⟨go10, (x4_1 : Int).toNat * 7 + 6, none⟩ = false := hfr10 6; clear hcl10 hcc10 hfr10; (try clear hM10); replace p10 := eq_true p10; replace q10 := eq_true q10; have HX12 := Aside0.mk (show Kd.R k86 86 w11 w.heap.size (fun _ => True) (.slice (some ⟨go10, 0, none⟩) x3_1.length co10) x3_1 from (rl HO_3.out)); obtain ⟨ce12, hcl12, hM12, hcc12, hfr12⟩ := Kd.R_elem HX12.out z86 (x4_1 : Int) (of_decide_eq_true (by first | (with_reducible assumption) | assumption)) (by have h_ : (x4_1 : Int) < ((x3_1.length : Int) : Int) := of_decide_eq_true (by first | (with_reducible assumption) | assumption); first | exact h_ | (have e_ := (Kd.R_reads' HO_3.out).1; omega) | simpa using h_); obtain rfl := k86_openM hM12; have HP12 := Kd.R_seg HX12.out (x4_1 : Int) (of_decide_eq_true (by first | (with_reducible assumption) | assumption)) (by have h_ : (x4_1 : Int) < ((x3_1.length : Int) : Int) := of_decide_eq_true (by first | (with_reducible assumption) | assumption); first | exact h_ | (have e_ := (Kd.R_reads' HO_3.out).1; omega) | simpa using h_) (seg := [.string t176, .int .i64 t177, .int .i64 t178, .int .i64 t179, .int .i64 t180, .int .i64 t181, .int .i64 t182]) (j := 0) hcl12 hcc12 (show 7 ≤ 7 from by decide) (x' := (⟨t176, t177, t178, t179, (⟨t180, t181, t182⟩ : S35)⟩ : S86)) (k86_mkM _ _ _ (⟨t176, t177, t178, t179, (⟨t180, t181, t182⟩ : S35)⟩ : S86) ) (fun _ hk => hk); have hx12_0 := hcc12 0 _ rfl; (try simp only [show (k86).sz = 7 from rfl, Nat.mul_one, Nat.add_zero] at hx12_0); have hf12_0 := hfr12 0; (try simp only [show (k86).sz = 7 from rfl, Nat.mul_one, Nat.add_zero] at hf12_0); have hx12_1 := hcc12 1 _ rfl; (try simp only [show (k86).sz = 7 from rfl, Nat.mul_one, Nat.add_zero] at hx12_1); have hf12_1 := hfr12 1; (try simp only [show (k86).sz = 7 from rfl, Nat.mul_one, Nat.add_zero] at hf12_1); have hx12_2 := hcc12 2 _ rfl; (try simp only [show (k86).sz = 7 from rfl, Nat.mul_one, Nat.add_zero] at hx12_2); have hf12_2 := hfr12 2; (try simp only [show (k86).sz = 7 from rfl, Nat.mul_one, Nat.add_zero] at hf12_2); have hx12_3 := hcc12 3 _ rfl; (try simp only [show (k86).sz = 7 from rfl, Nat.mul_one, Nat.add_zero] at hx12_3); have hf12_3 := hfr12 3; (try simp only [show (k86).sz = 7 from rfl, Nat.mul_one, Nat.add_zero] at hf12_3); have hx12_4 := hcc12 4 _ rfl; (try simp only [show (k86).sz = 7 from rfl, Nat.mul_one, Nat.add_zero] at hx12_4); have hf12_4 := hfr12 4; (try simp only [show (k86).sz = 7 from rfl, Nat.mul_one, Nat.add_zero] at hf12_4); have hx12_5 := hcc12 5 _ rfl; (try simp only [show (k86).sz = 7 from rfl, Nat.mul_one, Nat.add_zero] at hx12_5); have hf12_5 := hfr12 5; (try simp only [show (k86).sz = 7 from rfl, Nat.mul_one, Nat.add_zero] at hf12_5); have hx12_6 := hcc12 6 _ rfl; (try simp only [show (k86).sz = 7 from rfl, Nat.mul_one, Nat.add_zero] at hx12_6); have hf12_6 := hfr12 6; (try simp only [show (k86).sz = 7 from rfl, Nat.mul_one, Nat.add_zero] at hf12_6); clear hcl12 hcc12 hfr12; (try clear hM12)) | ((with_reducible refine gate_store (t := 86) (p := 21) rfl ?_); refine store_event (t := 86) (p := 21) (v := ?vo_w13) (w1 := (((((((w11.setCell ⟨go10, (x4_1 : Int).toNat * 7, none⟩ (.string t176)).setCell ⟨go10, (x4_1 : Int).toNat * 7 + 1, none⟩ (.int .i64 t177)).setCell ⟨go10, (x4_1 : Int).toNat * 7 + 2, none⟩ (.int .i64 t178)).setCell ⟨go10, (x4_1 : Int).toNat * 7 + 3, none⟩ (.int .i64 t179)).setCell ⟨go10, (x4_1 : Int).toNat * 7 + 4, none⟩ (.int .i64 t180)).setCell ⟨go10, (x4_1 : Int).toNat * 7 + 5, none⟩ (.int .i64 t181)).setCell ⟨go10, (x4_1 : Int).toNat * 7 + 6, none⟩ (.int .i64 t182))) ?hg ?ho ?hn ?hr ?_; (case ho => rfl); (case hg => rfl); (case hn => rfl); (case hr => first | (go_simp; done) | (go_simp; rfl)); intro w13 hw; have hg : w11.grownBy w13 (some go10) := (by rw [hw]; exact HP12.2); have hp_ : Kd.R k86 86 w13 w.heap.size (fun _ => True) (.slice (some ⟨go10, 0, none⟩) x3_1.length co10) y183 := (by rw [hw, Ny183.out]; exact HP12.1); clear HP12; replace HO_3 := Aside0.mk (hp_); replace HB := Aside0.mk ((by rw [hw]; exact below_set (below_set (below_set (below_set (below_set (below_set (below_set (HB.out) GB10.out) GB10.out) GB10.out) GB10.out) GB10.out) GB10.out) GB10.out : Below w.heap.size w w13)); clear hg hw hp_))
        go_roundg k1
        case measure => have := HK1.out; omega
        case rel => exact ⟨(y183), (wrap64 (x4_1 + 1)), (by first | rfl | (simp; done) | (simp [*]; done)), H', ⟨by have := HK1.out; omega⟩, ⟨rl HO_3.out⟩, ⟨bl HB.out⟩⟩
       ·
        rw [if_neg c9] at H
        exact absurd H (by simp)
      ·
       rw [if_neg c7] at H
       exact absurd H (by simp)
     ·
      rw [if_neg c6] at H
      have c6b0 : decide (x4_1 < (l0.length : Int)) = false := decide_eq_false c6
      clear c6
      obtain rfl := Option.some.inj H
      go_wp2
      go_ret
      exact ⟨_, by first | rfl | (simp [errW_none, errW_some] <;> rfl) | (simp [*, errW_none, errW_some] <;> rfl), by (repeat apply rl1); exact HO_3.out, bl HB.out⟩
  ·
   rw [if_neg c3] at H
   exact absurd H (by simp)
 ·
  rw [if_neg c2] at H
  exact absurd H (by simp)

/-! ### laws_toCarry: function 49 -/
def laws_toCarry.f (a0_0 : ByteArray) (a0_1 : Int) (a0_2 : Int) : Option (ByteArray × Int × Int) := some (a0_0, a0_1, a0_2)
set_option maxHeartbeats 8000000 in
set_option maxRecDepth 100000 in
theorem laws_toCarry.calls (a0_0 : ByteArray) (a0_1 : Int) (a0_2 : Int) (r1 : ByteArray) (r2 : Int) (r3 : Int) (w : World) (h : laws_toCarry.f a0_0 a0_1 a0_2 = some (r1, r2, r3)) :
  Calls Tryz.prog 49 #[.agg #[.string a0_0, .int .i64 a0_1, .int .i64 a0_2]] w fun e w' => e = .returned (.agg #[.string r1, .int .i64 r2, .int .i64 r3]) ∧ Below w.heap.size w w' := by
 have hu80 := Tryz.underlying80
 have hu88 := Tryz.underlying88
 have HB := Aside0.mk (Below.refl w.heap.size w)
 have H : (some (a0_0, a0_1, a0_2)) = some (r1, r2, r3) := h
 clear h
 simp only [Option.some.injEq, Prod.mk.injEq] at H
 obtain ⟨rfl, rfl, rfl⟩ := H
 go_enter Tryz.func49, Tryz.ntmps49
 go_wp2_with (first | ((with_reducible refine gate_dst (N := 1) rfl ?_); refine box_event ?hg (N := 1) ?hd (cs := #[.string a0_0, .int .i64 a0_1, .int .i64 a0_2]) (t := 80) ?hr ?_; (case hd => rfl); (case hg => rfl); (case hr => first | (go_simp; done) | (go_simp; rfl)); intro gb184 hg w2 hbox hb; have BK184 := Aside0.mk (hbox); have GW184 := Aside0.mk ((by rw [hg]; exact (below_size (bl HB.out)) : w.heap.size ≤ gb184)); have GE184 := GW184; replace HB := Aside0.mk (below_step (bl HB.out) hb); clear hb hbox hg) | ((with_reducible refine gate_dst (N := 2) rfl ?_); refine box_event ?hg (N := 2) ?hd (cs := #[.string (⟨#[]⟩ : ByteArray), .int .i64 0, .int .i64 0]) (t := 88) ?hr ?_; (case hd => rfl); (case hg => rfl); (case hr => first | (go_simp; done) | (go_simp; rfl)); intro gb185 hg w3 hbox hb; have BK185 := Aside0.mk (hbox); have GW185 := Aside0.mk ((by rw [hg]; exact (below_size (by repeat with_reducible first | exact bl HB.out | refine below_set ?_ GE184.out | refine bq ?_)) : w.heap.size ≤ gb185)); have GE185 := GW185; replace HB := Aside0.mk (below_step (by repeat with_reducible first | exact bl HB.out | refine below_set ?_ GE184.out | refine bq ?_) hb); have NB184_185 := nb_ hg BK184.out; have NB185_184 := Aside0.mk NB184_185.out.symm; replace BK184 := Aside0.mk (blk_below (bk BK184.out) hb); clear hb hbox hg) | ((with_reducible refine gate_dst (N := 3) rfl ?_); refine box_event ?hg (N := 3) ?hd (cs := #[.string (⟨#[]⟩ : ByteArray), .int .i64 0, .int .i64 0]) (t := 88) ?hr ?_; (case hd => rfl); (case hg => rfl); (case hr => first | (go_simp; done) | (go_simp; rfl)); intro gb186 hg w4 hbox hb; have BK186 := Aside0.mk (hbox); have GW186 := Aside0.mk ((by rw [hg]; exact (below_size (by repeat with_reducible first | exact bl HB.out | refine below_set ?_ GE184.out | refine below_set ?_ GE185.out | refine bq ?_)) : w.heap.size ≤ gb186)); have GE186 := GW186; replace HB := Aside0.mk (below_step (by repeat with_reducible first | exact bl HB.out | refine below_set ?_ GE184.out | refine below_set ?_ GE185.out | refine bq ?_) hb); have NB184_186 := nb_ hg BK184.out; have NB186_184 := Aside0.mk NB184_186.out.symm; replace BK184 := Aside0.mk (blk_below (bk BK184.out) hb); have NB185_186 := nb_ hg BK185.out; have NB186_185 := Aside0.mk NB185_186.out.symm; replace BK185 := Aside0.mk (blk_below (g := gb185) (o := .cells #[.string (⟨#[]⟩ : ByteArray), .int .i64 0, .int .i64 0] 88 (0, 0)) (bk BK185.out) hb); clear hb hbox hg; have hnb5 := NB184_185.out; have hnc5 := NB185_184.out; have hnb6 := NB184_186.out; have hnc6 := NB186_184.out; obtain ⟨hcz7_0, hcz7_1, hcz7_2⟩ := ck3 BK184.out; obtain ⟨hfz7_0, hfz7_1, hfz7_2⟩ := fz3 BK184.out; have hnb8 := NB186_185.out; have hnc8 := NB185_186.out; obtain ⟨hcz9_0, hcz9_1, hcz9_2⟩ := ck3 BK186.out; obtain ⟨hfz9_0, hfz9_1, hfz9_2⟩ := fz3 BK186.out; obtain ⟨hcz10_0, hcz10_1, hcz10_2⟩ := ck3 BK185.out; obtain ⟨hfz10_0, hfz10_1, hfz10_2⟩ := fz3 BK185.out))
 refine bodyPost_ret (results_cell_row rfl _ _ gb185 88 #[.string a0_0, .int .i64 a0_1, .int .i64 a0_2] (0, 0) _ rfl (by (repeat refine bk1 ?_); refine blk_put (cs := #[.string a0_0, .int .i64 a0_1, .int .i64 0]) ?_ 2 _ rfl; (repeat refine bk1 ?_); refine blk_put (cs := #[.string a0_0, .int .i64 0, .int .i64 0]) ?_ 1 _ rfl; (repeat refine bk1 ?_); refine blk_put (cs := #[.string (⟨#[]⟩ : ByteArray), .int .i64 0, .int .i64 0]) ?_ 0 _ rfl; (repeat refine bk1 ?_); refine blk_far ?_ NB185_186.out _; (repeat refine bk1 ?_); refine blk_far ?_ NB185_186.out _; (repeat refine bk1 ?_); refine blk_far ?_ NB185_186.out _; (repeat refine bk1 ?_); exact BK185.out) Tryz.underlying88 rfl (by kernel_rfl)) rfl ?_
 exact ⟨by first | rfl | (simp [errW_none, errW_some] <;> rfl) | (simp [*, errW_none, errW_some] <;> rfl), by repeat with_reducible first | exact bl HB.out | refine below_set ?_ GE184.out | refine below_set ?_ GE185.out | refine below_set ?_ GE186.out | refine bq ?_⟩

/-! ### laws_toCarryS: function 25 -/
def laws_toCarryS.l0 : Nat → List (S80) → List (S88) → Int → Option ((List (S88)))
 | 0, _, _, _ => none
 | k + 1, x0, x3, x4 => if x4 < (x0.length : Int) then (if 0 ≤ x4 then ((laws_toCarry.f ((rd_T80 x0 x4).f0) ((rd_T80 x0 x4).f1) ((rd_T80 x0 x4).f2)).bind fun bt191 => (if x4 < (x3.length : Int) then (laws_toCarryS.l0 k x0 (x3.set (x4 : Int).toNat (⟨bt191.1, bt191.2.1, bt191.2.2⟩ : S88)) (wrap64 (x4 + 1))) else (none))) else (none)) else (some x3)
def laws_toCarryS.f (k : Nat) (l0 : List (S80)) : Option ((List (S88))) := if 0 ≤ (l0.length : Int) then (if ((l0.length : Int) : Int).toNat ≤ 8796093022208 then (laws_toCarryS.l0 k l0 (List.replicate ((l0.length : Int) : Int).toNat z88) 0) else (none)) else (none)
set_option maxHeartbeats 8000000 in
set_option maxRecDepth 100000 in
theorem laws_toCarryS.calls (k : Nat) (A0 : Option Addr) (c0 : Nat) (l0 : List (S80)) (r : List (S88)) (w : World) (hr0 : Kd.C k80 w A0 l0.length l0) (hc0 : l0.length ≤ c0) (h : laws_toCarryS.f k l0 = some r) :
  Calls Tryz.prog 25 #[.slice A0 l0.length c0] w fun e w' => ∃ v0_ : Value, e = .returned (v0_) ∧ Kd.R k88 88 w' w.heap.size (fun _ => True) v0_ r ∧ Below w.heap.size w w' := by
 have hu80 := Tryz.underlying80
 have hu88 := Tryz.underlying88
 have HR0 := Aside0.mk hr0
 have HC0 := Aside0.mk hc0
 clear hr0 hc0
 have HB := Aside0.mk (Below.refl w.heap.size w)
 have H : (if 0 ≤ (l0.length : Int) then (if ((l0.length : Int) : Int).toNat ≤ 8796093022208 then (laws_toCarryS.l0 k l0 (List.replicate ((l0.length : Int) : Int).toNat z88) 0) else (none)) else (none)) = some r := h
 clear h
 by_cases c2 : 0 ≤ (l0.length : Int)
 ·
  rw [if_pos c2] at H
  have c2b0 := eq_true c2
  have c2b1 : decide (0 ≤ (l0.length : Int)) = true := decide_eq_true c2
  clear c2
  by_cases c3 : ((l0.length : Int) : Int).toNat ≤ 8796093022208
  ·
   rw [if_pos c3] at H
   have c3b0 := eq_true c3
   have c3b1 : decide (((l0.length : Int) : Int).toNat ≤ 8796093022208) = true := decide_eq_true c3
   clear c3
   obtain ⟨y187, hy187⟩ : ∃ y_ : List (S88), y_ = (List.replicate ((l0.length : Int) : Int).toNat z88) := ⟨_, rfl⟩
   replace H : (laws_toCarryS.l0 k l0 y187 0) = some r := by first | (rw [hy187]; with_reducible exact H) | (have H2_ := (Option.bind_some _ _).symm.trans H; rw [hy187]; with_reducible exact H2_) | (have H2_ := (Option.bind_some _ _).symm.trans H; with_reducible exact H2_) | with_reducible exact H | (rw [hy187]; exact H) | exact H
   have Ny187 := Aside0.mk hy187
   clear hy187
   have H' := Aside0.mk H
   clear H
   go_enter Tryz.func25, Tryz.ntmps25
   go_wp2_with (first | ((with_reducible refine gate_dst (N := 7) rfl ?_); refine Kd.R_make k88 _ 88 rfl (N := 7) rfl 33 _ _ rfl (l0.length : Int) rfl rfl Tryz.underlying33 (.agg #[(.string ⟨#[]⟩), (.int .i64 0), (.int .i64 0)]) 32 info88 rfl (by decide) (by omega) z88 (ok := fun _ => True) (okp := fun _ => True) (k88_mkM _ _ _ z88 ) (fun _ hk => hk) trivial (of_decide_eq_true (by first | (with_reducible assumption) | assumption)) (Nat.le_trans (Nat.mul_le_mul_right _ (of_decide_eq_true (by first | (with_reducible assumption) | assumption) : (l0.length : Int).toNat ≤ 8796093022208)) (by omega)) (Below.refl _ _) (Nat.le_refl _) ?_; intro v188 w4 ho5 hb hg_ hnew_; clear hg_ hnew_; (first | rw [← Ny187.out] at ho5 | (simp only [Int.reduceToNat] at ho5; rw [← Ny187.out] at ho5)); have HO189 := Aside0.mk (Kd.R_lower ho5 (below_size (bl HB.out))); replace HB := Aside0.mk (below_step (bl HB.out) hb); clear hb ho5))
   go_loopg [4] k (fun kq v4 w' => ∃ (x3_1 : List (S88)) (x4_1 : Int), v4 = .int .i64 x4_1 ∧ Aside0 (laws_toCarryS.l0 kq l0 x3_1 x4_1 = some r) ∧ Aside0 (kq ≤ k) ∧ Aside0 (Kd.R k88 88 w' w.heap.size (fun _ => True) v188 x3_1) ∧ Aside0 (Below w.heap.size w w'))
   case atStart => exact ⟨(y187), (0), (by first | rfl | (simp; done) | (simp [*]; done)), H', ⟨Nat.le_refl _⟩, ⟨rl HO189.out⟩, ⟨bl HB.out⟩⟩
   case round =>
    clear H'
    try clear c2
    try clear c2b0
    try clear c2b1
    try clear p2
    try clear c3
    try clear c3b0
    try clear c3b1
    obtain ⟨x3_1, x4_1, rfl, HA, HK1, HO_3, HB⟩ := hrel
    cases gk with
    | zero => exact absurd HA.out (by simp [laws_toCarryS.l0])
    | succ k1 =>
     have H := HA.out
     clear HA
     simp only [laws_toCarryS.l0] at H
     by_cases c6 : x4_1 < (l0.length : Int)
     ·
      rw [if_pos c6] at H
      have c6b0 : decide (x4_1 < (l0.length : Int)) = true := decide_eq_true c6
      clear c6
      by_cases c7 : 0 ≤ x4_1
      ·
       rw [if_pos c7] at H
       have c7b0 : decide (0 ≤ x4_1) = true := decide_eq_true c7
       clear c7
       replace H := Option.bind_eq_some_iff.mp H
       obtain ⟨⟨t191, t192, t193⟩, A80, H⟩ := H
       replace H : (if x4_1 < (x3_1.length : Int) then (laws_toCarryS.l0 k1 l0 (x3_1.set (x4_1 : Int).toNat (⟨t191, t192, t193⟩ : S88)) (wrap64 (x4_1 + 1))) else (none)) = some r := H
       have A8 := Aside0.mk A80
       clear A80
       by_cases c9 : x4_1 < (x3_1.length : Int)
       ·
        rw [if_pos c9] at H
        have c9b0 : decide (x4_1 < (x3_1.length : Int)) = true := decide_eq_true c9
        clear c9
        obtain ⟨y194, hy194⟩ : ∃ y_ : List (S88), y_ = (x3_1.set (x4_1 : Int).toNat (⟨t191, t192, t193⟩ : S88)) := ⟨_, rfl⟩
        replace H : (laws_toCarryS.l0 k1 l0 y194 (wrap64 (x4_1 + 1))) = some r := by first | (rw [hy194]; with_reducible exact H) | (have H2_ := (Option.bind_some _ _).symm.trans H; rw [hy194]; with_reducible exact H2_) | (have H2_ := (Option.bind_some _ _).symm.trans H; with_reducible exact H2_) | with_reducible exact H | (rw [hy194]; exact H) | exact H
        have Ny194 := Aside0.mk hy194
        clear hy194
        have H' := Aside0.mk H
        clear H
        have p190 : 0 ≤ (x4_1 : Int) := of_decide_eq_true (by first | (with_reducible assumption) | assumption)
        have q190 : x4_1 < (l0.length : Int) := of_decide_eq_true (by first | (with_reducible assumption) | assumption)
        obtain ⟨ad190, e190, hx190_0, hx190_1, hx190_2⟩ := at_T80 HR0.out x4_1 p190 q190
        cases e190
        replace hx190_0 := bc HB.out hx190_0
        replace hx190_1 := bc HB.out hx190_1
        replace hx190_2 := bc HB.out hx190_2
        replace p190 := eq_true p190
        replace q190 := eq_true q190
        go_wp2_with (first | ((with_reducible refine gate_callee (f := 49) rfl ?_); refine goesL_ (some 20) rfl rfl Tryz.func49 (by kernel_rfl) rfl #[.agg #[.string ((rd_T80 l0 x4_1).f0), .int .i64 ((rd_T80 l0 x4_1).f1), .int .i64 ((rd_T80 l0 x4_1).f2)]] rfl (by (try simp only [am_]); first | done | rfl) ?_; (with_reducible refine (laws_toCarry.calls ((rd_T80 l0 x4_1).f0) ((rd_T80 l0 x4_1).f1) ((rd_T80 l0 x4_1).f2) t191 t192 t193 _ A8.out).mono ?_); rintro e w11 ⟨rfl, hb⟩; refine ⟨_, rfl, ?_⟩; replace HO_3 := Aside0.mk (Kd.R_below (rl HO_3.out) hb); replace HB := Aside0.mk (below_step (bl HB.out) hb); (try clear hb); (try clear hb2); (try clear hk); (try clear hi); have p10 : 0 ≤ (x4_1 : Int) := of_decide_eq_true (by first | (with_reducible assumption) | assumption); have q10 : (x4_1 : Int) < ((x3_1.length : Int) : Int) := of_decide_eq_true (by first | (with_reducible assumption) | assumption); obtain ⟨go10, co10, eo10, gb10, gl10, cl10, HG10⟩ := Kd.R_form HO_3.out (by omega); (first | cases eo10 | (injection eo10 with ea_ en_ ec_; (first | subst ea_ | (injection ea_ with ea_; subst ea_)); subst ec_; clear en_)); have GB10 := Aside0.mk gb10; have GG10 := Aside0.mk HG10; clear gb10 gl10 HG10; obtain ⟨ce10, hcl10, hM10, hcc10, hfr10⟩ := Kd.R_elem HO_3.out z88 (x4_1 : Int) p10 q10; obtain rfl := k88_openM hM10; have hx10_0 : w11.cell? ⟨go10, (x4_1 : Int).toNat * 3, none⟩ = some (.string ((rd_T88 x3_1 x4_1).f0)) := hcc10 0 _ rfl; have hx10_1 : w11.cell? ⟨go10, (x4_1 : Int).toNat * 3 + 1, none⟩ = some (.int .i64 ((rd_T88 x3_1 x4_1).f1)) := hcc10 1 _ rfl; have hx10_2 : w11.cell? ⟨go10, (x4_1 : Int).toNat * 3 + 2, none⟩ = some (.int .i64 ((rd_T88 x3_1 x4_1).f2)) := hcc10 2 _ rfl; have hf10_0 : w11.frozen? ⟨go10, (x4_1 : Int).toNat * 3, none⟩ = false := hfr10 0; have hf10_1 : w11.frozen? ⟨go10, (x4_1 : Int).toNat * 3 + 1, none⟩ = false := hfr10 1; have hf10_2 : w11.frozen? ⟨go10, (x4_1 : Int).toNat * 3 + 2, none⟩ = false := hfr10 2; clear hcl10 hcc10 hfr10; (try clear hM10); replace p10 := eq_true p10; replace q10 := eq_true q10; have HX12 := Aside0.mk (show Kd.R k88 88 w11 w.heap.size (fun _ => True) (.slice (some ⟨go10, 0, none⟩) x3_1.length co10) x3_1 from (rl HO_3.out)); obtain ⟨ce12, hcl12, hM12, hcc12, hfr12⟩ := Kd.R_elem HX12.out z88 (x4_1 : Int) (of_decide_eq_true (by first | (with_reducible assumption) | assumption)) (by have h_ : (x4_1 : Int) < ((x3_1.length : Int) : Int) := of_decide_eq_true (by first | (with_reducible assumption) | assumption); first | exact h_ | (have e_ := (Kd.R_reads' HO_3.out).1; omega) | simpa using h_); obtain rfl := k88_openM hM12; have HP12 := Kd.R_seg HX12.out (x4_1 : Int) (of_decide_eq_true (by first | (with_reducible assumption) | assumption)) (by have h_ : (x4_1 : Int) < ((x3_1.length : Int) : Int) := of_decide_eq_true (by first | (with_reducible assumption) | assumption); first | exact h_ | (have e_ := (Kd.R_reads' HO_3.out).1; omega) | simpa using h_) (seg := [.string t191, .int .i64 t192, .int .i64 t193]) (j := 0) hcl12 hcc12 (show 3 ≤ 3 from by decide) (x' := (⟨t191, t192, t193⟩ : S88)) (k88_mkM _ _ _ (⟨t191, t192, t193⟩ : S88) ) (fun _ hk => hk); have hx12_0 := hcc12 0 _ rfl; (try simp only [show (k88).sz = 3 from rfl, Nat.mul_one, Nat.add_zero] at hx12_0); have hf12_0 := hfr12 0; (try simp only [show (k88).sz = 3 from rfl, Nat.mul_one, Nat.add_zero] at hf12_0); have hx12_1 := hcc12 1 _ rfl; (try simp only [show (k88).sz = 3 from rfl, Nat.mul_one, Nat.add_zero] at hx12_1); have hf12_1 := hfr12 1; (try simp only [show (k88).sz = 3 from rfl, Nat.mul_one, Nat.add_zero] at hf12_1); have hx12_2 := hcc12 2 _ rfl; (try simp only [show (k88).sz = 3 from rfl, Nat.mul_one, Nat.add_zero] at hx12_2); have hf12_2 := hfr12 2; (try simp only [show (k88).sz = 3 from rfl, Nat.mul_one, Nat.add_zero] at hf12_2); clear hcl12 hcc12 hfr12; (try clear hM12)) | ((with_reducible refine gate_store (t := 88) (p := 21) rfl ?_); refine store_event (t := 88) (p := 21) (v := ?vo_w13) (w1 := (((w11.setCell ⟨go10, (x4_1 : Int).toNat * 3, none⟩ (.string t191)).setCell ⟨go10, (x4_1 : Int).toNat * 3 + 1, none⟩ (.int .i64 t192)).setCell ⟨go10, (x4_1 : Int).toNat * 3 + 2, none⟩ (.int .i64 t193))) ?hg ?ho ?hn ?hr ?_; (case ho => rfl); (case hg => rfl); (case hn => rfl); (case hr => first | (go_simp; done) | (go_simp; rfl)); intro w13 hw; have hg : w11.grownBy w13 (some go10) := (by rw [hw]; exact HP12.2); have hp_ : Kd.R k88 88 w13 w.heap.size (fun _ => True) (.slice (some ⟨go10, 0, none⟩) x3_1.length co10) y194 := (by rw [hw, Ny194.out]; exact HP12.1); clear HP12; replace HO_3 := Aside0.mk (hp_); replace HB := Aside0.mk ((by rw [hw]; exact below_set (below_set (below_set (HB.out) GB10.out) GB10.out) GB10.out : Below w.heap.size w w13)); clear hg hw hp_))
        go_roundg k1
        case measure => have := HK1.out; omega
        case rel => exact ⟨(y194), (wrap64 (x4_1 + 1)), (by first | rfl | (simp; done) | (simp [*]; done)), H', ⟨by have := HK1.out; omega⟩, ⟨rl HO_3.out⟩, ⟨bl HB.out⟩⟩
       ·
        rw [if_neg c9] at H
        exact absurd H (by simp)
      ·
       rw [if_neg c7] at H
       exact absurd H (by simp)
     ·
      rw [if_neg c6] at H
      have c6b0 : decide (x4_1 < (l0.length : Int)) = false := decide_eq_false c6
      clear c6
      obtain rfl := Option.some.inj H
      go_wp2
      go_ret
      exact ⟨_, by first | rfl | (simp [errW_none, errW_some] <;> rfl) | (simp [*, errW_none, errW_some] <;> rfl), by (repeat apply rl1); exact HO_3.out, bl HB.out⟩
  ·
   rw [if_neg c3] at H
   exact absurd H (by simp)
 ·
  rw [if_neg c2] at H
  exact absurd H (by simp)

end Go.Proofs.YtdimdlifjdbgnaaGreat.PFnExactRunWork
