import Derived.Test.YtdimdlifjdbgnaaGreatPFnExactRunWorkx14
namespace Go.Proofs.YtdimdlifjdbgnaaGreat.PFnExactRunWork
open Go.RowKit Go.Proofs.YtdimdlifjdbgnaaGreatW.PrintWords Go.Proofs.YtdimdlifjdbgnaaGreatW.PrintLast Go.Proofs.YtdimdlifjdbgnaaGreatW.PrintMore Go.Proofs.YtdimdlifjdbgnaaGreat.Sq
attribute [local go_sem] max2_int min2_int max_two min_two max_three min_three max_four min_four
set_option linter.unusedVariables false
set_option linter.unusedSimpArgs false

-- HAND FROM
open Go.Proofs.YtdimdlifjdbgnaaGreat.Base Go.Proofs.YtdimdlifjdbgnaaGreat.Sq
/-! ### impl.RunWork (by hand) -/
set_option maxHeartbeats 16000000 in
set_option maxRecDepth 100000 in
theorem irun_t : Runs 9 := by
  intro A0 c0 l0 A1 c1 l1 A2 c2 l2 p q r A3 c3 xs w hr0 hc0 hr1 hc1 hr2 hc2 hr3 hc3 hgd hs hxn
  have hu1 := Tryz.underlying37
  have hu2 := Tryz.underlying60
  have HC3 := Aside0.mk hr3
  have HGD := Aside0.mk hgd
  have HXS := Aside0.mk hs
  have n1 := below_alloc (Below.refl w.heap.size w) (.cells #[.slice A0 l0.length c0, .slice A1 l1.length c1, .slice A2 l2.length c2, .int .i64 p, .int .i64 q, .int .i64 r] 37 (0, 0))
  have n2 := below_alloc n1 (.cells #[.slice none 0 0, .slice none 0 0, .slice none 0 0, .int .i64 0, .int .i64 0, .int .i64 0] 37 (0, 0))
  have m1 := blk_alloc (blk_new w (.cells #[.slice A0 l0.length c0, .slice A1 l1.length c1, .slice A2 l2.length c2, .int .i64 p, .int .i64 q, .int .i64 r] 37 (0, 0))) (.cells #[.slice none 0 0, .slice none 0 0, .slice none 0 0, .int .i64 0, .int .i64 0, .int .i64 0] 37 (0, 0))
  have m2 := blk_new (w.alloc (.cells #[.slice A0 l0.length c0, .slice A1 l1.length c1, .slice A2 l2.length c2, .int .i64 p, .int .i64 q, .int .i64 r] 37 (0, 0))) (.cells #[.slice none 0 0, .slice none 0 0, .slice none 0 0, .int .i64 0, .int .i64 0, .int .i64 0] 37 (0, 0))
  rw [World.size_alloc] at m2
  have HF := Aside0.mk (And.intro m1 (And.intro m2 n2))
  have KC := Aside0.mk (fun w' (h : Below w.heap.size w w') => impl_cloneFleet.calls A0 c0 l0 A1 c1 l1 A2 c2 l2 p q r _ _ _ _ _ _ w' (Kd.C_below hr0 h) hc0 (Kd.C_below hr1 h) hc1 (Kd.C_below hr2 h) hc2 (clone_is l0 l1 l2 p q r HGD.out.2))
  clear hr0 hr1 hr2 hr3 n1 n2 m1 m2 hgd hs
  go_enter Tryz.func9, Tryz.ntmps9
  go_upto_region 1 with (fail)
  refine world_ (fun W => W.heap[w.heap.size]? = some (.cells #[.slice A0 l0.length c0, .slice A1 l1.length c1, .slice A2 l2.length c2, .int .i64 p, .int .i64 q, .int .i64 r] 37 (0, 0)) ∧ W.heap[w.heap.size + 1]? = some (.cells #[.slice none 0 0, .slice none 0 0, .slice none 0 0, .int .i64 0, .int .i64 0, .int .i64 0] 37 (0, 0)) ∧ Below w.heap.size w W) HF.out ?_
  clear HF
  rintro W ⟨BF, BR, HB⟩
  replace BF := Aside0.mk BF
  replace BR := Aside0.mk BR
  replace HB := Aside0.mk HB
  obtain ⟨f0, f1, f2, f3, f4, f5⟩ := ck6 BF.out
  go_upto_region 2 with (first | (go_at_call 29; (with_reducible refine (KC.out _ HB.out).mono ?_); rintro e w5 ⟨v0, v1, v2, rfl, hR0, hR1, hR2, hb5⟩; obtain ⟨B0, b0, rfl⟩ := Kd.R_slice hR0; obtain ⟨B1, b1, rfl⟩ := Kd.R_slice hR1; obtain ⟨B2, b2, rfl⟩ := Kd.R_slice hR2; clear f0 f1 f2 f3 f4 f5) | ((with_reducible refine gate_dst (N := 14) rfl ?_); refine Kd.R_lit Kd.bool _ 4 ?hg (N := 14) ?hd (xs := ([] : List Bool)) (inner := []) (ok := fun _ => True) (okp := fun _ => True) ?hr ?hp (fun _ hk => hk) trivial (Below.refl _ _) (Nat.le_refl _) (by simp) ?_; (case hd => rfl); (case hg => rfl); (case hr => first | (go_simp; done) | (go_simp; rfl)); (case hp => exact (Reps.none _ _)); intro v3 w6 ho hb6 hg_ hnew_; clear hg_ hnew_))
  have nw := below_alloc (Below.refl w6.heap.size w6) (.cells #[.slice B0 l0.length b0, .slice B1 l1.length b1, .slice B2 l2.length b2, .int .i64 p, .int .i64 q, .int .i64 r] 37 (0, 0))
  have h56 := below_step hb6 nw
  have hz1 := blk_lt (blk_below (blk_below BR.out hb5) hb6)
  have HI := Aside0.mk (show Flp w (w6.alloc (.cells #[.slice B0 l0.length b0, .slice B1 l1.length b1, .slice B2 l2.length b2, .int .i64 p, .int .i64 q, .int .i64 r] 37 (0, 0))) (fun _ => True) w6.heap.size B0 l0.length b0 l0 B1 l1.length b1 l1 B2 l2.length b2 l2 p q r ∧ Kd.R Kd.bool 4 (w6.alloc (.cells #[.slice B0 l0.length b0, .slice B1 l1.length b1, .slice B2 l2.length b2, .int .i64 p, .int .i64 q, .int .i64 r] 37 (0, 0))) w.heap.size (fun _ => True) v3 [] ∧ (w6.alloc (.cells #[.slice B0 l0.length b0, .slice B1 l1.length b1, .slice B2 l2.length b2, .int .i64 p, .int .i64 q, .int .i64 r] 37 (0, 0))).heap[w.heap.size + 1]? = some (.cells #[.slice none 0 0, .slice none 0 0, .slice none 0 0, .int .i64 0, .int .i64 0, .int .i64 0] 37 (0, 0)) ∧ Below w.heap.size w (w6.alloc (.cells #[.slice B0 l0.length b0, .slice B1 l1.length b1, .slice B2 l2.length b2, .int .i64 p, .int .i64 q, .int .i64 r] 37 (0, 0))) ∧ w.heap.size + 1 < w6.heap.size from
    ⟨⟨blk_new w6 _, ⟨Kd.R_lower (Kd.R_below hR0 h56) HB.out.size, Kd.R_lower (Kd.R_below hR1 h56) HB.out.size, Kd.R_lower (Kd.R_below hR2 h56) HB.out.size⟩⟩, Kd.R_lower (Kd.R_below ho nw) (below_step HB.out hb5).size, blk_below (blk_below BR.out hb5) h56, below_step (below_step HB.out hb5) h56, hz1⟩)
  clear nw h56 hz1 hR0 hR1 hR2 ho hb5 hb6 HB BF BR KC
  generalize w6.heap.size = g at HI ⊢
  generalize w6.alloc _ = W0 at HI ⊢
  obtain ⟨HF, HO, BR, HB, hgw⟩ := HI.out
  clear HI
  replace HF := Aside0.mk HF
  replace HO := Aside0.mk HO
  replace BR := Aside0.mk BR
  replace HB := Aside0.mk HB
  by_cases hbig : (xs.length : Int) > 100
  · have hW : runW l0 l1 l2 p q r xs = (l0, l1, l2, p, q, r, []) := by unfold runW; rw [if_pos hbig]
    have HW := Aside0.mk hW
    clear hW
    obtain ⟨f0, f1, f2, f3, f4, f5⟩ := ck6 HF.out.g
    go_wp2_with (first | ((with_reducible refine gate_store (t := 37) (p := 4) rfl ?_); refine stm_ 37 4 (.tmp 18) (w.heap.size + 1) 0 #[.slice B0 l0.length b0, .slice B1 l1.length b1, .slice B2 l2.length b2, .int .i64 p, .int .i64 q, .int .i64 r] #[.slice none 0 0, .slice none 0 0, .slice none 0 0, .int .i64 0, .int .i64 0, .int .i64 0] #[.slice B0 l0.length b0, .slice B1 l1.length b1, .slice B2 l2.length b2, .int .i64 p, .int .i64 q, .int .i64 r] 37 ?e1 ?e2 ?e3 ?e4 ?e5 ?e6 ?e7 ?e8 ?e9 ?e10 ?_; (case e1 => rfl); (case e2 => rfl); (case e3 => rfl); (case e4 => rfl); (case e5 => rfl); (case e6 => exact BR.out); (case e7 => kernel_rfl); (case e8 => exact Nat.le_of_ble_eq_true rfl); (case e9 => kernel_rfl); (case e10 => kernel_rfl); intro w6 hn6 hg6))
    refine bodyPost_ret (results_ct rfl _ _ (w.heap.size + 1) 37 #[.slice B0 l0.length b0, .slice B1 l1.length b1, .slice B2 l2.length b2, .int .i64 p, .int .i64 q, .int .i64 r] (0, 0) _ rfl hn6 Tryz.underlying37 rfl (by kernel_rfl)) rfl ?_
    exact ⟨_, _, _, _, _, _, _, _, _, _, _, HW.out, rfl, r_put HF.out.r.r0 BR.out (by decide) hg6, r_put HF.out.r.r1 BR.out (by decide) hg6, r_put HF.out.r.r2 BR.out (by decide) hg6, Kd.R_nil _ _ _ _ _, b_put HB.out hg6 (by omega)⟩
  have HNB := Aside0.mk hbig
  have HI := Aside0.mk (show RunI w l0 l1 l2 p q r xs g 0 v3 W0 from ⟨B0, b0, l0, B1, b1, l1, B2, b2, l2, p, q, r, [], HF.out, HO.out, BR.out, HB.out, hgw, HGD.out, rfl, rfl⟩)
  clear HF HO BR HB hgw
  go_wp2
  go_loopw [7, 21] (fun v7 v21 wr => ∃ i : Nat, i ≤ xs.length ∧ v21 = .int .i64 i ∧ Aside0 (RunI w l0 l1 l2 p q r xs g i v7 wr)) (fun _ v21 _ => xs.length - (intOf v21).toNat)
  case atStart => exact ⟨0, Nat.zero_le _, rfl, HI⟩
  case round =>
    clear HI
    obtain ⟨i, hi, rfl, HI⟩ := hrel
    obtain ⟨B0, b0, ts, B1, b1, cs, B2, b2, ds, p1, q1, r1, told, hF, hO, hR, hB, hgw, hgd, hti, hrun⟩ := HI.out
    have HF := Aside0.mk hF
    have HO := Aside0.mk hO
    have BR := Aside0.mk hR
    have HB := Aside0.mk hB
    have HGI := Aside0.mk hgd
    have HRUN := Aside0.mk hrun
    clear hF hO hR hB hgd hrun HI
    by_cases hlt : i < xs.length
    · obtain ⟨ad, e0, hx0, hx1, hx2, hx3⟩ := at_T60 (Kd.C_below HC3.out HB.out) (i : Int) (by omega) (by omega)
      cases e0
      simp only [Int.toNat_natCast] at hx0 hx1 hx2 hx3
      have hdz := HXS.out _ (List.getElem_mem hlt)
      rw [← rd_atD hlt] at hdz
      obtain ⟨⟨d0, d1, d2, d3⟩, hX⟩ : ∃ X, rd_T60 xs (i : Int) = X := ⟨_, rfl⟩
      have HDR := Aside0.mk (show xs.drop i = ⟨d0, d1, d2, d3⟩ :: xs.drop (i + 1) by rw [List.drop_eq_getElem_cons hlt, ← rd_atD hlt, hX])
      rw [hX] at hx0 hx1 hx2 hx3 hdz
      clear hX
      dsimp only at hx0 hx1 hx2 hx3 hdz
      obtain ⟨⟨ts2, cs2, ds2, p2, q2, r2, ok⟩, hO⟩ : ∃ o, workF ts cs ds p1 q1 r1 d0 d1 d2 d3 = o := ⟨_, rfl⟩
      have HG2 := Aside0.mk (show Good ts2 cs2 ds2 by have := workF_good (p := p1) (q := q1) (r := r1) (d0 := d0) (d2 := d2) (d3 := d3) HGI.out hdz; rw [hO] at this; obtain ⟨h1, h2⟩ := this; dsimp only at h1 h2; rw [h1]; exact h2)
      have HSTEP := Aside0.mk (show runF xs l0 l1 l2 p q r [] = runF (xs.drop (i + 1)) ts2 cs2 ds2 p2 q2 r2 (told ++ [ok]) by rw [HRUN.out, HDR.out, runF_cons]; simp only [hO])
      have KW := Aside0.mk (fun w' (h : Below wr.heap.size wr w') => dowork_t B0 b0 ts B1 b1 cs B2 b2 ds p1 q1 r1 d0 d1 d2 d3 w' (Kd.C_below (C_of_R HF.out.r.r0).2.2 h) (C_of_R HF.out.r.r0).1 (Kd.C_below (C_of_R HF.out.r.r1).2.2 h) (C_of_R HF.out.r.r1).1 (Kd.C_below (C_of_R HF.out.r.r2).2.2 h) (C_of_R HF.out.r.r2).1 (fleetSz_of.1 HGI.out.1) HGI.out.2 hdz)
      simp only [hO] at KW
      clear hO HRUN HDR
      go_upto_region 7 with (fail)
      refine world_ (fun W => W.heap[wr.heap.size]? = some (.cells #[.int .i64 d0, .string d1, .int .i64 d2, .int .i64 d3] 60 (0, 0)) ∧ Below wr.heap.size wr W) ⟨blk_new wr _, below_alloc (Below.refl wr.heap.size wr) _⟩ ?_
      clear hx0 hx1 hx2 hx3
      rintro W HD
      replace HD := Aside0.mk HD
      obtain ⟨f0, f1, f2, f3, f4, f5⟩ := ck6 (blk_below HF.out.g HD.out.2)
      obtain ⟨y0, y1, y2, y3⟩ := ck4 HD.out.1
      go_upto_region 8 with (first | (go_at_call 30; (with_reducible refine (KW.out _ HD.out.2).mono ?_); rintro e w5 ⟨v0, v1, v2, rfl, hR0, hR1, hR2, hb5⟩; obtain ⟨M0, m0, rfl⟩ := Kd.R_slice hR0; obtain ⟨M1, m1, rfl⟩ := Kd.R_slice hR1; obtain ⟨M2, m2, rfl⟩ := Kd.R_slice hR2; clear f0 f1 f2 f3 f4 f5 y0 y1 y2 y3))
      have nw := below_alloc (Below.refl w5.heap.size w5) (.cells #[.slice M0 ts2.length m0, .slice M1 cs2.length m1, .slice M2 ds2.length m2, .int .i64 p2, .int .i64 q2, .int .i64 r2] 37 (0, 0))
      have HQ := Aside0.mk (show Flp w (w5.alloc (.cells #[.slice M0 ts2.length m0, .slice M1 cs2.length m1, .slice M2 ds2.length m2, .int .i64 p2, .int .i64 q2, .int .i64 r2] 37 (0, 0))) (fun _ => True) w5.heap.size M0 ts2.length m0 ts2 M1 cs2.length m1 cs2 M2 ds2.length m2 ds2 p2 q2 r2 ∧ Below wr.heap.size wr (w5.alloc (.cells #[.slice M0 ts2.length m0, .slice M1 cs2.length m1, .slice M2 ds2.length m2, .int .i64 p2, .int .i64 q2, .int .i64 r2] 37 (0, 0))) ∧ g < w5.heap.size from ⟨⟨blk_new w5 _, ⟨Kd.R_lower (Kd.R_below hR0 nw) (below_step HB.out HD.out.2).size, Kd.R_lower (Kd.R_below hR1 nw) (below_step HB.out HD.out.2).size, Kd.R_lower (Kd.R_below hR2 nw) (below_step HB.out HD.out.2).size⟩⟩, below_step (below_step HD.out.2 hb5) nw, blk_lt (blk_below (blk_below HF.out.g HD.out.2) hb5)⟩)
      clear nw hR0 hR1 hR2 hb5 HD KW
      generalize w5.heap.size = gx at HQ ⊢
      generalize w5.alloc _ = W7 at HQ ⊢
      have hup := below_step HQ.out.2.1 (below_drew (Below.refl W7.heap.size W7))
      have hgx := HQ.out.2.2
      replace HF := Aside0.mk (HF.out.up hup)
      replace HO := Aside0.mk (Kd.R_below HO.out hup)
      replace BR := Aside0.mk (blk_below BR.out hup)
      replace HB := Aside0.mk (below_step HB.out hup)
      replace HQ := Aside0.mk (HQ.out.1.up (below_drew (Below.refl W7.heap.size W7)))
      clear hup
      have L := Aside0.mk (fun (w' : World) (h : w'.heap[gx]? = some (.cells #[.slice M0 ts2.length m0, .slice M1 cs2.length m1, .slice M2 ds2.length m2, .int .i64 p2, .int .i64 q2, .int .i64 r2] 37 (0, 0))) => ck6 h)
      refine start_ (n := 7) (S := fun w' => w'.heap[gx]? = some (.cells #[.slice M0 ts2.length m0, .slice M1 cs2.length m1, .slice M2 ds2.length m2, .int .i64 p2, .int .i64 q2, .int .i64 r2] 37 (0, 0))) (ds := []) (Sq.M 0 7) (by kernel_rfl) rfl rfl HQ.out.g (fun hS => ?_)
      generalize W7.drew = W1 at hS HF HO BR HB HQ ⊢
      refine rt_ L.out hS 0 31 (Sq.M 1 7) ?_
      refine ra_ 1 32 (Sq.M 2 7) ?_
      refine ra_ 2 33 (Sq.M 3 7) ?_
      refine one_ (i := 3) (N := some 34) (Sq.M 4 7) rfl rfl (by kernel_rfl) (by decide) (fun K hK => ?_)
      refine value_ (w1 := ?_) (v := ?_) (by rfl) rfl ?_ ?_
      rotate_left 2
      · go_simp
        constructor
        · rfl
        · rfl
      refine hK.out _ _ (blk_alloc hS _) (fun hS2 => ?_)
      clear hK K hS2
      refine rn_ ?_
      refine one_ (i := 4) (N := some 35) (Sq.M 5 7) rfl rfl (by kernel_rfl) (by decide) (fun K hK => ?_)
      refine Kd.R_append_step Kd.bool (w0 := w) w.heap.size (by rfl) (.tmp 32) (.tmp 34) 38 4 (.bool false) 1 rfl Tryz.underlying38 infoB rfl (by decide) (by omega) u7 told ok [.bool ok] (fun _ => True) (fun _ => False) rfl rfl rfl (fun _ hk => hk.elim) (fun _ _ => trivial) HO.out HB.out HB.out.size (by omega) ?_
      intro v8 w3 ho hb hg _
      replace HF := Aside0.mk (HF.out.over HO.out hg)
      replace HQ := Aside0.mk (HQ.out.over HO.out hg)
      replace BR := Aside0.mk (blk_grown BR.out hg (Kd.R_ne HO.out BR.out (by decide)))
      clear hg HO
      refine hK.out _ _ HQ.out.g (fun hS3 => ?_)
      clear hK K hS3
      refine norm_ (a' := ?_) ?_ ?_
      rotate_left
      · (show Act.put _ (some 35) _ = _; simp only [sp_]; rfl)
      refine one_ (i := 5) (N := none) (Sq.M 6 7) rfl rfl (by kernel_rfl) (by decide) (fun K hK => ?_)
      refine sts_ 37 6 (.tmp 31) g 0 #[.slice M0 ts2.length m0, .slice M1 cs2.length m1, .slice M2 ds2.length m2, .int .i64 p2, .int .i64 q2, .int .i64 r2] #[.slice B0 ts.length b0, .slice B1 cs.length b1, .slice B2 ds.length b2, .int .i64 p1, .int .i64 q1, .int .i64 r1] #[.slice M0 ts2.length m0, .slice M1 cs2.length m1, .slice M2 ds2.length m2, .int .i64 p2, .int .i64 q2, .int .i64 r2] 37 (by rfl) rfl rfl rfl rfl HF.out.g (by kernel_rfl) (Nat.le_of_ble_eq_true rfl) (by kernel_rfl) (by kernel_rfl) ?_
      intro w4 hn4 hg4
      refine hK.out _ _ (blk_grown HQ.out.g hg4 (fun e => by injection e; omega)) (fun hS4 => ?_)
      clear hK K hS4
      refine ra_ 6 7 (Sq.M 7 7) ?_
      refine done_ (by kernel_rfl) ?_
      go_wp2
      go_roundw
      case measure => simp [intOf]; omega
      case rel => exact ⟨i + 1, by omega, by go_num, ⟨M0, m0, ts2, M1, m1, cs2, M2, m2, ds2, p2, q2, r2, told ++ [ok], ⟨hn4, ⟨r_put HQ.out.r.r0 HF.out.g (by decide) hg4, r_put HQ.out.r.r1 HF.out.g (by decide) hg4, r_put HQ.out.r.r2 HF.out.g (by decide) hg4⟩⟩, r_put ho HF.out.g (by decide) hg4, blk_grown BR.out hg4 (fun e => by injection e; omega), b_put hb hg4 (by omega), hgw, HG2.out, by rw [List.length_append, hti]; rfl, HSTEP.out⟩⟩
    · obtain rfl : i = xs.length := by omega
      have hr := HRUN.out
      rw [List.drop_length] at hr
      have HW := Aside0.mk (show runW l0 l1 l2 p q r xs = (ts, cs, ds, p1, q1, r1, told) by unfold runW; rw [if_neg (by have := HNB.out; omega)]; exact hr)
      clear hr HRUN
      obtain ⟨f0, f1, f2, f3, f4, f5⟩ := ck6 HF.out.g
      go_wp2_with (first | ((with_reducible refine gate_store (t := 37) (p := 4) rfl ?_); refine stm_ 37 4 (.tmp 37) (w.heap.size + 1) 0 #[.slice B0 ts.length b0, .slice B1 cs.length b1, .slice B2 ds.length b2, .int .i64 p1, .int .i64 q1, .int .i64 r1] #[.slice none 0 0, .slice none 0 0, .slice none 0 0, .int .i64 0, .int .i64 0, .int .i64 0] #[.slice B0 ts.length b0, .slice B1 cs.length b1, .slice B2 ds.length b2, .int .i64 p1, .int .i64 q1, .int .i64 r1] 37 ?e1 ?e2 ?e3 ?e4 ?e5 ?e6 ?e7 ?e8 ?e9 ?e10 ?_; (case e1 => rfl); (case e2 => rfl); (case e3 => rfl); (case e4 => rfl); (case e5 => rfl); (case e6 => exact BR.out); (case e7 => kernel_rfl); (case e8 => exact Nat.le_of_ble_eq_true rfl); (case e9 => kernel_rfl); (case e10 => kernel_rfl); intro w6 hn6 hg6))
      refine bodyPost_ret (results_ct rfl _ _ (w.heap.size + 1) 37 #[.slice B0 ts.length b0, .slice B1 cs.length b1, .slice B2 ds.length b2, .int .i64 p1, .int .i64 q1, .int .i64 r1] (0, 0) _ rfl hn6 Tryz.underlying37 rfl (by kernel_rfl)) rfl ?_
      exact ⟨_, _, _, _, _, _, _, _, _, _, _, HW.out, rfl, r_put HF.out.r.r0 BR.out (by decide) hg6, r_put HF.out.r.r1 BR.out (by decide) hg6, r_put HF.out.r.r2 BR.out (by decide) hg6, r_put HO.out BR.out (by decide) hg6, b_put HB.out hg6 (by omega)⟩
-- HAND TO

/-! ### laws_eqClock: function 34 -/
def laws_eqClock.f (a0_0 : Int) (a0_1 : Int) (a0_2 : Int) (a1_0 : Int) (a1_1 : Int) (a1_2 : Int) : Option (Bool) := if a0_0 = a1_0 then (if a0_1 = a1_1 then (if a0_2 = a1_2 then (some true) else (some false)) else (some false)) else (some false)
set_option maxHeartbeats 8000000 in
set_option maxRecDepth 100000 in
theorem laws_eqClock.calls (a0_0 : Int) (a0_1 : Int) (a0_2 : Int) (a1_0 : Int) (a1_1 : Int) (a1_2 : Int) (r : Bool) (w : World) (h : laws_eqClock.f a0_0 a0_1 a0_2 a1_0 a1_1 a1_2 = some r) :
  Calls Tryz.prog 34 #[.agg #[.int .i64 a0_0, .int .i64 a0_1, .int .i64 a0_2], .agg #[.int .i64 a1_0, .int .i64 a1_1, .int .i64 a1_2]] w fun e w' => e = .returned (.bool r) ∧ Below w.heap.size w w' := by
 have hu35 := Tryz.underlying35
 have HB := Aside0.mk (Below.refl w.heap.size w)
 have H : (if a0_0 = a1_0 then (if a0_1 = a1_1 then (if a0_2 = a1_2 then (some true) else (some false)) else (some false)) else (some false)) = some r := h
 clear h
 have HC3 := Aside0.mk H
 clear H
 go_enter Tryz.func34, Tryz.ntmps34
 go_upto_if 9 with (first | ((with_reducible refine gate_dst (N := 2) rfl ?_); refine box_event ?hg (N := 2) ?hd (cs := #[.int .i64 a0_0, .int .i64 a0_1, .int .i64 a0_2]) (t := 35) ?hr ?_; (case hd => rfl); (case hg => rfl); (case hr => first | (go_simp; done) | (go_simp; rfl)); intro gb325 hg w4 hbox hb; have BK325 := Aside0.mk (hbox); have GW325 := Aside0.mk ((by rw [hg]; exact (below_size (bl HB.out)) : w.heap.size ≤ gb325)); have GE325 := GW325; replace HB := Aside0.mk (below_step (bl HB.out) hb); clear hb hbox hg) | ((with_reducible refine gate_dst (N := 3) rfl ?_); refine box_event ?hg (N := 3) ?hd (cs := #[.int .i64 a1_0, .int .i64 a1_1, .int .i64 a1_2]) (t := 35) ?hr ?_; (case hd => rfl); (case hg => rfl); (case hr => first | (go_simp; done) | (go_simp; rfl)); intro gb326 hg w5 hbox hb; have BK326 := Aside0.mk (hbox); have GW326 := Aside0.mk ((by rw [hg]; exact (below_size (by repeat with_reducible first | exact bl HB.out | refine below_set ?_ GE325.out | refine bq ?_)) : w.heap.size ≤ gb326)); have GE326 := GW326; replace HB := Aside0.mk (below_step (by repeat with_reducible first | exact bl HB.out | refine below_set ?_ GE325.out | refine bq ?_) hb); have NB325_326 := nb_ hg BK325.out; have NB326_325 := Aside0.mk NB325_326.out.symm; replace BK325 := Aside0.mk (blk_below (bk BK325.out) hb); clear hb hbox hg; have hnb6 := NB325_326.out; have hnc6 := NB326_325.out; obtain ⟨hcz7_0, hcz7_1, hcz7_2⟩ := ck3 BK325.out; obtain ⟨hfz7_0, hfz7_1, hfz7_2⟩ := fz3 BK325.out; obtain ⟨hcz8_0, hcz8_1, hcz8_2⟩ := ck3 BK326.out; obtain ⟨hfz8_0, hfz8_1, hfz8_2⟩ := fz3 BK326.out))
 have H := HC3.out
 clear HC3
 by_cases c9 : a0_0 = a1_0
 ·
  rw [if_pos c9] at H
  have c9b0 : (a0_0 == a1_0) = true := beq_iff_eq.mpr c9
  have c9b1 : (a0_0 != a1_0) = false := bne_eq_false_iff_eq.mpr c9
  clear c9
  (first | rw [c9b0] | (simp only [i64_w, i32_w]; rw [c9b0]) | skip)
  by_cases c10 : a0_1 = a1_1
  ·
   rw [if_pos c10] at H
   have c10b0 : (a0_1 == a1_1) = true := beq_iff_eq.mpr c10
   have c10b1 : (a0_1 != a1_1) = false := bne_eq_false_iff_eq.mpr c10
   clear c10
   by_cases c11 : a0_2 = a1_2
   ·
    rw [if_pos c11] at H
    have c11b0 : (a0_2 == a1_2) = true := beq_iff_eq.mpr c11
    have c11b1 : (a0_2 != a1_2) = false := bne_eq_false_iff_eq.mpr c11
    clear c11
    obtain rfl := Option.some.inj H
    have hnb12 := NB325_326.out
    have hnc12 := NB326_325.out
    obtain ⟨hcz13_0, hcz13_1, hcz13_2⟩ := ck3 BK325.out
    obtain ⟨hfz13_0, hfz13_1, hfz13_2⟩ := fz3 BK325.out
    obtain ⟨hcz14_0, hcz14_1, hcz14_2⟩ := ck3 BK326.out
    obtain ⟨hfz14_0, hfz14_1, hfz14_2⟩ := fz3 BK326.out
    go_wp2
    go_ret
    exact ⟨by first | rfl | (simp [errW_none, errW_some] <;> rfl) | (simp [*, errW_none, errW_some] <;> rfl), by repeat with_reducible first | exact bl HB.out | refine below_set ?_ GE325.out | refine below_set ?_ GE326.out | refine bq ?_⟩
   ·
    rw [if_neg c11] at H
    have c11b0 : (a0_2 == a1_2) = false := beq_eq_false_iff_ne.mpr c11
    have c11b1 : (a0_2 != a1_2) = true := bne_iff_ne.mpr c11
    obtain rfl := Option.some.inj H
    have hnb15 := NB325_326.out
    have hnc15 := NB326_325.out
    obtain ⟨hcz16_0, hcz16_1, hcz16_2⟩ := ck3 BK325.out
    obtain ⟨hfz16_0, hfz16_1, hfz16_2⟩ := fz3 BK325.out
    obtain ⟨hcz17_0, hcz17_1, hcz17_2⟩ := ck3 BK326.out
    obtain ⟨hfz17_0, hfz17_1, hfz17_2⟩ := fz3 BK326.out
    go_wp2
    go_ret
    exact ⟨by first | rfl | (simp [errW_none, errW_some] <;> rfl) | (simp [*, errW_none, errW_some] <;> rfl), by repeat with_reducible first | exact bl HB.out | refine below_set ?_ GE325.out | refine below_set ?_ GE326.out | refine bq ?_⟩
  ·
   rw [if_neg c10] at H
   have c10b0 : (a0_1 == a1_1) = false := beq_eq_false_iff_ne.mpr c10
   have c10b1 : (a0_1 != a1_1) = true := bne_iff_ne.mpr c10
   obtain rfl := Option.some.inj H
   have hnb18 := NB325_326.out
   have hnc18 := NB326_325.out
   obtain ⟨hcz19_0, hcz19_1, hcz19_2⟩ := ck3 BK325.out
   obtain ⟨hfz19_0, hfz19_1, hfz19_2⟩ := fz3 BK325.out
   obtain ⟨hcz20_0, hcz20_1, hcz20_2⟩ := ck3 BK326.out
   obtain ⟨hfz20_0, hfz20_1, hfz20_2⟩ := fz3 BK326.out
   go_wp2
   go_ret
   exact ⟨by first | rfl | (simp [errW_none, errW_some] <;> rfl) | (simp [*, errW_none, errW_some] <;> rfl), by repeat with_reducible first | exact bl HB.out | refine below_set ?_ GE325.out | refine below_set ?_ GE326.out | refine bq ?_⟩
 ·
  rw [if_neg c9] at H
  have c9b0 : (a0_0 == a1_0) = false := beq_eq_false_iff_ne.mpr c9
  have c9b1 : (a0_0 != a1_0) = true := bne_iff_ne.mpr c9
  (first | rw [c9b0] | (simp only [i64_w, i32_w]; rw [c9b0]) | skip)
  obtain rfl := Option.some.inj H
  go_wp2
  go_ret
  exact ⟨by first | rfl | (simp [errW_none, errW_some] <;> rfl) | (simp [*, errW_none, errW_some] <;> rfl), by repeat with_reducible first | exact bl HB.out | refine below_set ?_ GE325.out | refine below_set ?_ GE326.out | refine bq ?_⟩

/-! ### laws_eqTask: function 57 -/
def laws_eqTask.f (a0_0 : ByteArray) (a0_1 : Int) (a0_2 : Int) (a0_3 : Int) (a0_4 : Int) (a0_5 : Int) (a0_6 : Int) (a1_0 : ByteArray) (a1_1 : Int) (a1_2 : Int) (a1_3 : Int) (a1_4 : Int) (a1_5 : Int) (a1_6 : Int) : Option (Bool) := if a0_0.toList = a1_0.toList then (if a0_1 = a1_1 then (if a0_2 = a1_2 then (if a0_3 = a1_3 then ((laws_eqClock.f a0_4 a0_5 a0_6 a1_4 a1_5 a1_6).bind fun t329 => (if t329 = true then (some true) else (some false))) else (some false)) else (some false)) else (some false)) else (some false)
set_option maxHeartbeats 8000000 in
set_option maxRecDepth 100000 in
theorem laws_eqTask.calls (a0_0 : ByteArray) (a0_1 : Int) (a0_2 : Int) (a0_3 : Int) (a0_4 : Int) (a0_5 : Int) (a0_6 : Int) (a1_0 : ByteArray) (a1_1 : Int) (a1_2 : Int) (a1_3 : Int) (a1_4 : Int) (a1_5 : Int) (a1_6 : Int) (r : Bool) (w : World) (h : laws_eqTask.f a0_0 a0_1 a0_2 a0_3 a0_4 a0_5 a0_6 a1_0 a1_1 a1_2 a1_3 a1_4 a1_5 a1_6 = some r) :
  Calls Tryz.prog 57 #[.agg #[.string a0_0, .int .i64 a0_1, .int .i64 a0_2, .int .i64 a0_3, .int .i64 a0_4, .int .i64 a0_5, .int .i64 a0_6], .agg #[.string a1_0, .int .i64 a1_1, .int .i64 a1_2, .int .i64 a1_3, .int .i64 a1_4, .int .i64 a1_5, .int .i64 a1_6]] w fun e w' => e = .returned (.bool r) ∧ Below w.heap.size w w' := by
 have hu86 := Tryz.underlying86
 have hu35 := Tryz.underlying35
 have HB := Aside0.mk (Below.refl w.heap.size w)
 have H : (if a0_0.toList = a1_0.toList then (if a0_1 = a1_1 then (if a0_2 = a1_2 then (if a0_3 = a1_3 then ((laws_eqClock.f a0_4 a0_5 a0_6 a1_4 a1_5 a1_6).bind fun t329 => (if t329 = true then (some true) else (some false))) else (some false)) else (some false)) else (some false)) else (some false)) = some r := h
 clear h
 have HC3 := Aside0.mk H
 clear H
 go_enter Tryz.func57, Tryz.ntmps57
 go_upto_if 9 with (first | ((with_reducible refine gate_dst (N := 2) rfl ?_); refine box_event ?hg (N := 2) ?hd (cs := #[.string a0_0, .int .i64 a0_1, .int .i64 a0_2, .int .i64 a0_3, .int .i64 a0_4, .int .i64 a0_5, .int .i64 a0_6]) (t := 86) ?hr ?_; (case hd => rfl); (case hg => rfl); (case hr => first | (go_simp; done) | (go_simp; rfl)); intro gb327 hg w4 hbox hb; have BK327 := Aside0.mk (hbox); have GW327 := Aside0.mk ((by rw [hg]; exact (below_size (bl HB.out)) : w.heap.size ≤ gb327)); have GE327 := GW327; replace HB := Aside0.mk (below_step (bl HB.out) hb); clear hb hbox hg) | ((with_reducible refine gate_dst (N := 3) rfl ?_); refine box_event ?hg (N := 3) ?hd (cs := #[.string a1_0, .int .i64 a1_1, .int .i64 a1_2, .int .i64 a1_3, .int .i64 a1_4, .int .i64 a1_5, .int .i64 a1_6]) (t := 86) ?hr ?_; (case hd => rfl); (case hg => rfl); (case hr => first | (go_simp; done) | (go_simp; rfl)); intro gb328 hg w5 hbox hb; have BK328 := Aside0.mk (hbox); have GW328 := Aside0.mk ((by rw [hg]; exact (below_size (by repeat with_reducible first | exact bl HB.out | refine below_set ?_ GE327.out | refine bq ?_)) : w.heap.size ≤ gb328)); have GE328 := GW328; replace HB := Aside0.mk (below_step (by repeat with_reducible first | exact bl HB.out | refine below_set ?_ GE327.out | refine bq ?_) hb); have NB327_328 := nb_ hg BK327.out; have NB328_327 := Aside0.mk NB327_328.out.symm; replace BK327 := Aside0.mk (blk_below (bk BK327.out) hb); clear hb hbox hg; have hnb6 := NB327_328.out; have hnc6 := NB328_327.out; obtain ⟨hcz7_0, hcz7_1, hcz7_2, hcz7_3, hcz7_4, hcz7_5, hcz7_6⟩ := ck7 BK327.out; obtain ⟨hfz7_0, hfz7_1, hfz7_2, hfz7_3, hfz7_4, hfz7_5, hfz7_6⟩ := fz7 BK327.out; obtain ⟨hcz8_0, hcz8_1, hcz8_2, hcz8_3, hcz8_4, hcz8_5, hcz8_6⟩ := ck7 BK328.out; obtain ⟨hfz8_0, hfz8_1, hfz8_2, hfz8_3, hfz8_4, hfz8_5, hfz8_6⟩ := fz7 BK328.out))
 have H := HC3.out
 clear HC3
 by_cases c9 : a0_0.toList = a1_0.toList
 ·
  rw [if_pos c9] at H
  have c9b0 : (a0_0.toList == a1_0.toList) = true := beq_iff_eq.mpr c9
  have c9b1 : (a0_0.toList != a1_0.toList) = false := bne_eq_false_iff_eq.mpr c9
  clear c9
  (first | rw [c9b0] | (simp only [i64_w, i32_w]; rw [c9b0]) | skip)
  by_cases c10 : a0_1 = a1_1
  ·
   rw [if_pos c10] at H
   have c10b0 : (a0_1 == a1_1) = true := beq_iff_eq.mpr c10
   have c10b1 : (a0_1 != a1_1) = false := bne_eq_false_iff_eq.mpr c10
   clear c10
   by_cases c11 : a0_2 = a1_2
   ·
    rw [if_pos c11] at H
    have c11b0 : (a0_2 == a1_2) = true := beq_iff_eq.mpr c11
    have c11b1 : (a0_2 != a1_2) = false := bne_eq_false_iff_eq.mpr c11
    clear c11
    by_cases c12 : a0_3 = a1_3
    ·
     rw [if_pos c12] at H
     have c12b0 : (a0_3 == a1_3) = true := beq_iff_eq.mpr c12
     have c12b1 : (a0_3 != a1_3) = false := bne_eq_false_iff_eq.mpr c12
     clear c12
     replace H := Option.bind_eq_some_iff.mp H
     obtain ⟨t329, A130, H⟩ := H
     replace H : (if t329 = true then (some true) else (some false)) = some r := H
     have A13 := Aside0.mk A130
     clear A130
     have HC14 := Aside0.mk H
     clear H
     have hnb15 := NB327_328.out
     have hnc15 := NB328_327.out
     obtain ⟨hcz16_0, hcz16_1, hcz16_2, hcz16_3, hcz16_4, hcz16_5, hcz16_6⟩ := ck7 BK327.out
     obtain ⟨hfz16_0, hfz16_1, hfz16_2, hfz16_3, hfz16_4, hfz16_5, hfz16_6⟩ := fz7 BK327.out
     obtain ⟨hcz17_0, hcz17_1, hcz17_2, hcz17_3, hcz17_4, hcz17_5, hcz17_6⟩ := ck7 BK328.out
     obtain ⟨hfz17_0, hfz17_1, hfz17_2, hfz17_3, hfz17_4, hfz17_5, hfz17_6⟩ := fz7 BK328.out
     go_upto_if 30 with (first | ((with_reducible refine gate_callee (f := 34) rfl ?_); refine goesL_ (some 29) rfl rfl Tryz.func34 (by kernel_rfl) rfl #[.agg #[.int .i64 a0_4, .int .i64 a0_5, .int .i64 a0_6], .agg #[.int .i64 a1_4, .int .i64 a1_5, .int .i64 a1_6]] rfl (by (try simp only [am_]); first | done | rfl) ?_; (with_reducible refine (laws_eqClock.calls a0_4 a0_5 a0_6 a1_4 a1_5 a1_6 t329 _ A13.out).mono ?_); rintro e w18 ⟨rfl, hb⟩; refine ⟨_, rfl, ?_⟩; replace BK327 := Aside0.mk (blk_below (bk BK327.out) hb); replace BK328 := Aside0.mk (blk_below (bk BK328.out) hb); replace HB := Aside0.mk (below_step (by repeat with_reducible first | exact bl HB.out | refine below_set ?_ GE327.out | refine below_set ?_ GE328.out | refine bq ?_) hb); (try clear hb); (try clear hb2); (try clear hk); (try clear hi)))
     have H := HC14.out
     clear HC14
     by_cases c19 : t329 = true
     ·
      subst c19
      have H1 : (some true) = some r := by rw [if_pos rfl] at H; exact H
      clear H
      have H := H1
      clear H1
      obtain rfl := Option.some.inj H
      go_wp2
      go_ret
      exact ⟨by first | rfl | (simp [errW_none, errW_some] <;> rfl) | (simp [*, errW_none, errW_some] <;> rfl), by repeat with_reducible first | exact bl HB.out | refine below_set ?_ GE327.out | refine below_set ?_ GE328.out | refine bq ?_⟩
     ·
      replace c19 := Bool.eq_false_iff.mpr c19
      subst c19
      have H1 : (some false) = some r := by rw [if_neg (show ¬ (false = true) by decide)] at H; exact H
      clear H
      have H := H1
      clear H1
      obtain rfl := Option.some.inj H
      go_wp2
      go_ret
      exact ⟨by first | rfl | (simp [errW_none, errW_some] <;> rfl) | (simp [*, errW_none, errW_some] <;> rfl), by repeat with_reducible first | exact bl HB.out | refine below_set ?_ GE327.out | refine below_set ?_ GE328.out | refine bq ?_⟩
    ·
     rw [if_neg c12] at H
     have c12b0 : (a0_3 == a1_3) = false := beq_eq_false_iff_ne.mpr c12
     have c12b1 : (a0_3 != a1_3) = true := bne_iff_ne.mpr c12
     obtain rfl := Option.some.inj H
     have hnb20 := NB327_328.out
     have hnc20 := NB328_327.out
     obtain ⟨hcz21_0, hcz21_1, hcz21_2, hcz21_3, hcz21_4, hcz21_5, hcz21_6⟩ := ck7 BK327.out
     obtain ⟨hfz21_0, hfz21_1, hfz21_2, hfz21_3, hfz21_4, hfz21_5, hfz21_6⟩ := fz7 BK327.out
     obtain ⟨hcz22_0, hcz22_1, hcz22_2, hcz22_3, hcz22_4, hcz22_5, hcz22_6⟩ := ck7 BK328.out
     obtain ⟨hfz22_0, hfz22_1, hfz22_2, hfz22_3, hfz22_4, hfz22_5, hfz22_6⟩ := fz7 BK328.out
     go_wp2
     go_ret
     exact ⟨by first | rfl | (simp [errW_none, errW_some] <;> rfl) | (simp [*, errW_none, errW_some] <;> rfl), by repeat with_reducible first | exact bl HB.out | refine below_set ?_ GE327.out | refine below_set ?_ GE328.out | refine bq ?_⟩
   ·
    rw [if_neg c11] at H
    have c11b0 : (a0_2 == a1_2) = false := beq_eq_false_iff_ne.mpr c11
    have c11b1 : (a0_2 != a1_2) = true := bne_iff_ne.mpr c11
    obtain rfl := Option.some.inj H
    have hnb23 := NB327_328.out
    have hnc23 := NB328_327.out
    obtain ⟨hcz24_0, hcz24_1, hcz24_2, hcz24_3, hcz24_4, hcz24_5, hcz24_6⟩ := ck7 BK327.out
    obtain ⟨hfz24_0, hfz24_1, hfz24_2, hfz24_3, hfz24_4, hfz24_5, hfz24_6⟩ := fz7 BK327.out
    obtain ⟨hcz25_0, hcz25_1, hcz25_2, hcz25_3, hcz25_4, hcz25_5, hcz25_6⟩ := ck7 BK328.out
    obtain ⟨hfz25_0, hfz25_1, hfz25_2, hfz25_3, hfz25_4, hfz25_5, hfz25_6⟩ := fz7 BK328.out
    go_wp2
    go_ret
    exact ⟨by first | rfl | (simp [errW_none, errW_some] <;> rfl) | (simp [*, errW_none, errW_some] <;> rfl), by repeat with_reducible first | exact bl HB.out | refine below_set ?_ GE327.out | refine below_set ?_ GE328.out | refine bq ?_⟩
  ·
   rw [if_neg c10] at H
   have c10b0 : (a0_1 == a1_1) = false := beq_eq_false_iff_ne.mpr c10
   have c10b1 : (a0_1 != a1_1) = true := bne_iff_ne.mpr c10
   obtain rfl := Option.some.inj H
   have hnb26 := NB327_328.out
   have hnc26 := NB328_327.out
   obtain ⟨hcz27_0, hcz27_1, hcz27_2, hcz27_3, hcz27_4, hcz27_5, hcz27_6⟩ := ck7 BK327.out
   obtain ⟨hfz27_0, hfz27_1, hfz27_2, hfz27_3, hfz27_4, hfz27_5, hfz27_6⟩ := fz7 BK327.out
   obtain ⟨hcz28_0, hcz28_1, hcz28_2, hcz28_3, hcz28_4, hcz28_5, hcz28_6⟩ := ck7 BK328.out
   obtain ⟨hfz28_0, hfz28_1, hfz28_2, hfz28_3, hfz28_4, hfz28_5, hfz28_6⟩ := fz7 BK328.out
   go_wp2
   go_ret
   exact ⟨by first | rfl | (simp [errW_none, errW_some] <;> rfl) | (simp [*, errW_none, errW_some] <;> rfl), by repeat with_reducible first | exact bl HB.out | refine below_set ?_ GE327.out | refine below_set ?_ GE328.out | refine bq ?_⟩
 ·
  rw [if_neg c9] at H
  have c9b0 : (a0_0.toList == a1_0.toList) = false := beq_eq_false_iff_ne.mpr c9
  have c9b1 : (a0_0.toList != a1_0.toList) = true := bne_iff_ne.mpr c9
  (first | rw [c9b0] | (simp only [i64_w, i32_w]; rw [c9b0]) | skip)
  obtain rfl := Option.some.inj H
  go_wp2
  go_ret
  exact ⟨by first | rfl | (simp [errW_none, errW_some] <;> rfl) | (simp [*, errW_none, errW_some] <;> rfl), by repeat with_reducible first | exact bl HB.out | refine below_set ?_ GE327.out | refine below_set ?_ GE328.out | refine bq ?_⟩

/-! ### laws_eqTaskS: function 31 -/
def laws_eqTaskS.l0 : Nat → List (S86) → List (S86) → Int → Option (Bool)
 | 0, _, _, _ => none
 | k + 1, x0, x1, x5 => if x5 < (x0.length : Int) then (if 0 ≤ x5 then (if x5 < (x1.length : Int) then ((laws_eqTask.f ((rd_T86 x0 x5).f0) ((rd_T86 x0 x5).f1) ((rd_T86 x0 x5).f2) ((rd_T86 x0 x5).f3) ((rd_T86 x0 x5).f4.f0) ((rd_T86 x0 x5).f4.f1) ((rd_T86 x0 x5).f4.f2) ((rd_T86 x1 x5).f0) ((rd_T86 x1 x5).f1) ((rd_T86 x1 x5).f2) ((rd_T86 x1 x5).f3) ((rd_T86 x1 x5).f4.f0) ((rd_T86 x1 x5).f4.f1) ((rd_T86 x1 x5).f4.f2)).bind fun t332 => (if t332 = true then (laws_eqTaskS.l0 k x0 x1 (wrap64 (x5 + 1))) else (some false))) else (none)) else (none)) else (some true)
def laws_eqTaskS.f (k : Nat) (l0 : List (S86)) (l1 : List (S86)) : Option (Bool) := if (l0.length : Int) = (l1.length : Int) then (laws_eqTaskS.l0 k l0 l1 0) else (some false)
def laws_eqTaskS.T6 : Bool × List (List Nat × List Nat) := (true, [([], []), ([], []), ([0, 1], [0, 1]), ([2], [2]), ([], []), ([], []), ([4, 5], [4, 5]), ([6], [6]), ([3, 7], [3, 7]), ([8], [8])])
def laws_eqTaskS.B6 : List Nat := [0, 0, 3, 7, 0, 0, 48, 112, 255, 511]
theorem laws_eqTaskS.tab6 : rtab .any (opsOf Tryz.f31 6) = laws_eqTaskS.T6 := by kernel_rfl
theorem laws_eqTaskS.bits6 : waitsOk laws_eqTaskS.T6.2 laws_eqTaskS.B6 = true := by kernel_rfl
set_option maxHeartbeats 8000000 in
set_option maxRecDepth 100000 in
theorem laws_eqTaskS.calls (k : Nat) (A0 : Option Addr) (c0 : Nat) (l0 : List (S86)) (A1 : Option Addr) (c1 : Nat) (l1 : List (S86)) (r : Bool) (w : World) (hr0 : Kd.C k86 w A0 l0.length l0) (hc0 : l0.length ≤ c0) (hr1 : Kd.C k86 w A1 l1.length l1) (hc1 : l1.length ≤ c1) (h : laws_eqTaskS.f k l0 l1 = some r) :
  Calls Tryz.prog 31 #[.slice A0 l0.length c0, .slice A1 l1.length c1] w fun e w' => e = .returned (.bool r) ∧ Below w.heap.size w w' := by
 have hu86 := Tryz.underlying86
 have HR0 := Aside0.mk hr0
 have HC0 := Aside0.mk hc0
 clear hr0 hc0
 have HR1 := Aside0.mk hr1
 have HC1 := Aside0.mk hc1
 clear hr1 hc1
 have HB := Aside0.mk (Below.refl w.heap.size w)
 have H : (if (l0.length : Int) = (l1.length : Int) then (laws_eqTaskS.l0 k l0 l1 0) else (some false)) = some r := h
 clear h
 by_cases c3 : (l0.length : Int) = (l1.length : Int)
 ·
  rw [if_pos c3] at H
  have c3b0 : ((l0.length : Int) == (l1.length : Int)) = true := beq_iff_eq.mpr c3
  have c3b1 : ((l0.length : Int) != (l1.length : Int)) = false := bne_eq_false_iff_eq.mpr c3
  have c3b2 : (l0.length == l1.length) = true := by first | simpa using c3 | (simp at c3 ⊢; omega)
  clear c3
  have H' := Aside0.mk H
  clear H
  go_enter Tryz.func31, Tryz.ntmps31
  go_wp2
  go_loopg [5] k (fun kq v5 w' => ∃ (x5_1 : Int), v5 = .int .i64 x5_1 ∧ Aside0 (laws_eqTaskS.l0 kq l0 l1 x5_1 = some r) ∧ Aside0 (kq ≤ k) ∧ Aside0 (Below w.heap.size w w'))
  case atStart => exact ⟨(0), (by first | rfl | (simp; done) | (simp [*]; done)), H', ⟨Nat.le_refl _⟩, ⟨bl HB.out⟩⟩
  case round =>
   clear H'
   try clear c1
   try clear p2
   try clear c3
   try clear c3b0
   try clear c3b1
   try clear c3b2
   obtain ⟨x5_1, rfl, HA, HK1, HB⟩ := hrel
   cases gk with
   | zero => exact absurd HA.out (by simp [laws_eqTaskS.l0])
   | succ k1 =>
    have H := HA.out
    clear HA
    simp only [laws_eqTaskS.l0] at H
    by_cases c4 : x5_1 < (l0.length : Int)
    ·
     rw [if_pos c4] at H
     have c4b0 : decide (x5_1 < (l0.length : Int)) = true := decide_eq_true c4
     clear c4
     by_cases c5 : 0 ≤ x5_1
     ·
      rw [if_pos c5] at H
      have c5b0 : decide (0 ≤ x5_1) = true := decide_eq_true c5
      clear c5
      by_cases c6 : x5_1 < (l1.length : Int)
      ·
       rw [if_pos c6] at H
       have c6b0 : decide (x5_1 < (l1.length : Int)) = true := decide_eq_true c6
       clear c6
       replace H := Option.bind_eq_some_iff.mp H
       obtain ⟨t332, A70, H⟩ := H
       replace H : (if t332 = true then (laws_eqTaskS.l0 k1 l0 l1 (wrap64 (x5_1 + 1))) else (some false)) = some r := H
       have A7 := Aside0.mk A70
       clear A70
       have HC8 := Aside0.mk H
       clear H
       try go_wp2
       have n0_ := Aside0.mk (below_drew1 HB.out)
       clear HB
       have HB := n0_
       clear n0_
       have p330 : 0 ≤ (x5_1 : Int) := of_decide_eq_true (by first | (with_reducible assumption) | assumption)
       have q330 : x5_1 < (l0.length : Int) := of_decide_eq_true (by first | (with_reducible assumption) | assumption)
       obtain ⟨ad330, e330, hx330_0, hx330_1, hx330_2, hx330_3, hx330_4, hx330_5, hx330_6⟩ := at_T86 HR0.out x5_1 p330 q330
       have hw330_6 := hx330_6
       have hw330_5 := hx330_5
       have hw330_4 := hx330_4
       have hw330_3 := hx330_3
       have hw330_2 := hx330_2
       have hw330_1 := hx330_1
       have hw330_0 := hx330_0
       cases e330
       replace hx330_0 := bc HB.out hx330_0
       replace hx330_1 := bc HB.out hx330_1
       replace hx330_2 := bc HB.out hx330_2
       replace hx330_3 := bc HB.out hx330_3
       replace hx330_4 := bc HB.out hx330_4
       replace hx330_5 := bc HB.out hx330_5
       replace hx330_6 := bc HB.out hx330_6
       replace p330 := eq_true p330
       replace q330 := eq_true q330
       have p331 : 0 ≤ (x5_1 : Int) := of_decide_eq_true (by first | (with_reducible assumption) | assumption)
       have q331 : x5_1 < (l1.length : Int) := of_decide_eq_true (by first | (with_reducible assumption) | assumption)
       obtain ⟨ad331, e331, hx331_0, hx331_1, hx331_2, hx331_3, hx331_4, hx331_5, hx331_6⟩ := at_T86 HR1.out x5_1 p331 q331
       have hw331_6 := hx331_6
       have hw331_5 := hx331_5
       have hw331_4 := hx331_4
       have hw331_3 := hx331_3
       have hw331_2 := hx331_2
       have hw331_1 := hx331_1
       have hw331_0 := hx331_0
       cases e331
       replace hx331_0 := bc HB.out hx331_0
       replace hx331_1 := bc HB.out hx331_1
       replace hx331_2 := bc HB.out hx331_2
       replace hx331_3 := bc HB.out hx331_3
       replace hx331_4 := bc HB.out hx331_4
       replace hx331_5 := bc HB.out hx331_5
       replace hx331_6 := bc HB.out hx331_6
       replace p331 := eq_true p331
       replace q331 := eq_true q331
       refine start_ (n := 10) (S := fun w' => w'.cell? (ad330.add ((x5_1).toNat * 7)) = some (.string ((rd_T86 l0 x5_1).f0)) ∧ w'.cell? ⟨(ad330.add ((x5_1).toNat * 7)).block, (ad330.add ((x5_1).toNat * 7)).off + 1, none⟩ = some (.int .i64 ((rd_T86 l0 x5_1).f1)) ∧ w'.cell? ⟨(ad330.add ((x5_1).toNat * 7)).block, (ad330.add ((x5_1).toNat * 7)).off + 2, none⟩ = some (.int .i64 ((rd_T86 l0 x5_1).f2)) ∧ w'.cell? ⟨(ad330.add ((x5_1).toNat * 7)).block, (ad330.add ((x5_1).toNat * 7)).off + 3, none⟩ = some (.int .i64 ((rd_T86 l0 x5_1).f3)) ∧ w'.cell? ⟨(ad330.add ((x5_1).toNat * 7)).block, (ad330.add ((x5_1).toNat * 7)).off + 4, none⟩ = some (.int .i64 ((rd_T86 l0 x5_1).f4.f0)) ∧ w'.cell? ⟨(ad330.add ((x5_1).toNat * 7)).block, (ad330.add ((x5_1).toNat * 7)).off + 5, none⟩ = some (.int .i64 ((rd_T86 l0 x5_1).f4.f1)) ∧ w'.cell? ⟨(ad330.add ((x5_1).toNat * 7)).block, (ad330.add ((x5_1).toNat * 7)).off + 6, none⟩ = some (.int .i64 ((rd_T86 l0 x5_1).f4.f2)) ∧ w'.cell? (ad331.add ((x5_1).toNat * 7)) = some (.string ((rd_T86 l1 x5_1).f0)) ∧ w'.cell? ⟨(ad331.add ((x5_1).toNat * 7)).block, (ad331.add ((x5_1).toNat * 7)).off + 1, none⟩ = some (.int .i64 ((rd_T86 l1 x5_1).f1)) ∧ w'.cell? ⟨(ad331.add ((x5_1).toNat * 7)).block, (ad331.add ((x5_1).toNat * 7)).off + 2, none⟩ = some (.int .i64 ((rd_T86 l1 x5_1).f2)) ∧ w'.cell? ⟨(ad331.add ((x5_1).toNat * 7)).block, (ad331.add ((x5_1).toNat * 7)).off + 3, none⟩ = some (.int .i64 ((rd_T86 l1 x5_1).f3)) ∧ w'.cell? ⟨(ad331.add ((x5_1).toNat * 7)).block, (ad331.add ((x5_1).toNat * 7)).off + 4, none⟩ = some (.int .i64 ((rd_T86 l1 x5_1).f4.f0)) ∧ w'.cell? ⟨(ad331.add ((x5_1).toNat * 7)).block, (ad331.add ((x5_1).toNat * 7)).off + 5, none⟩ = some (.int .i64 ((rd_T86 l1 x5_1).f4.f1)) ∧ w'.cell? ⟨(ad331.add ((x5_1).toNat * 7)).block, (ad331.add ((x5_1).toNat * 7)).off + 6, none⟩ = some (.int .i64 ((rd_T86 l1 x5_1).f4.f2))) (ds := []) m0_10 (by kernel_rfl) rfl rfl ⟨((HB.out.cell (World.block_lt_of_cell? w _ hw330_0)).trans hw330_0), ((HB.out.cell (World.block_lt_of_cell? w _ hw330_1)).trans hw330_1), ((HB.out.cell (World.block_lt_of_cell? w _ hw330_2)).trans hw330_2), ((HB.out.cell (World.block_lt_of_cell? w _ hw330_3)).trans hw330_3), ((HB.out.cell (World.block_lt_of_cell? w _ hw330_4)).trans hw330_4), ((HB.out.cell (World.block_lt_of_cell? w _ hw330_5)).trans hw330_5), ((HB.out.cell (World.block_lt_of_cell? w _ hw330_6)).trans hw330_6), ((HB.out.cell (World.block_lt_of_cell? w _ hw331_0)).trans hw331_0), ((HB.out.cell (World.block_lt_of_cell? w _ hw331_1)).trans hw331_1), ((HB.out.cell (World.block_lt_of_cell? w _ hw331_2)).trans hw331_2), ((HB.out.cell (World.block_lt_of_cell? w _ hw331_3)).trans hw331_3), ((HB.out.cell (World.block_lt_of_cell? w _ hw331_4)).trans hw331_4), ((HB.out.cell (World.block_lt_of_cell? w _ hw331_5)).trans hw331_5), ((HB.out.cell (World.block_lt_of_cell? w _ hw331_6)).trans hw331_6)⟩ (fun hHeld => ?_); refine with_tabW laws_eqTaskS.tab6 laws_eqTaskS.bits6 (fun HT_ HW_ => ?_)
       generalize wr.drew = w9 at HB hx330_0 hx330_1 hx330_2 hx330_3 hx330_4 hx330_5 hx330_6 hx331_0 hx331_1 hx331_2 hx331_3 hx331_4 hx331_5 hx331_6 hHeld ⊢
       refine pq_ HT_.out 0 17 m1_10 ?_
       refine pq_ HT_.out 1 18 m2_10 ?_
       refine pq_ HT_.out 2 19 m3_10 ?_
       refine pq_ HT_.out 4 21 n70 ?_
       refine pq_ HT_.out 5 22 n71 ?_
       refine pq_ HT_.out 6 23 n72 ?_
       refine tk_ HT_.out HW_.out 3 20 m7_10 rfl rfl (by kernel_rfl) (by rfl) (by rintro w' ⟨s0, s1, s2, s3, s4, s5, s6, s7, s8, s9, s10, s11, s12, s13⟩; go_simp; with_reducible rfl) hHeld (by simp only [sp_]; rfl) (fun _ _ _ h => h) ?_
       refine tk_ HT_.out HW_.out 7 24 m8_10 rfl rfl (by kernel_rfl) (by rfl) (by rintro w' ⟨s0, s1, s2, s3, s4, s5, s6, s7, s8, s9, s10, s11, s12, s13⟩; go_simp; with_reducible rfl) hHeld (by simp only [sp_]; rfl) (fun _ _ _ h => h) ?_
       refine one_ (i := 8) (N := some 25) m9_10 rfl rfl (one_of HT_.out (by kernel_rfl)) (by decide) (fun K hK => ?_)
       refine goes_ Tryz.func57 (by kernel_rfl) rfl #[.agg #[.string ((rd_T86 l0 x5_1).f0), .int .i64 ((rd_T86 l0 x5_1).f1), .int .i64 ((rd_T86 l0 x5_1).f2), .int .i64 ((rd_T86 l0 x5_1).f3), .int .i64 ((rd_T86 l0 x5_1).f4.f0), .int .i64 ((rd_T86 l0 x5_1).f4.f1), .int .i64 ((rd_T86 l0 x5_1).f4.f2)], .agg #[.string ((rd_T86 l1 x5_1).f0), .int .i64 ((rd_T86 l1 x5_1).f1), .int .i64 ((rd_T86 l1 x5_1).f2), .int .i64 ((rd_T86 l1 x5_1).f3), .int .i64 ((rd_T86 l1 x5_1).f4.f0), .int .i64 ((rd_T86 l1 x5_1).f4.f1), .int .i64 ((rd_T86 l1 x5_1).f4.f2)]] (by rfl) rfl rfl (by (try simp only [am_]); first | done | rfl) ?_
       with_reducible refine (laws_eqTask.calls ((rd_T86 l0 x5_1).f0) ((rd_T86 l0 x5_1).f1) ((rd_T86 l0 x5_1).f2) ((rd_T86 l0 x5_1).f3) ((rd_T86 l0 x5_1).f4.f0) ((rd_T86 l0 x5_1).f4.f1) ((rd_T86 l0 x5_1).f4.f2) ((rd_T86 l1 x5_1).f0) ((rd_T86 l1 x5_1).f1) ((rd_T86 l1 x5_1).f2) ((rd_T86 l1 x5_1).f3) ((rd_T86 l1 x5_1).f4.f0) ((rd_T86 l1 x5_1).f4.f1) ((rd_T86 l1 x5_1).f4.f2) t332 _ A7.out).mono ?_
       rintro e w10 ⟨rfl, hb⟩
       refine ⟨_, rfl, ?_⟩
       have n0_ := Aside0.mk (below_step (bl HB.out) hb)
       clear HB
       have HB := n0_
       clear n0_
       (try clear hb)
       (try clear hb2)
       (try clear hk)
       (try clear hi)
       refine hK.out _ _ ⟨((HB.out.cell (World.block_lt_of_cell? w _ hw330_0)).trans hw330_0), ((HB.out.cell (World.block_lt_of_cell? w _ hw330_1)).trans hw330_1), ((HB.out.cell (World.block_lt_of_cell? w _ hw330_2)).trans hw330_2), ((HB.out.cell (World.block_lt_of_cell? w _ hw330_3)).trans hw330_3), ((HB.out.cell (World.block_lt_of_cell? w _ hw330_4)).trans hw330_4), ((HB.out.cell (World.block_lt_of_cell? w _ hw330_5)).trans hw330_5), ((HB.out.cell (World.block_lt_of_cell? w _ hw330_6)).trans hw330_6), ((HB.out.cell (World.block_lt_of_cell? w _ hw331_0)).trans hw331_0), ((HB.out.cell (World.block_lt_of_cell? w _ hw331_1)).trans hw331_1), ((HB.out.cell (World.block_lt_of_cell? w _ hw331_2)).trans hw331_2), ((HB.out.cell (World.block_lt_of_cell? w _ hw331_3)).trans hw331_3), ((HB.out.cell (World.block_lt_of_cell? w _ hw331_4)).trans hw331_4), ((HB.out.cell (World.block_lt_of_cell? w _ hw331_5)).trans hw331_5), ((HB.out.cell (World.block_lt_of_cell? w _ hw331_6)).trans hw331_6)⟩ (fun hHeld => ?_)
       clear hK K
       refine norm_ (a' := ?_) ?_ ?_
       rotate_left
       ·
        show Act.put _ (some 25) _ = _
        simp only [sp_]
        rfl
       refine pq_ HT_.out 9 26 m10_10 ?_
       refine done_ (done_of HT_.out (by kernel_rfl)) ?_
       go_upto_if 26 with (fail)
       have H := HC8.out
       clear HC8
       by_cases c11 : t332 = true
       ·
        subst c11
        have H1 : (laws_eqTaskS.l0 k1 l0 l1 (wrap64 (x5_1 + 1))) = some r := by rw [if_pos rfl] at H; exact H
        clear H
        have H := H1
        clear H1
        have H' := Aside0.mk H
        clear H
        go_wp2
        go_roundg k1
        case measure => have := HK1.out; omega
        case rel => exact ⟨(wrap64 (x5_1 + 1)), (by first | rfl | (simp; done) | (simp [*]; done)), H', ⟨by have := HK1.out; omega⟩, ⟨bl HB.out⟩⟩
       ·
        replace c11 := Bool.eq_false_iff.mpr c11
        subst c11
        have H1 : (some false) = some r := by rw [if_neg (show ¬ (false = true) by decide)] at H; exact H
        clear H
        have H := H1
        clear H1
        obtain rfl := Option.some.inj H
        go_wp2
        go_ret
        exact ⟨by first | rfl | (simp [errW_none, errW_some] <;> rfl) | (simp [*, errW_none, errW_some] <;> rfl), bl HB.out⟩
      ·
       rw [if_neg c6] at H
       exact absurd H (by simp)
     ·
      rw [if_neg c5] at H
      exact absurd H (by simp)
    ·
     rw [if_neg c4] at H
     have c4b0 : decide (x5_1 < (l0.length : Int)) = false := decide_eq_false c4
     clear c4
     obtain rfl := Option.some.inj H
     go_wp2
     go_ret
     exact ⟨by first | rfl | (simp [errW_none, errW_some] <;> rfl) | (simp [*, errW_none, errW_some] <;> rfl), bl HB.out⟩
 ·
  rw [if_neg c3] at H
  have c3b0 : ((l0.length : Int) == (l1.length : Int)) = false := beq_eq_false_iff_ne.mpr c3
  have c3b1 : ((l0.length : Int) != (l1.length : Int)) = true := bne_iff_ne.mpr c3
  have c3b2 : (l0.length == l1.length) = false := by first | simpa using c3 | (simp at c3 ⊢; omega)
  obtain rfl := Option.some.inj H
  go_enter Tryz.func31, Tryz.ntmps31
  go_wp2
  go_ret
  exact ⟨by first | rfl | (simp [errW_none, errW_some] <;> rfl) | (simp [*, errW_none, errW_some] <;> rfl), bl HB.out⟩

/-! ### laws_eqCarry: function 58 -/
def laws_eqCarry.f (a0_0 : ByteArray) (a0_1 : Int) (a0_2 : Int) (a1_0 : ByteArray) (a1_1 : Int) (a1_2 : Int) : Option (Bool) := if a0_0.toList = a1_0.toList then (if a0_1 = a1_1 then (if a0_2 = a1_2 then (some true) else (some false)) else (some false)) else (some false)
set_option maxHeartbeats 8000000 in
set_option maxRecDepth 100000 in
theorem laws_eqCarry.calls (a0_0 : ByteArray) (a0_1 : Int) (a0_2 : Int) (a1_0 : ByteArray) (a1_1 : Int) (a1_2 : Int) (r : Bool) (w : World) (h : laws_eqCarry.f a0_0 a0_1 a0_2 a1_0 a1_1 a1_2 = some r) :
  Calls Tryz.prog 58 #[.agg #[.string a0_0, .int .i64 a0_1, .int .i64 a0_2], .agg #[.string a1_0, .int .i64 a1_1, .int .i64 a1_2]] w fun e w' => e = .returned (.bool r) ∧ Below w.heap.size w w' := by
 have hu88 := Tryz.underlying88
 have HB := Aside0.mk (Below.refl w.heap.size w)
 have H : (if a0_0.toList = a1_0.toList then (if a0_1 = a1_1 then (if a0_2 = a1_2 then (some true) else (some false)) else (some false)) else (some false)) = some r := h
 clear h
 have HC3 := Aside0.mk H
 clear H
 go_enter Tryz.func58, Tryz.ntmps58
 go_upto_if 9 with (first | ((with_reducible refine gate_dst (N := 2) rfl ?_); refine box_event ?hg (N := 2) ?hd (cs := #[.string a0_0, .int .i64 a0_1, .int .i64 a0_2]) (t := 88) ?hr ?_; (case hd => rfl); (case hg => rfl); (case hr => first | (go_simp; done) | (go_simp; rfl)); intro gb333 hg w4 hbox hb; have BK333 := Aside0.mk (hbox); have GW333 := Aside0.mk ((by rw [hg]; exact (below_size (bl HB.out)) : w.heap.size ≤ gb333)); have GE333 := GW333; replace HB := Aside0.mk (below_step (bl HB.out) hb); clear hb hbox hg) | ((with_reducible refine gate_dst (N := 3) rfl ?_); refine box_event ?hg (N := 3) ?hd (cs := #[.string a1_0, .int .i64 a1_1, .int .i64 a1_2]) (t := 88) ?hr ?_; (case hd => rfl); (case hg => rfl); (case hr => first | (go_simp; done) | (go_simp; rfl)); intro gb334 hg w5 hbox hb; have BK334 := Aside0.mk (hbox); have GW334 := Aside0.mk ((by rw [hg]; exact (below_size (by repeat with_reducible first | exact bl HB.out | refine below_set ?_ GE333.out | refine bq ?_)) : w.heap.size ≤ gb334)); have GE334 := GW334; replace HB := Aside0.mk (below_step (by repeat with_reducible first | exact bl HB.out | refine below_set ?_ GE333.out | refine bq ?_) hb); have NB333_334 := nb_ hg BK333.out; have NB334_333 := Aside0.mk NB333_334.out.symm; replace BK333 := Aside0.mk (blk_below (bk BK333.out) hb); clear hb hbox hg; have hnb6 := NB333_334.out; have hnc6 := NB334_333.out; obtain ⟨hcz7_0, hcz7_1, hcz7_2⟩ := ck3 BK333.out; obtain ⟨hfz7_0, hfz7_1, hfz7_2⟩ := fz3 BK333.out; obtain ⟨hcz8_0, hcz8_1, hcz8_2⟩ := ck3 BK334.out; obtain ⟨hfz8_0, hfz8_1, hfz8_2⟩ := fz3 BK334.out))
 have H := HC3.out
 clear HC3
 by_cases c9 : a0_0.toList = a1_0.toList
 ·
  rw [if_pos c9] at H
  have c9b0 : (a0_0.toList == a1_0.toList) = true := beq_iff_eq.mpr c9
  have c9b1 : (a0_0.toList != a1_0.toList) = false := bne_eq_false_iff_eq.mpr c9
  clear c9
  (first | rw [c9b0] | (simp only [i64_w, i32_w]; rw [c9b0]) | skip)
  by_cases c10 : a0_1 = a1_1
  ·
   rw [if_pos c10] at H
   have c10b0 : (a0_1 == a1_1) = true := beq_iff_eq.mpr c10
   have c10b1 : (a0_1 != a1_1) = false := bne_eq_false_iff_eq.mpr c10
   clear c10
   by_cases c11 : a0_2 = a1_2
   ·
    rw [if_pos c11] at H
    have c11b0 : (a0_2 == a1_2) = true := beq_iff_eq.mpr c11
    have c11b1 : (a0_2 != a1_2) = false := bne_eq_false_iff_eq.mpr c11
    clear c11
    obtain rfl := Option.some.inj H
    have hnb12 := NB333_334.out
    have hnc12 := NB334_333.out
    obtain ⟨hcz13_0, hcz13_1, hcz13_2⟩ := ck3 BK333.out
    obtain ⟨hfz13_0, hfz13_1, hfz13_2⟩ := fz3 BK333.out
    obtain ⟨hcz14_0, hcz14_1, hcz14_2⟩ := ck3 BK334.out
    obtain ⟨hfz14_0, hfz14_1, hfz14_2⟩ := fz3 BK334.out
    go_wp2
    go_ret
    exact ⟨by first | rfl | (simp [errW_none, errW_some] <;> rfl) | (simp [*, errW_none, errW_some] <;> rfl), by repeat with_reducible first | exact bl HB.out | refine below_set ?_ GE333.out | refine below_set ?_ GE334.out | refine bq ?_⟩
   ·
    rw [if_neg c11] at H
    have c11b0 : (a0_2 == a1_2) = false := beq_eq_false_iff_ne.mpr c11
    have c11b1 : (a0_2 != a1_2) = true := bne_iff_ne.mpr c11
    obtain rfl := Option.some.inj H
    have hnb15 := NB333_334.out
    have hnc15 := NB334_333.out
    obtain ⟨hcz16_0, hcz16_1, hcz16_2⟩ := ck3 BK333.out
    obtain ⟨hfz16_0, hfz16_1, hfz16_2⟩ := fz3 BK333.out
    obtain ⟨hcz17_0, hcz17_1, hcz17_2⟩ := ck3 BK334.out
    obtain ⟨hfz17_0, hfz17_1, hfz17_2⟩ := fz3 BK334.out
    go_wp2
    go_ret
    exact ⟨by first | rfl | (simp [errW_none, errW_some] <;> rfl) | (simp [*, errW_none, errW_some] <;> rfl), by repeat with_reducible first | exact bl HB.out | refine below_set ?_ GE333.out | refine below_set ?_ GE334.out | refine bq ?_⟩
  ·
   rw [if_neg c10] at H
   have c10b0 : (a0_1 == a1_1) = false := beq_eq_false_iff_ne.mpr c10
   have c10b1 : (a0_1 != a1_1) = true := bne_iff_ne.mpr c10
   obtain rfl := Option.some.inj H
   have hnb18 := NB333_334.out
   have hnc18 := NB334_333.out
   obtain ⟨hcz19_0, hcz19_1, hcz19_2⟩ := ck3 BK333.out
   obtain ⟨hfz19_0, hfz19_1, hfz19_2⟩ := fz3 BK333.out
   obtain ⟨hcz20_0, hcz20_1, hcz20_2⟩ := ck3 BK334.out
   obtain ⟨hfz20_0, hfz20_1, hfz20_2⟩ := fz3 BK334.out
   go_wp2
   go_ret
   exact ⟨by first | rfl | (simp [errW_none, errW_some] <;> rfl) | (simp [*, errW_none, errW_some] <;> rfl), by repeat with_reducible first | exact bl HB.out | refine below_set ?_ GE333.out | refine below_set ?_ GE334.out | refine bq ?_⟩
 ·
  rw [if_neg c9] at H
  have c9b0 : (a0_0.toList == a1_0.toList) = false := beq_eq_false_iff_ne.mpr c9
  have c9b1 : (a0_0.toList != a1_0.toList) = true := bne_iff_ne.mpr c9
  (first | rw [c9b0] | (simp only [i64_w, i32_w]; rw [c9b0]) | skip)
  obtain rfl := Option.some.inj H
  go_wp2
  go_ret
  exact ⟨by first | rfl | (simp [errW_none, errW_some] <;> rfl) | (simp [*, errW_none, errW_some] <;> rfl), by repeat with_reducible first | exact bl HB.out | refine below_set ?_ GE333.out | refine below_set ?_ GE334.out | refine bq ?_⟩

end Go.Proofs.YtdimdlifjdbgnaaGreat.PFnExactRunWork
