import Derived.Test.YtdimdlifjdbgnaaPFnExactDoWorkx12
namespace Go.Proofs.Ytdimdlifjdbgnaa.PFnExactDoWork
open Go.RowKit Go.Proofs.YtdimdlifjdbgnaaW.PrintWords Go.Proofs.YtdimdlifjdbgnaaW.PrintLast Go.Proofs.YtdimdlifjdbgnaaW.PrintMore Go.Proofs.Ytdimdlifjdbgnaa.Sq
attribute [local go_sem] max2_int min2_int max_two min_two max_three min_three max_four min_four
set_option linter.unusedVariables false
set_option linter.unusedSimpArgs false

-- HAND FROM
open Go.Proofs.Ytdimdlifjdbgnaa.Base Go.Proofs.Ytdimdlifjdbgnaa.Sq
/-! ### A fleet behind an address (by hand) -/
structure Flt (W : World) (b g : Nat) (A0 : Option Addr) (c0 : Nat) (l0 : List S44) (A1 : Option Addr) (c1 : Nat) (l1 : List S84) (A2 : Option Addr) (c2 : Nat) (l2 : List S57) (p q r : Int) : Prop where
  g : W.heap[g]? = some (.cells #[.slice A0 l0.length c0, .slice A1 l1.length c1, .slice A2 l2.length c2, .int .i64 p, .int .i64 q, .int .i64 r] 30 (0, 0))
  r0 : Kd.R k44 44 W b (fun _ => True) (.slice A0 l0.length c0) l0
  r1 : Kd.R k84 84 W b (fun _ => True) (.slice A1 l1.length c1) l1
  r2 : Kd.R k57 57 W b (fun _ => True) (.slice A2 l2.length c2) l2
theorem Flt.up {W W' : World} {b g : Nat} {A0 : Option Addr} {c0 : Nat} {l0 : List S44} {A1 : Option Addr} {c1 : Nat} {l1 : List S84} {A2 : Option Addr} {c2 : Nat} {l2 : List S57} {p q r : Int} (h : Flt W b g A0 c0 l0 A1 c1 l1 A2 c2 l2 p q r) (hb : Below W.heap.size W W') : Flt W' b g A0 c0 l0 A1 c1 l1 A2 c2 l2 p q r := ⟨blk_below h.g hb, Kd.R_below h.r0 hb, Kd.R_below h.r1 hb, Kd.R_below h.r2 hb⟩
theorem R_cap {α : Type} {d : Kd α} {e base n c : Nat} {ok : Nat → Prop} {w : World} {A : Option Addr} {xs : List α} (h : d.R e w base ok (.slice A n c) xs) : xs.length ≤ c ∧ n = xs.length ∧ d.C w A xs.length xs := by
  obtain ⟨A', c', he, hl, hr⟩ := Kd.R_reads h
  injection he with h1 h2 h3
  subst h1; subst h2; subst h3
  exact ⟨hl, rfl, hr⟩
theorem sts_ {P : Program} {ops : Array Oper} {o : Oper} {a : Act} {W : World} {K : Act → World → Prop} {Q : Exit → Act → World → Prop} (ty : TypeId) (p : Tmp) (y : Operand) (g off : Nat) (cells old new : Array Value) (t : TypeId) (hw : Region.wanted o (yielded ops a.tmps) = true) (ho : o.op = .store ty (.tmp p) y) (hd : o.dst = none)
  (hx : a.eval (.tmp p) = .pointer (some ⟨g, off, none⟩)) (hy : a.eval y = .agg cells) (hg : W.heap[g]? = some (.cells old t (0, 0))) (hi : (P.info? ty).map (·.size) = some cells.size) (hn : off + cells.size ≤ old.size) (h1 : cells.all (·.oneCell') = true) (hnew : pcs old off cells.toList = new)
  (h : ∀ w1, w1.heap[g]? = some (.cells new t (0, 0)) → W.grownBy w1 (some g) → K a w1) : if Region.wanted o (yielded ops a.tmps) = true then Oper.wp P o a W K Q else K (a.put none undef) W := by
 rw [if_pos hw]
 refine wp_store_mid ty (.tmp p) y ho g off cells hx hy (fun j hj => ⟨?_, blk_frozen hg _⟩) hi h1 ?_
 · rw [blk_cell hg]; simp; omega
 rw [hd]
 show K a _
 exact h _ (by have := blk_pcs cells.toList off hg; rwa [hnew] at this) (grown_pcs _ _ _ _)
/-! ### spec.l19Do (by hand) -/
abbrev Out19 : Type := List S44 × List S84 × List S57 × Int × Int × Int × Bool
def SdoPost (w0 w : World) (o : Out19) (e : Ending) (w' : World) : Prop := ∃ (V0 : Option Addr) (m0 n0 : Nat) (V1 : Option Addr) (m1 n1 : Nat) (V2 : Option Addr) (m2 n2 : Nat) (P Q R : Int),
  e = .returned (.tuple #[.agg #[.slice V0 m0 n0, .slice V1 m1 n1, .slice V2 m2 n2, .int .i64 P, .int .i64 Q, .int .i64 R], .bool o.2.2.2.2.2.2]) ∧ Below w0.heap.size w0 w' ∧ Only w w' w.heap.size [44] ∧
    (o.2.2.2.2.2.2 = true → P = o.2.2.2.1 ∧ Q = o.2.2.2.2.1 ∧ R = o.2.2.2.2.2.1 ∧ Kd.R k44 44 w' w0.heap.size (fun _ => True) (.slice V0 m0 n0) o.1 ∧ Kd.R k84 84 w' w0.heap.size (fun _ => True) (.slice V1 m1 n1) o.2.1 ∧ Kd.R k57 57 w' w0.heap.size (fun _ => True) (.slice V2 m2 n2) o.2.2.1)
theorem Only.put {w W W' : World} {g b : Nat} {T : List Nat} (h : Only w W g T) (hg : W.grownBy W' (some b)) (hb : w.heap.size ≤ b) : Only w W' g T :=
  ⟨Nat.le_trans h.1 hg.size, fun i hi hn => (h.2 i hi hn).imp (fun e => (hg.block i (Nat.lt_of_lt_of_le hi h.1) (fun x => by injection x; omega)).trans e) id⟩
theorem workF_some {ts : List S44} {cs : List S84} {ds : List S57} {p q r d0 : Int} {d1 : ByteArray} {d2 d3 : Int} {ts' : List S44} {ds' : List S57} {p' q' r' : Int} (h : fleetB ts cs ds p q r = true) (hd : doF ts cs ds p q r d0 d1 d2 d3 = some (ts', ds', p', q', r')) : workF ts cs ds p q r d0 d1 d2 d3 = if clockB p' q' r' = true then (ts', cs, ds', p', q', r', true) else (ts, cs, ds, p, q, r, false) := by unfold workF; rw [if_pos h, hd]
theorem workF_none {ts : List S44} {cs : List S84} {ds : List S57} {p q r d0 : Int} {d1 : ByteArray} {d2 d3 : Int} (h : fleetB ts cs ds p q r = true) (hd : doF ts cs ds p q r d0 d1 d2 d3 = none) : workF ts cs ds p q r d0 d1 d2 d3 = (ts, cs, ds, p, q, r, false) := by unfold workF; rw [if_pos h, hd]
theorem task_hit {ts : List S44} {cs : List S84} {ds : List S57} {p q r : Int} (h : FleetP ts cs ds p q r) (n : ByteArray) (i : Nat) (hi : i < ts.length) (e : ts[i].f0.toList = n.toList) : cutAt (cmpT n) ts = i ∧ bsHit (cmpT n) ts (cutAt (cmpT n) ts) = true := by
  have hz := (cmpT_zero n ts[i]).2 e
  have hc : cutAt (cmpT n) ts = i := by
    rcases Nat.lt_trichotomy i (cutAt (cmpT n) ts) with x | x | x
    · have := cutAt_below (cmpT n) ts i hi x; omega
    · exact x.symm
    · have h1 := List.pairwise_iff_getElem.1 h.tsort _ i (by omega) hi x
      rw [e] at h1
      exact absurd ((cmpT_lt n _).2 h1) (cutAt_above (cmpT n) ts (tasks_part h n) _ (by omega) (Nat.le_refl _))
  exact ⟨hc, by rw [hc]; exact bsHit_of hi hz⟩
set_option maxHeartbeats 16000000 in
set_option maxRecDepth 100000 in
theorem sdo_t (w0 : World) (A0 : Option Addr) (c0 : Nat) (l0 : List S44) (A1 : Option Addr) (c1 : Nat) (l1 : List S84) (A2 : Option Addr) (c2 : Nat) (l2 : List S57) (p q r d0 : Int) (d1 : ByteArray) (d2 d3 : Int) (w : World) (hbase : Below w0.heap.size w0 w)
    (h0 : Kd.R k44 44 w w0.heap.size (fun _ => True) (.slice A0 l0.length c0) l0) (h1 : Kd.R k84 84 w w0.heap.size (fun _ => True) (.slice A1 l1.length c1) l1) (h2 : Kd.R k57 57 w w0.heap.size (fun _ => True) (.slice A2 l2.length c2) l2) (hz : d1.size ≤ 140737488355328) (hsz : FleetSz l0 l1 l2) (hok : fleetB l0 l1 l2 p q r = true) :
    Calls Try.prog 48 #[.agg #[.slice A0 l0.length c0, .slice A1 l1.length c1, .slice A2 l2.length c2, .int .i64 p, .int .i64 q, .int .i64 r], .agg #[.int .i64 d0, .string d1, .int .i64 d2, .int .i64 d3]] w (SdoPost w0 w (workF l0 l1 l2 p q r d0 d1 d2 d3)) := by
  have hu1 := Try.underlying30
  have hu2 := Try.underlying42
  have hu3 := Try.underlying57
  have hu4 := Try.underlying26
  have hu5 := Try.underlying24
  have hu6 := Try.underlying44
  have hu7 := Try.underlying28
  have HP := Aside0.mk (fleetP_of hok)
  have hclk := clockB_in (fleetP_of hok).now
  have hn0 := (fleetP_of hok).tn
  have hn2 := (fleetP_of hok).dn
  have hcc0 := (R_cap h0).1
  have hcc2 := (R_cap h2).1
  have HOK := Aside0.mk hok
  have HSZ := Aside0.mk hsz
  have HBB := Aside0.mk hbase
  have n1 := below_alloc (Below.refl w.heap.size w) (.cells #[.slice A0 l0.length c0, .slice A1 l1.length c1, .slice A2 l2.length c2, .int .i64 p, .int .i64 q, .int .i64 r] 30 (0, 0))
  have n2 := below_alloc n1 (.cells #[.int .i64 d0, .string d1, .int .i64 d2, .int .i64 d3] 42 (0, 0))
  have n3 := below_alloc n2 (.cells #[.slice none 0 0, .slice none 0 0, .slice none 0 0, .int .i64 0, .int .i64 0, .int .i64 0] 30 (0, 0))
  have m1 := blk_alloc (blk_alloc (blk_new w (.cells #[.slice A0 l0.length c0, .slice A1 l1.length c1, .slice A2 l2.length c2, .int .i64 p, .int .i64 q, .int .i64 r] 30 (0, 0))) (.cells #[.int .i64 d0, .string d1, .int .i64 d2, .int .i64 d3] 42 (0, 0))) (.cells #[.slice none 0 0, .slice none 0 0, .slice none 0 0, .int .i64 0, .int .i64 0, .int .i64 0] 30 (0, 0))
  have m2 := blk_alloc (blk_new (w.alloc (.cells #[.slice A0 l0.length c0, .slice A1 l1.length c1, .slice A2 l2.length c2, .int .i64 p, .int .i64 q, .int .i64 r] 30 (0, 0))) (.cells #[.int .i64 d0, .string d1, .int .i64 d2, .int .i64 d3] 42 (0, 0))) (.cells #[.slice none 0 0, .slice none 0 0, .slice none 0 0, .int .i64 0, .int .i64 0, .int .i64 0] 30 (0, 0))
  have m3 := blk_new ((w.alloc (.cells #[.slice A0 l0.length c0, .slice A1 l1.length c1, .slice A2 l2.length c2, .int .i64 p, .int .i64 q, .int .i64 r] 30 (0, 0))).alloc (.cells #[.int .i64 d0, .string d1, .int .i64 d2, .int .i64 d3] 42 (0, 0))) (.cells #[.slice none 0 0, .slice none 0 0, .slice none 0 0, .int .i64 0, .int .i64 0, .int .i64 0] 30 (0, 0))
  rw [World.size_alloc] at m2
  rw [World.size_alloc, World.size_alloc] at m3
  have HF := Aside0.mk (And.intro (Flt.mk m1 (Kd.R_below h0 n3) (Kd.R_below h1 n3) (Kd.R_below h2 n3)) (And.intro m2 (And.intro m3 n3)))
  have HR0w := Aside0.mk h0
  have KR := Aside0.mk (fun w' (h : Below w.heap.size w w') => spec_Release.go A0 c0 l0 A1 c1 l1 A2 c2 l2 p q r w' (Kd.C_below (R_cap h0).2.2 h) (R_cap h0).1 (Kd.C_below (R_cap h1).2.2 h) (R_cap h1).1 (Kd.C_below (R_cap h2).2.2 h) (R_cap h2).1 hsz)
  rw [show releaseB l0 l1 l2 p q r = releaseF l0 l1 l2 p q r by unfold releaseB; rw [if_pos hok]] at KR
  clear h0 h1 h2 n1 n2 n3 m1 m2 m3 hbase hok hsz
  by_cases e1 : d0 = 1
  · subst e1
    obtain ⟨⟨x0, x1⟩, hx⟩ : ∃ x, releaseF l0 l1 l2 p q r = x := ⟨_, rfl⟩
    rw [hx] at KR
    obtain ⟨ib, hi⟩ : ∃ b, inB d3 1 100 = b := ⟨_, rfl⟩
    have KI := Aside0.mk (fun w' => kb_ (in_u d3 1 100 w') hi)
    go_enter Try.func48, Try.ntmps48
    go_upto_region 3 with (fail)
    refine world_ (fun W => Flt W w0.heap.size w.heap.size A0 c0 l0 A1 c1 l1 A2 c2 l2 p q r ∧ W.heap[w.heap.size + 1]? = some (.cells #[.int .i64 1, .string d1, .int .i64 d2, .int .i64 d3] 42 (0, 0)) ∧ W.heap[w.heap.size + 1 + 1]? = some (.cells #[.slice none 0 0, .slice none 0 0, .slice none 0 0, .int .i64 0, .int .i64 0, .int .i64 0] 30 (0, 0)) ∧ Below w.heap.size w W) HF.out ?_
    clear HF
    rintro W ⟨HFl, BD, BR, HB⟩
    replace HFl := Aside0.mk HFl
    replace BD := Aside0.mk BD
    replace BR := Aside0.mk BR
    replace HB := Aside0.mk HB
    obtain ⟨z0, z1, z2, z3, z4, z5⟩ := ck6 HFl.out.g
    have y3 := ck BD.out 3 rfl
    cases ib with
    | false =>
      have HW := Aside0.mk (show workF l0 l1 l2 p q r 1 d1 d2 d3 = (l0, l1, l2, p, q, r, false) from workF_none HOK.out (by unfold doF; rw [if_pos rfl, hi]; simp))
      clear hx hi
      go_upto_region 5 with (first | (go_at_call 96; (with_reducible refine (KR.out _ HB.out).mono ?_); rintro e w5 ⟨rfl, hb5⟩; clear z0 z1 z2 z3 z4 z5 y3; obtain ⟨z0, z1, z2, z3, z4, z5⟩ := ck6 (HFl.out.up hb5).g; have y3 := ck (blk_below BD.out hb5) 3 rfl) | (go_at_call 95; (with_reducible refine (KI.out _).mono ?_); rintro e w6 ⟨rfl, hb6⟩; clear z0 z1 z2 z3 z4 z5 y3; obtain ⟨z0, z1, z2, z3, z4, z5⟩ := ck6 (HFl.out.up (below_step hb5 hb6)).g; obtain ⟨k0, k1, k2, k3, k4, k5⟩ := fz6 (HFl.out.up (below_step hb5 hb6)).g; have y3 := ck (blk_below BD.out (below_step hb5 hb6)) 3 rfl))
      refine world_ (fun W' => Below W.heap.size W W') (below_step hb5 hb6) ?_
      clear hb5 hb6 z0 z1 z2 z3 z4 z5 y3 k0 k1 k2 k3 k4 k5
      rintro Wx hu
      obtain ⟨z0, z1, z2, z3, z4, z5⟩ := ck6 (HFl.out.up hu).g
      have BRk := blk_below BR.out hu
      go_wp2_with (first | ((with_reducible refine gate_store (t := 30) (p := 4) rfl ?_); refine stm_ 30 4 (.tmp 29) (w.heap.size + 1 + 1) 0 #[.slice A0 l0.length c0, .slice A1 l1.length c1, .slice A2 l2.length c2, .int .i64 p, .int .i64 q, .int .i64 r] #[.slice none 0 0, .slice none 0 0, .slice none 0 0, .int .i64 0, .int .i64 0, .int .i64 0] #[.slice A0 l0.length c0, .slice A1 l1.length c1, .slice A2 l2.length c2, .int .i64 p, .int .i64 q, .int .i64 r] 30 ?e1 ?e2 ?e3 ?e4 ?e5 ?e6 ?e7 ?e8 ?e9 ?e10 ?_; (case e1 => rfl); (case e2 => rfl); (case e3 => rfl); (case e4 => rfl); (case e5 => rfl); (case e6 => exact BRk); (case e7 => kernel_rfl); (case e8 => exact Nat.le_of_ble_eq_true rfl); (case e9 => kernel_rfl); (case e10 => kernel_rfl); intro w6 hn6 hg6))
      refine bodyPost_ret (results_ct rfl _ _ (w.heap.size + 1 + 1) 30 #[.slice A0 l0.length c0, .slice A1 l1.length c1, .slice A2 l2.length c2, .int .i64 p, .int .i64 q, .int .i64 r] (0, 0) _ rfl hn6 Try.underlying30 rfl (by kernel_rfl)) rfl ?_
      exact ⟨_, _, _, _, _, _, _, _, _, _, _, _, by rw [HW.out]; rfl, b_put (below_step HBB.out (below_step HB.out hu)) hg6 (by have := HBB.out.size; omega), Only.of_below (b_put (below_step HB.out hu) hg6 (by omega)) _ _, fun h => by rw [HW.out] at h; simp at h⟩
    | true =>
      by_cases hx0 : x0 = 0
      · subst hx0
        have hd := inB_iff.1 hi
        obtain ⟨cb, hc⟩ : ∃ b, clockB (p + d3) (q + 1) r = b := ⟨_, rfl⟩
        have KK := Aside0.mk (fun w' => kb_ (clock_u (p + d3) (q + 1) r w') hc)
        have HW := Aside0.mk (show workF l0 l1 l2 p q r 1 d1 d2 d3 = if cb = true then (l0, l1, l2, p + d3, q + 1, r, true) else (l0, l1, l2, p, q, r, false) from by rw [workF_some HOK.out (show doF l0 l1 l2 p q r 1 d1 d2 d3 = some (l0, l2, p + d3, q + 1, r) by unfold doF; rw [if_pos rfl, hi, hx]; rfl), hc])
        clear hx hi hc
        go_upto_region 8 with (first | (go_at_call 96; (with_reducible refine (KR.out _ HB.out).mono ?_); rintro e w5 ⟨rfl, hb5⟩; clear z0 z1 z2 z3 z4 z5 y3; obtain ⟨z0, z1, z2, z3, z4, z5⟩ := ck6 (HFl.out.up hb5).g; have y3 := ck (blk_below BD.out hb5) 3 rfl) | (go_at_call 95; (with_reducible refine (KI.out _).mono ?_); rintro e w6 ⟨rfl, hb6⟩; clear z0 z1 z2 z3 z4 z5 y3; obtain ⟨z0, z1, z2, z3, z4, z5⟩ := ck6 (HFl.out.up (below_step hb5 hb6)).g; obtain ⟨k0, k1, k2, k3, k4, k5⟩ := fz6 (HFl.out.up (below_step hb5 hb6)).g; have y3 := ck (blk_below BD.out (below_step hb5 hb6)) 3 rfl))
        have HF5 := Aside0.mk (show ((w6.setCell ⟨w.heap.size, 4, none⟩ (.int .i64 (q + 1))).setCell ⟨w.heap.size, 3, none⟩ (.int .i64 (p + d3))).heap[w.heap.size]? = some (.cells #[.slice A0 l0.length c0, .slice A1 l1.length c1, .slice A2 l2.length c2, .int .i64 (p + d3), .int .i64 (q + 1), .int .i64 r] 30 (0, 0)) ∧ ((w6.setCell ⟨w.heap.size, 4, none⟩ (.int .i64 (q + 1))).setCell ⟨w.heap.size, 3, none⟩ (.int .i64 (p + d3))).heap[w.heap.size + 1 + 1]? = some (.cells #[.slice none 0 0, .slice none 0 0, .slice none 0 0, .int .i64 0, .int .i64 0, .int .i64 0] 30 (0, 0)) ∧ Below w.heap.size w ((w6.setCell ⟨w.heap.size, 4, none⟩ (.int .i64 (q + 1))).setCell ⟨w.heap.size, 3, none⟩ (.int .i64 (p + d3))) ∧ Kd.R k44 44 ((w6.setCell ⟨w.heap.size, 4, none⟩ (.int .i64 (q + 1))).setCell ⟨w.heap.size, 3, none⟩ (.int .i64 (p + d3))) w0.heap.size (fun _ => True) (.slice A0 l0.length c0) l0 ∧ Kd.R k84 84 ((w6.setCell ⟨w.heap.size, 4, none⟩ (.int .i64 (q + 1))).setCell ⟨w.heap.size, 3, none⟩ (.int .i64 (p + d3))) w0.heap.size (fun _ => True) (.slice A1 l1.length c1) l1 ∧ Kd.R k57 57 ((w6.setCell ⟨w.heap.size, 4, none⟩ (.int .i64 (q + 1))).setCell ⟨w.heap.size, 3, none⟩ (.int .i64 (p + d3))) w0.heap.size (fun _ => True) (.slice A2 l2.length c2) l2 from ⟨(blk_put (cs' := #[.slice A0 l0.length c0, .slice A1 l1.length c1, .slice A2 l2.length c2, .int .i64 (p + d3), .int .i64 (q + 1), .int .i64 r]) (blk_put (cs' := #[.slice A0 l0.length c0, .slice A1 l1.length c1, .slice A2 l2.length c2, .int .i64 p, .int .i64 (q + 1), .int .i64 r]) (HFl.out.up (below_step hb5 hb6)).g 4 (.int .i64 (q + 1)) rfl) 3 (.int .i64 (p + d3)) rfl), (blk_far (p := ⟨w.heap.size, 3, none⟩) (blk_far (p := ⟨w.heap.size, 4, none⟩) (blk_below BR.out (below_step hb5 hb6)) (by show w.heap.size + 1 + 1 ≠ w.heap.size; omega) (.int .i64 (q + 1))) (by show w.heap.size + 1 + 1 ≠ w.heap.size; omega) (.int .i64 (p + d3))), (below_set (below_set (below_step HB.out (below_step hb5 hb6)) (Nat.le_refl _)) (Nat.le_refl _)), (Kd.R_mono (Kd.R_set (Kd.R_mono (Kd.R_set (HFl.out.up (below_step hb5 hb6)).r0 (HFl.out.up (below_step hb5 hb6)).g (by decide) 4 (.int .i64 (q + 1))) (fun _ _ => trivial)) (blk_put (cs' := #[.slice A0 l0.length c0, .slice A1 l1.length c1, .slice A2 l2.length c2, .int .i64 p, .int .i64 (q + 1), .int .i64 r]) (HFl.out.up (below_step hb5 hb6)).g 4 (.int .i64 (q + 1)) rfl) (by decide) 3 (.int .i64 (p + d3))) (fun _ _ => trivial)), (Kd.R_mono (Kd.R_set (Kd.R_mono (Kd.R_set (HFl.out.up (below_step hb5 hb6)).r1 (HFl.out.up (below_step hb5 hb6)).g (by decide) 4 (.int .i64 (q + 1))) (fun _ _ => trivial)) (blk_put (cs' := #[.slice A0 l0.length c0, .slice A1 l1.length c1, .slice A2 l2.length c2, .int .i64 p, .int .i64 (q + 1), .int .i64 r]) (HFl.out.up (below_step hb5 hb6)).g 4 (.int .i64 (q + 1)) rfl) (by decide) 3 (.int .i64 (p + d3))) (fun _ _ => trivial)), (Kd.R_mono (Kd.R_set (Kd.R_mono (Kd.R_set (HFl.out.up (below_step hb5 hb6)).r2 (HFl.out.up (below_step hb5 hb6)).g (by decide) 4 (.int .i64 (q + 1))) (fun _ _ => trivial)) (blk_put (cs' := #[.slice A0 l0.length c0, .slice A1 l1.length c1, .slice A2 l2.length c2, .int .i64 p, .int .i64 (q + 1), .int .i64 r]) (HFl.out.up (below_step hb5 hb6)).g 4 (.int .i64 (q + 1)) rfl) (by decide) 3 (.int .i64 (p + d3))) (fun _ _ => trivial))⟩)
        clear hb5 hb6 z0 z1 z2 z3 z4 z5 y3 k0 k1 k2 k3 k4 k5 HFl BD BR HB KR KI
        generalize ((w6.setCell ⟨w.heap.size, 4, none⟩ (.int .i64 (q + 1))).setCell ⟨w.heap.size, 3, none⟩ (.int .i64 (p + d3))) = W5 at HF5 ⊢
        obtain ⟨HG5, BR5, HB5, HR0, HR1, HR2⟩ := HF5.out
        clear HF5
        replace HG5 := Aside0.mk HG5
        replace BR5 := Aside0.mk BR5
        replace HB5 := Aside0.mk HB5
        replace HR0 := Aside0.mk HR0
        replace HR1 := Aside0.mk HR1
        replace HR2 := Aside0.mk HR2
        have L := Aside0.mk (fun w' (h : Up W5 w') => ck6 (blk_below HG5.out h))
        refine start_ (n := 6) (S := Up W5) (ds := [4]) (Sq.M 0 6) (by kernel_rfl) rfl rfl (below_drew (Below.refl _ _)) (fun hS => ?_)
        generalize W5.drew = W6 at hS ⊢
        refine rt_ L.out hS 0 44 (Sq.M 1 6) ?_
        refine ra_ 1 45 (Sq.M 2 6) ?_
        refine rt_ L.out hS 2 46 (Sq.M 3 6) ?_
        refine one_ (i := 3) (N := some 47) (Sq.M 4 6) rfl rfl (by kernel_rfl) (by decide) (fun K hK => ?_)
        refine goes_ Try.func90 rfl rfl #[.agg #[.int .i64 (p + d3), .int .i64 (q + 1), .int .i64 r]] (by rfl) rfl rfl (by (try simp only [am_]); first | done | rfl) ?_
        (with_reducible refine (KK.out _).mono ?_)
        rintro e w7 ⟨rfl, hb7⟩
        refine ⟨_, rfl, ?_⟩
        refine hK.out _ _ (below_step hS hb7) (fun hS2 => ?_)
        clear hK K
        refine norm_ (a' := ?_) ?_ ?_
        rotate_left
        · (show Act.put _ (some 47) _ = _; simp only [sp_]; rfl)
        refine last_ (i := 4) (N := none) (Sq.M 5 6) rfl rfl (by kernel_rfl) (by decide) (fun K hK => ?_)
        refine sts_ 30 4 (.tmp 44) (w.heap.size + 1 + 1) 0 #[.slice A0 l0.length c0, .slice A1 l1.length c1, .slice A2 l2.length c2, .int .i64 (p + d3), .int .i64 (q + 1), .int .i64 r] #[.slice none 0 0, .slice none 0 0, .slice none 0 0, .int .i64 0, .int .i64 0, .int .i64 0] #[.slice A0 l0.length c0, .slice A1 l1.length c1, .slice A2 l2.length c2, .int .i64 (p + d3), .int .i64 (q + 1), .int .i64 r] 30 (by rfl) rfl rfl rfl rfl (blk_below BR5.out hS2) (by kernel_rfl) (Nat.le_of_ble_eq_true rfl) (by kernel_rfl) (by kernel_rfl) ?_
        intro w6 hn6 hg6
        refine hK.out _ _ ?_
        clear hK K
        refine ra_ 5 5 (Sq.M 6 6) ?_
        refine done_ (by kernel_rfl) ?_
        go_wp2
        refine bodyPost_ret (results_ct rfl _ _ (w.heap.size + 1 + 1) 30 #[.slice A0 l0.length c0, .slice A1 l1.length c1, .slice A2 l2.length c2, .int .i64 (p + d3), .int .i64 (q + 1), .int .i64 r] (0, 0) _ rfl hn6 Try.underlying30 rfl (by kernel_rfl)) rfl ?_
        refine ⟨_, _, _, _, _, _, _, _, _, _, _, _, by rw [HW.out]; cases cb <;> rfl, b_put (below_step HBB.out (below_step HB5.out hS2)) hg6 (by have := HBB.out.size; omega), Only.of_below (b_put (below_step HB5.out hS2) hg6 (by omega)) _ _, fun h => ?_⟩
        rw [HW.out] at h ⊢
        cases cb with
        | false => simp at h
        | true => exact ⟨rfl, rfl, rfl, r_put (Kd.R_below HR0.out hS2) (blk_below BR5.out hS2) (by decide) hg6, r_put (Kd.R_below HR1.out hS2) (blk_below BR5.out hS2) (by decide) hg6, r_put (Kd.R_below HR2.out hS2) (blk_below BR5.out hS2) (by decide) hg6⟩
      · have HW := Aside0.mk (show workF l0 l1 l2 p q r 1 d1 d2 d3 = (l0, l1, l2, p, q, r, false) from workF_none HOK.out (by unfold doF; rw [if_pos rfl, hx]; simp [hx0]))
        have hx1 : (x0 == 0) = false := by simpa using hx0
        clear hx hi
        go_upto_region 5 with (first | (go_at_call 96; (with_reducible refine (KR.out _ HB.out).mono ?_); rintro e w5 ⟨rfl, hb5⟩; clear z0 z1 z2 z3 z4 z5 y3; obtain ⟨z0, z1, z2, z3, z4, z5⟩ := ck6 (HFl.out.up hb5).g; have y3 := ck (blk_below BD.out hb5) 3 rfl) | (go_at_call 95; (with_reducible refine (KI.out _).mono ?_); rintro e w6 ⟨rfl, hb6⟩; clear z0 z1 z2 z3 z4 z5 y3; obtain ⟨z0, z1, z2, z3, z4, z5⟩ := ck6 (HFl.out.up (below_step hb5 hb6)).g; obtain ⟨k0, k1, k2, k3, k4, k5⟩ := fz6 (HFl.out.up (below_step hb5 hb6)).g; have y3 := ck (blk_below BD.out (below_step hb5 hb6)) 3 rfl))
        refine world_ (fun W' => Below W.heap.size W W') (below_step hb5 hb6) ?_
        clear hb5 hb6 z0 z1 z2 z3 z4 z5 y3 k0 k1 k2 k3 k4 k5
        rintro Wx hu
        obtain ⟨z0, z1, z2, z3, z4, z5⟩ := ck6 (HFl.out.up hu).g
        have BRk := blk_below BR.out hu
        go_wp2_with (first | ((with_reducible refine gate_store (t := 30) (p := 4) rfl ?_); refine stm_ 30 4 (.tmp 29) (w.heap.size + 1 + 1) 0 #[.slice A0 l0.length c0, .slice A1 l1.length c1, .slice A2 l2.length c2, .int .i64 p, .int .i64 q, .int .i64 r] #[.slice none 0 0, .slice none 0 0, .slice none 0 0, .int .i64 0, .int .i64 0, .int .i64 0] #[.slice A0 l0.length c0, .slice A1 l1.length c1, .slice A2 l2.length c2, .int .i64 p, .int .i64 q, .int .i64 r] 30 ?e1 ?e2 ?e3 ?e4 ?e5 ?e6 ?e7 ?e8 ?e9 ?e10 ?_; (case e1 => rfl); (case e2 => rfl); (case e3 => rfl); (case e4 => rfl); (case e5 => rfl); (case e6 => exact BRk); (case e7 => kernel_rfl); (case e8 => exact Nat.le_of_ble_eq_true rfl); (case e9 => kernel_rfl); (case e10 => kernel_rfl); intro w6 hn6 hg6))
        refine bodyPost_ret (results_ct rfl _ _ (w.heap.size + 1 + 1) 30 #[.slice A0 l0.length c0, .slice A1 l1.length c1, .slice A2 l2.length c2, .int .i64 p, .int .i64 q, .int .i64 r] (0, 0) _ rfl hn6 Try.underlying30 rfl (by kernel_rfl)) rfl ?_
        exact ⟨_, _, _, _, _, _, _, _, _, _, _, _, by rw [HW.out]; rfl, b_put (below_step HBB.out (below_step HB.out hu)) hg6 (by have := HBB.out.size; omega), Only.of_below (b_put (below_step HB.out hu) hg6 (by omega)) _ _, fun h => by rw [HW.out] at h; simp at h⟩
  by_cases e5 : d0 = 5
  · subst e5
    clear e1 KR
    obtain ⟨ib, hi⟩ : ∃ b, inB d3 1 100 = b := ⟨_, rfl⟩
    have KI := Aside0.mk (fun w' => kb_ (in_u d3 1 100 w') hi)
    go_enter Try.func48, Try.ntmps48
    go_upto_region 10 with (fail)
    refine world_ (fun W => Flt W w0.heap.size w.heap.size A0 c0 l0 A1 c1 l1 A2 c2 l2 p q r ∧ W.heap[w.heap.size + 1]? = some (.cells #[.int .i64 5, .string d1, .int .i64 d2, .int .i64 d3] 42 (0, 0)) ∧ W.heap[w.heap.size + 1 + 1]? = some (.cells #[.slice none 0 0, .slice none 0 0, .slice none 0 0, .int .i64 0, .int .i64 0, .int .i64 0] 30 (0, 0)) ∧ Below w.heap.size w W) HF.out ?_
    clear HF
    rintro W ⟨HFl, BD, BR, HB⟩
    replace HFl := Aside0.mk HFl
    replace BD := Aside0.mk BD
    replace BR := Aside0.mk BR
    replace HB := Aside0.mk HB
    obtain ⟨z0, z1, z2, z3, z4, z5⟩ := ck6 HFl.out.g
    have y3 := ck BD.out 3 rfl
    cases ib with
    | false =>
      have HW := Aside0.mk (show workF l0 l1 l2 p q r 5 d1 d2 d3 = (l0, l1, l2, p, q, r, false) from workF_none HOK.out (by unfold doF; rw [if_neg (by decide), if_neg (by decide), if_neg (by decide), if_neg (by decide), if_pos rfl, hi]; simp))
      clear hi
      go_upto_region 11 with (first | (go_at_call 95; (with_reducible refine (KI.out _).mono ?_); rintro e w6 ⟨rfl, hb6⟩; clear z0 z1 z2 z3 z4 z5 y3; obtain ⟨z0, z1, z2, z3, z4, z5⟩ := ck6 (HFl.out.up hb6).g; obtain ⟨k0, k1, k2, k3, k4, k5⟩ := fz6 (HFl.out.up hb6).g; have y3 := ck (blk_below BD.out hb6) 3 rfl))
      refine world_ (fun W' => Below W.heap.size W W') hb6 ?_
      clear hb6 z0 z1 z2 z3 z4 z5 y3 k0 k1 k2 k3 k4 k5
      rintro Wx hu
      obtain ⟨z0, z1, z2, z3, z4, z5⟩ := ck6 (HFl.out.up hu).g
      have BRk := blk_below BR.out hu
      go_wp2_with (first | ((with_reducible refine gate_store (t := 30) (p := 4) rfl ?_); refine stm_ 30 4 (.tmp 54) (w.heap.size + 1 + 1) 0 #[.slice A0 l0.length c0, .slice A1 l1.length c1, .slice A2 l2.length c2, .int .i64 p, .int .i64 q, .int .i64 r] #[.slice none 0 0, .slice none 0 0, .slice none 0 0, .int .i64 0, .int .i64 0, .int .i64 0] #[.slice A0 l0.length c0, .slice A1 l1.length c1, .slice A2 l2.length c2, .int .i64 p, .int .i64 q, .int .i64 r] 30 ?e1 ?e2 ?e3 ?e4 ?e5 ?e6 ?e7 ?e8 ?e9 ?e10 ?_; (case e1 => rfl); (case e2 => rfl); (case e3 => rfl); (case e4 => rfl); (case e5 => rfl); (case e6 => exact BRk); (case e7 => kernel_rfl); (case e8 => exact Nat.le_of_ble_eq_true rfl); (case e9 => kernel_rfl); (case e10 => kernel_rfl); intro w6 hn6 hg6))
      refine bodyPost_ret (results_ct rfl _ _ (w.heap.size + 1 + 1) 30 #[.slice A0 l0.length c0, .slice A1 l1.length c1, .slice A2 l2.length c2, .int .i64 p, .int .i64 q, .int .i64 r] (0, 0) _ rfl hn6 Try.underlying30 rfl (by kernel_rfl)) rfl ?_
      exact ⟨_, _, _, _, _, _, _, _, _, _, _, _, by rw [HW.out]; rfl, b_put (below_step HBB.out (below_step HB.out hu)) hg6 (by have := HBB.out.size; omega), Only.of_below (b_put (below_step HB.out hu) hg6 (by omega)) _ _, fun h => by rw [HW.out] at h; simp at h⟩
    | true =>
      have hd := inB_iff.1 hi
      obtain ⟨cb, hc⟩ : ∃ b, clockB p q (r + d3) = b := ⟨_, rfl⟩
      have KK := Aside0.mk (fun w' => kb_ (clock_u p q (r + d3) w') hc)
      have HW := Aside0.mk (show workF l0 l1 l2 p q r 5 d1 d2 d3 = if cb = true then (l0, l1, l2, p, q, r + d3, true) else (l0, l1, l2, p, q, r, false) from by rw [workF_some HOK.out (show doF l0 l1 l2 p q r 5 d1 d2 d3 = some (l0, l2, p, q, r + d3) by unfold doF; rw [if_neg (by decide), if_neg (by decide), if_neg (by decide), if_neg (by decide), if_pos rfl, hi]; rfl), hc])
      clear hi hc
      go_upto_region 13 with (first | (go_at_call 95; (with_reducible refine (KI.out _).mono ?_); rintro e w6 ⟨rfl, hb6⟩; clear z0 z1 z2 z3 z4 z5 y3; obtain ⟨z0, z1, z2, z3, z4, z5⟩ := ck6 (HFl.out.up hb6).g; obtain ⟨k0, k1, k2, k3, k4, k5⟩ := fz6 (HFl.out.up hb6).g; have y3 := ck (blk_below BD.out hb6) 3 rfl))
      have HF5 := Aside0.mk (show (w6.setCell ⟨w.heap.size, 5, none⟩ (.int .i64 (r + d3))).heap[w.heap.size]? = some (.cells #[.slice A0 l0.length c0, .slice A1 l1.length c1, .slice A2 l2.length c2, .int .i64 p, .int .i64 q, .int .i64 (r + d3)] 30 (0, 0)) ∧ (w6.setCell ⟨w.heap.size, 5, none⟩ (.int .i64 (r + d3))).heap[w.heap.size + 1 + 1]? = some (.cells #[.slice none 0 0, .slice none 0 0, .slice none 0 0, .int .i64 0, .int .i64 0, .int .i64 0] 30 (0, 0)) ∧ Below w.heap.size w (w6.setCell ⟨w.heap.size, 5, none⟩ (.int .i64 (r + d3))) ∧ Kd.R k44 44 (w6.setCell ⟨w.heap.size, 5, none⟩ (.int .i64 (r + d3))) w0.heap.size (fun _ => True) (.slice A0 l0.length c0) l0 ∧ Kd.R k84 84 (w6.setCell ⟨w.heap.size, 5, none⟩ (.int .i64 (r + d3))) w0.heap.size (fun _ => True) (.slice A1 l1.length c1) l1 ∧ Kd.R k57 57 (w6.setCell ⟨w.heap.size, 5, none⟩ (.int .i64 (r + d3))) w0.heap.size (fun _ => True) (.slice A2 l2.length c2) l2 from ⟨(blk_put (cs' := #[.slice A0 l0.length c0, .slice A1 l1.length c1, .slice A2 l2.length c2, .int .i64 p, .int .i64 q, .int .i64 (r + d3)]) (HFl.out.up hb6).g 5 (.int .i64 (r + d3)) rfl), (blk_far (p := ⟨w.heap.size, 5, none⟩) (blk_below BR.out hb6) (by show w.heap.size + 1 + 1 ≠ w.heap.size; omega) (.int .i64 (r + d3))), (below_set (below_step HB.out hb6) (Nat.le_refl _)), (Kd.R_mono (Kd.R_set (HFl.out.up hb6).r0 (HFl.out.up hb6).g (by decide) 5 (.int .i64 (r + d3))) (fun _ _ => trivial)), (Kd.R_mono (Kd.R_set (HFl.out.up hb6).r1 (HFl.out.up hb6).g (by decide) 5 (.int .i64 (r + d3))) (fun _ _ => trivial)), (Kd.R_mono (Kd.R_set (HFl.out.up hb6).r2 (HFl.out.up hb6).g (by decide) 5 (.int .i64 (r + d3))) (fun _ _ => trivial))⟩)
      clear hb6 z0 z1 z2 z3 z4 z5 y3 k0 k1 k2 k3 k4 k5 HFl BD BR HB KI
      generalize (w6.setCell ⟨w.heap.size, 5, none⟩ (.int .i64 (r + d3))) = W5 at HF5 ⊢
      obtain ⟨HG5, BR5, HB5, HR0, HR1, HR2⟩ := HF5.out
      clear HF5
      replace HG5 := Aside0.mk HG5
      replace BR5 := Aside0.mk BR5
      replace HB5 := Aside0.mk HB5
      replace HR0 := Aside0.mk HR0
      replace HR1 := Aside0.mk HR1
      replace HR2 := Aside0.mk HR2
      have L := Aside0.mk (fun w' (h : Up W5 w') => ck6 (blk_below HG5.out h))
      refine start_ (n := 6) (S := Up W5) (ds := [4]) (Sq.M 0 6) (by kernel_rfl) rfl rfl (below_drew (Below.refl _ _)) (fun hS => ?_)
      generalize W5.drew = W6 at hS ⊢
      refine rt_ L.out hS 0 63 (Sq.M 1 6) ?_
      refine ra_ 1 64 (Sq.M 2 6) ?_
      refine rt_ L.out hS 2 65 (Sq.M 3 6) ?_
      refine one_ (i := 3) (N := some 66) (Sq.M 4 6) rfl rfl (by kernel_rfl) (by decide) (fun K hK => ?_)
      refine goes_ Try.func90 rfl rfl #[.agg #[.int .i64 p, .int .i64 q, .int .i64 (r + d3)]] (by rfl) rfl rfl (by (try simp only [am_]); first | done | rfl) ?_
      (with_reducible refine (KK.out _).mono ?_)
      rintro e w7 ⟨rfl, hb7⟩
      refine ⟨_, rfl, ?_⟩
      refine hK.out _ _ (below_step hS hb7) (fun hS2 => ?_)
      clear hK K
      refine norm_ (a' := ?_) ?_ ?_
      rotate_left
      · (show Act.put _ (some 66) _ = _; simp only [sp_]; rfl)
      refine last_ (i := 4) (N := none) (Sq.M 5 6) rfl rfl (by kernel_rfl) (by decide) (fun K hK => ?_)
      refine sts_ 30 4 (.tmp 63) (w.heap.size + 1 + 1) 0 #[.slice A0 l0.length c0, .slice A1 l1.length c1, .slice A2 l2.length c2, .int .i64 p, .int .i64 q, .int .i64 (r + d3)] #[.slice none 0 0, .slice none 0 0, .slice none 0 0, .int .i64 0, .int .i64 0, .int .i64 0] #[.slice A0 l0.length c0, .slice A1 l1.length c1, .slice A2 l2.length c2, .int .i64 p, .int .i64 q, .int .i64 (r + d3)] 30 (by rfl) rfl rfl rfl rfl (blk_below BR5.out hS2) (by kernel_rfl) (Nat.le_of_ble_eq_true rfl) (by kernel_rfl) (by kernel_rfl) ?_
      intro w6 hn6 hg6
      refine hK.out _ _ ?_
      clear hK K
      refine ra_ 5 5 (Sq.M 6 6) ?_
      refine done_ (by kernel_rfl) ?_
      go_wp2
      refine bodyPost_ret (results_ct rfl _ _ (w.heap.size + 1 + 1) 30 #[.slice A0 l0.length c0, .slice A1 l1.length c1, .slice A2 l2.length c2, .int .i64 p, .int .i64 q, .int .i64 (r + d3)] (0, 0) _ rfl hn6 Try.underlying30 rfl (by kernel_rfl)) rfl ?_
      refine ⟨_, _, _, _, _, _, _, _, _, _, _, _, by rw [HW.out]; cases cb <;> rfl, b_put (below_step HBB.out (below_step HB5.out hS2)) hg6 (by have := HBB.out.size; omega), Only.of_below (b_put (below_step HB5.out hS2) hg6 (by omega)) _ _, fun h => ?_⟩
      rw [HW.out] at h ⊢
      cases cb with
      | false => simp at h
      | true => exact ⟨rfl, rfl, rfl, r_put (Kd.R_below HR0.out hS2) (blk_below BR5.out hS2) (by decide) hg6, r_put (Kd.R_below HR1.out hS2) (blk_below BR5.out hS2) (by decide) hg6, r_put (Kd.R_below HR2.out hS2) (blk_below BR5.out hS2) (by decide) hg6⟩
  by_cases e2 : d0 = 2
  · subst e2
    clear e1 e5 KR
    go_enter Try.func48, Try.ntmps48
    go_upto_region 15 with (fail)
    refine world_ (fun W => Flt W w0.heap.size w.heap.size A0 c0 l0 A1 c1 l1 A2 c2 l2 p q r ∧ W.heap[w.heap.size + 1]? = some (.cells #[.int .i64 2, .string d1, .int .i64 d2, .int .i64 d3] 42 (0, 0)) ∧ W.heap[w.heap.size + 1 + 1]? = some (.cells #[.slice none 0 0, .slice none 0 0, .slice none 0 0, .int .i64 0, .int .i64 0, .int .i64 0] 30 (0, 0)) ∧ Below w.heap.size w W) HF.out ?_
    clear HF
    rintro W ⟨HFl, BD, BR, HB⟩
    replace HFl := Aside0.mk HFl
    replace BD := Aside0.mk BD
    replace BR := Aside0.mk BR
    replace HB := Aside0.mk HB
    go_wp2
    go_loopw [8] (fun v8 wr => ∃ i : Nat, i ≤ l0.length ∧ v8 = .int .i64 i ∧ Aside0 (∀ j, ∀ h : j < l0.length, j < i → ¬ (l0[j]).f0.toList = d1.toList) ∧ Aside0 (Below W.heap.size W wr)) (fun v8 _ => l0.length - (intOf v8).toNat)
    case atStart => exact ⟨0, Nat.zero_le _, rfl, ⟨fun j _ h => absurd h (Nat.not_lt_zero _)⟩, ⟨Below.refl _ _⟩⟩
    case round =>
      obtain ⟨i, hi, rfl, HN, HZ⟩ := hrel
      by_cases hlt : i < l0.length
      · obtain ⟨ga, ca, ea, hga, hgl, cells, hcells⟩ := Kd.R_form HR0w.out (by omega)
        injection ea with ea1 _ ea2
        subst ea1
        subst ea2
        obtain ⟨ce, hcl, hM, hcc, hfr⟩ := Kd.R_elem (HFl.out.up HZ.out).r0 z44 (i : Int) (by omega) (by omega)
        obtain rfl := k44_openM hM
        have hx0 := hcc 0 _ rfl
        simp only [show (k44).sz = 7 from rfl, Int.toNat_natCast, Nat.add_zero] at hx0
        obtain ⟨s, hs⟩ : ∃ s, (l0[i]).f0 = s := ⟨_, rfl⟩
        have hs2 : (l0.getD i z44).f0 = s := by rw [← hs]; simp [List.getD_eq_getElem?_getD, hlt]
        rw [hs2] at hx0
        have HS := Aside0.mk hs
        have HX := Aside0.mk hx0
        clear hx0 hcc hfr hcl hM hs hs2
        obtain ⟨z0, z1, z2, z3, z4, z5⟩ := ck6 (HFl.out.up HZ.out).g
        go_upto_region 18 with (fail)
        clear z0 z1 z2 z3 z4 z5
        have L := Aside0.mk (fun w' (h : Up wr w') => (⟨ck (HFl.out.up (below_step HZ.out h)).g 0 rfl, bc h HX.out, ck (blk_below BD.out (below_step HZ.out h)) 1 rfl⟩ : w'.cell? ⟨w.heap.size, 0, none⟩ = some (.slice (some ⟨ga, 0, none⟩) l0.length c0) ∧ w'.cell? ⟨ga, i * 7, none⟩ = some (.string s) ∧ w'.cell? ⟨w.heap.size + 1, 1, none⟩ = some (.string d1)))
        refine rg_ (by kernel_rfl) (by kernel_rfl) ?_
        (repeat (first | refine qn_ ?_ | refine ql_ L.out ?_))
        refine qd_ ?_
        intro wq hbq
        clear L
        by_cases he : s.toList = d1.toList
        · have hne : (s.toList == d1.toList) = true := by simpa using he
          rw [← HS.out] at he
          obtain ⟨hc, hb⟩ := task_hit HP.out d1 i hlt he
          have HT := Aside0.mk (show workT l0 d1 p q r = l0.set i (⟨(rd_T44 l0 (i : Int)).f0, (rd_T44 l0 (i : Int)).f1, (rd_T44 l0 (i : Int)).f2, (rd_T44 l0 (i : Int)).f3, (⟨p, q, r⟩ : S28)⟩ : S44) by unfold workT; rw [hc])
          have HW := Aside0.mk (show workF l0 l1 l2 p q r 2 d1 d2 d3 = (workT l0 d1 p q r, l1, l2, p, q, r, true) from by rw [workF_some HOK.out (show doF l0 l1 l2 p q r 2 d1 d2 d3 = some (workT l0 d1 p q r, l2, p, q, r) by unfold doF; rw [if_neg (by decide), if_pos rfl, if_pos hb]), if_pos HP.out.now])
          rw [hne]
          clear hne he hc hb
          have HZ2 := Aside0.mk (below_step HZ.out hbq)
          have hcells2 := blk_below (blk_below (blk_below hcells HB.out) HZ.out) hbq
          clear hbq HZ HN HX
          have hR5 := (HFl.out.up HZ2.out).r0
          obtain ⟨ce, hcl, hM, hcc, hfr⟩ := Kd.R_elem hR5 z44 (i : Int) (by omega) (by omega)
          obtain rfl := k44_openM hM
          have HP5 := Kd.R_seg hR5 (i : Int) (by omega) (by omega) (seg := [.int .i64 p, .int .i64 q, .int .i64 r]) (j := 4) hcl hcc (show 7 ≤ 7 from by decide) (x' := (⟨(rd_T44 l0 (i : Int)).f0, (rd_T44 l0 (i : Int)).f1, (rd_T44 l0 (i : Int)).f2, (rd_T44 l0 (i : Int)).f3, (⟨p, q, r⟩ : S28)⟩ : S44)) (k44_mkM _ _ _ (⟨(rd_T44 l0 (i : Int)).f0, (rd_T44 l0 (i : Int)).f1, (rd_T44 l0 (i : Int)).f2, (rd_T44 l0 (i : Int)).f3, (⟨p, q, r⟩ : S28)⟩ : S44)) (fun _ hk => hk)
          have hx4 := hcc 4 _ rfl
          have hx5 := hcc 5 _ rfl
          have hx6 := hcc 6 _ rfl
          have hf4 := hfr 4
          have hf5 := hfr 5
          have hf6 := hfr 6
          simp only [show (k44).sz = 7 from rfl, Int.toNat_natCast] at hx4 hx5 hx6 hf4 hf5 hf6 HP5
          clear hcl hM hcc hfr hR5
          obtain ⟨z0, z1, z2, z3, z4, z5⟩ := ck6 (HFl.out.up HZ2.out).g
          go_upto_region 20 with (fail)
          have HF5 := Aside0.mk (show (((wq.setCell ⟨ga, i * 7 + 4, none⟩ (.int .i64 p)).setCell ⟨ga, i * 7 + 4 + 1, none⟩ (.int .i64 q)).setCell ⟨ga, i * 7 + 4 + 2, none⟩ (.int .i64 r)).heap[w.heap.size]? = some (.cells #[.slice (some ⟨ga, 0, none⟩) l0.length c0, .slice A1 l1.length c1, .slice A2 l2.length c2, .int .i64 p, .int .i64 q, .int .i64 r] 30 (0, 0)) ∧ (((wq.setCell ⟨ga, i * 7 + 4, none⟩ (.int .i64 p)).setCell ⟨ga, i * 7 + 4 + 1, none⟩ (.int .i64 q)).setCell ⟨ga, i * 7 + 4 + 2, none⟩ (.int .i64 r)).heap[w.heap.size + 1 + 1]? = some (.cells #[.slice none 0 0, .slice none 0 0, .slice none 0 0, .int .i64 0, .int .i64 0, .int .i64 0] 30 (0, 0)) ∧ Below w0.heap.size w0 (((wq.setCell ⟨ga, i * 7 + 4, none⟩ (.int .i64 p)).setCell ⟨ga, i * 7 + 4 + 1, none⟩ (.int .i64 q)).setCell ⟨ga, i * 7 + 4 + 2, none⟩ (.int .i64 r)) ∧ Only w (((wq.setCell ⟨ga, i * 7 + 4, none⟩ (.int .i64 p)).setCell ⟨ga, i * 7 + 4 + 1, none⟩ (.int .i64 q)).setCell ⟨ga, i * 7 + 4 + 2, none⟩ (.int .i64 r)) w.heap.size [44] ∧ Kd.R k44 44 (((wq.setCell ⟨ga, i * 7 + 4, none⟩ (.int .i64 p)).setCell ⟨ga, i * 7 + 4 + 1, none⟩ (.int .i64 q)).setCell ⟨ga, i * 7 + 4 + 2, none⟩ (.int .i64 r)) w0.heap.size (fun _ => True) (.slice (some ⟨ga, 0, none⟩) l0.length c0) (workT l0 d1 p q r) ∧ Kd.R k84 84 (((wq.setCell ⟨ga, i * 7 + 4, none⟩ (.int .i64 p)).setCell ⟨ga, i * 7 + 4 + 1, none⟩ (.int .i64 q)).setCell ⟨ga, i * 7 + 4 + 2, none⟩ (.int .i64 r)) w0.heap.size (fun _ => True) (.slice A1 l1.length c1) l1 ∧ Kd.R k57 57 (((wq.setCell ⟨ga, i * 7 + 4, none⟩ (.int .i64 p)).setCell ⟨ga, i * 7 + 4 + 1, none⟩ (.int .i64 q)).setCell ⟨ga, i * 7 + 4 + 2, none⟩ (.int .i64 r)) w0.heap.size (fun _ => True) (.slice A2 l2.length c2) l2 from
            ⟨blk_grown (HFl.out.up HZ2.out).g HP5.2 (fun e => by injection e with e; exact absurd (typed_one (HFl.out.up HZ2.out).g (by rw [e]; exact hcells2)) (by decide)), blk_grown (blk_below BR.out HZ2.out) HP5.2 (fun e => by injection e with e; exact absurd (typed_one (blk_below BR.out HZ2.out) (by rw [e]; exact hcells2)) (by decide)), below_set (below_set (below_set (below_step HBB.out (below_step HB.out HZ2.out)) hga) hga) hga, Only.set (Only.set (Only.set (Only.of_below (below_step HB.out HZ2.out) _ _) hcells (by simp) _ _) hcells (by simp) _ _) hcells (by simp) _ _, by rw [HT.out]; exact HP5.1, r_put (HFl.out.up HZ2.out).r1 hcells2 (by decide) HP5.2, r_put (HFl.out.up HZ2.out).r2 hcells2 (by decide) HP5.2⟩)
          clear HP5 HT hcells2 hcells z0 z1 z2 z3 z4 z5 hx4 hx5 hx6 hf4 hf5 hf6 HFl BD BR HB HZ2
          generalize ((wq.setCell ⟨ga, i * 7 + 4, none⟩ (.int .i64 p)).setCell ⟨ga, i * 7 + 4 + 1, none⟩ (.int .i64 q)).setCell ⟨ga, i * 7 + 4 + 2, none⟩ (.int .i64 r) = W5 at HF5 ⊢
          obtain ⟨hg5, BRk, hb5, ho5, hr0, hr1, hr2⟩ := HF5.out
          clear HF5
          have HB5 := Aside0.mk hb5
          have HO5 := Aside0.mk ho5
          have HR5 := Aside0.mk (And.intro hr0 (And.intro hr1 hr2))
          obtain ⟨z0, z1, z2, z3, z4, z5⟩ := ck6 hg5
          clear hg5 hb5 ho5 hr0 hr1 hr2
          have BR5 := Aside0.mk BRk
          go_wp2_with (first | ((with_reducible refine gate_store (t := 30) (p := 4) rfl ?_); refine stm_ 30 4 (.tmp 92) (w.heap.size + 1 + 1) 0 #[.slice (some ⟨ga, 0, none⟩) l0.length c0, .slice A1 l1.length c1, .slice A2 l2.length c2, .int .i64 p, .int .i64 q, .int .i64 r] #[.slice none 0 0, .slice none 0 0, .slice none 0 0, .int .i64 0, .int .i64 0, .int .i64 0] #[.slice (some ⟨ga, 0, none⟩) l0.length c0, .slice A1 l1.length c1, .slice A2 l2.length c2, .int .i64 p, .int .i64 q, .int .i64 r] 30 ?e1 ?e2 ?e3 ?e4 ?e5 ?e6 ?e7 ?e8 ?e9 ?e10 ?_; (case e1 => rfl); (case e2 => rfl); (case e3 => rfl); (case e4 => rfl); (case e5 => rfl); (case e6 => exact BRk); (case e7 => kernel_rfl); (case e8 => exact Nat.le_of_ble_eq_true rfl); (case e9 => kernel_rfl); (case e10 => kernel_rfl); intro w6 hn6 hg6))
          refine bodyPost_ret (results_ct rfl _ _ (w.heap.size + 1 + 1) 30 #[.slice (some ⟨ga, 0, none⟩) l0.length c0, .slice A1 l1.length c1, .slice A2 l2.length c2, .int .i64 p, .int .i64 q, .int .i64 r] (0, 0) _ rfl hn6 Try.underlying30 rfl (by kernel_rfl)) rfl ?_
          exact ⟨_, _, _, _, _, _, _, _, _, _, _, _, by rw [HW.out]; rfl, b_put HB5.out hg6 (by have := HBB.out.size; omega), Only.put HO5.out hg6 (by omega), fun _ => by rw [HW.out]; exact ⟨rfl, rfl, rfl, r_put HR5.out.1 BR5.out (by decide) hg6, r_put HR5.out.2.1 BR5.out (by decide) hg6, r_put HR5.out.2.2 BR5.out (by decide) hg6⟩⟩
        · have hne : (s.toList == d1.toList) = false := by simpa using he
          rw [← HS.out] at he
          have HN2 := Aside0.mk (show ∀ j, ∀ h : j < l0.length, j < i + 1 → ¬ (l0[j]).f0.toList = d1.toList from fun j h hj => by
            rcases Nat.lt_or_ge j i with x | x
            · exact HN.out j h x
            · obtain rfl : j = i := by omega
              exact he)
          have HZ2 := Aside0.mk (below_step HZ.out hbq)
          rw [hne]
          clear hne he hbq HN HX HS
          go_wp2
          go_roundw
          case rel => exact ⟨i + 1, by omega, by go_num, HN2, HZ2⟩
          case measure => simp [intOf]; omega
      · obtain rfl : i = l0.length := by omega
        have HW := Aside0.mk (show workF l0 l1 l2 p q r 2 d1 d2 d3 = (l0, l1, l2, p, q, r, false) from workF_none HOK.out (by
          unfold doF
          rw [if_neg (by decide), if_pos rfl, if_neg (fun hb => by
            obtain ⟨hm, hz⟩ := bsHit_at hb
            exact HN.out _ hm hm ((cmpT_zero _ _).1 hz))]))
        clear HN
        obtain ⟨z0, z1, z2, z3, z4, z5⟩ := ck6 (HFl.out.up HZ.out).g
        have BRk := blk_below BR.out HZ.out
        go_wp2_with (first | ((with_reducible refine gate_store (t := 30) (p := 4) rfl ?_); refine stm_ 30 4 (.tmp 93) (w.heap.size + 1 + 1) 0 #[.slice A0 l0.length c0, .slice A1 l1.length c1, .slice A2 l2.length c2, .int .i64 p, .int .i64 q, .int .i64 r] #[.slice none 0 0, .slice none 0 0, .slice none 0 0, .int .i64 0, .int .i64 0, .int .i64 0] #[.slice A0 l0.length c0, .slice A1 l1.length c1, .slice A2 l2.length c2, .int .i64 p, .int .i64 q, .int .i64 r] 30 ?e1 ?e2 ?e3 ?e4 ?e5 ?e6 ?e7 ?e8 ?e9 ?e10 ?_; (case e1 => rfl); (case e2 => rfl); (case e3 => rfl); (case e4 => rfl); (case e5 => rfl); (case e6 => exact BRk); (case e7 => kernel_rfl); (case e8 => exact Nat.le_of_ble_eq_true rfl); (case e9 => kernel_rfl); (case e10 => kernel_rfl); intro w6 hn6 hg6))
        refine bodyPost_ret (results_ct rfl _ _ (w.heap.size + 1 + 1) 30 #[.slice A0 l0.length c0, .slice A1 l1.length c1, .slice A2 l2.length c2, .int .i64 p, .int .i64 q, .int .i64 r] (0, 0) _ rfl hn6 Try.underlying30 rfl (by kernel_rfl)) rfl ?_
        exact ⟨_, _, _, _, _, _, _, _, _, _, _, _, by rw [HW.out]; rfl, b_put (below_step HBB.out (below_step HB.out HZ.out)) hg6 (by have := HBB.out.size; omega), Only.of_below (b_put (below_step HB.out HZ.out) hg6 (by omega)) _ _, fun h => by rw [HW.out] at h; simp at h⟩
  have k1' : (d0 == 1) = false := by simpa using e1
  have k2' : (d0 == 2) = false := by simpa using e2
  have k5' : (d0 == 5) = false := by simpa using e5
  clear KR
  go_enter Try.func48, Try.ntmps48
  go_upto_region 22 with (fail)
  refine world_ (fun W => Flt W w0.heap.size w.heap.size A0 c0 l0 A1 c1 l1 A2 c2 l2 p q r ∧ W.heap[w.heap.size + 1]? = some (.cells #[.int .i64 d0, .string d1, .int .i64 d2, .int .i64 d3] 42 (0, 0)) ∧ W.heap[w.heap.size + 1 + 1]? = some (.cells #[.slice none 0 0, .slice none 0 0, .slice none 0 0, .int .i64 0, .int .i64 0, .int .i64 0] 30 (0, 0)) ∧ Below w.heap.size w W) HF.out ?_
  clear HF
  rintro W ⟨HFl, BD, BR, HB⟩
  replace HFl := Aside0.mk HFl
  replace BD := Aside0.mk BD
  replace BR := Aside0.mk BR
  replace HB := Aside0.mk HB
  obtain ⟨m, hm⟩ : ∃ m, cutAt (cmpD d2) l2 = m := ⟨_, rfl⟩
  have hml : m ≤ l2.length := hm ▸ cutAt_le _ _
  have HM := Aside0.mk hm
  clear hm
  go_wp2
  clear k1' k2' k5'
  go_loopw [9] (fun v9 wr => ∃ i : Nat, i ≤ m ∧ v9 = .int .i64 i ∧ Aside0 (Below W.heap.size W wr)) (fun v9 _ => m - (intOf v9).toNat)
  case atStart => exact ⟨0, Nat.zero_le _, rfl, ⟨Below.refl _ _⟩⟩
  case round =>
    obtain ⟨i, hi, rfl, HZ⟩ := hrel
    by_cases hlt : i < m
    · have hlt2 : i < l2.length := by omega
      obtain ⟨ad, e0, hx0, hx1, hx2⟩ := at_T57 (R_cap (HFl.out.up HZ.out).r2).2.2 (i : Int) (by omega) (by omega)
      cases e0
      simp only [Int.toNat_natCast] at hx1
      obtain ⟨f, hf⟩ : ∃ f, (l2[i]).f1 = f := ⟨_, rfl⟩
      rw [rd_at57 hlt2, hf] at hx1
      have hcmp : f < d2 := by rw [← hf]; exact (cmpI_lt _ _).1 (cutAt_below (cmpD d2) l2 i hlt2 (by rw [HM.out]; exact hlt))
      have HX1 := Aside0.mk hx1
      clear hx0 hx1 hx2 hf
      go_upto_region 23 with (fail)
      have L := Aside0.mk (fun w' (h : Up wr w') => (⟨ck (HFl.out.up (below_step HZ.out h)).g 2 rfl, bc h HX1.out, ck (blk_below BD.out (below_step HZ.out h)) 2 rfl⟩ : w'.cell? ⟨w.heap.size, 2, none⟩ = some (.slice (some ad) l2.length c2) ∧ w'.cell? ⟨(ad.add (i * 3)).block, (ad.add (i * 3)).off + 1, none⟩ = some (.int .i64 f) ∧ w'.cell? ⟨w.heap.size + 1, 2, none⟩ = some (.int .i64 d2)))
      refine rg_ (by kernel_rfl) (by kernel_rfl) ?_
      (repeat (first | refine qn_ ?_ | refine ql_ L.out ?_))
      refine qd_ ?_
      intro wq hbq
      have HZ2 := Aside0.mk (below_step HZ.out hbq)
      clear L HX1 hbq HZ
      go_wp2
      go_roundw
      case rel => exact ⟨i + 1, by omega, by go_num, HZ2⟩
      case measure => simp [intOf]; omega
    · obtain rfl : i = m := by omega
      have hE : (∃ hl : i < l2.length, (l2[i]).f1 = d2) ∨ (∃ hl : i < l2.length, ¬ (l2[i]).f1 = d2) ∨ i = l2.length := by
        rcases Nat.lt_or_ge i l2.length with h | h
        · by_cases c : (l2[i]).f1 = d2
          · exact .inl ⟨h, c⟩
          · exact .inr (.inl ⟨h, c⟩)
        · exact .inr (.inr (by omega))
      have HBS := Aside0.mk (show bsHit (cmpD d2) l2 (cutAt (cmpD d2) l2) = match l2[i]? with | some x => cmpD d2 x == 0 | none => false by rw [HM.out]; unfold bsHit; cases l2[i]? <;> rfl)
      refine Or.elim hE (fun h => ?c1) (fun h => Or.elim h (fun h => ?c2) (fun h => ?c3))
      case c1 =>
        obtain ⟨hl, hc⟩ := h
        obtain ⟨ad, e0, hx0, hx1, hx2⟩ := at_T57 (R_cap (HFl.out.up HZ.out).r2).2.2 (i : Int) (by omega) (by omega)
        simp only [Int.toNat_natCast] at hx1
        obtain ⟨f, hf⟩ : ∃ f, (l2[i]).f1 = f := ⟨_, rfl⟩
        rw [rd_at57 hl, hf] at hx1
        rw [hf] at hc
        have hge : ¬ f < d2 := by rw [← hf]; exact fun x => cutAt_above (cmpD d2) l2 (defects_part HP.out d2) i hl (by rw [HM.out]; exact Nat.le_refl _) ((cmpI_lt _ _).2 x)
        have HB1 := Aside0.mk (show bsHit (cmpD d2) l2 (cutAt (cmpD d2) l2) = true by rw [HBS.out, List.getElem?_eq_getElem hl]; show (cmpI (l2[i]).f1 d2 == 0) = _; rw [hf]; simp [cmpI, hc])
        have HX1 := Aside0.mk hx1
        cases e0
        clear hx0 hx1 hx2 hf HBS hE
        have hc2 := hc.symm
        subst hc2
        go_upto_region 23 with (fail)
        have L := Aside0.mk (fun w' (h : Up wr w') => (⟨ck (HFl.out.up (below_step HZ.out h)).g 2 rfl, bc h HX1.out, ck (blk_below BD.out (below_step HZ.out h)) 2 rfl⟩ : w'.cell? ⟨w.heap.size, 2, none⟩ = some (.slice (some ad) l2.length c2) ∧ w'.cell? ⟨(ad.add (i * 3)).block, (ad.add (i * 3)).off + 1, none⟩ = some (.int .i64 d2) ∧ w'.cell? ⟨w.heap.size + 1, 2, none⟩ = some (.int .i64 d2)))
        refine rg_ (by kernel_rfl) (by kernel_rfl) ?_
        (repeat (first | refine qn_ ?_ | refine ql_ L.out ?_))
        refine qd_ ?_
        intro wq hbq
        have HZ2 := Aside0.mk (below_step HZ.out hbq)
        go_upto_region 25 with (fail)
        have HX2 := Aside0.mk (bc hbq HX1.out)
        clear hbq L HX1 HZ
        replace HX1 := HX2
        have L := Aside0.mk (fun w' (h : Up wq w') => (⟨ck (HFl.out.up (below_step HZ2.out h)).g 2 rfl, bc h HX1.out, ck (blk_below BD.out (below_step HZ2.out h)) 2 rfl⟩ : w'.cell? ⟨w.heap.size, 2, none⟩ = some (.slice (some ad) l2.length c2) ∧ w'.cell? ⟨(ad.add (i * 3)).block, (ad.add (i * 3)).off + 1, none⟩ = some (.int .i64 d2) ∧ w'.cell? ⟨w.heap.size + 1, 2, none⟩ = some (.int .i64 d2)))
        refine rg_ (by kernel_rfl) (by kernel_rfl) ?_
        (repeat (first | refine qn_ ?_ | refine ql_ L.out ?_))
        refine qd_ ?_
        intro wp hbp
        have HZ := Aside0.mk (below_step HZ2.out hbp)
        clear L HX1 HX2 HZ2 hbp hge
        by_cases k4 : d0 = 4
        · subst k4
          have HW := Aside0.mk (show workF l0 l1 l2 p q r 4 d1 d2 d3 = (l0, l1, l2.take i ++ l2.drop (i + 1), p, q, r, true) from by rw [workF_some HOK.out (show doF l0 l1 l2 p q r 4 d1 d2 d3 = some (l0, l2.take i ++ l2.drop (i + 1), p, q, r) by unfold doF; rw [if_neg (by decide), if_neg (by decide), if_neg (by decide), if_pos rfl, if_pos HB1.out, HM.out, List.eraseIdx_eq_take_drop_succ]), if_pos HP.out.now])
          clear e1 e2 e5 HB1
          have y0 := ck (blk_below BD.out HZ.out) 0 rfl
          go_upto_region 27 with (fail)
          refine world_ (fun W' => Below W.heap.size W W') HZ.out ?_
          clear HZ y0
          rintro W4 hz4
          have HZ4 := Aside0.mk hz4
          have HB4 := Aside0.mk (below_step HBB.out (below_step HB.out hz4))
          clear hz4
          obtain ⟨i0_, hi0_, _, hsz_, _⟩ := info_parts info57
          have hC := (R_cap (HFl.out.up HZ4.out).r2).2.2
          have hcut1 := cut_to (P := Try.prog) 26 57 .i64 Try.underlying26 hi0_ (some ad) l2.length c2 (i : Int) (by omega) (by omega) hcc2
          have hcut2 := cut_from (P := Try.prog) 26 57 .i64 Try.underlying26 hi0_ 3 hsz_ (some ad) l2.length c2 ((i : Int) + 1) (by omega) (by omega)
          simp only [Int.toNat_natCast, show ((i : Int) + 1).toNat = i + 1 by omega] at hcut1 hcut2
          have hr1 := Kd.C_take (m := i) hC (by omega)
          have hr2 := Kd.C_drop (m := i + 1) (c := c2) hC (by omega) hcc2
          rw [List.length_take, Nat.min_eq_left (by omega)] at hr1
          rw [List.length_drop, show (k57).sz = 3 from rfl] at hr2
          obtain ⟨A3, hA3⟩ : ∃ A, A = (if c2 = i + 1 then some ad else (some ad : Option Addr).map (·.add ((i + 1) * 3))) := ⟨_, rfl⟩
          obtain ⟨n3, hn3⟩ : ∃ n, n = l2.length - (i + 1) := ⟨_, rfl⟩
          obtain ⟨c3, hc3⟩ : ∃ n, n = c2 - (i + 1) := ⟨_, rfl⟩
          rw [← hA3, ← hn3] at hr2
          rw [← hA3, ← hn3, ← hc3] at hcut2
          have HC1_ := Aside0.mk hr1
          have HC2_ := Aside0.mk hr2
          have hn3' : n3 ≤ 20 := by omega
          have hwi : IntKind.i64.wrap ((i : Int) + 1) = (i : Int) + 1 := IntWalk.i64_in _ (by omega)
          clear hC hr1 hr2 hA3 hn3 hc3 hi0_ hsz_
          have L := Aside0.mk (fun w' (h : Up W4 w') => ck (HFl.out.up (below_step HZ4.out h)).g 2 rfl)
          refine start_ (n := 14) (S := Up W4) (ds := [13]) (Sq.M 0 14) (by kernel_rfl) rfl rfl (below_drew (Below.refl _ _)) (fun hS => ?_)
          generalize W4.drew = W6 at hS ⊢
          refine ra_ 1 136 (mn_ 14 2) ?_
          refine rt_ L.out hS 2 137 (mn_ 14 6) ?_
          refine ra_ 3 138 (mn_ 14 14) ?_
          refine ra_ 4 139 (mn_ 14 30) ?_
          refine ra_ 6 141 (mn_ 14 94) ?_
          refine rt_ L.out hS 7 142 (mn_ 14 222) ?_
          refine ra_ 8 143 (mn_ 14 478) ?_
          refine ra_ 9 144 (mn_ 14 990) ?_
          refine ra_ 10 145 (mn_ 14 2014) ?_
          clear hcut1 hcut2 hwi
          refine one_ (i := 0) (N := some 135) (mn_ 14 2015) rfl rfl (by kernel_rfl) (by decide) (fun K hK => ?_)
          refine Kd.R_lit_step k57 (w0 := w0) w0.heap.size 57 ?hg (N := 135) ?hd (xs := ([] : List S57)) (inner := []) (ok := fun k => W4.heap.size ≤ k) (okp := fun _ => False) ?hr ?hp (fun _ hk => hk.elim) hS.size (below_step HB4.out hS) (Nat.le_trans HB4.out.size hS.size) (by simp) ?_; (case hd => rfl); (case hg => rfl); (case hr => first | (go_simp; done) | (go_simp; rfl)); (case hp => exact (Reps.none _ _))
          intro v1 w1 hR1 hb1 hg1 hfr1
          have hS1 : Up W4 w1 := hS.grown hg1 hS.size (fun k hk => by cases hk)
          refine hK.out _ _ hS1 (fun hS1' => ?_)
          clear hK K hS1' hfr1 hS hg1
          refine norm_ (a' := ?_) ?_ ?_
          rotate_left
          · (show Act.put _ (some 135) _ = _; simp only [sp_]; rfl)
          refine one_ (i := 5) (N := some 140) (Sq.M 11 14) rfl rfl (by kernel_rfl) (by decide) (fun K hK => ?_)
          refine Kd.R_append_rows_step k57 (w0 := w0) w0.heap.size (by rfl) (.tmp 135) (.tmp 139) 26 57 (.agg #[(.string ⟨#[]⟩), (.int .i64 0), (.int .i64 0)]) 32 rfl Try.underlying26 info57 rfl (by decide) (by omega) v1 ([] : List S57) (l2.take i) _ _ _ (fun k => W4.heap.size ≤ k) (fun _ => False) rfl rfl hR1 (Kd.C_below HC1_.out hS1) (fun _ _ h => h) (fun _ h => h.elim) (fun k hk => Nat.le_trans hS1.size hk) hb1 (Nat.le_trans HB4.out.size hS1.size) (by simp; omega) ?_
          intro v2 w2 hR2 w2hb w2hg w2at
          have hS2 : Up W4 w2 := hS1.grown w2hg hS1.size (fun k hk => hR1.1 k hk)
          refine hK.out _ _ hS2 (fun hSx => ?_)
          clear hK K hSx w2at w2hg
          obtain ⟨A_v2, c_v2, e_v2⟩ := Kd.R_slice hR2
          obtain ⟨n_v2, hn_v2⟩ : ∃ n, n = (([] : List S57) ++ (l2.take i)).length := ⟨_, rfl⟩
          rw [← hn_v2] at e_v2
          have HN_v2 := Aside0.mk hn_v2
          clear hn_v2
          subst e_v2
          refine norm_ (a' := ?_) ?_ ?_
          rotate_left
          · (show Act.put _ (some 140) _ = _; simp only [sp_]; rfl)
          refine one_ (i := 11) (N := some 146) (Sq.M 12 14) rfl rfl (by kernel_rfl) (by decide) (fun K hK => ?_)
          refine Kd.R_append_rows_step k57 (w0 := w0) w0.heap.size (by rfl) (.tmp 140) (.tmp 145) 26 57 (.agg #[(.string ⟨#[]⟩), (.int .i64 0), (.int .i64 0)]) 32 rfl Try.underlying26 info57 rfl (by decide) (by omega) _ ([] ++ l2.take i) (l2.drop (i + 1)) _ _ _ (fun k => W4.heap.size ≤ k) (fun _ => False) rfl rfl hR2 (Kd.C_below HC2_.out hS2) (fun _ _ h => h) (fun _ h => h.elim) (fun k hk => Nat.le_trans hS2.size hk) w2hb (Nat.le_trans HB4.out.size hS2.size) (by simp; omega) ?_
          intro v3 w3 hR3 w3hb w3hg w3at
          have hS3 : Up W4 w3 := hS2.grown w3hg hS2.size (fun k hk => hR2.1 k hk)
          refine hK.out _ _ hS3 (fun hSx => ?_)
          clear hK K hSx w3at w3hg
          obtain ⟨A_v3, c_v3, e_v3⟩ := Kd.R_slice hR3
          obtain ⟨n_v3, hn_v3⟩ : ∃ n, n = (([] ++ l2.take i) ++ (l2.drop (i + 1))).length := ⟨_, rfl⟩
          rw [← hn_v3] at e_v3
          have HN_v3 := Aside0.mk hn_v3
          clear hn_v3
          subst e_v3
          refine norm_ (a' := ?_) ?_ ?_
          rotate_left
          · (show Act.put _ (some 146) _ = _; simp only [sp_]; rfl)
          refine ra_ 12 147 (Sq.M 13 14) ?_
          refine last_ (i := 13) (N := none) (Sq.M 14 14) rfl rfl (by kernel_rfl) (by decide) (fun K hK => ?_)
          have hgw := (HFl.out.up (below_step HZ4.out hS3)).g
          have hf0 := ck hgw 2 rfl
          have hz0 := blk_frozen hgw 2
          refine skip_ (w1 := ?_) (by rfl) rfl ?_ ?_
          rotate_left
          · go_simp
            rfl
          refine hK.out _ _ ?_
          clear hK K hf0 hz0
          refine done_ (by kernel_rfl) ?_
          have HF5 := Aside0.mk (show (w3.setCell ⟨w.heap.size, 2, none⟩ (.slice A_v3 n_v3 c_v3)).heap[w.heap.size]? = some (.cells #[.slice A0 l0.length c0, .slice A1 l1.length c1, .slice A_v3 n_v3 c_v3, .int .i64 p, .int .i64 q, .int .i64 r] 30 (0, 0)) ∧ (w3.setCell ⟨w.heap.size, 2, none⟩ (.slice A_v3 n_v3 c_v3)).heap[w.heap.size + 1 + 1]? = some (.cells #[.slice none 0 0, .slice none 0 0, .slice none 0 0, .int .i64 0, .int .i64 0, .int .i64 0] 30 (0, 0)) ∧ (Below w0.heap.size w0 (w3.setCell ⟨w.heap.size, 2, none⟩ (.slice A_v3 n_v3 c_v3)) ∧ Below w.heap.size w (w3.setCell ⟨w.heap.size, 2, none⟩ (.slice A_v3 n_v3 c_v3))) ∧ Kd.R k44 44 (w3.setCell ⟨w.heap.size, 2, none⟩ (.slice A_v3 n_v3 c_v3)) w0.heap.size (fun _ => True) (.slice A0 l0.length c0) l0 ∧ Kd.R k84 84 (w3.setCell ⟨w.heap.size, 2, none⟩ (.slice A_v3 n_v3 c_v3)) w0.heap.size (fun _ => True) (.slice A1 l1.length c1) l1 ∧ Kd.R k57 57 (w3.setCell ⟨w.heap.size, 2, none⟩ (.slice A_v3 n_v3 c_v3)) w0.heap.size (fun _ => True) (.slice A_v3 n_v3 c_v3) (l2.take i ++ l2.drop (i + 1)) from
            ⟨blk_put (cs' := #[.slice A0 l0.length c0, .slice A1 l1.length c1, .slice A_v3 n_v3 c_v3, .int .i64 p, .int .i64 q, .int .i64 r]) hgw 2 _ rfl, blk_far (p := ⟨w.heap.size, 2, none⟩) (blk_below BR.out (below_step HZ4.out hS3)) (by show w.heap.size + 1 + 1 ≠ w.heap.size; omega) _, ⟨below_set (below_step HB4.out hS3) HBB.out.size, below_set (below_step HB.out (below_step HZ4.out hS3)) (Nat.le_refl _)⟩, Kd.R_mono (Kd.R_set (HFl.out.up (below_step HZ4.out hS3)).r0 hgw (by decide) 2 _) (fun _ _ => trivial), Kd.R_mono (Kd.R_set (HFl.out.up (below_step HZ4.out hS3)).r1 hgw (by decide) 2 _) (fun _ _ => trivial), Kd.R_mono (Kd.R_set hR3 hgw (by decide) 2 _) (fun _ _ => trivial)⟩)
          clear hgw hR3 hS3 HFl BD BR HB
          generalize w3.setCell ⟨w.heap.size, 2, none⟩ (.slice A_v3 n_v3 c_v3) = W5 at HF5 ⊢
          obtain ⟨hg5, br5, hb5, hr0, hr1, hr2⟩ := HF5.out
          clear HF5
          have BR5 := Aside0.mk br5
          have HB5 := Aside0.mk hb5.1
          have HBw := Aside0.mk hb5.2
          have HR5 := Aside0.mk (And.intro hr0 (And.intro hr1 hr2))
          clear br5 hb5 hr0 hr1 hr2
          obtain ⟨z0, z1, z2, z3, z4, z5⟩ := ck6 hg5
          have BRk := BR5.out
          clear hg5
          go_wp2_with (first | ((with_reducible refine gate_store (t := 30) (p := 4) rfl ?_); refine stm_ 30 4 (.tmp 148) (w.heap.size + 1 + 1) 0 #[.slice A0 l0.length c0, .slice A1 l1.length c1, .slice A_v3 n_v3 c_v3, .int .i64 p, .int .i64 q, .int .i64 r] #[.slice none 0 0, .slice none 0 0, .slice none 0 0, .int .i64 0, .int .i64 0, .int .i64 0] #[.slice A0 l0.length c0, .slice A1 l1.length c1, .slice A_v3 n_v3 c_v3, .int .i64 p, .int .i64 q, .int .i64 r] 30 ?e1 ?e2 ?e3 ?e4 ?e5 ?e6 ?e7 ?e8 ?e9 ?e10 ?_; (case e1 => rfl); (case e2 => rfl); (case e3 => rfl); (case e4 => rfl); (case e5 => rfl); (case e6 => exact BRk); (case e7 => kernel_rfl); (case e8 => exact Nat.le_of_ble_eq_true rfl); (case e9 => kernel_rfl); (case e10 => kernel_rfl); intro w6 hn6 hg6))
          refine bodyPost_ret (results_ct rfl _ _ (w.heap.size + 1 + 1) 30 #[.slice A0 l0.length c0, .slice A1 l1.length c1, .slice A_v3 n_v3 c_v3, .int .i64 p, .int .i64 q, .int .i64 r] (0, 0) _ rfl hn6 Try.underlying30 rfl (by kernel_rfl)) rfl ?_
          exact ⟨_, _, _, _, _, _, _, _, _, _, _, _, by rw [HW.out]; rfl, b_put HB5.out hg6 (by have := HBB.out.size; omega), Only.of_below (b_put HBw.out hg6 (by omega)) _ _, fun _ => by rw [HW.out]; exact ⟨rfl, rfl, rfl, r_put HR5.out.1 BR5.out (by decide) hg6, r_put HR5.out.2.1 BR5.out (by decide) hg6, r_put HR5.out.2.2 BR5.out (by decide) hg6⟩⟩
        · by_cases k3 : d0 = 3
          · subst k3
            have k4' : ((3 : Int) == 4) = false := by decide
            have HW := Aside0.mk (show workF l0 l1 l2 p q r 3 d1 d2 d3 = (l0, l1, l2, p, q, r, false) from workF_none HOK.out (by unfold doF; rw [if_neg (by decide), if_neg (by decide), if_pos rfl, HB1.out]; simp))
            clear e1 e2 e5 k4 HB1
            have y0 := ck (blk_below BD.out HZ.out) 0 rfl
            go_upto_region 33 with (fail)
            clear y0
            obtain ⟨z0, z1, z2, z3, z4, z5⟩ := ck6 (HFl.out.up HZ.out).g
            have BRk := blk_below BR.out HZ.out
            go_wp2_with (first | ((with_reducible refine gate_store (t := 30) (p := 4) rfl ?_); refine stm_ 30 4 (.tmp 197) (w.heap.size + 1 + 1) 0 #[.slice A0 l0.length c0, .slice A1 l1.length c1, .slice (some ad) l2.length c2, .int .i64 p, .int .i64 q, .int .i64 r] #[.slice none 0 0, .slice none 0 0, .slice none 0 0, .int .i64 0, .int .i64 0, .int .i64 0] #[.slice A0 l0.length c0, .slice A1 l1.length c1, .slice (some ad) l2.length c2, .int .i64 p, .int .i64 q, .int .i64 r] 30 ?e1 ?e2 ?e3 ?e4 ?e5 ?e6 ?e7 ?e8 ?e9 ?e10 ?_; (case e1 => rfl); (case e2 => rfl); (case e3 => rfl); (case e4 => rfl); (case e5 => rfl); (case e6 => exact BRk); (case e7 => kernel_rfl); (case e8 => exact Nat.le_of_ble_eq_true rfl); (case e9 => kernel_rfl); (case e10 => kernel_rfl); intro w6 hn6 hg6))
            refine bodyPost_ret (results_ct rfl _ _ (w.heap.size + 1 + 1) 30 #[.slice A0 l0.length c0, .slice A1 l1.length c1, .slice (some ad) l2.length c2, .int .i64 p, .int .i64 q, .int .i64 r] (0, 0) _ rfl hn6 Try.underlying30 rfl (by kernel_rfl)) rfl ?_
            exact ⟨_, _, _, _, _, _, _, _, _, _, _, _, by rw [HW.out]; rfl, b_put (below_step HBB.out (below_step HB.out HZ.out)) hg6 (by have := HBB.out.size; omega), Only.of_below (b_put (below_step HB.out HZ.out) hg6 (by omega)) _ _, fun h => by rw [HW.out] at h; simp at h⟩
          · have k3' : (d0 == 3) = false := by simpa using k3
            have k4' : (d0 == 4) = false := by simpa using k4
            have HW := Aside0.mk (show workF l0 l1 l2 p q r d0 d1 d2 d3 = (l0, l1, l2, p, q, r, false) from workF_none HOK.out (by unfold doF; rw [if_neg e1, if_neg e2, if_neg k3, if_neg k4, if_neg e5]))
            clear e1 e2 e5 k3 k4 HB1
            have y0 := ck (blk_below BD.out HZ.out) 0 rfl
            go_upto_region 33 with (fail)
            clear y0
            obtain ⟨z0, z1, z2, z3, z4, z5⟩ := ck6 (HFl.out.up HZ.out).g
            have BRk := blk_below BR.out HZ.out
            go_wp2_with (first | ((with_reducible refine gate_store (t := 30) (p := 4) rfl ?_); refine stm_ 30 4 (.tmp 197) (w.heap.size + 1 + 1) 0 #[.slice A0 l0.length c0, .slice A1 l1.length c1, .slice (some ad) l2.length c2, .int .i64 p, .int .i64 q, .int .i64 r] #[.slice none 0 0, .slice none 0 0, .slice none 0 0, .int .i64 0, .int .i64 0, .int .i64 0] #[.slice A0 l0.length c0, .slice A1 l1.length c1, .slice (some ad) l2.length c2, .int .i64 p, .int .i64 q, .int .i64 r] 30 ?e1 ?e2 ?e3 ?e4 ?e5 ?e6 ?e7 ?e8 ?e9 ?e10 ?_; (case e1 => rfl); (case e2 => rfl); (case e3 => rfl); (case e4 => rfl); (case e5 => rfl); (case e6 => exact BRk); (case e7 => kernel_rfl); (case e8 => exact Nat.le_of_ble_eq_true rfl); (case e9 => kernel_rfl); (case e10 => kernel_rfl); intro w6 hn6 hg6))
            refine bodyPost_ret (results_ct rfl _ _ (w.heap.size + 1 + 1) 30 #[.slice A0 l0.length c0, .slice A1 l1.length c1, .slice (some ad) l2.length c2, .int .i64 p, .int .i64 q, .int .i64 r] (0, 0) _ rfl hn6 Try.underlying30 rfl (by kernel_rfl)) rfl ?_
            exact ⟨_, _, _, _, _, _, _, _, _, _, _, _, by rw [HW.out]; rfl, b_put (below_step HBB.out (below_step HB.out HZ.out)) hg6 (by have := HBB.out.size; omega), Only.of_below (b_put (below_step HB.out HZ.out) hg6 (by omega)) _ _, fun h => by rw [HW.out] at h; simp at h⟩
      case' c2 =>
        obtain ⟨hl, hc⟩ := h
        obtain ⟨ad, e0, hx0, hx1, hx2⟩ := at_T57 (R_cap (HFl.out.up HZ.out).r2).2.2 (i : Int) (by omega) (by omega)
        simp only [Int.toNat_natCast] at hx1
        obtain ⟨f, hf⟩ : ∃ f, (l2[i]).f1 = f := ⟨_, rfl⟩
        rw [rd_at57 hl, hf] at hx1
        rw [hf] at hc
        have hge : ¬ f < d2 := by rw [← hf]; exact fun x => cutAt_above (cmpD d2) l2 (defects_part HP.out d2) i hl (by rw [HM.out]; exact Nat.le_refl _) ((cmpI_lt _ _).2 x)
        have HB1 := Aside0.mk (show bsHit (cmpD d2) l2 (cutAt (cmpD d2) l2) = false by rw [HBS.out, List.getElem?_eq_getElem hl]; show (cmpI (l2[i]).f1 d2 == 0) = _; rw [hf]; simp [cmpI_zero, hc])
        have HX1 := Aside0.mk hx1
        cases e0
        clear hx0 hx1 hx2 hf HBS hE
        have hc' : (f == d2) = false := by simpa using hc
        go_upto_region 23 with (fail)
        have L := Aside0.mk (fun w' (h : Up wr w') => (⟨ck (HFl.out.up (below_step HZ.out h)).g 2 rfl, bc h HX1.out, ck (blk_below BD.out (below_step HZ.out h)) 2 rfl⟩ : w'.cell? ⟨w.heap.size, 2, none⟩ = some (.slice (some ad) l2.length c2) ∧ w'.cell? ⟨(ad.add (i * 3)).block, (ad.add (i * 3)).off + 1, none⟩ = some (.int .i64 f) ∧ w'.cell? ⟨w.heap.size + 1, 2, none⟩ = some (.int .i64 d2)))
        refine rg_ (by kernel_rfl) (by kernel_rfl) ?_
        (repeat (first | refine qn_ ?_ | refine ql_ L.out ?_))
        refine qd_ ?_
        intro wq hbq
        have HZ2 := Aside0.mk (below_step HZ.out hbq)
        go_upto_region 25 with (fail)
        have HX2 := Aside0.mk (bc hbq HX1.out)
        clear hbq L HX1 HZ
        replace HX1 := HX2
        have L := Aside0.mk (fun w' (h : Up wq w') => (⟨ck (HFl.out.up (below_step HZ2.out h)).g 2 rfl, bc h HX1.out, ck (blk_below BD.out (below_step HZ2.out h)) 2 rfl⟩ : w'.cell? ⟨w.heap.size, 2, none⟩ = some (.slice (some ad) l2.length c2) ∧ w'.cell? ⟨(ad.add (i * 3)).block, (ad.add (i * 3)).off + 1, none⟩ = some (.int .i64 f) ∧ w'.cell? ⟨w.heap.size + 1, 2, none⟩ = some (.int .i64 d2)))
        refine rg_ (by kernel_rfl) (by kernel_rfl) ?_
        (repeat (first | refine qn_ ?_ | refine ql_ L.out ?_))
        refine qd_ ?_
        intro wp hbp
        have HZ := Aside0.mk (below_step HZ2.out hbp)
        clear L HX1 HX2 HZ2 hbp hge
        clear hc hc'
        replace hl := Nat.le_of_lt hl
        obtain ⟨A2, hA2⟩ : ∃ A, A = some ad := ⟨_, rfl⟩
        rw [← hA2] at HFl ⊢
        clear hA2
      case' c3 =>
        have hge := Nat.le_of_eq h.symm
        have HB1 := Aside0.mk (show bsHit (cmpD d2) l2 (cutAt (cmpD d2) l2) = false by rw [HBS.out, List.getElem?_eq_none hge])
        have hl := Nat.le_of_eq h
        have hnl : ¬ i < l2.length := Nat.not_lt.2 hge
        clear HBS hE h
        go_upto_region 23 with (fail)
        have L := Aside0.mk (fun w' (h : Up wr w') => (⟨ck (HFl.out.up (below_step HZ.out h)).g 2 rfl, ck (blk_below BD.out (below_step HZ.out h)) 2 rfl⟩ : w'.cell? ⟨w.heap.size, 2, none⟩ = some (.slice A2 l2.length c2) ∧ w'.cell? ⟨w.heap.size + 1, 2, none⟩ = some (.int .i64 d2)))
        refine rg_ (by kernel_rfl) (by kernel_rfl) ?_
        (repeat (first | refine qn_ ?_ | refine ql_ L.out ?_))
        refine qd_ ?_
        intro wq hbq
        have HZ2 := Aside0.mk (below_step HZ.out hbq)
        go_upto_region 25 with (fail)
        clear hbq L HZ
        have L := Aside0.mk (fun w' (h : Up wq w') => (⟨ck (HFl.out.up (below_step HZ2.out h)).g 2 rfl, ck (blk_below BD.out (below_step HZ2.out h)) 2 rfl⟩ : w'.cell? ⟨w.heap.size, 2, none⟩ = some (.slice A2 l2.length c2) ∧ w'.cell? ⟨w.heap.size + 1, 2, none⟩ = some (.int .i64 d2)))
        refine rg_ (by kernel_rfl) (by kernel_rfl) ?_
        (repeat (first | refine qn_ ?_ | refine ql_ L.out ?_))
        refine qd_ ?_
        intro wp hbp
        have HZ := Aside0.mk (below_step HZ2.out hbp)
        clear L HZ2 hbp
      all_goals
        by_cases k4 : d0 = 4
        · subst k4
          have HW := Aside0.mk (show workF l0 l1 l2 p q r 4 d1 d2 d3 = (l0, l1, l2, p, q, r, false) from workF_none HOK.out (by unfold doF; rw [if_neg (by decide), if_neg (by decide), if_neg (by decide), if_pos rfl, HB1.out]; simp))
          clear e1 e2 e5 HB1
          have k3' : ((4 : Int) == 3) = false := by decide
          have y0 := ck (blk_below BD.out HZ.out) 0 rfl
          go_upto_region 33 with (fail)
          clear y0
          obtain ⟨z0, z1, z2, z3, z4, z5⟩ := ck6 (HFl.out.up HZ.out).g
          have BRk := blk_below BR.out HZ.out
          go_wp2_with (first | ((with_reducible refine gate_store (t := 30) (p := 4) rfl ?_); refine stm_ 30 4 (.tmp 197) (w.heap.size + 1 + 1) 0 #[.slice A0 l0.length c0, .slice A1 l1.length c1, .slice A2 l2.length c2, .int .i64 p, .int .i64 q, .int .i64 r] #[.slice none 0 0, .slice none 0 0, .slice none 0 0, .int .i64 0, .int .i64 0, .int .i64 0] #[.slice A0 l0.length c0, .slice A1 l1.length c1, .slice A2 l2.length c2, .int .i64 p, .int .i64 q, .int .i64 r] 30 ?e1 ?e2 ?e3 ?e4 ?e5 ?e6 ?e7 ?e8 ?e9 ?e10 ?_; (case e1 => rfl); (case e2 => rfl); (case e3 => rfl); (case e4 => rfl); (case e5 => rfl); (case e6 => exact BRk); (case e7 => kernel_rfl); (case e8 => exact Nat.le_of_ble_eq_true rfl); (case e9 => kernel_rfl); (case e10 => kernel_rfl); intro w6 hn6 hg6))
          refine bodyPost_ret (results_ct rfl _ _ (w.heap.size + 1 + 1) 30 #[.slice A0 l0.length c0, .slice A1 l1.length c1, .slice A2 l2.length c2, .int .i64 p, .int .i64 q, .int .i64 r] (0, 0) _ rfl hn6 Try.underlying30 rfl (by kernel_rfl)) rfl ?_
          exact ⟨_, _, _, _, _, _, _, _, _, _, _, _, by rw [HW.out]; rfl, b_put (below_step HBB.out (below_step HB.out HZ.out)) hg6 (by have := HBB.out.size; omega), Only.of_below (b_put (below_step HB.out HZ.out) hg6 (by omega)) _ _, fun h => by rw [HW.out] at h; simp at h⟩
        · by_cases k3 : d0 = 3
          · subst k3
            have k4' : ((3 : Int) == 4) = false := by decide
            obtain ⟨nb, hnb⟩ : ∃ b, nameB d1 = b := ⟨_, rfl⟩
            obtain ⟨ib, hib⟩ : ∃ b, inB d2 1 1000000 = b := ⟨_, rfl⟩
            have KN := Aside0.mk (fun w' => kb_ (name_u d1 hz w') hnb)
            have KI := Aside0.mk (fun w' => kb_ (in_u d2 1 1000000 w') hib)
            have HD := Aside0.mk (show doF l0 l1 l2 p q r 3 d1 d2 d3 = if (nb && (ib && decide (l2.length < 20))) = true then some (l0, l2.take i ++ ⟨d1, d2, r⟩ :: l2.drop i, p, q, r) else none by unfold doF; rw [if_neg (by decide), if_neg (by decide), if_pos rfl, HB1.out, HM.out, hnb, hib]; rfl)
            clear hnb hib e1 e2 e5 k4 HB1
            have y0 := ck (blk_below BD.out HZ.out) 0 rfl
            have y1 := ck (blk_below BD.out HZ.out) 1 rfl
            cases nb with
            | false =>
              have HW := Aside0.mk (show workF l0 l1 l2 p q r 3 d1 d2 d3 = (l0, l1, l2, p, q, r, false) from workF_none HOK.out (by rw [HD.out]; rfl))
              go_upto_region 33 with (first | (go_at_call 94; (with_reducible refine (KN.out _).mono ?_); rintro e w5 ⟨rfl, hb5⟩; clear y0 y1; have y2 := ck (blk_below BD.out (below_step HZ.out hb5)) 2 rfl))
              refine world_ (fun W' => Below W.heap.size W W') (below_step HZ.out hb5) ?_
              clear hb5 y2 HZ KN KI HD
              rintro Wx hu
              obtain ⟨z0, z1, z2, z3, z4, z5⟩ := ck6 (HFl.out.up hu).g
              have BRk := blk_below BR.out hu
              go_wp2_with (first | ((with_reducible refine gate_store (t := 30) (p := 4) rfl ?_); refine stm_ 30 4 (.tmp 197) (w.heap.size + 1 + 1) 0 #[.slice A0 l0.length c0, .slice A1 l1.length c1, .slice A2 l2.length c2, .int .i64 p, .int .i64 q, .int .i64 r] #[.slice none 0 0, .slice none 0 0, .slice none 0 0, .int .i64 0, .int .i64 0, .int .i64 0] #[.slice A0 l0.length c0, .slice A1 l1.length c1, .slice A2 l2.length c2, .int .i64 p, .int .i64 q, .int .i64 r] 30 ?e1 ?e2 ?e3 ?e4 ?e5 ?e6 ?e7 ?e8 ?e9 ?e10 ?_; (case e1 => rfl); (case e2 => rfl); (case e3 => rfl); (case e4 => rfl); (case e5 => rfl); (case e6 => exact BRk); (case e7 => kernel_rfl); (case e8 => exact Nat.le_of_ble_eq_true rfl); (case e9 => kernel_rfl); (case e10 => kernel_rfl); intro w6 hn6 hg6))
              refine bodyPost_ret (results_ct rfl _ _ (w.heap.size + 1 + 1) 30 #[.slice A0 l0.length c0, .slice A1 l1.length c1, .slice A2 l2.length c2, .int .i64 p, .int .i64 q, .int .i64 r] (0, 0) _ rfl hn6 Try.underlying30 rfl (by kernel_rfl)) rfl ?_
              exact ⟨_, _, _, _, _, _, _, _, _, _, _, _, by rw [HW.out]; rfl, b_put (below_step HBB.out (below_step HB.out hu)) hg6 (by have := HBB.out.size; omega), Only.of_below (b_put (below_step HB.out hu) hg6 (by omega)) _ _, fun h => by rw [HW.out] at h; simp at h⟩
            | true =>
              cases ib with
              | false =>
                have HW := Aside0.mk (show workF l0 l1 l2 p q r 3 d1 d2 d3 = (l0, l1, l2, p, q, r, false) from workF_none HOK.out (by rw [HD.out]; rfl))
                go_upto_region 33 with (first | (go_at_call 94; (with_reducible refine (KN.out _).mono ?_); rintro e w5 ⟨rfl, hb5⟩; clear y0 y1; have y2 := ck (blk_below BD.out (below_step HZ.out hb5)) 2 rfl) | (go_at_call 95; (with_reducible refine (KI.out _).mono ?_); rintro e w6 ⟨rfl, hb6⟩; clear y2; have z2 := ck (HFl.out.up (below_step HZ.out (below_step hb5 hb6))).g 2 rfl))
                refine world_ (fun W' => Below W.heap.size W W') (below_step HZ.out (below_step hb5 hb6)) ?_
                clear hb5 hb6 z2 HZ KN KI HD
                rintro Wx hu
                obtain ⟨z0, z1, z2, z3, z4, z5⟩ := ck6 (HFl.out.up hu).g
                have BRk := blk_below BR.out hu
                go_wp2_with (first | ((with_reducible refine gate_store (t := 30) (p := 4) rfl ?_); refine stm_ 30 4 (.tmp 197) (w.heap.size + 1 + 1) 0 #[.slice A0 l0.length c0, .slice A1 l1.length c1, .slice A2 l2.length c2, .int .i64 p, .int .i64 q, .int .i64 r] #[.slice none 0 0, .slice none 0 0, .slice none 0 0, .int .i64 0, .int .i64 0, .int .i64 0] #[.slice A0 l0.length c0, .slice A1 l1.length c1, .slice A2 l2.length c2, .int .i64 p, .int .i64 q, .int .i64 r] 30 ?e1 ?e2 ?e3 ?e4 ?e5 ?e6 ?e7 ?e8 ?e9 ?e10 ?_; (case e1 => rfl); (case e2 => rfl); (case e3 => rfl); (case e4 => rfl); (case e5 => rfl); (case e6 => exact BRk); (case e7 => kernel_rfl); (case e8 => exact Nat.le_of_ble_eq_true rfl); (case e9 => kernel_rfl); (case e10 => kernel_rfl); intro w6 hn6 hg6))
                refine bodyPost_ret (results_ct rfl _ _ (w.heap.size + 1 + 1) 30 #[.slice A0 l0.length c0, .slice A1 l1.length c1, .slice A2 l2.length c2, .int .i64 p, .int .i64 q, .int .i64 r] (0, 0) _ rfl hn6 Try.underlying30 rfl (by kernel_rfl)) rfl ?_
                exact ⟨_, _, _, _, _, _, _, _, _, _, _, _, by rw [HW.out]; rfl, b_put (below_step HBB.out (below_step HB.out hu)) hg6 (by have := HBB.out.size; omega), Only.of_below (b_put (below_step HB.out hu) hg6 (by omega)) _ _, fun h => by rw [HW.out] at h; simp at h⟩
              | true =>
                by_cases hlt : l2.length < 20
                · have HW := Aside0.mk (show workF l0 l1 l2 p q r 3 d1 d2 d3 = (l0, l1, l2.take i ++ ⟨d1, d2, r⟩ :: l2.drop i, p, q, r, true) from by rw [workF_some HOK.out (HD.out.trans (by rw [decide_eq_true hlt]; rfl)), if_pos HP.out.now])
                  clear HD
                  go_upto_region 30 with (first | (go_at_call 94; (with_reducible refine (KN.out _).mono ?_); rintro e w5 ⟨rfl, hb5⟩; clear y0 y1; have y2 := ck (blk_below BD.out (below_step HZ.out hb5)) 2 rfl) | (go_at_call 95; (with_reducible refine (KI.out _).mono ?_); rintro e w6 ⟨rfl, hb6⟩; clear y2; have z2 := ck (HFl.out.up (below_step HZ.out (below_step hb5 hb6))).g 2 rfl))
                  refine world_ (fun W' => Below W.heap.size W W') (below_step HZ.out (below_step hb5 hb6)) ?_
                  clear hb5 hb6 z2 HZ KN KI
                  rintro W4 hz4
                  have HZ4 := Aside0.mk hz4
                  have HB4 := Aside0.mk (below_step HBB.out (below_step HB.out hz4))
                  clear hz4
                  obtain ⟨i0_, hi0_, _, hsz_, _⟩ := info_parts info57
                  have hC := (R_cap (HFl.out.up HZ4.out).r2).2.2
                  have hcut2 := cut_from (P := Try.prog) 26 57 .i64 Try.underlying26 hi0_ 3 hsz_ A2 l2.length c2 (i : Int) (by omega) (by omega)
                  have hcut1 := cut_to (P := Try.prog) 26 57 .i64 Try.underlying26 hi0_ A2 l2.length c2 (i : Int) (by omega) (by omega) hcc2
                  simp only [Int.toNat_natCast] at hcut1 hcut2
                  have hr1 := Kd.C_take (m := i) hC (by omega)
                  have hr2 := Kd.C_drop (m := i) (c := c2) hC (by omega) hcc2
                  rw [List.length_take, Nat.min_eq_left (by omega)] at hr1
                  rw [List.length_drop, show (k57).sz = 3 from rfl] at hr2
                  obtain ⟨A3, hA3⟩ : ∃ A, A = (if c2 = i then A2 else (A2 : Option Addr).map (·.add (i * 3))) := ⟨_, rfl⟩
                  obtain ⟨n3, hn3⟩ : ∃ n, n = l2.length - i := ⟨_, rfl⟩
                  obtain ⟨c3, hc3⟩ : ∃ n, n = c2 - i := ⟨_, rfl⟩
                  rw [← hA3, ← hn3] at hr2
                  rw [← hA3, ← hn3, ← hc3] at hcut2
                  have HC1_ := Aside0.mk hr1
                  have HC2_ := Aside0.mk hr2
                  have HCUT1 := Aside0.mk hcut1
                  have hn3' : n3 ≤ 20 := by omega
                  clear hC hr1 hr2 hA3 hn3 hc3 hi0_ hsz_ hcut1
                  have L := Aside0.mk (fun w' (h : Up W4 w') => (⟨ck (HFl.out.up (below_step HZ4.out h)).g 2 rfl, ck (HFl.out.up (below_step HZ4.out h)).g 5 rfl, ck (blk_below BD.out (below_step HZ4.out h)) 1 rfl, ck (blk_below BD.out (below_step HZ4.out h)) 2 rfl⟩ : w'.cell? ⟨w.heap.size, 2, none⟩ = some (.slice A2 l2.length c2) ∧ w'.cell? ⟨w.heap.size, 5, none⟩ = some (.int .i64 r) ∧ w'.cell? ⟨w.heap.size + 1, 1, none⟩ = some (.string d1) ∧ w'.cell? ⟨w.heap.size + 1, 2, none⟩ = some (.int .i64 d2)))
                  refine start_ (n := 15) (S := Up W4) (ds := []) (Sq.M 0 15) (by kernel_rfl) rfl rfl (below_drew (Below.refl _ _)) (fun hS => ?_)
                  generalize W4.drew = W6 at hS ⊢
                  refine ra_ 0 173 (Sq.M 1 15) ?_
                  refine rt_ L.out hS 1 174 (Sq.M 2 15) ?_
                  refine ra_ 2 175 (Sq.M 3 15) ?_
                  refine rt_ L.out hS 3 176 (Sq.M 4 15) ?_
                  refine ra_ 4 177 (Sq.M 5 15) ?_
                  refine ra_ 5 178 (Sq.M 6 15) ?_
                  refine rt_ L.out hS 6 179 (Sq.M 7 15) ?_
                  refine ra_ 7 180 (Sq.M 8 15) ?_
                  refine ra_ 9 182 (mn_ 15 767) ?_
                  refine rt_ L.out hS 10 183 (mn_ 15 1791) ?_
                  refine ra_ 11 184 (mn_ 15 3839) ?_
                  refine ra_ 12 185 (mn_ 15 7935) ?_
                  clear hcut2
                  refine one_ (i := 8) (N := some 181) (Sq.M 13 15) rfl rfl (by kernel_rfl) (by decide) (fun K hK => ?_)
                  refine Kd.R_lit_step k57 (w0 := w0) w0.heap.size 57 ?hg (N := 181) ?hd (xs := [(⟨d1, d2, r⟩ : S57)]) (inner := [.string d1, .int .i64 d2, .int .i64 r]) (ok := fun k => W4.heap.size ≤ k) (okp := fun _ => False) ?hr ?hp (fun _ hk => hk.elim) hS.size (below_step HB4.out hS) (Nat.le_trans HB4.out.size hS.size) (by simp) ?_; (case hd => rfl); (case hg => rfl); (case hr => first | (go_simp; done) | (go_simp; rfl)); (case hp => exact (Reps.c3 (show Kd.M k57 _ _ _ (⟨d1, d2, r⟩ : S57) [.string d1, .int .i64 d2, .int .i64 r] from (k57_mkM _ _ _ (⟨d1, d2, r⟩ : S57))) (Reps.none _ _)))
                  intro v1 w1 hR1 hb1 hg1 hfr1
                  have hS1 : Up W4 w1 := hS.grown hg1 hS.size (fun k hk => by cases hk)
                  refine hK.out _ _ hS1 (fun hS1' => ?_)
                  clear hK K hS1' hfr1 hS hg1
                  refine norm_ (a' := ?_) ?_ ?_
                  rotate_left
                  · (show Act.put _ (some 181) _ = _; simp only [sp_]; rfl)
                  refine one_ (i := 13) (N := some 186) (Sq.M 14 15) rfl rfl (by kernel_rfl) (by decide) (fun K hK => ?_)
                  refine Kd.R_append_rows_step k57 (w0 := w0) w0.heap.size (by rfl) (.tmp 181) (.tmp 185) 26 57 (.agg #[(.string ⟨#[]⟩), (.int .i64 0), (.int .i64 0)]) 32 rfl Try.underlying26 info57 rfl (by decide) (by omega) v1 [(⟨d1, d2, r⟩ : S57)] (l2.drop i) _ _ _ (fun k => W4.heap.size ≤ k) (fun _ => False) rfl rfl hR1 (Kd.C_below HC2_.out hS1) (fun _ _ h => h) (fun _ h => h.elim) (fun k hk => Nat.le_trans hS1.size hk) hb1 (Nat.le_trans HB4.out.size hS1.size) (by simp; omega) ?_
                  intro v2 w2 hR2 w2hb w2hg w2at
                  have hS2 : Up W4 w2 := hS1.grown w2hg hS1.size (fun k hk => hR1.1 k hk)
                  refine hK.out _ _ hS2 (fun hSx => ?_)
                  clear hK K hSx w2at w2hg
                  obtain ⟨A_v2, c_v2, e_v2⟩ := Kd.R_slice hR2
                  obtain ⟨n_v2, hn_v2⟩ : ∃ n, n = ([(⟨d1, d2, r⟩ : S57)] ++ (l2.drop i)).length := ⟨_, rfl⟩
                  rw [← hn_v2] at e_v2
                  have HN_v2 := Aside0.mk hn_v2
                  clear hn_v2
                  subst e_v2
                  refine norm_ (a' := ?_) ?_ ?_
                  rotate_left
                  · (show Act.put _ (some 186) _ = _; simp only [sp_]; rfl)
                  refine ra_ 14 11 (Sq.M 15 15) ?_
                  refine done_ (by kernel_rfl) ?_
                  go_upto_region 31 with (fail)
                  have HF6 := Aside0.mk (And.intro hS2 (And.intro hR2 w2hb))
                  clear hS2 hR2 w2hb hS1 hR1 hb1 L HC2_
                  refine world_ (fun W' => Up W4 W' ∧ Kd.R k57 57 W' w0.heap.size (fun k => W4.heap.size ≤ k) (.slice A_v2 n_v2 c_v2) ([(⟨d1, d2, r⟩ : S57)] ++ l2.drop i) ∧ Below w0.heap.size w0 W') HF6.out ?_
                  clear HF6
                  rintro W7 ⟨hS7, hR7, hB7⟩
                  have HR7 := Aside0.mk hR7
                  have HB7 := Aside0.mk hB7
                  have HS7 := Aside0.mk hS7
                  have hnv : n_v2 ≤ 21 := by rw [HN_v2.out]; simp; omega
                  have hcut1 := HCUT1.out
                  clear hR7 hB7 hS7
                  have z2 := ck (HFl.out.up (below_step HZ4.out HS7.out)).g 2 rfl
                  go_upto_region 32 with (first | ((with_reducible refine gate_dst (N := 187) rfl ?_); refine Kd.R_lit k57 (w0 := w0) w0.heap.size 57 ?hg (N := 187) ?hd (xs := ([] : List S57)) (inner := []) (ok := fun k => W7.heap.size ≤ k) (okp := fun _ => False) ?hr ?hp (fun _ hk => hk.elim) (Nat.le_refl _) HB7.out HB7.out.size (by simp) ?_; (case hd => rfl); (case hg => rfl); (case hr => first | (go_simp; done) | (go_simp; rfl)); (case hp => exact (Reps.none _ _)); intro v8 w8 hR8 hb8 hg8 hfr8; clear hfr8; have HR8 := Aside0.mk hR8; have HB8 := Aside0.mk hb8; have HU8 := Aside0.mk (show Up W7 w8 from (Below.refl W7.heap.size W7).grown hg8 (Nat.le_refl _) (fun k hk => by cases hk)); clear hR8 hb8 hg8 z2; have z2 := ck (HFl.out.up (below_step HZ4.out (below_step HS7.out HU8.out))).g 2 rfl) | ((with_reducible refine gate_dst (N := 192) rfl ?_); refine Kd.R_append_rows k57 (w0 := w0) w0.heap.size (by rfl) (.tmp 187) (.tmp 191) 26 57 (.agg #[(.string ⟨#[]⟩), (.int .i64 0), (.int .i64 0)]) 32 rfl Try.underlying26 info57 rfl (by decide) (by omega) v8 ([] : List S57) (l2.take i) _ _ _ (fun k => W7.heap.size ≤ k) (fun _ => False) rfl rfl ?h1 ?h2 (fun _ _ h => h) (fun _ h => h.elim) (fun k hk => Nat.le_trans HU8.out.size hk) ?h3 ?h4 ?h5 ?_; (case h1 => exact HR8.out); (case h2 => exact Kd.C_below HC1_.out (below_step HS7.out HU8.out)); (case h3 => exact HB8.out); (case h4 => exact HB8.out.size); (case h5 => simp; omega); intro v9 w9 hR9 hb9 hg9 hat9; clear hat9; have HU9 := Aside0.mk (show Up W7 w9 from HU8.out.grown hg9 HU8.out.size (fun k hk => HR8.out.1 k hk)); have HR9 := Aside0.mk hR9; have HB9 := Aside0.mk hb9; clear hR9 hb9 hg9 z2 HR8 HB8 HU8; have z2 := ck (HFl.out.up (below_step HZ4.out (below_step HS7.out HU9.out))).g 2 rfl) | ((with_reducible refine gate_dst (N := 194) rfl ?_); refine Kd.R_append_rows k57 (w0 := w0) w0.heap.size (by rfl) (.tmp 192) (.tmp 193) 26 57 (.agg #[(.string ⟨#[]⟩), (.int .i64 0), (.int .i64 0)]) 32 rfl Try.underlying26 info57 rfl (by decide) (by omega) v9 ([] ++ l2.take i) ([(⟨d1, d2, r⟩ : S57)] ++ l2.drop i) A_v2 n_v2 c_v2 (fun k => W7.heap.size ≤ k) (fun _ => False) rfl rfl ?h1 ?h2 (fun _ _ h => h) (fun _ h => h.elim) (fun k hk => Nat.le_trans HU9.out.size hk) ?h3 ?h4 ?h5 ?_; (case h1 => exact HR9.out); (case h2 => rw [HN_v2.out]; exact (R_cap (Kd.R_below HR7.out HU9.out)).2.2); (case h3 => exact HB9.out); (case h4 => exact HB9.out.size); (case h5 => simp; omega); intro v3 w3 hR3 hb3 hg3 hat3; clear hat3; have HU3 := Aside0.mk (show Up W7 w3 from HU9.out.grown hg3 HU9.out.size (fun k hk => HR9.out.1 k hk)); obtain ⟨A_v3, c_v3, e_v3⟩ := Kd.R_slice hR3; obtain ⟨n_v3, hn_v3⟩ : ∃ n, n = (([] ++ l2.take i) ++ ([(⟨d1, d2, r⟩ : S57)] ++ l2.drop i)).length := ⟨_, rfl⟩; rw [← hn_v3] at e_v3; subst e_v3; clear hn_v3; have HR3 := Aside0.mk hR3; clear hR3 hb3 hg3 z2 HR9 HB9 HU9; have z2 := ck (HFl.out.up (below_step HZ4.out (below_step HS7.out HU3.out))).g 2 rfl; have k2 := blk_frozen (HFl.out.up (below_step HZ4.out (below_step HS7.out HU3.out))).g 2))
                  have hS3 := below_step HS7.out HU3.out
                  have hR3 := HR3.out
                  have hgw := (HFl.out.up (below_step HZ4.out hS3)).g
                  clear z2 k2 HR3 HU3 HR7 HB7 HS7
                  have HF5 := Aside0.mk (show (w3.setCell ⟨w.heap.size, 2, none⟩ (.slice A_v3 n_v3 c_v3)).heap[w.heap.size]? = some (.cells #[.slice A0 l0.length c0, .slice A1 l1.length c1, .slice A_v3 n_v3 c_v3, .int .i64 p, .int .i64 q, .int .i64 r] 30 (0, 0)) ∧ (w3.setCell ⟨w.heap.size, 2, none⟩ (.slice A_v3 n_v3 c_v3)).heap[w.heap.size + 1 + 1]? = some (.cells #[.slice none 0 0, .slice none 0 0, .slice none 0 0, .int .i64 0, .int .i64 0, .int .i64 0] 30 (0, 0)) ∧ (Below w0.heap.size w0 (w3.setCell ⟨w.heap.size, 2, none⟩ (.slice A_v3 n_v3 c_v3)) ∧ Below w.heap.size w (w3.setCell ⟨w.heap.size, 2, none⟩ (.slice A_v3 n_v3 c_v3))) ∧ Kd.R k44 44 (w3.setCell ⟨w.heap.size, 2, none⟩ (.slice A_v3 n_v3 c_v3)) w0.heap.size (fun _ => True) (.slice A0 l0.length c0) l0 ∧ Kd.R k84 84 (w3.setCell ⟨w.heap.size, 2, none⟩ (.slice A_v3 n_v3 c_v3)) w0.heap.size (fun _ => True) (.slice A1 l1.length c1) l1 ∧ Kd.R k57 57 (w3.setCell ⟨w.heap.size, 2, none⟩ (.slice A_v3 n_v3 c_v3)) w0.heap.size (fun _ => True) (.slice A_v3 n_v3 c_v3) (l2.take i ++ ⟨d1, d2, r⟩ :: l2.drop i) from
                    ⟨blk_put (cs' := #[.slice A0 l0.length c0, .slice A1 l1.length c1, .slice A_v3 n_v3 c_v3, .int .i64 p, .int .i64 q, .int .i64 r]) hgw 2 _ rfl, blk_far (p := ⟨w.heap.size, 2, none⟩) (blk_below BR.out (below_step HZ4.out hS3)) (by show w.heap.size + 1 + 1 ≠ w.heap.size; omega) _, ⟨below_set (below_step HB4.out hS3) HBB.out.size, below_set (below_step HB.out (below_step HZ4.out hS3)) (Nat.le_refl _)⟩, Kd.R_mono (Kd.R_set (HFl.out.up (below_step HZ4.out hS3)).r0 hgw (by decide) 2 _) (fun _ _ => trivial), Kd.R_mono (Kd.R_set (HFl.out.up (below_step HZ4.out hS3)).r1 hgw (by decide) 2 _) (fun _ _ => trivial), Kd.R_mono (Kd.R_set hR3 hgw (by decide) 2 _) (fun _ _ => trivial)⟩)
                  clear hgw hR3 hS3 HFl BD BR HB
                  generalize w3.setCell ⟨w.heap.size, 2, none⟩ (.slice A_v3 n_v3 c_v3) = W5 at HF5 ⊢
                  obtain ⟨hg5, br5, hb5, hr0, hr1, hr2⟩ := HF5.out
                  clear HF5
                  have BR5 := Aside0.mk br5
                  have HB5 := Aside0.mk hb5.1
                  have HBw := Aside0.mk hb5.2
                  have HR5 := Aside0.mk (And.intro hr0 (And.intro hr1 hr2))
                  clear br5 hb5 hr0 hr1 hr2
                  obtain ⟨z0, z1, z2, z3, z4, z5⟩ := ck6 hg5
                  have BRk := BR5.out
                  clear hg5
                  go_wp2_with (first | ((with_reducible refine gate_store (t := 30) (p := 4) rfl ?_); refine stm_ 30 4 (.tmp 196) (w.heap.size + 1 + 1) 0 #[.slice A0 l0.length c0, .slice A1 l1.length c1, .slice A_v3 n_v3 c_v3, .int .i64 p, .int .i64 q, .int .i64 r] #[.slice none 0 0, .slice none 0 0, .slice none 0 0, .int .i64 0, .int .i64 0, .int .i64 0] #[.slice A0 l0.length c0, .slice A1 l1.length c1, .slice A_v3 n_v3 c_v3, .int .i64 p, .int .i64 q, .int .i64 r] 30 ?e1 ?e2 ?e3 ?e4 ?e5 ?e6 ?e7 ?e8 ?e9 ?e10 ?_; (case e1 => rfl); (case e2 => rfl); (case e3 => rfl); (case e4 => rfl); (case e5 => rfl); (case e6 => exact BRk); (case e7 => kernel_rfl); (case e8 => exact Nat.le_of_ble_eq_true rfl); (case e9 => kernel_rfl); (case e10 => kernel_rfl); intro w6 hn6 hg6))
                  refine bodyPost_ret (results_ct rfl _ _ (w.heap.size + 1 + 1) 30 #[.slice A0 l0.length c0, .slice A1 l1.length c1, .slice A_v3 n_v3 c_v3, .int .i64 p, .int .i64 q, .int .i64 r] (0, 0) _ rfl hn6 Try.underlying30 rfl (by kernel_rfl)) rfl ?_
                  exact ⟨_, _, _, _, _, _, _, _, _, _, _, _, by rw [HW.out]; rfl, b_put HB5.out hg6 (by have := HBB.out.size; omega), Only.of_below (b_put HBw.out hg6 (by omega)) _ _, fun _ => by rw [HW.out]; exact ⟨rfl, rfl, rfl, r_put HR5.out.1 BR5.out (by decide) hg6, r_put HR5.out.2.1 BR5.out (by decide) hg6, r_put HR5.out.2.2 BR5.out (by decide) hg6⟩⟩
                · have HW := Aside0.mk (show workF l0 l1 l2 p q r 3 d1 d2 d3 = (l0, l1, l2, p, q, r, false) from workF_none HOK.out (by rw [HD.out, decide_eq_false hlt]; rfl))
                  go_upto_region 33 with (first | (go_at_call 94; (with_reducible refine (KN.out _).mono ?_); rintro e w5 ⟨rfl, hb5⟩; clear y0 y1; have y2 := ck (blk_below BD.out (below_step HZ.out hb5)) 2 rfl) | (go_at_call 95; (with_reducible refine (KI.out _).mono ?_); rintro e w6 ⟨rfl, hb6⟩; clear y2; have z2 := ck (HFl.out.up (below_step HZ.out (below_step hb5 hb6))).g 2 rfl))
                  refine world_ (fun W' => Below W.heap.size W W') (below_step HZ.out (below_step hb5 hb6)) ?_
                  clear hb5 hb6 z2 HZ KN KI HD
                  rintro Wx hu
                  obtain ⟨z0, z1, z2, z3, z4, z5⟩ := ck6 (HFl.out.up hu).g
                  have BRk := blk_below BR.out hu
                  go_wp2_with (first | ((with_reducible refine gate_store (t := 30) (p := 4) rfl ?_); refine stm_ 30 4 (.tmp 197) (w.heap.size + 1 + 1) 0 #[.slice A0 l0.length c0, .slice A1 l1.length c1, .slice A2 l2.length c2, .int .i64 p, .int .i64 q, .int .i64 r] #[.slice none 0 0, .slice none 0 0, .slice none 0 0, .int .i64 0, .int .i64 0, .int .i64 0] #[.slice A0 l0.length c0, .slice A1 l1.length c1, .slice A2 l2.length c2, .int .i64 p, .int .i64 q, .int .i64 r] 30 ?e1 ?e2 ?e3 ?e4 ?e5 ?e6 ?e7 ?e8 ?e9 ?e10 ?_; (case e1 => rfl); (case e2 => rfl); (case e3 => rfl); (case e4 => rfl); (case e5 => rfl); (case e6 => exact BRk); (case e7 => kernel_rfl); (case e8 => exact Nat.le_of_ble_eq_true rfl); (case e9 => kernel_rfl); (case e10 => kernel_rfl); intro w6 hn6 hg6))
                  refine bodyPost_ret (results_ct rfl _ _ (w.heap.size + 1 + 1) 30 #[.slice A0 l0.length c0, .slice A1 l1.length c1, .slice A2 l2.length c2, .int .i64 p, .int .i64 q, .int .i64 r] (0, 0) _ rfl hn6 Try.underlying30 rfl (by kernel_rfl)) rfl ?_
                  exact ⟨_, _, _, _, _, _, _, _, _, _, _, _, by rw [HW.out]; rfl, b_put (below_step HBB.out (below_step HB.out hu)) hg6 (by have := HBB.out.size; omega), Only.of_below (b_put (below_step HB.out hu) hg6 (by omega)) _ _, fun h => by rw [HW.out] at h; simp at h⟩
          · have k3' : (d0 == 3) = false := by simpa using k3
            have k4' : (d0 == 4) = false := by simpa using k4
            have HW := Aside0.mk (show workF l0 l1 l2 p q r d0 d1 d2 d3 = (l0, l1, l2, p, q, r, false) from workF_none HOK.out (by unfold doF; rw [if_neg e1, if_neg e2, if_neg k3, if_neg k4, if_neg e5]))
            clear e1 e2 e5 k3 k4 HB1
            have y0 := ck (blk_below BD.out HZ.out) 0 rfl
            go_upto_region 33 with (fail)
            clear y0
            obtain ⟨z0, z1, z2, z3, z4, z5⟩ := ck6 (HFl.out.up HZ.out).g
            have BRk := blk_below BR.out HZ.out
            go_wp2_with (first | ((with_reducible refine gate_store (t := 30) (p := 4) rfl ?_); refine stm_ 30 4 (.tmp 197) (w.heap.size + 1 + 1) 0 #[.slice A0 l0.length c0, .slice A1 l1.length c1, .slice A2 l2.length c2, .int .i64 p, .int .i64 q, .int .i64 r] #[.slice none 0 0, .slice none 0 0, .slice none 0 0, .int .i64 0, .int .i64 0, .int .i64 0] #[.slice A0 l0.length c0, .slice A1 l1.length c1, .slice A2 l2.length c2, .int .i64 p, .int .i64 q, .int .i64 r] 30 ?e1 ?e2 ?e3 ?e4 ?e5 ?e6 ?e7 ?e8 ?e9 ?e10 ?_; (case e1 => rfl); (case e2 => rfl); (case e3 => rfl); (case e4 => rfl); (case e5 => rfl); (case e6 => exact BRk); (case e7 => kernel_rfl); (case e8 => exact Nat.le_of_ble_eq_true rfl); (case e9 => kernel_rfl); (case e10 => kernel_rfl); intro w6 hn6 hg6))
            refine bodyPost_ret (results_ct rfl _ _ (w.heap.size + 1 + 1) 30 #[.slice A0 l0.length c0, .slice A1 l1.length c1, .slice A2 l2.length c2, .int .i64 p, .int .i64 q, .int .i64 r] (0, 0) _ rfl hn6 Try.underlying30 rfl (by kernel_rfl)) rfl ?_
            exact ⟨_, _, _, _, _, _, _, _, _, _, _, _, by rw [HW.out]; rfl, b_put (below_step HBB.out (below_step HB.out HZ.out)) hg6 (by have := HBB.out.size; omega), Only.of_below (b_put (below_step HB.out HZ.out) hg6 (by omega)) _ _, fun h => by rw [HW.out] at h; simp at h⟩
-- HAND TO

end Go.Proofs.Ytdimdlifjdbgnaa.PFnExactDoWork
