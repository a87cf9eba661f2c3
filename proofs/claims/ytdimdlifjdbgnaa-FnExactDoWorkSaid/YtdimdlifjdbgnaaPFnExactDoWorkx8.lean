import Derived.Test.YtdimdlifjdbgnaaPFnExactDoWorkx7
namespace Go.Proofs.Ytdimdlifjdbgnaa.PFnExactDoWork
open Go.RowKit Go.Proofs.YtdimdlifjdbgnaaW.PrintWords Go.Proofs.YtdimdlifjdbgnaaW.PrintLast Go.Proofs.YtdimdlifjdbgnaaW.PrintMore Go.Proofs.Ytdimdlifjdbgnaa.Sq
attribute [local go_sem] max2_int min2_int max_two min_two max_three min_three max_four min_four
set_option linter.unusedVariables false
set_option linter.unusedSimpArgs false

-- HAND FROM
open Go.Proofs.Ytdimdlifjdbgnaa.Base Go.Proofs.Ytdimdlifjdbgnaa.Sq
/-! ### Stores of parts of a block as one event (by hand) -/
def pcs (cs : Array Value) (o : Nat) : List Value → Array Value
 | [] => cs
 | v :: r => pcs (cs.setIfInBounds o v) (o + 1) r
theorem blk_pcs : ∀ (vs : List Value) (o : Nat) {w : World} {g : Nat} {t : TypeId} {cs : Array Value} (h : w.heap[g]? = some (.cells cs t (0, 0))), (w.setCells g o vs).heap[g]? = some (.cells (pcs cs o vs) t (0, 0))
 | [], _, _, _, _, _, h => h
 | v :: r, o, _, _, _, _, h => blk_pcs r (o + 1) (blk_set h o v)
theorem grown_pcs (vs : List Value) (o : Nat) (w : World) (g : Nat) : w.grownBy (w.setCells g o vs) (some g) := by
 obtain ⟨s1, s2, s3, s4⟩ := setCells_same g vs o w
 exact ⟨s1, s2, s3, by omega, fun k _ hk => setCells_far vs o k (fun he => hk (by rw [he]))⟩
theorem stm_ {P : Program} {ops : Array Oper} {o : Oper} {rest : List Oper} {a : Act} {W : World} {Q : Exit → Act → World → Prop} (ty : TypeId) (p : Tmp) (y : Operand) (g off : Nat) (cells old new : Array Value) (t : TypeId) (hgd : o.guard = none) (ho : o.op = .store ty (.tmp p) y) (hd : o.dst = none)
  (hx : a.eval (.tmp p) = .pointer (some ⟨g, off, none⟩)) (hy : a.eval y = .agg cells) (hg : W.heap[g]? = some (.cells old t (0, 0))) (hi : (P.info? ty).map (·.size) = some cells.size) (hn : off + cells.size ≤ old.size) (h1 : cells.all (·.oneCell') = true) (hnew : pcs old off cells.toList = new)
  (h : ∀ w1, w1.heap[g]? = some (.cells new t (0, 0)) → W.grownBy w1 (some g) → wpList P ops Q rest a w1) : wpList P ops Q (o :: rest) a W := by
 refine wpList_store_mid hgd ty (.tmp p) y ho g off cells hx hy (fun j hj => ⟨?_, blk_frozen hg _⟩) hi h1 ?_
 · rw [blk_cell hg]; simp; omega
 rw [hd]
 show wpList P ops Q rest a _
 exact h _ (by have := blk_pcs cells.toList off hg; rwa [hnew] at this) (grown_pcs _ _ _ _)
theorem r_put {α : Type} {d : Kd α} {e : Nat} {w w1 : World} {base : Nat} {ok : Nat → Prop} {v : Value} {xs : List α} (h : d.R e w base ok v xs) {g t : Nat} {cells : Array Value} (hb : w.heap[g]? = some (.cells cells t (0, 0))) (ht : ∀ q, q ∈ e :: d.E → q ≠ t) (hg : w.grownBy w1 (some g)) : d.R e w1 base ok v xs :=
 Kd.R_mono (Kd.R_grown (Kd.R_types h hb ht) hg (fun k hk e_ => hk.2 (by injection e_))) (fun _ h_ => h_.1)
theorem b_put {w W w1 : World} {g : Nat} (h : Below w.heap.size w W) (hg : W.grownBy w1 (some g)) (hn : w.heap.size ≤ g) : Below w.heap.size w w1 := h.grown hg h.size (fun k hk => by injection hk with hk; rw [← hk]; exact hn)
/-! ### impl.DoWork (by hand) -/
def fleetCopyB (ts : List S44) (cs : List S84) (ds : List S57) : Bool := decide (ts.length < 2199023255552) && (decide (cs.length < 4398046511104) && decide (ds.length < 4398046511104))
theorem clone_is (l0 : List S44) (l1 : List S84) (l2 : List S57) (p q r : Int) (h : fleetCopyB l0 l1 l2 = true) : impl_cloneFleet.f l0 l1 l2 p q r = some (l0, l1, l2, p, q, r) := by
  unfold fleetCopyB at h
  simp only [Bool.and_eq_true, decide_eq_true_eq] at h
  simp [impl_cloneFleet.f, impl_Task.f, impl_Carry.f, impl_Defect_77.f, h.1, h.2.1, h.2.2]
theorem workF_false {ts : List S44} {cs : List S84} {ds : List S57} {p q r d0 : Int} {d1 : ByteArray} {d2 d3 : Int} (h : ¬ (workF ts cs ds p q r d0 d1 d2 d3).2.2.2.2.2.2 = true) : workF ts cs ds p q r d0 d1 d2 d3 = (ts, cs, ds, p, q, r, false) ∧ (fleetB ts cs ds p q r = false ∨ (fleetB ts cs ds p q r = true ∧ doF ts cs ds p q r d0 d1 d2 d3 = none) ∨ (fleetB ts cs ds p q r = true ∧ ∃ ts' ds' p' q' r', doF ts cs ds p q r d0 d1 d2 d3 = some (ts', ds', p', q', r') ∧ clockB p' q' r' = false)) := by
  unfold workF at h ⊢
  split
  · rename_i hf
    rw [if_pos hf] at h
    split
    · rename_i ts' ds' p' q' r' hd
      rw [hd] at h
      by_cases hc : clockB p' q' r' = true
      · exact absurd (by dsimp only; rw [if_pos hc]) h
      · rw [if_neg hc]; exact ⟨rfl, .inr (.inr ⟨hf, _, _, _, _, _, hd, by simpa using hc⟩)⟩
    · rename_i hd; exact ⟨rfl, .inr (.inl ⟨hf, hd⟩)⟩
  · rename_i hf; exact ⟨rfl, .inl (by simpa using hf)⟩
theorem workF_true {ts : List S44} {cs : List S84} {ds : List S57} {p q r d0 : Int} {d1 : ByteArray} {d2 d3 : Int} (h : (workF ts cs ds p q r d0 d1 d2 d3).2.2.2.2.2.2 = true) : fleetB ts cs ds p q r = true ∧ ∃ ts' ds' p' q' r', doF ts cs ds p q r d0 d1 d2 d3 = some (ts', ds', p', q', r') ∧ clockB p' q' r' = true ∧ workF ts cs ds p q r d0 d1 d2 d3 = (ts', cs, ds', p', q', r', true) := by
  unfold workF at h ⊢
  by_cases hf : fleetB ts cs ds p q r = true
  · rw [if_pos hf] at h ⊢
    refine ⟨hf, ?_⟩
    cases hd : doF ts cs ds p q r d0 d1 d2 d3 with
    | none => rw [hd] at h; simp at h
    | some x =>
      obtain ⟨ts', ds', p', q', r'⟩ := x
      rw [hd] at h
      dsimp only at h
      by_cases hc : clockB p' q' r' = true
      · exact ⟨ts', ds', p', q', r', rfl, hc, by dsimp only; rw [if_pos hc]⟩
      · rw [if_neg hc] at h; simp at h
  · rw [if_neg hf] at h; simp at h
set_option maxHeartbeats 16000000 in
set_option maxRecDepth 100000 in
theorem dowork_t (A0 : Option Addr) (c0 : Nat) (l0 : List S44) (A1 : Option Addr) (c1 : Nat) (l1 : List S84) (A2 : Option Addr) (c2 : Nat) (l2 : List S57) (p q r d0 : Int) (d1 : ByteArray) (d2 d3 : Int) (w : World)
    (hr0 : Kd.C k44 w A0 l0.length l0) (hc0 : l0.length ≤ c0) (hr1 : Kd.C k84 w A1 l1.length l1) (hc1 : l1.length ≤ c1) (hr2 : Kd.C k57 w A2 l2.length l2) (hc2 : l2.length ≤ c2) (hz : FleetSz l0 l1 l2) (hy : fleetCopyB l0 l1 l2 = true) (hd : d1.size ≤ 140737488355328) :
    Calls Try.prog 12 #[.agg #[.slice A0 l0.length c0, .slice A1 l1.length c1, .slice A2 l2.length c2, .int .i64 p, .int .i64 q, .int .i64 r], .agg #[.int .i64 d0, .string d1, .int .i64 d2, .int .i64 d3]] w fun e w' =>
      ∃ v0 v1 v2 : Value, e = .returned (.tuple #[.agg #[v0, v1, v2, .int .i64 (workF l0 l1 l2 p q r d0 d1 d2 d3).2.2.2.1, .int .i64 (workF l0 l1 l2 p q r d0 d1 d2 d3).2.2.2.2.1, .int .i64 (workF l0 l1 l2 p q r d0 d1 d2 d3).2.2.2.2.2.1], .bool (workF l0 l1 l2 p q r d0 d1 d2 d3).2.2.2.2.2.2]) ∧
        Kd.R k44 44 w' w.heap.size (fun _ => True) v0 (workF l0 l1 l2 p q r d0 d1 d2 d3).1 ∧ Kd.R k84 84 w' w.heap.size (fun _ => True) v1 (workF l0 l1 l2 p q r d0 d1 d2 d3).2.1 ∧ Kd.R k57 57 w' w.heap.size (fun _ => True) v2 (workF l0 l1 l2 p q r d0 d1 d2 d3).2.2.1 ∧ Below w.heap.size w w' := by
  have hu1 := Try.underlying30
  have hu2 := Try.underlying42
  have hu3 := Try.underlying28
  have HC0 := Aside0.mk hr0
  have HC1 := Aside0.mk hr1
  have HC2 := Aside0.mk hr2
  have HZ := Aside0.mk hz
  have n1 := below_alloc (Below.refl w.heap.size w) (.cells #[.slice A0 l0.length c0, .slice A1 l1.length c1, .slice A2 l2.length c2, .int .i64 p, .int .i64 q, .int .i64 r] 30 (0, 0))
  have n2 := below_alloc n1 (.cells #[.int .i64 d0, .string d1, .int .i64 d2, .int .i64 d3] 42 (0, 0))
  have n3 := below_alloc n2 (.cells #[.slice none 0 0, .slice none 0 0, .slice none 0 0, .int .i64 0, .int .i64 0, .int .i64 0] 30 (0, 0))
  have m1 := blk_alloc (blk_alloc (blk_new w (.cells #[.slice A0 l0.length c0, .slice A1 l1.length c1, .slice A2 l2.length c2, .int .i64 p, .int .i64 q, .int .i64 r] 30 (0, 0))) (.cells #[.int .i64 d0, .string d1, .int .i64 d2, .int .i64 d3] 42 (0, 0))) (.cells #[.slice none 0 0, .slice none 0 0, .slice none 0 0, .int .i64 0, .int .i64 0, .int .i64 0] 30 (0, 0))
  have m2 := blk_alloc (blk_new (w.alloc (.cells #[.slice A0 l0.length c0, .slice A1 l1.length c1, .slice A2 l2.length c2, .int .i64 p, .int .i64 q, .int .i64 r] 30 (0, 0))) (.cells #[.int .i64 d0, .string d1, .int .i64 d2, .int .i64 d3] 42 (0, 0))) (.cells #[.slice none 0 0, .slice none 0 0, .slice none 0 0, .int .i64 0, .int .i64 0, .int .i64 0] 30 (0, 0))
  have m3 := blk_new ((w.alloc (.cells #[.slice A0 l0.length c0, .slice A1 l1.length c1, .slice A2 l2.length c2, .int .i64 p, .int .i64 q, .int .i64 r] 30 (0, 0))).alloc (.cells #[.int .i64 d0, .string d1, .int .i64 d2, .int .i64 d3] 42 (0, 0))) (.cells #[.slice none 0 0, .slice none 0 0, .slice none 0 0, .int .i64 0, .int .i64 0, .int .i64 0] 30 (0, 0))
  rw [World.size_alloc] at m2
  rw [World.size_alloc, World.size_alloc] at m3
  have HF := Aside0.mk (And.intro m1 (And.intro m2 (And.intro m3 n3)))
  have KC := Aside0.mk (fun w' (h : Below w.heap.size w w') => impl_cloneFleet.calls A0 c0 l0 A1 c1 l1 A2 c2 l2 p q r _ _ _ _ _ _ w' (Kd.C_below hr0 h) hc0 (Kd.C_below hr1 h) hc1 (Kd.C_below hr2 h) hc2 (clone_is l0 l1 l2 p q r hy))
  have KO := Aside0.mk (fun w' (h : Below w.heap.size w w') => impl_FleetOk.go A0 c0 l0 A1 c1 l1 A2 c2 l2 p q r w' (Kd.C_below hr0 h) hc0 (Kd.C_below hr1 h) hc1 (Kd.C_below hr2 h) hc2 hz)
  clear hr0 hr1 hr2 hy n1 n2 n3 m1 m2 m3 hz
  go_enter Try.func12, Try.ntmps12
  go_upto_region 1 with (fail)
  refine world_ (fun W => W.heap[w.heap.size]? = some (.cells #[.slice A0 l0.length c0, .slice A1 l1.length c1, .slice A2 l2.length c2, .int .i64 p, .int .i64 q, .int .i64 r] 30 (0, 0)) ∧ W.heap[w.heap.size + 1]? = some (.cells #[.int .i64 d0, .string d1, .int .i64 d2, .int .i64 d3] 42 (0, 0)) ∧ W.heap[w.heap.size + 1 + 1]? = some (.cells #[.slice none 0 0, .slice none 0 0, .slice none 0 0, .int .i64 0, .int .i64 0, .int .i64 0] 30 (0, 0)) ∧ Below w.heap.size w W) HF.out ?_
  clear HF
  rintro W ⟨BF, BD, BR, HB⟩
  replace BF := Aside0.mk BF
  replace BD := Aside0.mk BD
  replace BR := Aside0.mk BR
  replace HB := Aside0.mk HB
  obtain ⟨f0, f1, f2, f3, f4, f5⟩ := ck6 BF.out
  go_upto_region 2 with (first | (go_at_call 36; (with_reducible refine (KC.out _ HB.out).mono ?_); rintro e w5 ⟨v0, v1, v2, rfl, hR0, hR1, hR2, hb5⟩; obtain ⟨B0, b0, rfl⟩ := Kd.R_slice hR0; obtain ⟨B1, b1, rfl⟩ := Kd.R_slice hR1; obtain ⟨B2, b2, rfl⟩ := Kd.R_slice hR2; clear f0 f1 f2 f3 f4 f5))
  have hn := blk_new w5 (.cells #[.slice B0 l0.length b0, .slice B1 l1.length b1, .slice B2 l2.length b2, .int .i64 p, .int .i64 q, .int .i64 r] 30 (0, 0))
  have hm := below_alloc (Below.refl w5.heap.size w5) (.cells #[.slice B0 l0.length b0, .slice B1 l1.length b1, .slice B2 l2.length b2, .int .i64 p, .int .i64 q, .int .i64 r] 30 (0, 0))
  have hs0 := blk_lt (blk_below BF.out hb5)
  have hs1 := blk_lt (blk_below BD.out hb5)
  have hs2 := blk_lt (blk_below BR.out hb5)
  have HF := Aside0.mk (And.intro (blk_below (blk_below BF.out hb5) hm) (And.intro (blk_below (blk_below BD.out hb5) hm) (And.intro (blk_below (blk_below BR.out hb5) hm) (And.intro hn (And.intro (Kd.R_lower (Kd.R_below hR0 hm) HB.out.size) (And.intro (Kd.R_lower (Kd.R_below hR1 hm) HB.out.size) (And.intro (Kd.R_lower (Kd.R_below hR2 hm) HB.out.size) (And.intro (below_step (below_step HB.out hb5) hm) (And.intro hs0 (And.intro hs1 hs2))))))))))
  clear hn hm hs0 hs1 hs2 hR0 hR1 hR2 HB hb5 BF BD BR
  generalize w5.heap.size = g at HF ⊢
  refine world_ (fun W => W.heap[w.heap.size]? = some (.cells #[.slice A0 l0.length c0, .slice A1 l1.length c1, .slice A2 l2.length c2, .int .i64 p, .int .i64 q, .int .i64 r] 30 (0, 0)) ∧ W.heap[w.heap.size + 1]? = some (.cells #[.int .i64 d0, .string d1, .int .i64 d2, .int .i64 d3] 42 (0, 0)) ∧ W.heap[w.heap.size + 1 + 1]? = some (.cells #[.slice none 0 0, .slice none 0 0, .slice none 0 0, .int .i64 0, .int .i64 0, .int .i64 0] 30 (0, 0)) ∧ W.heap[g]? = some (.cells #[.slice B0 l0.length b0, .slice B1 l1.length b1, .slice B2 l2.length b2, .int .i64 p, .int .i64 q, .int .i64 r] 30 (0, 0)) ∧ Kd.R k44 44 W w.heap.size (fun _ => True) (.slice B0 l0.length b0) l0 ∧ Kd.R k84 84 W w.heap.size (fun _ => True) (.slice B1 l1.length b1) l1 ∧ Kd.R k57 57 W w.heap.size (fun _ => True) (.slice B2 l2.length b2) l2 ∧ Below w.heap.size w W ∧ w.heap.size < g ∧ w.heap.size + 1 < g ∧ w.heap.size + 1 + 1 < g) HF.out ?_
  clear HF
  rintro W6 ⟨BF, BD, BR, BG, HR0, HR1, HR2, HB, g0, g1, g2⟩
  replace BF := Aside0.mk BF
  replace BD := Aside0.mk BD
  replace BR := Aside0.mk BR
  replace BG := Aside0.mk BG
  replace HR0 := Aside0.mk HR0
  replace HR1 := Aside0.mk HR1
  replace HR2 := Aside0.mk HR2
  replace HB := Aside0.mk HB
  obtain ⟨f0, f1, f2, f3, f4, f5⟩ := ck6 BF.out
  have KD := Aside0.mk (fun (hok : fleetB l0 l1 l2 p q r = true) w' (h : Below W6.heap.size W6 w') => do_t w g (.slice B0 l0.length b0) (.slice B1 l1.length b1) (.slice B2 l2.length b2) l0 l1 l2 p q r d0 d1 d2 d3 w' (blk_below BG.out h) (Nat.le_of_lt g0) (below_step HB.out h) (Kd.R_below HR0.out h) (Kd.R_below HR1.out h) (Kd.R_below HR2.out h) hd HZ.out hok)
  by_cases hw : (workF l0 l1 l2 p q r d0 d1 d2 d3).2.2.2.2.2.2 = true
  · obtain ⟨hok, ts, ds, p', q', r', hD, hcl, hW⟩ := workF_true hw
    have KD := Aside0.mk (KD.out hok)
    have KK := Aside0.mk (fun w' => kb_ (clock_t p' q' r' w') hcl)
    rw [hok] at KO
    rw [hD] at KD
    have HW := Aside0.mk hW
    clear hW hcl hD hok hw
    go_upto_region 4 with (first | (go_at_call 8; (with_reducible refine (KO.out _ HB.out).mono ?_); rintro e w7 ⟨rfl, hb7⟩; clear f0 f1 f2 f3 f4 f5; obtain ⟨x0, x1, x2, x3⟩ := ck4 (blk_below BD.out hb7)) | (go_at_call 37; (with_reducible refine (KD.out _ hb7).mono ?_); rintro e w8 ⟨rfl, hO, hB8, hI⟩; obtain ⟨v0, v2, hG8, hR0, hR1, hR2⟩ := hI _ _ _ _ _ rfl; obtain ⟨f3', f4', f5'⟩ := (ck6 hG8).2.2.2) | (go_at_call 9; (with_reducible refine (KK.out _).mono ?_); rintro e w9 ⟨rfl, hb9⟩))
    have HF := Aside0.mk (And.intro (blk_below (blk_only (blk_below BR.out hb7) hO (Nat.ne_of_lt g2) (by decide)) hb9) (And.intro (blk_below hG8 hb9) (And.intro (Kd.R_below hR0 hb9) (And.intro (Kd.R_below hR1 hb9) (And.intro (Kd.R_below hR2 hb9) (below_step hB8 hb9))))))
    obtain ⟨Y0, y0, rfl⟩ := Kd.R_slice hR0
    obtain ⟨Y2, y2, rfl⟩ := Kd.R_slice hR2
    clear hI hO hG8 hR0 hR1 hR2 hB8 hb9 hb7 f3' f4' f5' x0 x1 x2 x3 KO KD KK BF BD BR BG HR0 HR1 HR2 HB
    obtain ⟨BR5, hG, hR0, hR1, hR2, hB⟩ := HF.out
    clear HF
    have HG := Aside0.mk hG
    have BR6 := Aside0.mk BR5
    have HB := Aside0.mk hB
    have HR := Aside0.mk (And.intro hR0 (And.intro hR1 hR2))
    obtain ⟨f0, f1, f2, f3, f4, f5⟩ := ck6 hG
    clear hG hB hR0 hR1 hR2
    go_wp2_with (first | ((with_reducible refine gate_store (t := 30) (p := 4) rfl ?_); refine stm_ 30 4 (.tmp 25) (w.heap.size + 1 + 1) 0 #[.slice Y0 ts.length y0, .slice B1 l1.length b1, .slice Y2 ds.length y2, .int .i64 p', .int .i64 q', .int .i64 r'] #[.slice none 0 0, .slice none 0 0, .slice none 0 0, .int .i64 0, .int .i64 0, .int .i64 0] #[.slice Y0 ts.length y0, .slice B1 l1.length b1, .slice Y2 ds.length y2, .int .i64 p', .int .i64 q', .int .i64 r'] 30 ?e1 ?e2 ?e3 ?e4 ?e5 ?e6 ?e7 ?e8 ?e9 ?e10 ?_; (case e1 => rfl); (case e2 => rfl); (case e3 => rfl); (case e4 => rfl); (case e5 => rfl); (case e6 => exact BR5); (case e7 => kernel_rfl); (case e8 => exact Nat.le_of_ble_eq_true rfl); (case e9 => kernel_rfl); (case e10 => kernel_rfl); intro w6 hn6 hg6))
    refine bodyPost_ret (results_ct rfl _ _ (w.heap.size + 1 + 1) 30 #[.slice Y0 ts.length y0, .slice B1 l1.length b1, .slice Y2 ds.length y2, .int .i64 p', .int .i64 q', .int .i64 r'] (0, 0) _ rfl hn6 Try.underlying30 rfl (by kernel_rfl)) rfl ?_
    rw [HW.out]
    exact ⟨_, _, _, rfl, r_put HR.out.1 BR6.out (by decide) hg6, r_put HR.out.2.1 BR6.out (by decide) hg6, r_put HR.out.2.2 BR6.out (by decide) hg6, b_put HB.out hg6 (by omega)⟩
  · obtain ⟨hW, hE⟩ := workF_false hw
    have HW := Aside0.mk hW
    clear hW hw
    refine Or.elim hE (fun h => ?c1) (fun h => Or.elim h (fun h => ?c2) (fun h => ?c3))
    case' c1 =>
      rw [h] at KO
      clear hE h KD
      go_upto_region 3 with (first | (go_at_call 8; (with_reducible refine (KO.out _ HB.out).mono ?_); rintro e w7 ⟨rfl, hb7⟩; clear f0 f1 f2 f3 f4 f5; obtain ⟨x0, x1, x2, x3⟩ := ck4 (blk_below BD.out hb7)))
      refine world_ (fun W => W.heap[w.heap.size]? = some (.cells #[.slice A0 l0.length c0, .slice A1 l1.length c1, .slice A2 l2.length c2, .int .i64 p, .int .i64 q, .int .i64 r] 30 (0, 0)) ∧ W.heap[w.heap.size + 1 + 1]? = some (.cells #[.slice none 0 0, .slice none 0 0, .slice none 0 0, .int .i64 0, .int .i64 0, .int .i64 0] 30 (0, 0)) ∧ Below w.heap.size w W) ⟨blk_below BF.out hb7, blk_below BR.out hb7, below_step HB.out hb7⟩ ?_
      clear hb7
    case' c2 =>
      have KD := Aside0.mk (KD.out h.1)
      rw [h.1] at KO
      rw [h.2] at KD
      clear hE h
      go_upto_region 3 with (first | (go_at_call 8; (with_reducible refine (KO.out _ HB.out).mono ?_); rintro e w7 ⟨rfl, hb7⟩; clear f0 f1 f2 f3 f4 f5; obtain ⟨x0, x1, x2, x3⟩ := ck4 (blk_below BD.out hb7)) | (go_at_call 37; (with_reducible refine (KD.out _ hb7).mono ?_); rintro e w8 ⟨rfl, hO, hB8, hI⟩))
      refine world_ (fun W => W.heap[w.heap.size]? = some (.cells #[.slice A0 l0.length c0, .slice A1 l1.length c1, .slice A2 l2.length c2, .int .i64 p, .int .i64 q, .int .i64 r] 30 (0, 0)) ∧ W.heap[w.heap.size + 1 + 1]? = some (.cells #[.slice none 0 0, .slice none 0 0, .slice none 0 0, .int .i64 0, .int .i64 0, .int .i64 0] 30 (0, 0)) ∧ Below w.heap.size w W) ⟨blk_only (blk_below BF.out hb7) hO (Nat.ne_of_lt g0) (by decide), blk_only (blk_below BR.out hb7) hO (Nat.ne_of_lt g2) (by decide), hB8⟩ ?_
      clear hb7 hO hB8 hI
    case' c3 =>
      obtain ⟨hok, ts, ds, p', q', r', hD, hcl⟩ := h
      have KD := Aside0.mk (KD.out hok)
      have KK := Aside0.mk (fun w' => kb_ (clock_t p' q' r' w') hcl)
      rw [hok] at KO
      rw [hD] at KD
      clear hE hok hD hcl
      go_upto_region 3 with (first | (go_at_call 8; (with_reducible refine (KO.out _ HB.out).mono ?_); rintro e w7 ⟨rfl, hb7⟩; clear f0 f1 f2 f3 f4 f5; obtain ⟨x0, x1, x2, x3⟩ := ck4 (blk_below BD.out hb7)) | (go_at_call 37; (with_reducible refine (KD.out _ hb7).mono ?_); rintro e w8 ⟨rfl, hO, hB8, hI⟩; obtain ⟨v0, v2, hG8, hR0, hR1, hR2⟩ := hI _ _ _ _ _ rfl; obtain ⟨f3', f4', f5'⟩ := (ck6 hG8).2.2.2) | (go_at_call 9; (with_reducible refine (KK.out _).mono ?_); rintro e w9 ⟨rfl, hb9⟩))
      refine world_ (fun W => W.heap[w.heap.size]? = some (.cells #[.slice A0 l0.length c0, .slice A1 l1.length c1, .slice A2 l2.length c2, .int .i64 p, .int .i64 q, .int .i64 r] 30 (0, 0)) ∧ W.heap[w.heap.size + 1 + 1]? = some (.cells #[.slice none 0 0, .slice none 0 0, .slice none 0 0, .int .i64 0, .int .i64 0, .int .i64 0] 30 (0, 0)) ∧ Below w.heap.size w W) ⟨blk_below (blk_only (blk_below BF.out hb7) hO (Nat.ne_of_lt g0) (by decide)) hb9, blk_below (blk_only (blk_below BR.out hb7) hO (Nat.ne_of_lt g2) (by decide)) hb9, below_step hB8 hb9⟩ ?_
      clear hb7 hO hB8 hI hG8 hR0 hR1 hR2 hb9
    all_goals
      clear KO BF BD BR BG HR0 HR1 HR2 HB
      rintro W ⟨BF, BR, HB⟩
      replace BF := Aside0.mk BF
      replace BR := Aside0.mk BR
      replace HB := Aside0.mk HB
      obtain ⟨z0, z1, z2, z3, z4, z5⟩ := ck6 BF.out
      go_wp2_with (first | (go_at_call 36; (with_reducible refine (KC.out _ HB.out).mono ?_); rintro e w5 ⟨v0, v1, v2, rfl, hR0, hR1, hR2, hb5⟩; obtain ⟨Y0, y0, rfl⟩ := Kd.R_slice hR0; obtain ⟨Y1, y1, rfl⟩ := Kd.R_slice hR1; obtain ⟨Y2, y2, rfl⟩ := Kd.R_slice hR2; have BR5 := blk_below BR.out hb5) | ((with_reducible refine gate_store (t := 30) (p := 4) rfl ?_); refine stm_ 30 4 (.tmp 24) (w.heap.size + 1 + 1) 0 #[.slice Y0 l0.length y0, .slice Y1 l1.length y1, .slice Y2 l2.length y2, .int .i64 p, .int .i64 q, .int .i64 r] #[.slice none 0 0, .slice none 0 0, .slice none 0 0, .int .i64 0, .int .i64 0, .int .i64 0] #[.slice Y0 l0.length y0, .slice Y1 l1.length y1, .slice Y2 l2.length y2, .int .i64 p, .int .i64 q, .int .i64 r] 30 ?e1 ?e2 ?e3 ?e4 ?e5 ?e6 ?e7 ?e8 ?e9 ?e10 ?_; (case e1 => rfl); (case e2 => rfl); (case e3 => rfl); (case e4 => rfl); (case e5 => rfl); (case e6 => exact BR5); (case e7 => kernel_rfl); (case e8 => exact Nat.le_of_ble_eq_true rfl); (case e9 => kernel_rfl); (case e10 => kernel_rfl); intro w6 hn6 hg6))
      refine bodyPost_ret (results_ct rfl _ _ (w.heap.size + 1 + 1) 30 #[.slice Y0 l0.length y0, .slice Y1 l1.length y1, .slice Y2 l2.length y2, .int .i64 p, .int .i64 q, .int .i64 r] (0, 0) _ rfl hn6 Try.underlying30 rfl (by kernel_rfl)) rfl ?_
      rw [HW.out]
      exact ⟨_, _, _, rfl, Kd.R_lower (r_put hR0 BR5 (by decide) hg6) HB.out.size, Kd.R_lower (r_put hR1 BR5 (by decide) hg6) HB.out.size, Kd.R_lower (r_put hR2 BR5 (by decide) hg6) HB.out.size, b_put (below_step HB.out hb5) hg6 (by omega)⟩
-- HAND TO

/-! ### laws_szTask: function 87 -/
def laws_szTask.f (a0_0 : ByteArray) (a0_1 : Int) (a0_2 : Int) (a0_3 : Int) (a0_4 : Int) (a0_5 : Int) (a0_6 : Int) (a1 : Int) : Option (Int) := if (wrap64 (a1 - (a0_0.size : Int))) < 0 then (some (-1)) else (some (wrap64 (a1 - (a0_0.size : Int))))
set_option maxHeartbeats 8000000 in
set_option maxRecDepth 100000 in
theorem laws_szTask.calls (a0_0 : ByteArray) (a0_1 : Int) (a0_2 : Int) (a0_3 : Int) (a0_4 : Int) (a0_5 : Int) (a0_6 : Int) (a1 : Int) (r : Int) (w : World) (h : laws_szTask.f a0_0 a0_1 a0_2 a0_3 a0_4 a0_5 a0_6 a1 = some r) :
  Calls Try.prog 87 #[.agg #[.string a0_0, .int .i64 a0_1, .int .i64 a0_2, .int .i64 a0_3, .int .i64 a0_4, .int .i64 a0_5, .int .i64 a0_6], .int .i64 a1] w fun e w' => e = .returned (.int .i64 r) ∧ Below w.heap.size w w' := by
 have hu134 := Try.underlying134
 have HB := Aside0.mk (Below.refl w.heap.size w)
 have H : (if (wrap64 (a1 - (a0_0.size : Int))) < 0 then (some (-1)) else (some (wrap64 (a1 - (a0_0.size : Int))))) = some r := h
 clear h
 have HC3 := Aside0.mk H
 clear H
 go_enter Try.func87, Try.ntmps87
 go_upto_if 11 with (first | ((with_reducible refine gate_dst (N := 2) rfl ?_); refine box_event ?hg (N := 2) ?hd (cs := #[.string a0_0, .int .i64 a0_1, .int .i64 a0_2, .int .i64 a0_3, .int .i64 a0_4, .int .i64 a0_5, .int .i64 a0_6]) (t := 134) ?hr ?_; (case hd => rfl); (case hg => rfl); (case hr => first | (go_simp; done) | (go_simp; rfl)); intro gb193 hg w4 hbox hb; have BK193 := Aside0.mk (hbox); have GW193 := Aside0.mk ((by rw [hg]; exact (below_size (bl HB.out)) : w.heap.size ≤ gb193)); have GE193 := GW193; replace HB := Aside0.mk (below_step (bl HB.out) hb); clear hb hbox hg; obtain ⟨hcz5_0, hcz5_1, hcz5_2, hcz5_3, hcz5_4, hcz5_5, hcz5_6⟩ := ck7 BK193.out; obtain ⟨hfz5_0, hfz5_1, hfz5_2, hfz5_3, hfz5_4, hfz5_5, hfz5_6⟩ := fz7 BK193.out))
 have H := HC3.out
 clear HC3
 by_cases c6 : (wrap64 (a1 - (a0_0.size : Int))) < 0
 ·
  rw [if_pos c6] at H
  have c6b0 : decide ((wrap64 (a1 - (a0_0.size : Int))) < 0) = true := decide_eq_true c6
  clear c6
  (first | rw [c6b0] | (simp only [i64_w, i32_w]; rw [c6b0]) | skip)
  obtain rfl := Option.some.inj H
  go_wp2
  go_ret
  exact ⟨by first | rfl | (simp [errW_none, errW_some] <;> rfl) | (simp [*, errW_none, errW_some] <;> rfl), by repeat with_reducible first | exact bl HB.out | refine below_set ?_ GE193.out | refine bq ?_⟩
 ·
  rw [if_neg c6] at H
  have c6b0 : decide ((wrap64 (a1 - (a0_0.size : Int))) < 0) = false := decide_eq_false c6
  clear c6
  (first | rw [c6b0] | (simp only [i64_w, i32_w]; rw [c6b0]) | skip)
  obtain rfl := Option.some.inj H
  go_wp2
  go_ret
  exact ⟨by first | rfl | (simp [errW_none, errW_some] <;> rfl) | (simp [*, errW_none, errW_some] <;> rfl), by repeat with_reducible first | exact bl HB.out | refine below_set ?_ GE193.out | refine bq ?_⟩

/-! ### laws_szTaskS: function 43 -/
def laws_szTaskS.l0 : Nat → List (S134) → Int → Int → Option (Int)
 | 0, _, _, _ => none
 | k + 1, x0, x1, x5 => if x5 < (x0.length : Int) then (if 0 ≤ x5 then ((laws_szTask.f ((rd_T134 x0 x5).f0) ((rd_T134 x0 x5).f1) ((rd_T134 x0 x5).f2) ((rd_T134 x0 x5).f3) ((rd_T134 x0 x5).f4.f0) ((rd_T134 x0 x5).f4.f1) ((rd_T134 x0 x5).f4.f2) x1).bind fun t195 => (if t195 < 0 then (some (-1)) else (laws_szTaskS.l0 k x0 t195 (wrap64 (x5 + 1))))) else (none)) else (some x1)
def laws_szTaskS.f (k : Nat) (l0 : List (S134)) (a1 : Int) : Option (Int) := if (wrap64 (a1 - (l0.length : Int))) < 0 then (some (-1)) else (laws_szTaskS.l0 k l0 (wrap64 (a1 - (l0.length : Int))) 0)
set_option maxHeartbeats 8000000 in
set_option maxRecDepth 100000 in
theorem laws_szTaskS.calls (k : Nat) (A0 : Option Addr) (c0 : Nat) (l0 : List (S134)) (a1 : Int) (r : Int) (w : World) (hr0 : Kd.C k134 w A0 l0.length l0) (hc0 : l0.length ≤ c0) (h : laws_szTaskS.f k l0 a1 = some r) :
  Calls Try.prog 43 #[.slice A0 l0.length c0, .int .i64 a1] w fun e w' => e = .returned (.int .i64 r) ∧ Below w.heap.size w w' := by
 have hu134 := Try.underlying134
 have HR0 := Aside0.mk hr0
 have HC0 := Aside0.mk hc0
 clear hr0 hc0
 have HB := Aside0.mk (Below.refl w.heap.size w)
 have H : (if (wrap64 (a1 - (l0.length : Int))) < 0 then (some (-1)) else (laws_szTaskS.l0 k l0 (wrap64 (a1 - (l0.length : Int))) 0)) = some r := h
 clear h
 by_cases c3 : (wrap64 (a1 - (l0.length : Int))) < 0
 ·
  rw [if_pos c3] at H
  have c3b0 : decide ((wrap64 (a1 - (l0.length : Int))) < 0) = true := decide_eq_true c3
  clear c3
  obtain rfl := Option.some.inj H
  go_enter Try.func43, Try.ntmps43
  go_wp2
  go_ret
  exact ⟨by first | rfl | (simp [errW_none, errW_some] <;> rfl) | (simp [*, errW_none, errW_some] <;> rfl), bl HB.out⟩
 ·
  rw [if_neg c3] at H
  have c3b0 : decide ((wrap64 (a1 - (l0.length : Int))) < 0) = false := decide_eq_false c3
  clear c3
  have H' := Aside0.mk H
  clear H
  go_enter Try.func43, Try.ntmps43
  go_wp2
  go_loopg [1, 5] k (fun kq v1 v5 w' => ∃ (x1_1 : Int) (x5_1 : Int), v1 = .int .i64 x1_1 ∧ v5 = .int .i64 x5_1 ∧ Aside0 (laws_szTaskS.l0 kq l0 x1_1 x5_1 = some r) ∧ Aside0 (kq ≤ k) ∧ Aside0 (Below w.heap.size w w'))
  case atStart => exact ⟨(wrap64 (a1 - (l0.length : Int))), (0), (by first | rfl | (simp; done) | (simp [*]; done)), (by first | rfl | (simp; done) | (simp [*]; done)), H', ⟨Nat.le_refl _⟩, ⟨bl HB.out⟩⟩
  case round =>
   clear H'
   try clear p2
   try clear c3
   try clear c3b0
   obtain ⟨x1_1, x5_1, rfl, rfl, HA, HK1, HB⟩ := hrel
   cases gk with
   | zero => exact absurd HA.out (by simp [laws_szTaskS.l0])
   | succ k1 =>
    have H := HA.out
    clear HA
    simp only [laws_szTaskS.l0] at H
    by_cases c4 : x5_1 < (l0.length : Int)
    ·
     rw [if_pos c4] at H
     have c4b0 : decide (x5_1 < (l0.length : Int)) = true := decide_eq_true c4
     clear c4
     by_cases c5 : 0 ≤ x5_1
     ·
      rw [if_pos c5] at H
      have c5b0 : decide (0 ≤ x5_1) = true := decide_eq_true c5
      clear c5
      replace H := Option.bind_eq_some_iff.mp H
      obtain ⟨t195, A60, H⟩ := H
      replace H : (if t195 < 0 then (some (-1)) else (laws_szTaskS.l0 k1 l0 t195 (wrap64 (x5_1 + 1)))) = some r := H
      have A6 := Aside0.mk A60
      clear A60
      have HC7 := Aside0.mk H
      clear H
      have p194 : 0 ≤ (x5_1 : Int) := of_decide_eq_true (by first | (with_reducible assumption) | assumption)
      have q194 : x5_1 < (l0.length : Int) := of_decide_eq_true (by first | (with_reducible assumption) | assumption)
      obtain ⟨ad194, e194, hx194_0, hx194_1, hx194_2, hx194_3, hx194_4, hx194_5, hx194_6⟩ := at_T134 HR0.out x5_1 p194 q194
      cases e194
      replace hx194_0 := bc HB.out hx194_0
      replace hx194_1 := bc HB.out hx194_1
      replace hx194_2 := bc HB.out hx194_2
      replace hx194_3 := bc HB.out hx194_3
      replace hx194_4 := bc HB.out hx194_4
      replace hx194_5 := bc HB.out hx194_5
      replace hx194_6 := bc HB.out hx194_6
      replace p194 := eq_true p194
      replace q194 := eq_true q194
      go_upto_if 25 with (first | ((with_reducible refine gate_callee (f := 87) rfl ?_); refine goesL_ (some 23) rfl rfl Try.func87 (by kernel_rfl) rfl #[.agg #[.string ((rd_T134 l0 x5_1).f0), .int .i64 ((rd_T134 l0 x5_1).f1), .int .i64 ((rd_T134 l0 x5_1).f2), .int .i64 ((rd_T134 l0 x5_1).f3), .int .i64 ((rd_T134 l0 x5_1).f4.f0), .int .i64 ((rd_T134 l0 x5_1).f4.f1), .int .i64 ((rd_T134 l0 x5_1).f4.f2)], .int .i64 x1_1] rfl (by (try simp only [am_]); first | done | rfl) ?_; (with_reducible refine (laws_szTask.calls ((rd_T134 l0 x5_1).f0) ((rd_T134 l0 x5_1).f1) ((rd_T134 l0 x5_1).f2) ((rd_T134 l0 x5_1).f3) ((rd_T134 l0 x5_1).f4.f0) ((rd_T134 l0 x5_1).f4.f1) ((rd_T134 l0 x5_1).f4.f2) x1_1 t195 _ A6.out).mono ?_); rintro e w8 ⟨rfl, hb⟩; refine ⟨_, rfl, ?_⟩; replace HB := Aside0.mk (below_step (bl HB.out) hb); (try clear hb); (try clear hb2); (try clear hk); (try clear hi)))
      have H := HC7.out
      clear HC7
      by_cases c9 : t195 < 0
      ·
       rw [if_pos c9] at H
       have c9b0 : decide (t195 < 0) = true := decide_eq_true c9
       clear c9
       (first | rw [c9b0] | (simp only [i64_w, i32_w]; rw [c9b0]) | skip)
       obtain rfl := Option.some.inj H
       go_wp2
       go_ret
       exact ⟨by first | rfl | (simp [errW_none, errW_some] <;> rfl) | (simp [*, errW_none, errW_some] <;> rfl), bl HB.out⟩
      ·
       rw [if_neg c9] at H
       have c9b0 : decide (t195 < 0) = false := decide_eq_false c9
       clear c9
       (first | rw [c9b0] | (simp only [i64_w, i32_w]; rw [c9b0]) | skip)
       have H' := Aside0.mk H
       clear H
       go_wp2
       go_roundg k1
       case measure => have := HK1.out; omega
       case rel => exact ⟨(t195), (wrap64 (x5_1 + 1)), (by first | rfl | (simp; done) | (simp [*]; done)), (by first | rfl | (simp; done) | (simp [*]; done)), H', ⟨by have := HK1.out; omega⟩, ⟨bl HB.out⟩⟩
     ·
      rw [if_neg c5] at H
      exact absurd H (by simp)
    ·
     rw [if_neg c4] at H
     have c4b0 : decide (x5_1 < (l0.length : Int)) = false := decide_eq_false c4
     clear c4
     obtain rfl := Option.some.inj H
     go_wp2
     go_ret
     exact ⟨by first | rfl | (simp [errW_none, errW_some] <;> rfl) | (simp [*, errW_none, errW_some] <;> rfl), bl HB.out⟩

/-! ### laws_szCarry: function 88 -/
def laws_szCarry.f (a0_0 : ByteArray) (a0_1 : Int) (a0_2 : Int) (a1 : Int) : Option (Int) := if (wrap64 (a1 - (a0_0.size : Int))) < 0 then (some (-1)) else (some (wrap64 (a1 - (a0_0.size : Int))))
set_option maxHeartbeats 8000000 in
set_option maxRecDepth 100000 in
theorem laws_szCarry.calls (a0_0 : ByteArray) (a0_1 : Int) (a0_2 : Int) (a1 : Int) (r : Int) (w : World) (h : laws_szCarry.f a0_0 a0_1 a0_2 a1 = some r) :
  Calls Try.prog 88 #[.agg #[.string a0_0, .int .i64 a0_1, .int .i64 a0_2], .int .i64 a1] w fun e w' => e = .returned (.int .i64 r) ∧ Below w.heap.size w w' := by
 have hu136 := Try.underlying136
 have HB := Aside0.mk (Below.refl w.heap.size w)
 have H : (if (wrap64 (a1 - (a0_0.size : Int))) < 0 then (some (-1)) else (some (wrap64 (a1 - (a0_0.size : Int))))) = some r := h
 clear h
 have HC3 := Aside0.mk H
 clear H
 go_enter Try.func88, Try.ntmps88
 go_upto_if 11 with (first | ((with_reducible refine gate_dst (N := 2) rfl ?_); refine box_event ?hg (N := 2) ?hd (cs := #[.string a0_0, .int .i64 a0_1, .int .i64 a0_2]) (t := 136) ?hr ?_; (case hd => rfl); (case hg => rfl); (case hr => first | (go_simp; done) | (go_simp; rfl)); intro gb196 hg w4 hbox hb; have BK196 := Aside0.mk (hbox); have GW196 := Aside0.mk ((by rw [hg]; exact (below_size (bl HB.out)) : w.heap.size ≤ gb196)); have GE196 := GW196; replace HB := Aside0.mk (below_step (bl HB.out) hb); clear hb hbox hg; obtain ⟨hcz5_0, hcz5_1, hcz5_2⟩ := ck3 BK196.out; obtain ⟨hfz5_0, hfz5_1, hfz5_2⟩ := fz3 BK196.out))
 have H := HC3.out
 clear HC3
 by_cases c6 : (wrap64 (a1 - (a0_0.size : Int))) < 0
 ·
  rw [if_pos c6] at H
  have c6b0 : decide ((wrap64 (a1 - (a0_0.size : Int))) < 0) = true := decide_eq_true c6
  clear c6
  (first | rw [c6b0] | (simp only [i64_w, i32_w]; rw [c6b0]) | skip)
  obtain rfl := Option.some.inj H
  go_wp2
  go_ret
  exact ⟨by first | rfl | (simp [errW_none, errW_some] <;> rfl) | (simp [*, errW_none, errW_some] <;> rfl), by repeat with_reducible first | exact bl HB.out | refine below_set ?_ GE196.out | refine bq ?_⟩
 ·
  rw [if_neg c6] at H
  have c6b0 : decide ((wrap64 (a1 - (a0_0.size : Int))) < 0) = false := decide_eq_false c6
  clear c6
  (first | rw [c6b0] | (simp only [i64_w, i32_w]; rw [c6b0]) | skip)
  obtain rfl := Option.some.inj H
  go_wp2
  go_ret
  exact ⟨by first | rfl | (simp [errW_none, errW_some] <;> rfl) | (simp [*, errW_none, errW_some] <;> rfl), by repeat with_reducible first | exact bl HB.out | refine below_set ?_ GE196.out | refine bq ?_⟩

/-! ### laws_szCarryS: function 44 -/
def laws_szCarryS.l0 : Nat → List (S136) → Int → Int → Option (Int)
 | 0, _, _, _ => none
 | k + 1, x0, x1, x5 => if x5 < (x0.length : Int) then (if 0 ≤ x5 then ((laws_szCarry.f ((rd_T136 x0 x5).f0) ((rd_T136 x0 x5).f1) ((rd_T136 x0 x5).f2) x1).bind fun t198 => (if t198 < 0 then (some (-1)) else (laws_szCarryS.l0 k x0 t198 (wrap64 (x5 + 1))))) else (none)) else (some x1)
def laws_szCarryS.f (k : Nat) (l0 : List (S136)) (a1 : Int) : Option (Int) := if (wrap64 (a1 - (l0.length : Int))) < 0 then (some (-1)) else (laws_szCarryS.l0 k l0 (wrap64 (a1 - (l0.length : Int))) 0)
set_option maxHeartbeats 8000000 in
set_option maxRecDepth 100000 in
theorem laws_szCarryS.calls (k : Nat) (A0 : Option Addr) (c0 : Nat) (l0 : List (S136)) (a1 : Int) (r : Int) (w : World) (hr0 : Kd.C k136 w A0 l0.length l0) (hc0 : l0.length ≤ c0) (h : laws_szCarryS.f k l0 a1 = some r) :
  Calls Try.prog 44 #[.slice A0 l0.length c0, .int .i64 a1] w fun e w' => e = .returned (.int .i64 r) ∧ Below w.heap.size w w' := by
 have hu136 := Try.underlying136
 have HR0 := Aside0.mk hr0
 have HC0 := Aside0.mk hc0
 clear hr0 hc0
 have HB := Aside0.mk (Below.refl w.heap.size w)
 have H : (if (wrap64 (a1 - (l0.length : Int))) < 0 then (some (-1)) else (laws_szCarryS.l0 k l0 (wrap64 (a1 - (l0.length : Int))) 0)) = some r := h
 clear h
 by_cases c3 : (wrap64 (a1 - (l0.length : Int))) < 0
 ·
  rw [if_pos c3] at H
  have c3b0 : decide ((wrap64 (a1 - (l0.length : Int))) < 0) = true := decide_eq_true c3
  clear c3
  obtain rfl := Option.some.inj H
  go_enter Try.func44, Try.ntmps44
  go_wp2
  go_ret
  exact ⟨by first | rfl | (simp [errW_none, errW_some] <;> rfl) | (simp [*, errW_none, errW_some] <;> rfl), bl HB.out⟩
 ·
  rw [if_neg c3] at H
  have c3b0 : decide ((wrap64 (a1 - (l0.length : Int))) < 0) = false := decide_eq_false c3
  clear c3
  have H' := Aside0.mk H
  clear H
  go_enter Try.func44, Try.ntmps44
  go_wp2
  go_loopg [1, 5] k (fun kq v1 v5 w' => ∃ (x1_1 : Int) (x5_1 : Int), v1 = .int .i64 x1_1 ∧ v5 = .int .i64 x5_1 ∧ Aside0 (laws_szCarryS.l0 kq l0 x1_1 x5_1 = some r) ∧ Aside0 (kq ≤ k) ∧ Aside0 (Below w.heap.size w w'))
  case atStart => exact ⟨(wrap64 (a1 - (l0.length : Int))), (0), (by first | rfl | (simp; done) | (simp [*]; done)), (by first | rfl | (simp; done) | (simp [*]; done)), H', ⟨Nat.le_refl _⟩, ⟨bl HB.out⟩⟩
  case round =>
   clear H'
   try clear p2
   try clear c3
   try clear c3b0
   obtain ⟨x1_1, x5_1, rfl, rfl, HA, HK1, HB⟩ := hrel
   cases gk with
   | zero => exact absurd HA.out (by simp [laws_szCarryS.l0])
   | succ k1 =>
    have H := HA.out
    clear HA
    simp only [laws_szCarryS.l0] at H
    by_cases c4 : x5_1 < (l0.length : Int)
    ·
     rw [if_pos c4] at H
     have c4b0 : decide (x5_1 < (l0.length : Int)) = true := decide_eq_true c4
     clear c4
     by_cases c5 : 0 ≤ x5_1
     ·
      rw [if_pos c5] at H
      have c5b0 : decide (0 ≤ x5_1) = true := decide_eq_true c5
      clear c5
      replace H := Option.bind_eq_some_iff.mp H
      obtain ⟨t198, A60, H⟩ := H
      replace H : (if t198 < 0 then (some (-1)) else (laws_szCarryS.l0 k1 l0 t198 (wrap64 (x5_1 + 1)))) = some r := H
      have A6 := Aside0.mk A60
      clear A60
      have HC7 := Aside0.mk H
      clear H
      have p197 : 0 ≤ (x5_1 : Int) := of_decide_eq_true (by first | (with_reducible assumption) | assumption)
      have q197 : x5_1 < (l0.length : Int) := of_decide_eq_true (by first | (with_reducible assumption) | assumption)
      obtain ⟨ad197, e197, hx197_0, hx197_1, hx197_2⟩ := at_T136 HR0.out x5_1 p197 q197
      cases e197
      replace hx197_0 := bc HB.out hx197_0
      replace hx197_1 := bc HB.out hx197_1
      replace hx197_2 := bc HB.out hx197_2
      replace p197 := eq_true p197
      replace q197 := eq_true q197
      go_upto_if 25 with (first | ((with_reducible refine gate_callee (f := 88) rfl ?_); refine goesL_ (some 23) rfl rfl Try.func88 (by kernel_rfl) rfl #[.agg #[.string ((rd_T136 l0 x5_1).f0), .int .i64 ((rd_T136 l0 x5_1).f1), .int .i64 ((rd_T136 l0 x5_1).f2)], .int .i64 x1_1] rfl (by (try simp only [am_]); first | done | rfl) ?_; (with_reducible refine (laws_szCarry.calls ((rd_T136 l0 x5_1).f0) ((rd_T136 l0 x5_1).f1) ((rd_T136 l0 x5_1).f2) x1_1 t198 _ A6.out).mono ?_); rintro e w8 ⟨rfl, hb⟩; refine ⟨_, rfl, ?_⟩; replace HB := Aside0.mk (below_step (bl HB.out) hb); (try clear hb); (try clear hb2); (try clear hk); (try clear hi)))
      have H := HC7.out
      clear HC7
      by_cases c9 : t198 < 0
      ·
       rw [if_pos c9] at H
       have c9b0 : decide (t198 < 0) = true := decide_eq_true c9
       clear c9
       (first | rw [c9b0] | (simp only [i64_w, i32_w]; rw [c9b0]) | skip)
       obtain rfl := Option.some.inj H
       go_wp2
       go_ret
       exact ⟨by first | rfl | (simp [errW_none, errW_some] <;> rfl) | (simp [*, errW_none, errW_some] <;> rfl), bl HB.out⟩
      ·
       rw [if_neg c9] at H
       have c9b0 : decide (t198 < 0) = false := decide_eq_false c9
       clear c9
       (first | rw [c9b0] | (simp only [i64_w, i32_w]; rw [c9b0]) | skip)
       have H' := Aside0.mk H
       clear H
       go_wp2
       go_roundg k1
       case measure => have := HK1.out; omega
       case rel => exact ⟨(t198), (wrap64 (x5_1 + 1)), (by first | rfl | (simp; done) | (simp [*]; done)), (by first | rfl | (simp; done) | (simp [*]; done)), H', ⟨by have := HK1.out; omega⟩, ⟨bl HB.out⟩⟩
     ·
      rw [if_neg c5] at H
      exact absurd H (by simp)
    ·
     rw [if_neg c4] at H
     have c4b0 : decide (x5_1 < (l0.length : Int)) = false := decide_eq_false c4
     clear c4
     obtain rfl := Option.some.inj H
     go_wp2
     go_ret
     exact ⟨by first | rfl | (simp [errW_none, errW_some] <;> rfl) | (simp [*, errW_none, errW_some] <;> rfl), bl HB.out⟩

/-! ### laws_szDefect: function 89 -/
def laws_szDefect.f (a0_0 : ByteArray) (a0_1 : Int) (a0_2 : Int) (a1 : Int) : Option (Int) := if (wrap64 (a1 - (a0_0.size : Int))) < 0 then (some (-1)) else (some (wrap64 (a1 - (a0_0.size : Int))))
set_option maxHeartbeats 8000000 in
set_option maxRecDepth 100000 in
theorem laws_szDefect.calls (a0_0 : ByteArray) (a0_1 : Int) (a0_2 : Int) (a1 : Int) (r : Int) (w : World) (h : laws_szDefect.f a0_0 a0_1 a0_2 a1 = some r) :
  Calls Try.prog 89 #[.agg #[.string a0_0, .int .i64 a0_1, .int .i64 a0_2], .int .i64 a1] w fun e w' => e = .returned (.int .i64 r) ∧ Below w.heap.size w w' := by
 have hu138 := Try.underlying138
 have HB := Aside0.mk (Below.refl w.heap.size w)
 have H : (if (wrap64 (a1 - (a0_0.size : Int))) < 0 then (some (-1)) else (some (wrap64 (a1 - (a0_0.size : Int))))) = some r := h
 clear h
 have HC3 := Aside0.mk H
 clear H
 go_enter Try.func89, Try.ntmps89
 go_upto_if 11 with (first | ((with_reducible refine gate_dst (N := 2) rfl ?_); refine box_event ?hg (N := 2) ?hd (cs := #[.string a0_0, .int .i64 a0_1, .int .i64 a0_2]) (t := 138) ?hr ?_; (case hd => rfl); (case hg => rfl); (case hr => first | (go_simp; done) | (go_simp; rfl)); intro gb199 hg w4 hbox hb; have BK199 := Aside0.mk (hbox); have GW199 := Aside0.mk ((by rw [hg]; exact (below_size (bl HB.out)) : w.heap.size ≤ gb199)); have GE199 := GW199; replace HB := Aside0.mk (below_step (bl HB.out) hb); clear hb hbox hg; obtain ⟨hcz5_0, hcz5_1, hcz5_2⟩ := ck3 BK199.out; obtain ⟨hfz5_0, hfz5_1, hfz5_2⟩ := fz3 BK199.out))
 have H := HC3.out
 clear HC3
 by_cases c6 : (wrap64 (a1 - (a0_0.size : Int))) < 0
 ·
  rw [if_pos c6] at H
  have c6b0 : decide ((wrap64 (a1 - (a0_0.size : Int))) < 0) = true := decide_eq_true c6
  clear c6
  (first | rw [c6b0] | (simp only [i64_w, i32_w]; rw [c6b0]) | skip)
  obtain rfl := Option.some.inj H
  go_wp2
  go_ret
  exact ⟨by first | rfl | (simp [errW_none, errW_some] <;> rfl) | (simp [*, errW_none, errW_some] <;> rfl), by repeat with_reducible first | exact bl HB.out | refine below_set ?_ GE199.out | refine bq ?_⟩
 ·
  rw [if_neg c6] at H
  have c6b0 : decide ((wrap64 (a1 - (a0_0.size : Int))) < 0) = false := decide_eq_false c6
  clear c6
  (first | rw [c6b0] | (simp only [i64_w, i32_w]; rw [c6b0]) | skip)
  obtain rfl := Option.some.inj H
  go_wp2
  go_ret
  exact ⟨by first | rfl | (simp [errW_none, errW_some] <;> rfl) | (simp [*, errW_none, errW_some] <;> rfl), by repeat with_reducible first | exact bl HB.out | refine below_set ?_ GE199.out | refine bq ?_⟩

/-! ### laws_szDefectS: function 45 -/
def laws_szDefectS.l0 : Nat → List (S138) → Int → Int → Option (Int)
 | 0, _, _, _ => none
 | k + 1, x0, x1, x5 => if x5 < (x0.length : Int) then (if 0 ≤ x5 then ((laws_szDefect.f ((rd_T138 x0 x5).f0) ((rd_T138 x0 x5).f1) ((rd_T138 x0 x5).f2) x1).bind fun t201 => (if t201 < 0 then (some (-1)) else (laws_szDefectS.l0 k x0 t201 (wrap64 (x5 + 1))))) else (none)) else (some x1)
def laws_szDefectS.f (k : Nat) (l0 : List (S138)) (a1 : Int) : Option (Int) := if (wrap64 (a1 - (l0.length : Int))) < 0 then (some (-1)) else (laws_szDefectS.l0 k l0 (wrap64 (a1 - (l0.length : Int))) 0)
set_option maxHeartbeats 8000000 in
set_option maxRecDepth 100000 in
theorem laws_szDefectS.calls (k : Nat) (A0 : Option Addr) (c0 : Nat) (l0 : List (S138)) (a1 : Int) (r : Int) (w : World) (hr0 : Kd.C k138 w A0 l0.length l0) (hc0 : l0.length ≤ c0) (h : laws_szDefectS.f k l0 a1 = some r) :
  Calls Try.prog 45 #[.slice A0 l0.length c0, .int .i64 a1] w fun e w' => e = .returned (.int .i64 r) ∧ Below w.heap.size w w' := by
 have hu138 := Try.underlying138
 have HR0 := Aside0.mk hr0
 have HC0 := Aside0.mk hc0
 clear hr0 hc0
 have HB := Aside0.mk (Below.refl w.heap.size w)
 have H : (if (wrap64 (a1 - (l0.length : Int))) < 0 then (some (-1)) else (laws_szDefectS.l0 k l0 (wrap64 (a1 - (l0.length : Int))) 0)) = some r := h
 clear h
 by_cases c3 : (wrap64 (a1 - (l0.length : Int))) < 0
 ·
  rw [if_pos c3] at H
  have c3b0 : decide ((wrap64 (a1 - (l0.length : Int))) < 0) = true := decide_eq_true c3
  clear c3
  obtain rfl := Option.some.inj H
  go_enter Try.func45, Try.ntmps45
  go_wp2
  go_ret
  exact ⟨by first | rfl | (simp [errW_none, errW_some] <;> rfl) | (simp [*, errW_none, errW_some] <;> rfl), bl HB.out⟩
 ·
  rw [if_neg c3] at H
  have c3b0 : decide ((wrap64 (a1 - (l0.length : Int))) < 0) = false := decide_eq_false c3
  clear c3
  have H' := Aside0.mk H
  clear H
  go_enter Try.func45, Try.ntmps45
  go_wp2
  go_loopg [1, 5] k (fun kq v1 v5 w' => ∃ (x1_1 : Int) (x5_1 : Int), v1 = .int .i64 x1_1 ∧ v5 = .int .i64 x5_1 ∧ Aside0 (laws_szDefectS.l0 kq l0 x1_1 x5_1 = some r) ∧ Aside0 (kq ≤ k) ∧ Aside0 (Below w.heap.size w w'))
  case atStart => exact ⟨(wrap64 (a1 - (l0.length : Int))), (0), (by first | rfl | (simp; done) | (simp [*]; done)), (by first | rfl | (simp; done) | (simp [*]; done)), H', ⟨Nat.le_refl _⟩, ⟨bl HB.out⟩⟩
  case round =>
   clear H'
   try clear p2
   try clear c3
   try clear c3b0
   obtain ⟨x1_1, x5_1, rfl, rfl, HA, HK1, HB⟩ := hrel
   cases gk with
   | zero => exact absurd HA.out (by simp [laws_szDefectS.l0])
   | succ k1 =>
    have H := HA.out
    clear HA
    simp only [laws_szDefectS.l0] at H
    by_cases c4 : x5_1 < (l0.length : Int)
    ·
     rw [if_pos c4] at H
     have c4b0 : decide (x5_1 < (l0.length : Int)) = true := decide_eq_true c4
     clear c4
     by_cases c5 : 0 ≤ x5_1
     ·
      rw [if_pos c5] at H
      have c5b0 : decide (0 ≤ x5_1) = true := decide_eq_true c5
      clear c5
      replace H := Option.bind_eq_some_iff.mp H
      obtain ⟨t201, A60, H⟩ := H
      replace H : (if t201 < 0 then (some (-1)) else (laws_szDefectS.l0 k1 l0 t201 (wrap64 (x5_1 + 1)))) = some r := H
      have A6 := Aside0.mk A60
      clear A60
      have HC7 := Aside0.mk H
      clear H
      have p200 : 0 ≤ (x5_1 : Int) := of_decide_eq_true (by first | (with_reducible assumption) | assumption)
      have q200 : x5_1 < (l0.length : Int) := of_decide_eq_true (by first | (with_reducible assumption) | assumption)
      obtain ⟨ad200, e200, hx200_0, hx200_1, hx200_2⟩ := at_T138 HR0.out x5_1 p200 q200
      cases e200
      replace hx200_0 := bc HB.out hx200_0
      replace hx200_1 := bc HB.out hx200_1
      replace hx200_2 := bc HB.out hx200_2
      replace p200 := eq_true p200
      replace q200 := eq_true q200
      go_upto_if 25 with (first | ((with_reducible refine gate_callee (f := 89) rfl ?_); refine goesL_ (some 23) rfl rfl Try.func89 (by kernel_rfl) rfl #[.agg #[.string ((rd_T138 l0 x5_1).f0), .int .i64 ((rd_T138 l0 x5_1).f1), .int .i64 ((rd_T138 l0 x5_1).f2)], .int .i64 x1_1] rfl (by (try simp only [am_]); first | done | rfl) ?_; (with_reducible refine (laws_szDefect.calls ((rd_T138 l0 x5_1).f0) ((rd_T138 l0 x5_1).f1) ((rd_T138 l0 x5_1).f2) x1_1 t201 _ A6.out).mono ?_); rintro e w8 ⟨rfl, hb⟩; refine ⟨_, rfl, ?_⟩; replace HB := Aside0.mk (below_step (bl HB.out) hb); (try clear hb); (try clear hb2); (try clear hk); (try clear hi)))
      have H := HC7.out
      clear HC7
      by_cases c9 : t201 < 0
      ·
       rw [if_pos c9] at H
       have c9b0 : decide (t201 < 0) = true := decide_eq_true c9
       clear c9
       (first | rw [c9b0] | (simp only [i64_w, i32_w]; rw [c9b0]) | skip)
       obtain rfl := Option.some.inj H
       go_wp2
       go_ret
       exact ⟨by first | rfl | (simp [errW_none, errW_some] <;> rfl) | (simp [*, errW_none, errW_some] <;> rfl), bl HB.out⟩
      ·
       rw [if_neg c9] at H
       have c9b0 : decide (t201 < 0) = false := decide_eq_false c9
       clear c9
       (first | rw [c9b0] | (simp only [i64_w, i32_w]; rw [c9b0]) | skip)
       have H' := Aside0.mk H
       clear H
       go_wp2
       go_roundg k1
       case measure => have := HK1.out; omega
       case rel => exact ⟨(t201), (wrap64 (x5_1 + 1)), (by first | rfl | (simp; done) | (simp [*]; done)), (by first | rfl | (simp; done) | (simp [*]; done)), H', ⟨by have := HK1.out; omega⟩, ⟨bl HB.out⟩⟩
     ·
      rw [if_neg c5] at H
      exact absurd H (by simp)
    ·
     rw [if_neg c4] at H
     have c4b0 : decide (x5_1 < (l0.length : Int)) = false := decide_eq_false c4
     clear c4
     obtain rfl := Option.some.inj H
     go_wp2
     go_ret
     exact ⟨by first | rfl | (simp [errW_none, errW_some] <;> rfl) | (simp [*, errW_none, errW_some] <;> rfl), bl HB.out⟩

/-! ### laws_szFleet: function 18 -/
def laws_szFleet.f (k : Nat) (l0_0 : List (S134)) (l0_1 : List (S136)) (l0_2 : List (S138)) (a0_3 : Int) (a0_4 : Int) (a0_5 : Int) (a1 : Int) : Option (Int) := (laws_szTaskS.f k l0_0 a1).bind fun t203 => (if t203 < 0 then (some (-1)) else ((laws_szCarryS.f k l0_1 t203).bind fun t204 => (if t204 < 0 then (some (-1)) else ((laws_szDefectS.f k l0_2 t204).bind fun t205 => (if t205 < 0 then (some (-1)) else (some t205))))))
set_option maxHeartbeats 8000000 in
set_option maxRecDepth 100000 in
theorem laws_szFleet.calls (k : Nat) (A0_0 : Option Addr) (c0_0 : Nat) (l0_0 : List (S134)) (A0_1 : Option Addr) (c0_1 : Nat) (l0_1 : List (S136)) (A0_2 : Option Addr) (c0_2 : Nat) (l0_2 : List (S138)) (a0_3 : Int) (a0_4 : Int) (a0_5 : Int) (a1 : Int) (r : Int) (w : World) (hr0_0 : Kd.C k134 w A0_0 l0_0.length l0_0) (hc0_0 : l0_0.length ≤ c0_0) (hr0_1 : Kd.C k136 w A0_1 l0_1.length l0_1) (hc0_1 : l0_1.length ≤ c0_1) (hr0_2 : Kd.C k138 w A0_2 l0_2.length l0_2) (hc0_2 : l0_2.length ≤ c0_2) (h : laws_szFleet.f k l0_0 l0_1 l0_2 a0_3 a0_4 a0_5 a1 = some r) :
  Calls Try.prog 18 #[.agg #[.slice A0_0 l0_0.length c0_0, .slice A0_1 l0_1.length c0_1, .slice A0_2 l0_2.length c0_2, .int .i64 a0_3, .int .i64 a0_4, .int .i64 a0_5], .int .i64 a1] w fun e w' => e = .returned (.int .i64 r) ∧ Below w.heap.size w w' := by
 have hu63 := Try.underlying63
 have HR0_0 := Aside0.mk hr0_0
 have HC0_0 := Aside0.mk hc0_0
 clear hr0_0 hc0_0
 have HR0_1 := Aside0.mk hr0_1
 have HC0_1 := Aside0.mk hc0_1
 clear hr0_1 hc0_1
 have HR0_2 := Aside0.mk hr0_2
 have HC0_2 := Aside0.mk hc0_2
 clear hr0_2 hc0_2
 have HB := Aside0.mk (Below.refl w.heap.size w)
 have H : ((laws_szTaskS.f k l0_0 a1).bind fun t203 => (if t203 < 0 then (some (-1)) else ((laws_szCarryS.f k l0_1 t203).bind fun t204 => (if t204 < 0 then (some (-1)) else ((laws_szDefectS.f k l0_2 t204).bind fun t205 => (if t205 < 0 then (some (-1)) else (some t205))))))) = some r := h
 clear h
 replace H := Option.bind_eq_some_iff.mp H
 obtain ⟨t203, A30, H⟩ := H
 replace H : (if t203 < 0 then (some (-1)) else ((laws_szCarryS.f k l0_1 t203).bind fun t204 => (if t204 < 0 then (some (-1)) else ((laws_szDefectS.f k l0_2 t204).bind fun t205 => (if t205 < 0 then (some (-1)) else (some t205)))))) = some r := H
 have A3 := Aside0.mk A30
 clear A30
 have HC4 := Aside0.mk H
 clear H
 go_enter Try.func18, Try.ntmps18
 go_upto_if 10 with (first | ((with_reducible refine gate_dst (N := 2) rfl ?_); refine box_event ?hg (N := 2) ?hd (cs := #[.slice A0_0 l0_0.length c0_0, .slice A0_1 l0_1.length c0_1, .slice A0_2 l0_2.length c0_2, .int .i64 a0_3, .int .i64 a0_4, .int .i64 a0_5]) (t := 63) ?hr ?_; (case hd => rfl); (case hg => rfl); (case hr => first | (go_simp; done) | (go_simp; rfl)); intro gb202 hg w5 hbox hb; have BK202 := Aside0.mk (hbox); have GW202 := Aside0.mk ((by rw [hg]; exact (below_size (bl HB.out)) : w.heap.size ≤ gb202)); have GE202 := GW202; replace HB := Aside0.mk (below_step (bl HB.out) hb); clear hb hbox hg; obtain ⟨hcz6_0, hcz6_1, hcz6_2, hcz6_3, hcz6_4, hcz6_5⟩ := ck6 BK202.out; obtain ⟨hfz6_0, hfz6_1, hfz6_2, hfz6_3, hfz6_4, hfz6_5⟩ := fz6 BK202.out) | ((with_reducible refine gate_callee (f := 43) rfl ?_); refine goesL_ (some 8) rfl rfl Try.func43 (by kernel_rfl) rfl #[.slice A0_0 l0_0.length c0_0, .int .i64 a1] rfl (by (try simp only [am_]); first | done | rfl) ?_; (with_reducible refine (laws_szTaskS.calls k _ _ l0_0 a1 t203 _ ?side1 ?side2 A3.out).mono ?_); (case side1 => exact rc (Kd.C_below HR0_0.out HB.out)); (case side2 => exact HC0_0.out); rintro e w7 ⟨rfl, hb⟩; refine ⟨_, rfl, ?_⟩; replace BK202 := Aside0.mk (blk_below (bk BK202.out) hb); replace HB := Aside0.mk (below_step (by repeat with_reducible first | exact bl HB.out | refine below_set ?_ GE202.out | refine bq ?_) hb); (try clear hb); (try clear hb2); (try clear hk); (try clear hi)))
 have H := HC4.out
 clear HC4
 by_cases c8 : t203 < 0
 ·
  rw [if_pos c8] at H
  have c8b0 : decide (t203 < 0) = true := decide_eq_true c8
  clear c8
  (first | rw [c8b0] | (simp only [i64_w, i32_w]; rw [c8b0]) | skip)
  obtain rfl := Option.some.inj H
  go_wp2
  go_ret
  exact ⟨by first | rfl | (simp [errW_none, errW_some] <;> rfl) | (simp [*, errW_none, errW_some] <;> rfl), by repeat with_reducible first | exact bl HB.out | refine below_set ?_ GE202.out | refine bq ?_⟩
 ·
  rw [if_neg c8] at H
  have c8b0 : decide (t203 < 0) = false := decide_eq_false c8
  clear c8
  (first | rw [c8b0] | (simp only [i64_w, i32_w]; rw [c8b0]) | skip)
  replace H := Option.bind_eq_some_iff.mp H
  obtain ⟨t204, A90, H⟩ := H
  replace H : (if t204 < 0 then (some (-1)) else ((laws_szDefectS.f k l0_2 t204).bind fun t205 => (if t205 < 0 then (some (-1)) else (some t205)))) = some r := H
  have A9 := Aside0.mk A90
  clear A90
  have HC10 := Aside0.mk H
  clear H
  obtain ⟨hcz11_0, hcz11_1, hcz11_2, hcz11_3, hcz11_4, hcz11_5⟩ := ck6 BK202.out
  obtain ⟨hfz11_0, hfz11_1, hfz11_2, hfz11_3, hfz11_4, hfz11_5⟩ := fz6 BK202.out
  go_upto_if 16 with (first | ((with_reducible refine gate_callee (f := 44) rfl ?_); refine goesL_ (some 14) rfl rfl Try.func44 (by kernel_rfl) rfl #[.slice A0_1 l0_1.length c0_1, .int .i64 t203] rfl (by (try simp only [am_]); first | done | rfl) ?_; (with_reducible refine (laws_szCarryS.calls k _ _ l0_1 t203 t204 _ ?side1 ?side2 A9.out).mono ?_); (case side1 => exact rc (Kd.C_below HR0_1.out HB.out)); (case side2 => exact HC0_1.out); rintro e w12 ⟨rfl, hb⟩; refine ⟨_, rfl, ?_⟩; replace BK202 := Aside0.mk (blk_below (bk BK202.out) hb); replace HB := Aside0.mk (below_step (by repeat with_reducible first | exact bl HB.out | refine below_set ?_ GE202.out | refine bq ?_) hb); (try clear hb); (try clear hb2); (try clear hk); (try clear hi)))
  have H := HC10.out
  clear HC10
  by_cases c13 : t204 < 0
  ·
   rw [if_pos c13] at H
   have c13b0 : decide (t204 < 0) = true := decide_eq_true c13
   clear c13
   (first | rw [c13b0] | (simp only [i64_w, i32_w]; rw [c13b0]) | skip)
   obtain rfl := Option.some.inj H
   go_wp2
   go_ret
   exact ⟨by first | rfl | (simp [errW_none, errW_some] <;> rfl) | (simp [*, errW_none, errW_some] <;> rfl), by repeat with_reducible first | exact bl HB.out | refine below_set ?_ GE202.out | refine bq ?_⟩
  ·
   rw [if_neg c13] at H
   have c13b0 : decide (t204 < 0) = false := decide_eq_false c13
   clear c13
   (first | rw [c13b0] | (simp only [i64_w, i32_w]; rw [c13b0]) | skip)
   replace H := Option.bind_eq_some_iff.mp H
   obtain ⟨t205, A140, H⟩ := H
   replace H : (if t205 < 0 then (some (-1)) else (some t205)) = some r := H
   have A14 := Aside0.mk A140
   clear A140
   have HC15 := Aside0.mk H
   clear H
   obtain ⟨hcz16_0, hcz16_1, hcz16_2, hcz16_3, hcz16_4, hcz16_5⟩ := ck6 BK202.out
   obtain ⟨hfz16_0, hfz16_1, hfz16_2, hfz16_3, hfz16_4, hfz16_5⟩ := fz6 BK202.out
   go_upto_if 22 with (first | ((with_reducible refine gate_callee (f := 45) rfl ?_); refine goesL_ (some 20) rfl rfl Try.func45 (by kernel_rfl) rfl #[.slice A0_2 l0_2.length c0_2, .int .i64 t204] rfl (by (try simp only [am_]); first | done | rfl) ?_; (with_reducible refine (laws_szDefectS.calls k _ _ l0_2 t204 t205 _ ?side1 ?side2 A14.out).mono ?_); (case side1 => exact rc (Kd.C_below HR0_2.out HB.out)); (case side2 => exact HC0_2.out); rintro e w17 ⟨rfl, hb⟩; refine ⟨_, rfl, ?_⟩; replace BK202 := Aside0.mk (blk_below (bk BK202.out) hb); replace HB := Aside0.mk (below_step (by repeat with_reducible first | exact bl HB.out | refine below_set ?_ GE202.out | refine bq ?_) hb); (try clear hb); (try clear hb2); (try clear hk); (try clear hi)))
   have H := HC15.out
   clear HC15
   by_cases c18 : t205 < 0
   ·
    rw [if_pos c18] at H
    have c18b0 : decide (t205 < 0) = true := decide_eq_true c18
    clear c18
    (first | rw [c18b0] | (simp only [i64_w, i32_w]; rw [c18b0]) | skip)
    obtain rfl := Option.some.inj H
    go_wp2
    go_ret
    exact ⟨by first | rfl | (simp [errW_none, errW_some] <;> rfl) | (simp [*, errW_none, errW_some] <;> rfl), by repeat with_reducible first | exact bl HB.out | refine below_set ?_ GE202.out | refine bq ?_⟩
   ·
    rw [if_neg c18] at H
    have c18b0 : decide (t205 < 0) = false := decide_eq_false c18
    clear c18
    (first | rw [c18b0] | (simp only [i64_w, i32_w]; rw [c18b0]) | skip)
    obtain rfl := Option.some.inj H
    go_wp2
    go_ret
    exact ⟨by first | rfl | (simp [errW_none, errW_some] <;> rfl) | (simp [*, errW_none, errW_some] <;> rfl), by repeat with_reducible first | exact bl HB.out | refine below_set ?_ GE202.out | refine bq ?_⟩

/-! ### laws_szDeed19: function 19 -/
def laws_szDeed19.f (a0_0 : Int) (a0_1 : ByteArray) (a0_2 : Int) (a0_3 : Int) (a1 : Int) : Option (Int) := if (wrap64 (a1 - (a0_1.size : Int))) < 0 then (some (-1)) else (some (wrap64 (a1 - (a0_1.size : Int))))
set_option maxHeartbeats 8000000 in
set_option maxRecDepth 100000 in
theorem laws_szDeed19.calls (a0_0 : Int) (a0_1 : ByteArray) (a0_2 : Int) (a0_3 : Int) (a1 : Int) (r : Int) (w : World) (h : laws_szDeed19.f a0_0 a0_1 a0_2 a0_3 a1 = some r) :
  Calls Try.prog 19 #[.agg #[.int .i64 a0_0, .string a0_1, .int .i64 a0_2, .int .i64 a0_3], .int .i64 a1] w fun e w' => e = .returned (.int .i64 r) ∧ Below w.heap.size w w' := by
 have hu64 := Try.underlying64
 have HB := Aside0.mk (Below.refl w.heap.size w)
 have H : (if (wrap64 (a1 - (a0_1.size : Int))) < 0 then (some (-1)) else (some (wrap64 (a1 - (a0_1.size : Int))))) = some r := h
 clear h
 have HC3 := Aside0.mk H
 clear H
 go_enter Try.func19, Try.ntmps19
 go_upto_if 11 with (first | ((with_reducible refine gate_dst (N := 2) rfl ?_); refine box_event ?hg (N := 2) ?hd (cs := #[.int .i64 a0_0, .string a0_1, .int .i64 a0_2, .int .i64 a0_3]) (t := 64) ?hr ?_; (case hd => rfl); (case hg => rfl); (case hr => first | (go_simp; done) | (go_simp; rfl)); intro gb206 hg w4 hbox hb; have BK206 := Aside0.mk (hbox); have GW206 := Aside0.mk ((by rw [hg]; exact (below_size (bl HB.out)) : w.heap.size ≤ gb206)); have GE206 := GW206; replace HB := Aside0.mk (below_step (bl HB.out) hb); clear hb hbox hg; obtain ⟨hcz5_0, hcz5_1, hcz5_2, hcz5_3⟩ := ck4 BK206.out; obtain ⟨hfz5_0, hfz5_1, hfz5_2, hfz5_3⟩ := fz4 BK206.out))
 have H := HC3.out
 clear HC3
 by_cases c6 : (wrap64 (a1 - (a0_1.size : Int))) < 0
 ·
  rw [if_pos c6] at H
  have c6b0 : decide ((wrap64 (a1 - (a0_1.size : Int))) < 0) = true := decide_eq_true c6
  clear c6
  (first | rw [c6b0] | (simp only [i64_w, i32_w]; rw [c6b0]) | skip)
  obtain rfl := Option.some.inj H
  go_wp2
  go_ret
  exact ⟨by first | rfl | (simp [errW_none, errW_some] <;> rfl) | (simp [*, errW_none, errW_some] <;> rfl), by repeat with_reducible first | exact bl HB.out | refine below_set ?_ GE206.out | refine bq ?_⟩
 ·
  rw [if_neg c6] at H
  have c6b0 : decide ((wrap64 (a1 - (a0_1.size : Int))) < 0) = false := decide_eq_false c6
  clear c6
  (first | rw [c6b0] | (simp only [i64_w, i32_w]; rw [c6b0]) | skip)
  obtain rfl := Option.some.inj H
  go_wp2
  go_ret
  exact ⟨by first | rfl | (simp [errW_none, errW_some] <;> rfl) | (simp [*, errW_none, errW_some] <;> rfl), by repeat with_reducible first | exact bl HB.out | refine below_set ?_ GE206.out | refine bq ?_⟩

/-! ### spec_l1In: function 95 -/
def spec_l1In.f (a0 : Int) (a1 : Int) (a2 : Int) : Option (Bool) := if a0 ≥ a1 then (some (decide (a0 ≤ a2))) else (some false)
set_option maxHeartbeats 8000000 in
set_option maxRecDepth 100000 in
theorem spec_l1In.calls (a0 : Int) (a1 : Int) (a2 : Int) (r : Bool) (w : World) (h : spec_l1In.f a0 a1 a2 = some r) :
  Calls Try.prog 95 #[.int .i64 a0, .int .i64 a1, .int .i64 a2] w fun e w' => e = .returned (.bool r) ∧ Drawn0 w w' := by
 have H : (if a0 ≥ a1 then (some (decide (a0 ≤ a2))) else (some false)) = some r := h
 clear h
 by_cases c4 : a0 ≥ a1
 ·
  rw [if_pos c4] at H
  have c4b0 : decide (a1 ≤ a0) = true := decide_eq_true c4
  clear c4
  obtain rfl := Option.some.inj H
  go_enter Try.func95, Try.ntmps95
  go_wp2
  go_ret
  exact ⟨by first | rfl | (simp; done) | (simp [*]; done), by repeat (first | exact Drawn0.refl _ | apply Drawn0.step)⟩
 ·
  rw [if_neg c4] at H
  have c4b0 : decide (a1 ≤ a0) = false := decide_eq_false c4
  clear c4
  obtain rfl := Option.some.inj H
  go_enter Try.func95, Try.ntmps95
  go_wp2
  go_ret
  exact ⟨by first | rfl | (simp; done) | (simp [*]; done), by repeat (first | exact Drawn0.refl _ | apply Drawn0.step)⟩

end Go.Proofs.Ytdimdlifjdbgnaa.PFnExactDoWork
